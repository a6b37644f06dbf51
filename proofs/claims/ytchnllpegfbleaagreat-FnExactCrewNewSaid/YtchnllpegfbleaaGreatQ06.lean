/-
  What a yard gets on its shelf, of the program.
  ReadyOf, OldestOf, of the program and of the reference.
  Slots, and the entries of a run: of the program and of the reference.
  When a yard is right: of the program and of the reference.
  Yards of which runs are turned: what is kept. Theory alone.
-/
import Derived.Test.YtchnllpegfbleaaGreatQ04
import Derived.Test.YtchnllpegfbleaaGreatQ05
namespace Go.Proofs.YtchnllpegfbleaaGreat
set_option linter.unusedSimpArgs false
set_option linter.unusedVariables false
set_option maxRecDepth 100000
open Go.RowKit


def cU (sh : Nat) (prio rid : Int) : List Int → List (List Entry) → Int → List (List Entry)
  | [], xss, _ => xss
  | t :: ts, xss, seq => cU sh prio rid ts (xss.set sh (lU (xss.getD sh []) ⟨prio, seq, rid, t⟩)) (seq + 1)
theorem kB (sh : Nat) (prio rid t : Int) : ∀ (ts : List Int) (xss : List (List Entry)) (seq : Int), cU sh prio rid (ts ++ [t]) xss seq = (cU sh prio rid ts xss seq).set sh (lU ((cU sh prio rid ts xss seq).getD sh []) ⟨prio, seq + ts.length, rid, t⟩)
  | [], xss, seq => by simp [cU]
  | u :: ts, xss, seq => by
    have h := kB sh prio rid t ts (xss.set sh (lU (xss.getD sh []) ⟨prio, seq, rid, u⟩)) (seq + 1)
    simp only [List.cons_append, cU]
    rw [h, show seq + 1 + (ts.length : Int) = seq + ((u :: ts).length : Int) by simp; omega]
theorem kX (sh : Nat) (prio rid : Int) : ∀ (ts : List Int) (xss : List (List Entry)) (seq : Int), (cU sh prio rid ts xss seq).length = xss.length
  | [], xss, seq => rfl
  | u :: ts, xss, seq => by simp only [cU]; rw [kX]; simp
theorem kY (sh : Nat) (prio rid : Int) : ∀ (ts : List Int) (xss : List (List Entry)) (seq : Int), sh < xss.length → ((cU sh prio rid ts xss seq).getD sh []).length = (xss.getD sh []).length + ts.length
  | [], xss, seq, h => rfl
  | u :: ts, xss, seq, h => by
    simp only [cU]
    rw [kY sh prio rid ts _ _ (by simpa using h)]
    rw [List.getD_eq_getElem?_getD, List.getElem?_set_self h]
    simp [putE_len]
    omega
theorem stockL_to {sh : Nat} {prio rid seq : Int} {ts : List Int} {xss : List (List Entry)} {k : Nat} {t : Int} (h : ts[k]? = some t) : cU sh prio rid (ts.take (k + 1)) xss seq = (cU sh prio rid (ts.take k) xss seq).set sh (lU ((cU sh prio rid (ts.take k) xss seq).getD sh []) ⟨prio, seq + k, rid, t⟩) := by
  obtain ⟨hl, rfl⟩ := List.getElem?_eq_some_iff.1 h
  rw [List.take_succ_eq_append_getElem hl, kB, List.length_take, Nat.min_eq_left (by omega)]
theorem getD_some {α : Type} {xss : List (List α)} {k : Nat} (h : k < xss.length) : xss[k]? = some (xss.getD k []) := by
  rw [List.getD_eq_getElem?_getD, List.getElem?_eq_getElem h]; rfl

set_option maxHeartbeats 2000000 in
theorem StockI {w W0 : World} {rs : List Res} {b : Nat} {now seq rid prio most wait tk stt : Int} {vs vr ve vt vq : Value} {xss : List (List Entry)} {fp fq : List Nat} {ts : List Int} (hst : St w W0 (Res.bx b [I now, I seq, vs, vr] 34 :: Res.own vs xss fp :: rs)) (hT : ∀ W', St w W' rs → Sl W' vq ts fq) (hss : 4 ≤ xss.length) (hln : (xss.getD (bG rid).toNat []).length + ts.length ≤ 1048576) (hsq : 0 ≤ seq ∧ seq ≤ 4000000000) (hpr : I64 prio) (hri : I64 rid) :
    Calls Tryz.prog 176 #[.pointer (some ⟨b, 0, none⟩), .agg #[I rid, I prio, I most, I wait, I tk, ve, I stt, vt], vq] W0 fun e w' => ∃ (fp' : List Nat), e = .returned (.tuple #[]) ∧ St w w' (Res.bx b [I now, I (seq + ts.length), vs, vr] 34 :: Res.own vs (cU (bG rid).toNat prio rid ts xss seq) fp' :: rs) := by
  have hsr := jD rid
  have hTl := (hT _ (St.dropn 2 hst)).len_le
  refine nV Tryz.func176 rfl Tryz.ntmps176 (by decide) (wp_seq (aA (sg (aQ (cs := [I rid, I prio, I most, I wait, I tk, ve, I stt, vt]) rfl hst ?_)))); intro b1 W2 hb3 st4
  refine aE (wp_seq (aA (sg (aC eU rfl (sg (aF aJ rfl rfl (st4.get 0 rfl) (i := 0) rfl rfl (sg (bI Tryz.func223 rfl rfl ((ShelfOfI W2 rid).mono ?_))))))))); rintro _ W6 ⟨rfl, hk7⟩; refine ⟨_, rfl, ?_⟩
  have st8 := St.call st4 hk7
  refine sg (aD (v := I (bG rid)) rfl (aE (wp_seq (aA (sg (aB (v := vq) rfl (sg (aV dF rfl (hT _ (St.dropn 3 st8)) (sg (aB (v := I 0) rfl (aE (wp_block (bH (fun (m : Nat) (f : Nat → Value) (W : World) => ∃ (k : Nat) (fo10 : List Nat), k ≤ ts.length ∧ m = ts.length - k ∧ f 0 = .pointer (some ⟨b, 0, none⟩) ∧ f 4 = .pointer (some ⟨b1, 0, none⟩) ∧ f 6 = I (bG rid) ∧ f 12 = vq ∧ f 13 = I (ts.length : Int) ∧ f 14 = I (k : Int) ∧ St w W (Res.bx b1 [I rid, I prio, I most, I wait, I tk, ve, I stt, vt] 123 :: Res.bx b [I now, I (seq + (k : Int)), vs, vr] 34 :: Res.own (α := List (List Entry)) vs (cU (bG rid).toNat prio rid (ts.take k) xss seq) fo10 :: rs)) (ts.length - 0) ?_ ?_)))))))))))))
  · exact ⟨0, fp, Nat.zero_le _, rfl, rfl, rfl, rfl, rfl, rfl, rfl, (by simpa [cU] using st8)⟩
  intro m11 f12 W13 hJ14
  obtain ⟨k, fo10, hcd16_0, rfl, hs16_0, hs16_4, hs16_6, hs16_12, hs16_13, hs16_14, st15⟩ := hJ14
  have hzl := kX (bG rid).toNat prio rid (ts.take k) xss seq
  have hzg := kY (bG rid).toNat prio rid (ts.take k) xss seq (by omega)
  rw [List.length_take] at hzg
  refine wp_seq (aA (sg (aY hs16_14 hs16_13 (aE (wp_seq (aR rfl (fun h17 => ?_) (fun h17 => ?_)))))))
  · have h17p := of_decide_eq_true h17
    refine wp_skip (wp_seq (wp_block (wp_seq (aA ?_))))
    have htk : ts[k]? = some (ts[k]) := List.getElem?_eq_getElem (by omega)
    have hi0e241 : k < ts.length := (List.getElem?_eq_some_iff.1 htk).1
    have hq_ := pQ (hT _ (St.dropn 3 st15)) (i := k) htk
    obtain ⟨b18, o18, cs18, f18, hp18, hr18, hc18, hm18⟩ := hq_
    have hk18 := hc18
    obtain ⟨rfl, rfl, hok18⟩ := hk18
    refine sg (aG dF hs16_12 hp18 hs16_14 rfl (sg (aK aJ rfl rfl hr18 (Below.refl _ _) (i := 0) rfl rfl (sg (aD (v := I (ts[k])) rfl (aE (wp_seq ?_)))))))
    have hice9a4 : (bG rid).toNat < (cU (bG rid).toNat prio rid (ts.take k) xss seq).length := (List.getElem?_eq_some_iff.1 (getD_some (xss := cU (bG rid).toNat prio rid (ts.take k) xss seq) (k := (bG rid).toNat) (by omega))).1
    have hq_ := pQ (bC (st15.get 2 rfl)) (i := (bG rid).toNat) (getD_some (xss := cU (bG rid).toNat prio rid (ts.take k) xss seq) (k := (bG rid).toNat) (by omega))
    obtain ⟨b19, o19, cs19, f19, hp19, hr19, hc19, hm19⟩ := hq_
    have hk19 := hc19
    obtain ⟨v20, rfl, h21⟩ := hk19
    refine iH 24 [23] [[], [23]] [[(0, 1)]] (w1 := W13) (rs := Res.bx b1 [I rid, I prio, I most, I wait, I tk, ve, I stt, vt] 123 :: Res.bx b [I now, I (seq + (k : Int)), vs, vr] 34 :: Res.own (α := List (List Entry)) vs (cU (bG rid).toNat prio rid (ts.take k) xss seq) fo10 :: rs) (fun q => match q with | 0 => Cp.of (ι := Unit) (fun _ => []) (fun _ => Res.bx b1 [I rid, I prio, I most, I wait, I tk, ve, I stt, vt] 123 :: Res.bx b [I now, I (seq + (k : Int)), vs, vr] 34 :: Res.own (α := List (List Entry)) vs (cU (bG rid).toNat prio rid (ts.take k) xss seq) fo10 :: rs) (fun _ _ h => h.dropn 0) | _ => Cp.of (ι := Value × List Nat) (fun ⟨v23, fp23⟩ => [v23]) (fun ⟨v23, fp23⟩ => Res.own (α := List Entry) v23 (lU ((cU (bG rid).toNat prio rid (ts.take k) xss seq).getD (bG rid).toNat []) (⟨prio, seq + (k : Int), rid, (ts[k])⟩ : Entry)) fp23 :: Res.bx b1 [I rid, I prio, I most, I wait, I tk, ve, I stt, vt] 123 :: Res.bx b [I now, I (seq + (k : Int)), vs, vr] 34 :: Res.own (α := List (List Entry)) vs (cU (bG rid).toNat prio rid (ts.take k) xss seq) fo10 :: rs) (fun _ _ h => h.dropn 1)) [Pq.is (.pointer (some ⟨b, 0, none⟩)), Pq.is (.pointer (some ⟨b, 0, none⟩)), Pq.is (.pointer (some ⟨b, 0 + 2, none⟩)), Pq.is (vs) (Sl.yl (bC (st15.get 2 rfl))), Pq.is (I (bG rid)), Pq.is (.pointer (some ⟨b, 0, none⟩)), Pq.is (.pointer (some ⟨b, 0, none⟩)), Pq.is (.pointer (some ⟨b, 0 + 2, none⟩)), Pq.is (vs) (Sl.yl (bC (st15.get 2 rfl))), Pq.is (I (bG rid)), Pq.is (.pointer (some ⟨b19, o19, none⟩)), Pq.is (v20) (Sl.yl h21), Pq.is (.pointer (some ⟨b1, 0 + 1, none⟩)), Pq.is (.pointer (some ⟨b1, 0 + 1 + 0, none⟩)), Pq.is (I prio), Pq.is (.pointer (some ⟨b, 0, none⟩)), Pq.is (.pointer (some ⟨b, 0, none⟩)), Pq.is (.pointer (some ⟨b, 0 + 1, none⟩)), Pq.is (I (seq + (k : Int))), Pq.is (.pointer (some ⟨b1, 0 + 0, none⟩)), Pq.is (I rid), Pq.is (I (ts[k])), Pq.is (.agg #[I prio, I (seq + (k : Int)), I rid, I (ts[k])]), Pq.none] mix (by rfl) (by rfl) (by rfl) ⟨(), rfl, st15, (Below.refl _ _)⟩ (by rfl) ⟨(fun f W hst hbl hd hf => aB (v := .pointer (some ⟨b, 0, none⟩)) ((hf 0 rfl).trans hs16_0) brq), (fun f W hst hbl hd hf => dB (hd 0 18 rfl rfl) brq), (fun f W hst hbl hd hf => aC dG (hd 1 19 rfl rfl) brq), (fun f W hst hbl hd hf => aF dE rfl (hd 2 20 rfl rfl) (hst.get 1 rfl) (i := 2) rfl rfl brq), (fun f W hst hbl hd hf => aB (v := I (bG rid)) ((hf 6 rfl).trans hs16_6) brq), (fun f W hst hbl hd hf => aB (v := .pointer (some ⟨b, 0, none⟩)) ((hf 0 rfl).trans hs16_0) brq), (fun f W hst hbl hd hf => dB (hd 5 23 rfl rfl) brq), (fun f W hst hbl hd hf => aC dG (hd 6 24 rfl rfl) brq), (fun f W hst hbl hd hf => aF dE rfl (hd 7 25 rfl rfl) (hst.get 1 rfl) (i := 2) rfl rfl brq), (fun f W hst hbl hd hf => aB (v := I (bG rid)) ((hf 6 rfl).trans hs16_6) brq), (fun f W hst hbl hd hf => aG cM (hd 8 26 rfl rfl) hp19 (hd 9 27 rfl rfl) (by omega) brq), (fun f W hst hbl hd hf => aK fD rfl (hd 10 28 rfl rfl) hr19 hbl (i := 0) rfl rfl brq), (fun f W hst hbl hd hf => aC cQ ((hf 4 rfl).trans hs16_4) brq), (fun f W hst hbl hd hf => aC gB (hd 12 30 rfl rfl) brq), (fun f W hst hbl hd hf => aF aJ rfl (hd 13 31 rfl rfl) (hst.get 0 rfl) (i := 1) rfl rfl brq), (fun f W hst hbl hd hf => aB (v := .pointer (some ⟨b, 0, none⟩)) ((hf 0 rfl).trans hs16_0) brq), (fun f W hst hbl hd hf => dB (hd 15 33 rfl rfl) brq), (fun f W hst hbl hd hf => aC eN (hd 16 34 rfl rfl) brq), (fun f W hst hbl hd hf => aF aJ rfl (hd 17 35 rfl rfl) (hst.get 1 rfl) (i := 1) rfl rfl brq), (fun f W hst hbl hd hf => aC eU ((hf 4 rfl).trans hs16_4) brq), (fun f W hst hbl hd hf => aF aJ rfl (hd 19 37 rfl rfl) (hst.get 0 rfl) (i := 0) rfl rfl brq), (fun f W hst hbl hd hf => aB (v := I (ts[k])) ((hf 8 rfl).trans (show _ = I (ts[k]) from rfl)) brq), (fun f W hst hbl hd hf => gJ (vs := [(0, I prio), (1, I (seq + (k : Int))), (2, I rid), (3, I (ts[k]))]) (cs := [I prio, I (seq + (k : Int)), I rid, I (ts[k])]) (eG (v := I prio) (hd 14 32 rfl rfl) (eG (v := I (seq + (k : Int))) (hd 18 36 rfl rfl) (eG (v := I rid) (hd 20 38 rfl rfl) (eG (v := I (ts[k])) (hd 21 39 rfl rfl) gK)))) (by kernel_rfl) brq), ⟨rfl, ?_, True.intro⟩, trivial⟩ ?_
    · intro f W hC hd hf
      have hC_ := hC
      obtain ⟨_, hu, hst, hbl⟩ := hC_
      have st22 : St w W (Res.bx b1 [I rid, I prio, I most, I wait, I tk, ve, I stt, vt] 123 :: Res.bx b [I now, I (seq + (k : Int)), vs, vr] 34 :: Res.own (α := List (List Entry)) vs (cU (bG rid).toNat prio rid (ts.take k) xss seq) fo10 :: rs) := hst
      refine (aZ Tryz.func192 rfl (hd 11 29 rfl rfl) (hd 22 40 rfl rfl) ((PutEntryI W (h21.below hbl) (show Shape.C _ [I prio, I (seq + (k : Int)), I rid, I (ts[k])] (⟨prio, seq + (k : Int), rid, (ts[k])⟩ : Entry) [] from ⟨rfl, rfl, (by first | exact True.intro | (simp only [Edge.ok, Plan.ok, Entry.ok, Task.ok, Run.ok, Yard.ok, Reply.ok, Deed.ok, Note.ok, Wait.ok, File.ok, Disk.ok, Engine.ok, WorldD.ok, ActD.ok, Hand.ok, Span.ok, Crew.ok, View.ok, I64] at *; omega))⟩) (by omega)).mono ?_)); rintro _ W25 ⟨v23, fp23, rfl, hk26⟩; refine ⟨_, rfl, ?_⟩
      have st27 := St.call st22 hk26
      exact ⟨⟨(v23, fp23), (ce rfl rfl), st27, (hbl.trans (Below.mono hk26.below hbl.size))⟩, Sl.yl (bC (st27.get 0 rfl))⟩
    intro f29 W30 hC hv31 hf32
    have hC_ := hC
    obtain ⟨⟨v23, fp23⟩, hu, hst, hbl34⟩ := hC_
    have st33 : St w W30 (Res.own (α := List Entry) v23 (lU ((cU (bG rid).toNat prio rid (ts.take k) xss seq).getD (bG rid).toNat []) (⟨prio, seq + (k : Int), rid, (ts[k])⟩ : Entry)) fp23 :: Res.bx b1 [I rid, I prio, I most, I wait, I tk, ve, I stt, vt] 123 :: Res.bx b [I now, I (seq + (k : Int)), vs, vr] 34 :: Res.own (α := List (List Entry)) vs (cU (bG rid).toNat prio rid (ts.take k) xss seq) fo10 :: rs) := hst
    have hu35 : f29 41 = v23 := congrArg (fun l => l.getD 0 undef) hu
    have st36 := st33.f3
    have hq_ := St.lendx (α := List Entry) (by decide) st36 (x := (cU (bG rid).toNat prio rid (ts.take k) xss seq).getD (bG rid).toNat []) (getD_some (by omega))
    obtain ⟨b37, e37, pre37, cs37, post37, fi37, fr37, hPA37, hC37, st38⟩ := hq_
    have st42 := st38.f1
    have hq_ := st42.uncs1
    obtain ⟨v37, he37, st43⟩ := hq_; subst he37
    skip
    refine sg (aG cM (hv31 3 21 (by decide) rfl) hPA37 (hv31 4 22 (by decide) rfl) (by omega) ?_)
    have st44 := st43.f1
    refine sg (bX (i := 0) (v := v23) (C' := [v23]) (by kernel_rfl) rfl hu35 (Sl.cells (bC (st44.get 3 rfl))) (Sl.one (bC (st44.get 3 rfl))) st44 rfl (Nat.le_of_ble_eq_true rfl) rfl ?_); intro W45 st46
    refine aE (aA (sg (aB (v := .pointer (some ⟨b, 0, none⟩)) ((hf32 0 rfl).trans hs16_0) (sg (dB rfl (sg (aC eN rfl (sg (aF aJ rfl rfl (st46.get 5 rfl) (i := 1) rfl rfl (sg (aP rfl rfl (by (simp only [I64] at *; omega)) (sg (dB rfl (sg (aC eN rfl ?_)))))))))))))))
    have st47 := st46.f5
    refine sg (bK (v := I ((seq + (k : Int)) + 1)) (C' := [I now, I ((seq + (k : Int)) + 1), vs, vr]) (by kernel_rfl) rfl rfl rfl rfl st47 (Nat.le_of_ble_eq_true rfl) rfl ?_); intro W48 st49
    refine aE (aA (sg (aP ((hf32 14 rfl).trans hs16_14) rfl (by (simp only [I64] at *; omega)) (sg (aB (v := I ((k : Int) + 1)) rfl (aE ?_))))))
    have st50 := st49.f4
    have st51 := st50.cs1
    have st52 := st51.f4
    have st53 := st52.f1
    have st54 := st53.f3
    have hq_ := St.give (α := List Entry) st54
    obtain ⟨fp55, st56⟩ := hq_
    have st57 := st56.f1
    have st58 := st57.f3
    have st59 := st58.d3
    exact ⟨_, ts.length - (k + 1), (by omega), rfl, k + 1, fp55, (by omega), rfl, ((hf32 0 rfl).trans hs16_0), ((hf32 4 rfl).trans hs16_4), ((hf32 6 rfl).trans hs16_6), ((hf32 12 rfl).trans hs16_12), ((hf32 13 rfl).trans hs16_13), rfl, (by rw [stockL_to htk, show seq + ((k + 1 : Nat) : Int) = seq + (k : Int) + 1 by omega]; exact st59)⟩
  · have h17p := of_decide_eq_false h17
    refine wp_exit ?_
    repeat (first | refine kK ?_ | refine mP ?_ | refine kQ rfl ?_)
    refine wK Tryz.results176 ?_
    have hke : k = ts.length := by omega
    rw [hke, List.take_length] at st15
    have st60 := st15.f2
    have st61 := st60.f2
    have st62 := st61.d2
    exact ⟨_, rfl, st62⟩

def iS (r r' : Run) : List Int := (aT r'.tasks 2).filter (fun t => !decide (t ∈ aT r.tasks 2))
theorem qD (r r' : Run) : (iS r r').length ≤ r'.tasks.length := Nat.le_trans (List.length_filter_le _ _) (jZ _ _ _)
theorem oI {α : Type} {xs : List α} {k : Nat} {x : α} (h : xs[k]? = some x) (y : α) : (xs.set k y)[k]? = some y := List.getElem?_set_self (List.getElem?_eq_some_iff.1 h).1
theorem tasksIn_mem {ts : List Task} {s i : Int} (h : i ∈ aT ts s) : 0 ≤ i ∧ i < ts.length := by
  unfold aT gZ at h
  rw [List.mem_filterMap] at h
  obtain ⟨a, ha, h⟩ := h
  rw [List.mem_range] at ha
  split at h
  · simp only [Option.some.injEq] at h; omega
  · cases h
theorem tin_i64 {ts : List Task} {s : Int} {j : Nat} (hl : ts.length ≤ 1000) (hj : j < (aT ts s).length) : I64 (aT ts s)[j] := by
  have := tasksIn_mem (List.getElem_mem hj)
  unfold I64; omega

set_option maxHeartbeats 2000000 in
theorem ChangeI {w W0 : World} {rs : List Res} {b k : Nat} {y : Yard} {r r' : Run} {vs vr : Value} {fp fq : List Nat} {F : FuncId} {capt : List Value} {fn : Func} (hst : St w W0 (Res.bx b [I y.now, I y.seq, vs, vr] 34 :: Res.own vs y.shelf fp :: Res.own vr y.runs fq :: rs)) (hr : y.runs[k]? = some r) (hrl : r.tasks.length ≤ 1000) (hrl' : r'.tasks.length ≤ 1000) (hrk : r'.ok) (hss : 4 ≤ y.shelf.length) (hln : (y.shelf.getD (bG r'.id).toNat []).length ≤ 1000000) (hsq0 : 0 ≤ y.seq ∧ y.seq ≤ 4000000000)
    (hfn : Tryz.prog.funcs[F]? = some fn) (hok : ((fn.name == "runtime.NumGoroutine") || fn.body.isNone) = false)
    (hF : ∀ (W1 : World) (rs1 : List Res) (b1 : Nat) (pre1 cs1 post1 : List Value) (fp1 : List Nat) (ty1 : TypeId), (∀ W', St w W' rs1 → St w W' rs) → St w W1 (Res.bx b1 (pre1 ++ cs1 ++ post1) ty1 :: Res.own (.agg cs1.toArray) r fp1 :: rs1) → Calls Tryz.prog F (Value.pointer (some ⟨b1, pre1.length, none⟩) :: capt).toArray W1 fun e w' => ∃ (cs' : List Value) (fp' : List Nat), e = .returned (.tuple #[]) ∧ St w w' (Res.bx b1 (pre1 ++ cs' ++ post1) ty1 :: Res.own (.agg cs'.toArray) r' fp' :: rs1)) :
    Calls Tryz.prog 110 #[.pointer (some ⟨b, 0, none⟩), I (k : Int), .func (.func F) #[] capt.toArray] W0 fun e w' => ∃ (fp' fq' : List Nat), e = .returned (.tuple #[]) ∧ St w w' (Res.bx b [I y.now, I (y.seq + (iS r r').length), vs, vr] 34 :: Res.own vs (cU (bG r'.id).toNat r'.plan.prio r'.id (iS r r') y.shelf y.seq) fp' :: Res.own vr (y.runs.set k r') fq' :: rs) := by
  have hkl := (List.getElem?_eq_some_iff.1 hr).1
  have hfb : (aT r'.tasks 2).length ≤ r'.tasks.length := jZ r'.tasks 2 r'.tasks.length
  have hsr := jD r'.id
  have hff := qD r r'
  refine nV Tryz.func110 rfl Tryz.ntmps110 (by decide) (wp_seq (aA (sg (aB (v := .pointer (some ⟨b, 0, none⟩)) rfl (sg (dB rfl (sg (aC bW rfl (sg (aF cV rfl rfl (hst.get 0 rfl) (i := 3) rfl rfl (sg (aB (v := I (k : Int)) rfl ?_))))))))))))
  have hi24e2d : k < y.runs.length := (List.getElem?_eq_some_iff.1 hr).1
  have hq_ := pQ (bC (hst.get 2 rfl)) (i := k) hr
  obtain ⟨b1, o1, cs1, f1, hp1, hr1, hc1, hm1⟩ := hq_
  refine sg (aG bV rfl hp1 rfl rfl (sg (bY cY rfl rfl hr1 (Below.refl _ _) (Shape.len hc1) (sg (aZ Tryz.func162 rfl rfl rfl ((mR W0 hc1 2 (by omega)).mono ?_)))))); rintro _ W4 ⟨v2, fp2, rfl, hk5⟩; refine ⟨_, rfl, ?_⟩
  have st6 := St.call hst hk5
  refine sg (aD (v := v2) rfl (aE (wp_seq (aA (sg (aB (v := .func (.func F) #[] capt.toArray) rfl (sg (aB (v := .pointer (some ⟨b, 0, none⟩)) rfl (sg (dB rfl (sg (aC bW rfl (sg (aF cV rfl rfl (st6.get 1 rfl) (i := 3) rfl rfl (sg (aB (v := I (k : Int)) rfl ?_))))))))))))))))
  have st8 := st6.f3
  have hq_ := St.lendx (α := Run) (by decide) st8 (x := r) hr
  obtain ⟨b9, e9, pre9, cs9, post9, fi9, fr9, hPA9, hC9, st10⟩ := hq_
  have st14 := st10.f1
  have st15 := st14.uncs rfl
  skip
  refine sg (aG bV rfl hPA9 rfl rfl ?_)
  have st17 := st15.f1
  refine sg (pI (first := []) hfn hok rfl (sM (v := .pointer (some ⟨b9, pre9.length, none⟩)) rfl tO) ((hF _ (Res.rest (α := Run) vr b9 pre9 post9 y.runs k fr9 :: Res.own (α := List Int) v2 (aT r.tasks 2) fp2 :: Res.bx b [I y.now, I y.seq, vs, vr] 34 :: Res.own (α := List (List Entry)) vs y.shelf fp :: rs) _ _ _ _ _ _ (fun W_ h_ => h_.dropn 4) st17).mono ?_)); rintro _ W16 ⟨cs18, fp18, rfl, st19⟩; refine ⟨_, rfl, ?_⟩
  refine aE (wp_seq (aA (sg (aD (v := .slice none 0 0) rfl (aE (wp_seq (wp_seq (aA ?_))))))))
  have st21 := st19.f1
  have st22 := st21.cs rfl
  have st23 := st22.f2
  have st24 := st23.f1
  have st25 := st24.f2
  have hq_ := St.give (α := Run) st25
  obtain ⟨fp26, st27⟩ := hq_
  skip
  refine sg (aB (v := .pointer (some ⟨b, 0, none⟩)) rfl (sg (dB rfl (sg (aC bW rfl (sg (aF cV rfl rfl (st27.get 2 rfl) (i := 3) rfl rfl (sg (aB (v := I (k : Int)) rfl ?_)))))))))
  have hi46701 : k < ((y.runs).set k r').length := (List.getElem?_eq_some_iff.1 (oI hr r')).1
  have hq_ := pQ (bC (st27.get 0 rfl)) (i := k) (oI hr r')
  obtain ⟨b28, o28, cs28, f28, hp28, hr28, hc28, hm28⟩ := hq_
  refine sg (aG bV rfl hp28 rfl rfl (sg (bY cY rfl rfl hr28 (Below.refl _ _) (Shape.len hc28) (sg (aZ Tryz.func162 rfl rfl rfl ((mR W16 hc28 2 (by omega)).mono ?_)))))); rintro _ W31 ⟨v29, fp29, rfl, hk32⟩; refine ⟨_, rfl, ?_⟩
  have st33 := St.call st27 hk32
  refine sg (aV dF rfl (bC (st33.get 0 rfl)) (sg (aB (v := I 0) rfl (aE (wp_block ?_)))))
  have st36 := st33.row_nil (α := Int) 3
  refine bH (fun (m : Nat) (f : Nat → Value) (W : World) => ∃ (j : Nat) (v35 : Value), j ≤ (aT r'.tasks 2).length ∧ m = (aT r'.tasks 2).length - j ∧ f 0 = .pointer (some ⟨b, 0, none⟩) ∧ f 1 = I (k : Int) ∧ f 6 = v2 ∧ f 7 = v35 ∧ f 33 = v29 ∧ f 34 = I ((aT r'.tasks 2).length : Int) ∧ f 35 = I (j : Int) ∧ St w W (Res.row (α := Int) 3 v35 (((aT r'.tasks 2).take j).filter (fun t => !decide (t ∈ aT r.tasks 2))) [] :: Res.own (α := List Int) v29 (aT r'.tasks 2) fp29 :: Res.own (α := List Run) vr ((y.runs).set k r') fp26 :: Res.own (α := List Int) v2 (aT r.tasks 2) fp2 :: Res.bx b [I y.now, I y.seq, vs, vr] 34 :: Res.own (α := List (List Entry)) vs y.shelf fp :: rs)) ((aT r'.tasks 2).length - 0) ?_ ?_
  · exact ⟨0, (.slice none 0 0), Nat.zero_le _, rfl, rfl, rfl, rfl, rfl, rfl, rfl, rfl, st36⟩
  intro m38 f39 W40 hJ41
  obtain ⟨j, v35, hcd43_0, rfl, hs43_0, hs43_1, hs43_6, hs43_7, hs43_33, hs43_34, hs43_35, st42⟩ := hJ41
  have hfl_ := List.length_filter_le (fun t => !decide (t ∈ aT r.tasks 2)) ((aT r'.tasks 2).take j)
  rw [List.length_take] at hfl_
  refine wp_seq (aA (sg (aY hs43_35 hs43_34 (aE (wp_seq (aR rfl (fun h44 => ?_) (fun h44 => ?_)))))))
  · have h44p := of_decide_eq_true h44
    refine wp_skip (wp_seq (wp_block (wp_seq (aA ?_))))
    have hi6fac1 : j < (aT r'.tasks 2).length := (List.getElem?_eq_some_iff.1 (List.getElem?_eq_getElem (by omega))).1
    have hq_ := pQ (bC (st42.get 1 rfl)) (i := j) (List.getElem?_eq_getElem (by omega))
    obtain ⟨b45, o45, cs45, f45, hp45, hr45, hc45, hm45⟩ := hq_
    have hk45 := hc45
    obtain ⟨rfl, rfl, hok45⟩ := hk45
    refine sg (aG dF hs43_33 hp45 hs43_35 rfl (sg (aK aJ rfl rfl hr45 (Below.refl _ _) (i := 0) rfl rfl (sg (aD (v := I ((aT r'.tasks 2)[j]'(by omega))) rfl (aE (wp_seq (aA (sg (aB (v := v2) hs43_6 (sg (aB (v := I ((aT r'.tasks 2)[j]'(by omega))) rfl (sg (aZ Tryz.func75 rfl rfl rfl ((wX W40 (bC (st42.get 3 rfl)) ((aT r'.tasks 2)[j]'(by omega))).mono ?_))))))))))))))); rintro _ W46 ⟨rfl, hk47⟩; refine ⟨_, rfl, ?_⟩
    have st48 := St.call st42 hk47
    refine sg (bO rfl (aE (aR rfl (fun h50 => ?_) (fun h50 => ?_))))
    · have h50p := of_decide_eq_false (aS h50)
      refine aA (sg (aB (v := v35) hs43_7 (sg (aB (v := I ((aT r'.tasks 2)[j]'(by omega))) rfl (sg (bR (cs := [I ((aT r'.tasks 2)[j]'(by omega))]) (e := 3) (eG (v := I ((aT r'.tasks 2)[j]'(by omega))) rfl gK) (cG gH _ _ rfl rfl (by decide)) st48 ?_)))))); intro b51 W52 hb53 st54
      have st56 := st54.f1
      refine sg (eC (ys := [((aT r'.tasks 2)[j]'(by omega))]) gH rfl rfl rfl st56 (Elems.int1 (tin_i64 hrl' (by omega))) (by unfold maxLen; omega) (by omega) ?_); intro v57 W58 st59
      refine sg (aD (v := v57) rfl (aE (aA (sg (aP hs43_35 rfl (by (simp only [I64] at *; omega)) (sg (aB (v := I ((j : Int) + 1)) rfl (aE ?_))))))))
      exact ⟨_, (aT r'.tasks 2).length - (j + 1), (by omega), rfl, j + 1, v57, (by omega), rfl, hs43_0, hs43_1, hs43_6, rfl, hs43_33, hs43_34, rfl, (by rw [filt_to (by omega) (h50)]; exact st59)⟩
    · have h50p := of_decide_eq_true (aX h50)
      refine wp_skip (aA (sg (aP hs43_35 rfl (by (simp only [I64] at *; omega)) (sg (aB (v := I ((j : Int) + 1)) rfl (aE ?_))))))
      exact ⟨_, (aT r'.tasks 2).length - (j + 1), (by omega), rfl, j + 1, v35, (by omega), rfl, hs43_0, hs43_1, hs43_6, hs43_7, hs43_33, hs43_34, rfl, (by rw [filt_to_f (by omega) (h50)]; exact st48)⟩
  · have h44p := of_decide_eq_false h44
    refine wp_exit ?_
    have hje : j = (aT r'.tasks 2).length := by omega
    have hfe : ((aT r'.tasks 2).take j).filter (fun t => !decide (t ∈ aT r.tasks 2)) = iS r r' := by rw [hje, List.take_length]; rfl
    rw [hfe] at st42
    have hsq : 0 ≤ y.seq ∧ y.seq ≤ 4000000000 := hsq0
    have hpr : I64 r'.plan.prio := hrk.2.1.1
    have hri : I64 r'.id := hrk.1
    refine aA (sg (aB (v := .pointer (some ⟨b, 0, none⟩)) hs43_0 (sg (aB (v := .pointer (some ⟨b, 0, none⟩)) hs43_0 (sg (dB rfl (sg (aC bW rfl (sg (aF cV rfl rfl (st42.get 4 rfl) (i := 3) rfl rfl (sg (aB (v := I (k : Int)) hs43_1 ?_))))))))))))
    have hi46701 : k < ((y.runs).set k r').length := (List.getElem?_eq_some_iff.1 (oI hr r')).1
    have hq_ := pQ (bC (st42.get 2 rfl)) (i := k) (oI hr r')
    obtain ⟨b60, o60, cs60, f60, hp60, hr60, hc60, hm60⟩ := hq_
    refine sg (aG bV rfl hp60 rfl rfl (sg (bY cY rfl rfl hr60 (Below.refl _ _) (Shape.len hc60) (sg (aB (v := v35) hs43_7 ?_)))))
    have hk62 := hc60
    obtain ⟨v62_0, v62_1, g62_0, g62_1, rfl, hok62, h62_0, h62_1, rfl⟩ := hk62
    have st63 := st42.f5
    have st64 := st63.f5
    refine sg (bS Tryz.func176 rfl rfl rfl rfl ((StockI st64 (fun W_ h_ => dL (h_.get 0 rfl))  hss (by omega) hsq hpr hri).mono ?_)); rintro _ W61 ⟨fs65, rfl, st66⟩; refine ⟨_, rfl, ?_⟩
    refine aE ?_
    repeat (first | refine kK ?_ | refine mP ?_ | refine kQ rfl ?_)
    refine wK Tryz.results110 ?_
    have st67 := st66.f4
    have st68 := st67.f2
    have st69 := st68.f2
    have st70 := st69.d3
    have st71 := st70.d3
    have st72 := st71.d3
    exact ⟨_, _, rfl, st72⟩
end Go.Proofs.YtchnllpegfbleaaGreat
namespace Go.Proofs.YtchnllpegfbleaaGreat
set_option linter.unusedSimpArgs false
set_option linter.unusedVariables false
set_option maxRecDepth 100000
open Go.RowKit


theorem oR (y : Yard) : y.shelf.flatten.length ≤ y.wt := by
  have h3 := oS y y.shelf.length
  rwa [List.take_length] at h3
end Go.Proofs.YtchnllpegfbleaaGreat
namespace Go.Proofs.YtchnllpegfbleaaGreat
set_option linter.unusedSimpArgs false
set_option linter.unusedVariables false
set_option maxRecDepth 100000
open Go.RowKit


def dS (r : Run) : Nat := if r.state = 1 then r.tasks.length else 0
def dZ (y : Yard) (es : List Entry) : Nat := (es.filter (fun e => !fresh y e)).length
def iB (y : Yard) : Int := ((((y.runs).map dS).sum : Nat) : Int) + ((dZ y y.shelf.flatten : Nat) : Int)
theorem slotsR_le (r : Run) : dS r ≤ r.wt := by unfold dS Run.wt; split <;> omega
theorem sF (y : Yard) (k : Nat) : ((y.runs.take k).map dS).sum ≤ y.wt := by
  have h1 := wG (f := dS) (g := fun r : Run => r.wt) slotsR_le (y.runs.take k)
  have h2 := iL (fun r : Run => r.wt) y.runs k
  unfold Yard.wt wtL
  omega
theorem uE {y : Yard} {es : List Entry} {k : Nat} (hk : k < es.length) (h : (!fresh y es[k]) = true) : dZ y (es.take (k + 1)) = dZ y (es.take k) + 1 := by
  unfold dZ; rw [List.take_succ_eq_append_getElem hk, List.filter_append, List.length_append]; simp [h]
theorem uF {y : Yard} {es : List Entry} {k : Nat} (hk : k < es.length) (h : (!fresh y es[k]) = false) : dZ y (es.take (k + 1)) = dZ y (es.take k) := by
  unfold dZ; rw [List.take_succ_eq_append_getElem hk, List.filter_append, List.length_append]; simp [h]
theorem pK (y : Yard) (es : List Entry) : dZ y es ≤ es.length := List.length_filter_le _ _
theorem slotsE_app (y : Yard) (a b : List Entry) : dZ y (a ++ b) = dZ y a + dZ y b := by unfold dZ; rw [List.filter_append, List.length_append]
theorem uC {r : Run} (h : r.state = 1) : dS r = r.tasks.length := by unfold dS; rw [if_pos h]
theorem uD {r : Run} (h : ¬ r.state = 1) : dS r = 0 := by unfold dS; rw [if_neg h]
def rQ (id : Int) (task : Int) (e : Entry) : Bool := decide (e.run = id) && decide (e.task = task)
def eZ (id task : Int) (es : List Entry) : Nat := (es.filter (rQ id task)).length
def nQ (r : Run) (k : Nat) (es : List Entry) : Prop := ∀ h : k < r.tasks.length, ∀ e ∈ es, rQ r.id (k : Int) e = true → r.tasks[k].state = 2 → e.prio = r.plan.prio
def qP (now : Int) (r : Run) (es : List Entry) (k : Nat) : Prop := nQ r k es ∧ ∀ h : k < r.tasks.length, (r.tasks[k].state = 2 → eZ r.id (k : Int) es = 1) ∧ (r.tasks[k].state = 3 → now + 1 ≤ r.tasks[k].until_ ∧ r.tasks[k].until_ ≤ now + r.plan.wait)
noncomputable def gG (now : Int) (r : Run) (es : List Entry) : Bool := pB (∀ k, k < r.tasks.length → qP now r es k)
theorem tQ {id task : Int} {es : List Entry} {k : Nat} (hk : k < es.length) (h : es[k].run = id ∧ es[k].task = task) : eZ id task (es.take (k + 1)) = eZ id task (es.take k) + 1 := by
  unfold eZ; rw [List.take_succ_eq_append_getElem hk, List.filter_append, List.length_append]; simp [rQ, h]
theorem tR {id task : Int} {es : List Entry} {k : Nat} (hk : k < es.length) (h : ¬ (es[k].run = id ∧ es[k].task = task)) : eZ id task (es.take (k + 1)) = eZ id task (es.take k) := by
  have : rQ id task es[k] = false := by
    unfold rQ
    by_cases h1 : es[k].run = id
    · have h2 : ¬ es[k].task = task := fun e => h ⟨h1, e⟩
      simp [h1, h2]
    · simp [h1]
  unfold eZ; rw [List.take_succ_eq_append_getElem hk, List.filter_append, List.length_append]; simp [this]
theorem kF (id task : Int) (es : List Entry) : eZ id task es ≤ es.length := List.length_filter_le _ _
theorem gP {r : Run} {k : Nat} {es : List Entry} {i : Nat} (hi : i < es.length) (h : nQ r k (es.take i)) (h1 : ∀ hk : k < r.tasks.length, es[i].run = r.id → es[i].task = (k : Int) → r.tasks[k].state = 2 → es[i].prio = r.plan.prio) : nQ r k (es.take (i + 1)) := by
  intro hk e he hent hst
  rw [List.take_succ_eq_append_getElem hi] at he
  rcases List.mem_append.1 he with he | he
  · exact h hk e he hent hst
  · rw [List.mem_singleton] at he; subst he
    simp only [rQ, Bool.and_eq_true, decide_eq_true_eq] at hent
    exact h1 hk hent.1 hent.2 hst
theorem gO {now : Int} {r : Run} {es : List Entry} {k i : Nat} (hi : i = es.length) (hPr : nQ r k (es.take i)) (h2 : ∀ h : k < r.tasks.length, (r.tasks[k].state = 2 → eZ r.id (k : Int) (es.take i) = 1) ∧ (r.tasks[k].state = 3 → now + 1 ≤ r.tasks[k].until_ ∧ r.tasks[k].until_ ≤ now + r.plan.wait)) (hT : ∀ j, j < k → qP now r es j) : ∀ j, j < k + 1 → qP now r es j := by
  subst hi
  rw [List.take_length] at hPr h2
  intro j hj
  rcases Nat.lt_succ_iff_lt_or_eq.1 hj with h1 | rfl
  · exact hT j h1
  · exact ⟨hPr, h2⟩
theorem qW {r : Run} {k : Nat} {es : List Entry} {i : Nat} (hi : i < es.length) (hk : k < r.tasks.length) (h1 : es[i].run = r.id) (h2 : es[i].task = (k : Int)) (h3 : r.tasks[k].state = 2) (h4 : ¬ es[i].prio = r.plan.prio) : ¬ nQ r k es := fun h => h4 (h hk _ (List.getElem_mem hi) (by simp [rQ, h1, h2]) h3)

set_option maxHeartbeats 2000000 in
theorem SlotsOfI (w : World) {y : Yard} {cs : List Value} {fp : List Nat} (hc : Shape.C w cs y fp) (hw : y.wt ≤ 1048576) :
    Calls Tryz.prog 100 #[.agg cs.toArray] w fun e w' => e = .returned (I (iB y)) ∧ St w w' [] := by
  have hyr : y.runs.length ≤ y.wt := by unfold Yard.wt wtL; omega
  have hys : y.shelf.length ≤ y.wt := by unfold Yard.wt wtL; omega
  have hfw := oR y
  refine dU Tryz.func100 rfl Tryz.ntmps100 (by decide) (wp_seq (aA (sg (aQ (cs := cs) rfl (St.start w) ?_)))); intro b1 W2 hb3 st4
  refine sg (aD (v := I 0) rfl (aE (wp_seq (aA (sg (aD (v := I 0) rfl (aE (wp_seq (wp_seq (aA (sg (aC bW rfl ?_))))))))))))
  have hk6 := hc
  obtain ⟨v6_0, v6_1, g6_0, g6_1, rfl, hok6, h6_0, h6_1, rfl⟩ := hk6
  refine sg (aF cV rfl rfl (st4.get 0 rfl) (i := 3) rfl rfl (sg (aV bV rfl h6_1 (sg (aB (v := I 0) rfl (aE (wp_block (bH (fun (m : Nat) (f : Nat → Value) (W : World) => ∃ (k : Nat), k ≤ y.runs.length ∧ m = y.runs.length - k ∧ f 1 = .pointer (some ⟨b1, 0, none⟩) ∧ f 3 = I ((((y.runs.take k).map dS).sum : Nat) : Int) ∧ f 9 = v6_1 ∧ f 10 = I (y.runs.length : Int) ∧ f 11 = I (k : Int) ∧ St w W ([Res.bx b1 [I y.now, I y.seq, v6_0, v6_1] 34])) (y.runs.length - 0) ?_ ?_))))))))
  · exact ⟨0, (by omega), rfl, rfl, rfl, rfl, rfl, rfl, st4⟩
  intro m7 f8 W9 hJ10
  obtain ⟨k, hk, rfl, hs12_1, hs12_3, hs12_9, hs12_10, hs12_11, st11⟩ := hJ10
  have hsl := sF y k
  refine wp_seq (aA (sg (aY hs12_11 hs12_10 (aE (wp_seq (aR rfl (fun h13 => ?_) (fun h13 => ?_)))))))
  · have h13p := of_decide_eq_true h13
    refine wp_skip (wp_seq (wp_block (wp_seq (aA ?_))))
    have hi24e2d : k < y.runs.length := (by omega)
    have hq_ := idx h6_1 (i := k) hi24e2d
    obtain ⟨b14, o14, cs14, f14, hp14, hr14, hc14, hm14⟩ := hq_
    refine sg (aG bV hs12_9 hp14 hs12_11 rfl (sg (bY cY rfl rfl hr14 st11.below (Shape.len hc14) (sg (bN jI st11 ?_))))); intro b15 W16 hb17 st18
    refine sg (bU (cs := cs14) cY hc14 rfl rfl st18 rfl ?_); intro W20 st21
    refine aE (wp_seq (aA (sg (aC eO rfl ?_))))
    have hk22 := hc14
    obtain ⟨v22_0, v22_1, g22_0, g22_1, rfl, hok22, h22_0, h22_1, rfl⟩ := hk22
    refine sg (aF aJ rfl rfl (st21.get 0 rfl) (i := 6) rfl rfl (sg (bA rfl rfl (aE (aR rfl (fun h23 => ?_) (fun h23 => ?_))))))
    · have h23p := of_decide_eq_true h23
      refine aA (sg (aB (v := I ((((y.runs.take k).map dS).sum : Nat) : Int)) hs12_3 (sg (aC bJ rfl (sg (aF bM rfl rfl (st21.get 0 rfl) (i := 7) rfl rfl (sg (aV bD rfl h22_1 ?_))))))))
      have hyk := jU (y := y) (k := k) (by omega)
      have hrw : (y.runs[k]'(by omega)).tasks.length ≤ (y.runs[k]'(by omega)).wt := by unfold Run.wt; omega
      refine sg (aP rfl rfl (by (simp only [I64] at *; omega)) (sg (aD (v := I (((((y.runs.take k).map dS).sum : Nat) : Int) + ((y.runs[k]'hi24e2d).tasks.length : Int))) rfl (aE (aA (sg (aP hs12_11 rfl (by (simp only [I64] at *; omega)) (sg (aB (v := I ((k : Int) + 1)) rfl (aE ?_))))))))))
      have st24 := st21.f1
      have st25 := st24.d1
      exact ⟨_, y.runs.length - (k + 1), (by omega), rfl, k + 1, (by omega), rfl, hs12_1, (Eq.trans (show _ = I (((((y.runs.take k).map dS).sum : Nat) : Int) + ((y.runs[k]'hi24e2d).tasks.length : Int)) from rfl) (congrArg I (by rw [oC dS y.runs k (by omega), uC h23p]; try omega))), hs12_9, hs12_10, rfl, st25⟩
    · have h23p := of_decide_eq_false h23
      refine wp_skip (aA (sg (aP hs12_11 rfl (by (simp only [I64] at *; omega)) (sg (aB (v := I ((k : Int) + 1)) rfl (aE ?_))))))
      have st26 := st21.f1
      have st27 := st26.d1
      exact ⟨_, y.runs.length - (k + 1), (by omega), rfl, k + 1, (by omega), rfl, hs12_1, (Eq.trans (show _ = I ((((y.runs.take k).map dS).sum : Nat) : Int) from hs12_3) (congrArg I (by rw [oC dS y.runs k (by omega), uD h23p]; try omega))), hs12_9, hs12_10, rfl, st27⟩
  · have h13p := of_decide_eq_false h13
    refine wp_exit (wp_seq (wp_seq (aA (sg (aU (cs := [I y.now, I y.seq, v6_0, v6_1]) cC rfl hs12_1 (st11.get 0 rfl) rfl rfl (sg (bI Tryz.func96 rfl rfl ((vB W9 (cA hc st11.below) (by omega)).mono ?_)))))))); rintro _ W30 ⟨v28, fp28, rfl, hk31⟩; refine ⟨_, rfl, ?_⟩
    have st32 := St.call st11 hk31
    refine sg (aV sl_EntryS rfl (bC (st32.get 0 rfl)) (sg (aB (v := I 0) rfl (aE (wp_block (bH (fun (m : Nat) (f : Nat → Value) (W : World) => ∃ (i : Nat), i ≤ y.shelf.flatten.length ∧ m = y.shelf.flatten.length - i ∧ f 1 = .pointer (some ⟨b1, 0, none⟩) ∧ f 3 = I (((((y.runs.take k).map dS).sum : Nat) : Int) + ((dZ y (y.shelf.flatten.take i) : Nat) : Int)) ∧ f 25 = v28 ∧ f 26 = I ((y.shelf).flatten.length : Int) ∧ f 27 = I (i : Int) ∧ St w W ([Res.own (α := List Entry) v28 (y.shelf).flatten fp28, Res.bx b1 [I y.now, I y.seq, v6_0, v6_1] 34])) (y.shelf.flatten.length - 0) ?_ ?_))))))
    · exact ⟨0, (by omega), rfl, hs12_1, (Eq.trans (show _ = I ((((y.runs.take k).map dS).sum : Nat) : Int) from hs12_3) (congrArg I (by simp [dZ]))), rfl, rfl, rfl, st32⟩
    intro m34 f35 W36 hJ37
    obtain ⟨i, hi, rfl, hs39_1, hs39_3, hs39_25, hs39_26, hs39_27, st38⟩ := hJ37
    have hse := pK y (y.shelf.flatten.take i)
    have htl := List.length_take_le i y.shelf.flatten
    refine wp_seq (aA (sg (aY hs39_27 hs39_26 (aE (wp_seq (aR rfl (fun h40 => ?_) (fun h40 => ?_)))))))
    · have h40p := of_decide_eq_true h40
      refine wp_skip (wp_seq (wp_block (wp_seq (aA ?_))))
      have hi11c32 : i < (y.shelf).flatten.length := (by omega)
      have hq_ := idx (bC (st38.get 0 rfl)) (i := i) hi11c32
      obtain ⟨b41, o41, cs41, f41, hp41, hr41, hc41, hm41⟩ := hq_
      refine sg (aG sl_EntryS hs39_25 hp41 hs39_27 rfl (sg (bY eA rfl rfl hr41 (Below.refl _ _) (Shape.len hc41) (sg (bN lV st38 ?_))))); intro b42 W43 hb44 st45
      refine sg (bU (cs := cs41) eA hc41 rfl rfl st45 rfl ?_); intro W47 st48
      refine aE (wp_seq (aA (sg (aU (cs := [I y.now, I y.seq, v6_0, v6_1]) cC rfl hs39_1 (st48.get 2 rfl) rfl rfl (sg (bE eA rfl rfl (st48.get 0 rfl) (Shape.len hc41) (sg (aZ Tryz.func165 rfl rfl rfl ((FreshI W47 (cA hc st48.below) hc41 (by omega)).mono ?_))))))))); rintro _ W49 ⟨rfl, hk50⟩; refine ⟨_, rfl, ?_⟩
      have st51 := St.call st48 hk50
      refine sg (bO rfl (aE (aR rfl (fun h53 => ?_) (fun h53 => ?_))))
      · refine aA (sg (aB (v := I (((((y.runs.take k).map dS).sum : Nat) : Int) + ((dZ y (y.shelf.flatten.take i) : Nat) : Int))) hs39_3 (sg (aP rfl rfl (by (simp only [I64] at *; omega)) (sg (aD (v := I ((((((y.runs.take k).map dS).sum : Nat) : Int) + ((dZ y (y.shelf.flatten.take i) : Nat) : Int)) + 1)) rfl (aE (aA (sg (aP hs39_27 rfl (by (simp only [I64] at *; omega)) (sg (aB (v := I ((i : Int) + 1)) rfl (aE ?_)))))))))))))
        have st54 := st51.f2
        have st55 := st54.f2
        have st56 := st55.d2
        exact ⟨_, y.shelf.flatten.length - (i + 1), (by omega), rfl, i + 1, (by omega), rfl, hs39_1, (Eq.trans (show _ = I ((((((y.runs.take k).map dS).sum : Nat) : Int) + ((dZ y (y.shelf.flatten.take i) : Nat) : Int)) + 1) from rfl) (congrArg I (by rw [uE (by omega) h53]; try omega))), hs39_25, hs39_26, rfl, st56⟩
      · refine wp_skip (aA (sg (aP hs39_27 rfl (by (simp only [I64] at *; omega)) (sg (aB (v := I ((i : Int) + 1)) rfl (aE ?_))))))
        have st57 := st51.f2
        have st58 := st57.f2
        have st59 := st58.d2
        exact ⟨_, y.shelf.flatten.length - (i + 1), (by omega), rfl, i + 1, (by omega), rfl, hs39_1, (Eq.trans (show _ = I (((((y.runs.take k).map dS).sum : Nat) : Int) + ((dZ y (y.shelf.flatten.take i) : Nat) : Int)) from hs39_3) (congrArg I (by rw [uF (by omega) h53]; try omega))), hs39_25, hs39_26, rfl, st59⟩
    · have h40p := of_decide_eq_false h40
      refine wp_exit (wp_seq (aA (sg (aB (v := I (((((y.runs.take k).map dS).sum : Nat) : Int) + ((dZ y (y.shelf.flatten.take i) : Nat) : Int))) hs39_3 (sg (aD (v := I (((((y.runs.take k).map dS).sum : Nat) : Int) + ((dZ y (y.shelf.flatten.take i) : Nat) : Int))) rfl (aE (wp_ret ?_)))))))); repeat first|refine aH ?_|refine aI ?_
      refine aW Tryz.results100 rfl ?_
      obtain rfl : k = y.runs.length := by omega
      obtain rfl : i = y.shelf.flatten.length := by omega
      exact ⟨(congrArg (fun z => Ending.returned (I z)) (by unfold iB; rw [List.take_length, List.take_length])), st38.bare⟩
set_option maxHeartbeats 2000000 in
theorem SlotsOfS (w : World) {y : Yard} {cs : List Value} {fp : List Nat} (hc : Shape.C w cs y fp) (hw : y.wt ≤ 1048576) :
    Calls Tryz.prog 93 #[.agg cs.toArray] w fun e w' => e = .returned (I (iB y)) ∧ St w w' [] := by
  have hyr : y.runs.length ≤ y.wt := by unfold Yard.wt wtL; omega
  have hys : y.shelf.length ≤ y.wt := by unfold Yard.wt wtL; omega
  have hfw := oR y
  refine dU Tryz.func93 rfl Tryz.ntmps93 (by decide) (wp_seq (aA (sg (aQ (cs := cs) rfl (St.start w) ?_)))); intro b1 W2 hb3 st4
  refine sg (aD (v := I 0) rfl (aE (wp_seq (aA (sg (aD (v := I 0) rfl (aE (wp_seq (wp_seq (aA (sg (aD (v := I 0) rfl (aE (wp_block ?_))))))))))))))
  refine bH (fun (m : Nat) (f : Nat → Value) (W : World) => ∃ (k : Nat), k ≤ y.runs.length ∧ m = y.runs.length - k ∧ f 1 = .pointer (some ⟨b1, 0, none⟩) ∧ f 3 = I ((((y.runs.take k).map dS).sum : Nat) : Int) ∧ f 4 = I (k : Int) ∧ St w W ([Res.bx b1 cs 34])) (y.runs.length - 0) ?_ ?_
  · exact ⟨0, (by omega), rfl, rfl, rfl, rfl, st4⟩
  intro m6 f7 W8 hJ9
  obtain ⟨k, hk, rfl, hs11_1, hs11_3, hs11_4, st10⟩ := hJ9
  have hsl := sF y k
  refine wp_seq (wp_seq (aA (sg (aB (v := I (k : Int)) hs11_4 (sg (aC bW hs11_1 ?_))))))
  have hk12 := hc
  obtain ⟨v12_0, v12_1, g12_0, g12_1, rfl, hok12, h12_0, h12_1, rfl⟩ := hk12
  refine sg (aF cV rfl rfl (st10.get 0 rfl) (i := 3) rfl rfl (sg (aV bV rfl h12_1 (sg (aY rfl rfl (aE (aR rfl (fun h13 => ?_) (fun h13 => ?_))))))))
  · have h13p := of_decide_eq_true h13
    refine wp_skip (wp_seq (wp_block (wp_seq (aA (sg (aC bW hs11_1 (sg (aF cV rfl rfl (st10.get 0 rfl) (i := 3) rfl rfl (sg (aB (v := I (k : Int)) hs11_4 ?_))))))))))
    have hi24e2d : k < y.runs.length := (by omega)
    have hq_ := idx h12_1 (i := k) hi24e2d
    obtain ⟨b14, o14, cs14, f14, hp14, hr14, hc14, hm14⟩ := hq_
    refine sg (aG bV rfl hp14 rfl rfl (sg (aC eO rfl ?_)))
    have hk15 := hc14
    obtain ⟨v15_0, v15_1, g15_0, g15_1, rfl, hok15, h15_0, h15_1, rfl⟩ := hk15
    refine sg (aK aJ rfl rfl hr14 st10.below (i := 6) rfl rfl (sg (bA rfl rfl (aE (aR rfl (fun h16 => ?_) (fun h16 => ?_))))))
    · have h16p := of_decide_eq_true h16
      refine aA (sg (aB (v := I ((((y.runs.take k).map dS).sum : Nat) : Int)) hs11_3 (sg (aC bW hs11_1 (sg (aF cV rfl rfl (st10.get 0 rfl) (i := 3) rfl rfl (sg (aB (v := I (k : Int)) hs11_4 (sg (aG bV rfl hp14 rfl rfl (sg (aC bJ rfl (sg (aK bM rfl rfl hr14 st10.below (i := 7) rfl rfl (sg (aV bD rfl h15_1 ?_))))))))))))))))
      have hyk := jU (y := y) (k := k) (by omega)
      have hrw : (y.runs[k]'(by omega)).tasks.length ≤ (y.runs[k]'(by omega)).wt := by unfold Run.wt; omega
      refine sg (aP rfl rfl (by (simp only [I64] at *; omega)) (sg (aD (v := I (((((y.runs.take k).map dS).sum : Nat) : Int) + ((y.runs[k]'hi24e2d).tasks.length : Int))) rfl (aE (aA (sg (aB (v := I (k : Int)) hs11_4 (sg (aP rfl rfl (by (simp only [I64] at *; omega)) (sg (aD (v := I ((k : Int) + 1)) rfl (aE ?_))))))))))))
      exact ⟨_, y.runs.length - (k + 1), (by omega), rfl, k + 1, (by omega), rfl, hs11_1, (Eq.trans (show _ = I (((((y.runs.take k).map dS).sum : Nat) : Int) + ((y.runs[k]'hi24e2d).tasks.length : Int)) from rfl) (congrArg I (by rw [oC dS y.runs k (by omega), uC h16p]; try omega))), rfl, st10⟩
    · have h16p := of_decide_eq_false h16
      refine wp_skip (aA (sg (aB (v := I (k : Int)) hs11_4 (sg (aP rfl rfl (by (simp only [I64] at *; omega)) (sg (aD (v := I ((k : Int) + 1)) rfl (aE ?_))))))))
      exact ⟨_, y.runs.length - (k + 1), (by omega), rfl, k + 1, (by omega), rfl, hs11_1, (Eq.trans (show _ = I ((((y.runs.take k).map dS).sum : Nat) : Int) from hs11_3) (congrArg I (by rw [oC dS y.runs k (by omega), uD h16p]; try omega))), rfl, st10⟩
  · have h13p := of_decide_eq_false h13
    refine wp_exit (wp_seq (wp_seq (aA (sg (aD (v := I 0) rfl (aE (wp_block (bH (fun (m : Nat) (f : Nat → Value) (W : World) => ∃ (i : Nat), i ≤ y.shelf.length ∧ m = y.shelf.length - i ∧ f 1 = .pointer (some ⟨b1, 0, none⟩) ∧ f 3 = I (((((y.runs.take k).map dS).sum : Nat) : Int) + ((dZ y (y.shelf.take i).flatten : Nat) : Int)) ∧ f 5 = I (i : Int) ∧ St w W ([Res.bx b1 [I y.now, I y.seq, v12_0, v12_1] 34])) (y.shelf.length - 0) ?_ ?_))))))))
    · exact ⟨0, (by omega), rfl, hs11_1, (Eq.trans (show _ = I ((((y.runs.take k).map dS).sum : Nat) : Int) from hs11_3) (congrArg I (by simp [dZ]))), rfl, st10⟩
    intro m17 f18 W19 hJ20
    obtain ⟨i, hi, rfl, hs22_1, hs22_3, hs22_5, st21⟩ := hJ20
    have hse := pK y (y.shelf.take i).flatten
    have hfi := oS y i
    refine wp_seq (wp_seq (aA (sg (aB (v := I (i : Int)) hs22_5 (sg (aC dG hs22_1 (sg (aF dE rfl rfl (st21.get 0 rfl) (i := 2) rfl rfl (sg (aV cM rfl h12_0 (sg (aY rfl rfl (aE (aR rfl (fun h23 => ?_) (fun h23 => ?_)))))))))))))))
    · have h23p := of_decide_eq_true h23
      refine wp_skip (wp_seq (wp_block (wp_seq (aA (sg (aD (v := I 0) rfl (aE (wp_block (bH (fun (m : Nat) (f : Nat → Value) (W : World) => ∃ (j : Nat), i < y.shelf.length ∧ j ≤ (y.shelf[i]'(by omega)).length ∧ m = (y.shelf[i]'(by omega)).length - j ∧ f 1 = .pointer (some ⟨b1, 0, none⟩) ∧ f 3 = I (((((y.runs.take k).map dS).sum : Nat) : Int) + ((dZ y (y.shelf.take i).flatten : Nat) : Int) + ((dZ y ((y.shelf[i]'(by omega)).take j) : Nat) : Int)) ∧ f 5 = I (i : Int) ∧ f 6 = I (j : Int) ∧ St w W ([Res.bx b1 [I y.now, I y.seq, v12_0, v12_1] 34])) ((y.shelf[i]'(by omega)).length - 0) ?_ ?_)))))))))
      · exact ⟨0, (by omega), (by omega), rfl, hs22_1, (Eq.trans (show _ = I (((((y.runs.take k).map dS).sum : Nat) : Int) + ((dZ y (y.shelf.take i).flatten : Nat) : Int)) from hs22_3) (congrArg I (by simp [dZ]))), hs22_5, rfl, st21⟩
      intro m24 f25 W26 hJ27
      obtain ⟨j, hi2, hj, rfl, hs29_1, hs29_3, hs29_5, hs29_6, st28⟩ := hJ27
      have hse2 := pK y ((y.shelf[i]'(by omega)).take j)
      have htl := List.length_take_le j (y.shelf[i]'(by omega))
      have hfi2 := oS y (i + 1)
      rw [nC (by omega), List.length_append] at hfi2
      refine wp_seq (wp_seq (aA ?_))
      have hij : i ≤ y.shelf.length := by omega
      refine sg (aB (v := I (j : Int)) hs29_6 (sg (aC dG hs29_1 (sg (aF dE rfl rfl (st28.get 0 rfl) (i := 2) rfl rfl (sg (aB (v := I (i : Int)) hs29_5 ?_)))))))
      have hi41acd : i < y.shelf.length := (by omega)
      have hq_ := idx h12_0 (i := i) hi41acd
      obtain ⟨b30, o30, cs30, f30, hp30, hr30, hc30, hm30⟩ := hq_
      have hk30 := hc30
      obtain ⟨v31, rfl, h32⟩ := hk30
      refine sg (aG cM rfl hp30 rfl rfl (sg (aK fD rfl rfl hr30 st28.below (i := 0) rfl rfl (sg (aV sl_EntryS rfl h32 (sg (aY rfl rfl (aE (aR rfl (fun h33 => ?_) (fun h33 => ?_))))))))))
      · have h33p := of_decide_eq_true h33
        refine wp_skip (wp_seq (wp_block (wp_seq ?_)))
        have hi8b643 : j < (y.shelf[i]'hi41acd).length := (by omega)
        have hq_ := idx h32 (i := j) hi8b643
        obtain ⟨b34, o34, cs34, f34, hp34, hr34, hc34, hm34⟩ := hq_
        have hk35 := hc34
        obtain ⟨he35, rfl, hok35⟩ := hk35
        have he35 : _ = [I ((y.shelf[i]'hi41acd)[j]'hi8b643).prio, I ((y.shelf[i]'hi41acd)[j]'hi8b643).seq, I ((y.shelf[i]'hi41acd)[j]'hi8b643).run, I ((y.shelf[i]'hi41acd)[j]'hi8b643).task] := he35
        subst he35
        refine dI [Pl.is (.agg #[I y.now, I y.seq, v12_0, v12_1]), Pl.is (.pointer (some ⟨b1, 0 + 2, none⟩)), Pl.is (v12_0) (Sl.yl h12_0), Pl.is (I (i : Int)), Pl.is (.pointer (some ⟨b30, o30, none⟩)), Pl.is (v31) (Sl.yl h32), Pl.is (I (j : Int)), Pl.is (.pointer (some ⟨b34, o34, none⟩)), Pl.is (.agg #[I ((y.shelf[i]'hi41acd)[j]'hi8b643).prio, I ((y.shelf[i]'hi41acd)[j]'hi8b643).seq, I ((y.shelf[i]'hi41acd)[j]'hi8b643).run, I ((y.shelf[i]'hi41acd)[j]'hi8b643).task]), Pl.bool (fresh y ((y.shelf[i]'hi41acd)[j]'hi8b643)), Pl.bool (!(fresh y ((y.shelf[i]'hi41acd)[j]'hi8b643)))] mix (by rfl) st28 ⟨(fun f W hst hbl hd hf => aU (cs := [I y.now, I y.seq, v12_0, v12_1]) cC rfl ((hf 1 rfl).trans hs29_1) (hst.get 0 rfl) rfl rfl brq), (fun f W hst hbl hd hf => aC dG ((hf 1 rfl).trans hs29_1) brq), (fun f W hst hbl hd hf => aF dE rfl (hd 1 48 rfl rfl) (hst.get 0 rfl) (i := 2) rfl rfl brq), (fun f W hst hbl hd hf => aB (v := I (i : Int)) ((hf 5 rfl).trans hs29_5) brq), (fun f W hst hbl hd hf => aG cM (hd 2 49 rfl rfl) hp30 (hd 3 50 rfl rfl) rfl brq), (fun f W hst hbl hd hf => aK fD rfl (hd 4 51 rfl rfl) hr30 hst.below (i := 0) rfl rfl brq), (fun f W hst hbl hd hf => aB (v := I (j : Int)) ((hf 6 rfl).trans hs29_6) brq), (fun f W hst hbl hd hf => aG sl_EntryS (hd 5 52 rfl rfl) hp34 (hd 6 53 rfl rfl) rfl brq), (fun f W hst hbl hd hf => cS (cs := [I ((y.shelf[i]'hi41acd)[j]'hi8b643).prio, I ((y.shelf[i]'hi41acd)[j]'hi8b643).seq, I ((y.shelf[i]'hi41acd)[j]'hi8b643).run, I ((y.shelf[i]'hi41acd)[j]'hi8b643).task]) eA rfl (hd 7 54 rfl rfl) hr34 hst.below (i := 0) rfl rfl rfl brq), (fun f W hst hbl hd hf => aZ Tryz.func158 rfl (hd 0 47 rfl rfl) (hd 8 55 rfl rfl) ((FreshS W (cA hc hst.below) hc34 (by omega)).mono (by rintro e W2 ⟨rfl, hk⟩; exact ⟨_, rfl, hk.below, rfl⟩))), (fun f W hst hbl hd hf => bO (hd 9 56 rfl rfl) brq), trivial⟩ ?_
        intro f36 W37 st38 hb39 hv40 hf41
        refine aR (hv40 10 57 (by decide) rfl) (fun h42 => ?_) (fun h42 => ?_)
        · refine aA (sg (aB (v := I (((((y.runs.take k).map dS).sum : Nat) : Int) + ((dZ y (y.shelf.take i).flatten : Nat) : Int) + ((dZ y ((y.shelf[i]'(by omega)).take j) : Nat) : Int))) ((hf41 3 rfl).trans hs29_3) (sg (aP rfl rfl (by (simp only [I64] at *; omega)) (sg (aD (v := I ((((((y.runs.take k).map dS).sum : Nat) : Int) + ((dZ y (y.shelf.take i).flatten : Nat) : Int) + ((dZ y ((y.shelf[i]'(by omega)).take j) : Nat) : Int)) + 1)) rfl (aE (aA (sg (aB (v := I (j : Int)) ((hf41 6 rfl).trans hs29_6) (sg (aP rfl rfl (by (simp only [I64] at *; omega)) (sg (aD (v := I ((j : Int) + 1)) rfl (aE ?_)))))))))))))))
          exact ⟨_, (y.shelf[i]'(by omega)).length - (j + 1), (by omega), rfl, j + 1, (by omega), (by omega), rfl, ((hf41 1 rfl).trans hs29_1), (Eq.trans (show _ = I ((((((y.runs.take k).map dS).sum : Nat) : Int) + ((dZ y (y.shelf.take i).flatten : Nat) : Int) + ((dZ y ((y.shelf[i]'(by omega)).take j) : Nat) : Int)) + 1) from rfl) (congrArg I (by rw [uE (by omega) h42]; try omega))), ((hf41 5 rfl).trans hs29_5), rfl, st38⟩
        · refine wp_skip (aA (sg (aB (v := I (j : Int)) ((hf41 6 rfl).trans hs29_6) (sg (aP rfl rfl (by (simp only [I64] at *; omega)) (sg (aD (v := I ((j : Int) + 1)) rfl (aE ?_))))))))
          exact ⟨_, (y.shelf[i]'(by omega)).length - (j + 1), (by omega), rfl, j + 1, (by omega), (by omega), rfl, ((hf41 1 rfl).trans hs29_1), (Eq.trans (show _ = I (((((y.runs.take k).map dS).sum : Nat) : Int) + ((dZ y (y.shelf.take i).flatten : Nat) : Int) + ((dZ y ((y.shelf[i]'(by omega)).take j) : Nat) : Int)) from ((hf41 3 rfl).trans hs29_3)) (congrArg I (by rw [uF (by omega) h42]; try omega))), ((hf41 5 rfl).trans hs29_5), rfl, st38⟩
      · have h33p := of_decide_eq_false h33
        refine wp_exit (aA (sg (aB (v := I (i : Int)) hs29_5 (sg (aP rfl rfl (by (simp only [I64] at *; omega)) (sg (aD (v := I ((i : Int) + 1)) rfl (aE ?_))))))))
        exact ⟨_, y.shelf.length - (i + 1), (by omega), rfl, i + 1, (by omega), rfl, hs29_1, (Eq.trans (show _ = I (((((y.runs.take k).map dS).sum : Nat) : Int) + ((dZ y (y.shelf.take i).flatten : Nat) : Int) + ((dZ y ((y.shelf[i]'(by omega)).take j) : Nat) : Int)) from hs29_3) (congrArg I (by rw [nC (by omega), slotsE_app, show j = (y.shelf[i]'(by omega)).length by omega, List.take_length]; omega))), rfl, st28⟩
    · have h23p := of_decide_eq_false h23
      refine wp_exit (wp_seq (aA (sg (aB (v := I (((((y.runs.take k).map dS).sum : Nat) : Int) + ((dZ y (y.shelf.take i).flatten : Nat) : Int))) hs22_3 (sg (aD (v := I (((((y.runs.take k).map dS).sum : Nat) : Int) + ((dZ y (y.shelf.take i).flatten : Nat) : Int))) rfl (aE (wp_ret ?_)))))))); repeat first|refine aH ?_|refine aI ?_
      refine aW Tryz.results93 rfl ?_
      obtain rfl : k = y.runs.length := by omega
      obtain rfl : i = y.shelf.length := by omega
      exact ⟨(congrArg (fun z => Ending.returned (I z)) (by unfold iB; rw [List.take_length, List.take_length])), st21.bare⟩
set_option maxHeartbeats 2000000 in
theorem RunsOkI (w : World) {y : Yard} {cs : List Value} {fp : List Nat} (hc : Shape.C w cs y fp) {r : Run} {ds : List Value} {gp : List Nat} (hd : Shape.C w ds r gp) {v : Value} {es : List Entry} {fq : List Nat} (h : Sl w v es fq) (hn : 0 ≤ y.now ∧ y.now ≤ 999999980) (hwt : 0 ≤ r.plan.wait ∧ r.plan.wait ≤ 20) (hl : es.length ≤ 1048576) :
    Calls Tryz.prog 99 #[.agg cs.toArray, .agg ds.toArray, v] w fun e w' => e = .returned (.bool (gG y.now r es)) ∧ St w w' [] := by
  have hcap : r.tasks.length ≤ 9223372036854775807 := by have h0 := hd; obtain ⟨v1, v2, f1, f2, h0, hok, h1, h2, hfp⟩ := h0; exact h2.len_le
  have hcap2 := h.len_le
  refine nV Tryz.func99 rfl Tryz.ntmps99 (by decide) (wp_seq (aA (sg (aQ (cs := cs) rfl (St.start w) ?_)))); intro b1 W2 hb3 st4
  refine sg (aQ (cs := ds) rfl st4 ?_); intro b6 W7 hb8 st9
  refine sg (aD (v := .bool false) rfl (aE (wp_seq (wp_seq (aA (sg (aC bJ rfl ?_)))))))
  have hk11 := hd
  obtain ⟨v11_0, v11_1, g11_0, g11_1, rfl, hok11, h11_0, h11_1, rfl⟩ := hk11
  refine sg (aF bM rfl rfl (st9.get 0 rfl) (i := 7) rfl rfl (sg (aV bD rfl h11_1 (sg (aB (v := I 0) rfl (aE (wp_block (bH (fun (m : Nat) (f : Nat → Value) (W : World) => ∃ (k : Nat), k ≤ r.tasks.length ∧ (∀ j, j < k → qP y.now r es j) ∧ m = r.tasks.length - k ∧ f 2 = v ∧ f 3 = .pointer (some ⟨b1, 0, none⟩) ∧ f 4 = .pointer (some ⟨b6, 0, none⟩) ∧ f 13 = v11_1 ∧ f 14 = I (r.tasks.length : Int) ∧ f 15 = I (k : Int) ∧ St w W ([Res.bx b6 [I r.id, I r.plan.prio, I r.plan.most, I r.plan.wait, I r.plan.tasks, v11_0, I r.state, v11_1] 123, Res.bx b1 cs 34])) (r.tasks.length - 0) ?_ ?_))))))))
  · exact ⟨0, (by omega), (fun j hj => absurd hj (Nat.not_lt_zero j)), rfl, rfl, rfl, rfl, rfl, rfl, rfl, st9⟩
  intro m12 f13 W14 hJ15
  obtain ⟨k, hk, hT, rfl, hs17_2, hs17_3, hs17_4, hs17_13, hs17_14, hs17_15, st16⟩ := hJ15
  refine wp_seq (aA (sg (aY hs17_15 hs17_14 (aE (wp_seq (aR rfl (fun h18 => ?_) (fun h18 => ?_)))))))
  · have h18p := of_decide_eq_true h18
    refine wp_skip (wp_seq (wp_block (wp_seq (aA (sg (aB (v := I (k : Int)) hs17_15 ?_))))))
    have hif4d94 : k < r.tasks.length := (by omega)
    have hq_ := idx h11_1 (i := k) hif4d94
    obtain ⟨b19, o19, cs19, f19, hp19, hr19, hc19, hm19⟩ := hq_
    refine sg (aG bD hs17_13 hp19 hs17_15 rfl (sg (bY fJ rfl rfl hr19 st16.below (Shape.len hc19) (sg (bN jO st16 ?_))))); intro b20 W21 hb22 st23
    refine sg (aD (v := I (k : Int)) rfl (sg (bU (cs := cs19) fJ hc19 rfl rfl st23 rfl ?_))); intro W25 st26
    refine aE (wp_seq (aA (sg (aD (v := I 0) rfl (aE (wp_seq (wp_seq (aA (sg (aB (v := v) hs17_2 (sg (aV sl_EntryS rfl h (sg (aB (v := I 0) rfl (aE ?_)))))))))))))))
    refine wp_block (bH (fun (m : Nat) (f : Nat → Value) (W : World) => ∃ (i : Nat), k < r.tasks.length ∧ i ≤ es.length ∧ nQ r k (es.take i) ∧ eZ r.id (k : Int) (es.take i) ≤ i ∧ m = es.length - i ∧ f 2 = v ∧ f 3 = .pointer (some ⟨b1, 0, none⟩) ∧ f 4 = .pointer (some ⟨b6, 0, none⟩) ∧ f 7 = I (k : Int) ∧ f 8 = .pointer (some ⟨b20, 0, none⟩) ∧ f 9 = I ((eZ r.id (k : Int) (es.take i) : Nat) : Int) ∧ f 13 = v11_1 ∧ f 14 = I (r.tasks.length : Int) ∧ f 15 = I (k : Int) ∧ f 20 = v ∧ f 21 = I (es.length : Int) ∧ f 22 = I (i : Int) ∧ St w W ([Res.bx b20 cs19 140, Res.bx b6 [I r.id, I r.plan.prio, I r.plan.most, I r.plan.wait, I r.plan.tasks, v11_0, I r.state, v11_1] 123, Res.bx b1 cs 34])) (es.length - 0) ?_ ?_)
    · exact ⟨0, (by omega), (by omega), (fun _ e he => by simp at he), (by simp [eZ]), rfl, hs17_2, hs17_3, hs17_4, rfl, rfl, (Eq.trans (show _ = I 0 from rfl) (congrArg I (by simp [eZ]))), hs17_13, hs17_14, hs17_15, rfl, rfl, rfl, st26⟩
    intro m27 f28 W29 hJ30
    obtain ⟨i, hk2, hi, hPr, hen, rfl, hs32_2, hs32_3, hs32_4, hs32_7, hs32_8, hs32_9, hs32_13, hs32_14, hs32_15, hs32_20, hs32_21, hs32_22, st31⟩ := hJ30
    refine wp_seq (aA (sg (aY hs32_22 hs32_21 (aE (wp_seq (aR rfl (fun h33 => ?_) (fun h33 => ?_)))))))
    · have h33p := of_decide_eq_true h33
      refine wp_skip (wp_seq (wp_block (wp_seq (aA ?_))))
      have hif21f0 : i < es.length := (by omega)
      have hq_ := idx h (i := i) hif21f0
      obtain ⟨b34, o34, cs34, f34, hp34, hr34, hc34, hm34⟩ := hq_
      refine sg (aG sl_EntryS hs32_20 hp34 hs32_22 rfl (sg (bY eA rfl rfl hr34 st31.below (Shape.len hc34) (sg (bN lV st31 ?_))))); intro b35 W36 hb37 st38
      refine sg (bU (cs := cs34) eA hc34 rfl rfl st38 rfl ?_); intro W40 st41
      refine aE (wp_seq (aA (sg (aC fQ rfl ?_))))
      have hk42 := hc34
      obtain ⟨he42, rfl, hok42⟩ := hk42
      have he42 : _ = [I (es[i]'hif21f0).prio, I (es[i]'hif21f0).seq, I (es[i]'hif21f0).run, I (es[i]'hif21f0).task] := he42
      subst he42
      refine sg (aF aJ rfl rfl (st41.get 0 rfl) (i := 2) rfl rfl (sg (aC eU hs32_4 (sg (aF aJ rfl rfl (st41.get 2 rfl) (i := 0) rfl rfl (sg (bA rfl rfl (sg (aB (v := .bool (decide ((es[i]'hif21f0).run = r.id))) rfl ?_)))))))))
      rcases bd (decide ((es[i]'hif21f0).run = r.id)) with h43 | h43
      · have h43p := of_decide_eq_false h43
        iterate 4 refine sgf 31 rfl (by decide) (bF rfl h43) ?_
        refine sg (aO (v := .bool false) ((rfl : _ = (.bool (decide ((es[i]'hif21f0).run = r.id)) : Value)).trans (congrArg Value.bool h43)) rfl (aE (gX rfl rfl (wp_skip (aA (sg (aP hs32_22 rfl (by (simp only [I64] at *; omega)) (sg (aB (v := I ((i : Int) + 1)) rfl (aE ?_))))))))))
        have st44 := st41.f3
        have st45 := st44.f3
        have st46 := st45.f3
        have st47 := st46.d3
        exact ⟨_, es.length - (i + 1), (by omega), rfl, i + 1, (by omega), (by omega), (gP (by omega) hPr (fun _ h1 h2 h3 => by omega)), (by exact Nat.le_trans (kF _ _ _) (List.length_take_le _ _)), rfl, hs32_2, hs32_3, hs32_4, hs32_7, hs32_8, (Eq.trans (show _ = I ((eZ r.id (k : Int) (es.take i) : Nat) : Int) from hs32_9) (congrArg I (by rw [tR (by omega) (fun hz => by have hz1 := hz.1; have hz2 := hz.2; omega)]))), hs32_13, hs32_14, hs32_15, hs32_20, hs32_21, rfl, st47⟩
      · have h43p := of_decide_eq_true h43
        refine sgo 31 rfl (by decide) (aL rfl h43) (aC fH rfl (sgo 31 rfl (by decide) (aL rfl h43) (aF aJ rfl rfl (st41.get 0 rfl) (i := 3) rfl rfl (sgo 31 rfl (by decide) (aL rfl h43) (aB (v := I (k : Int)) hs32_7 (sgo 31 rfl (by decide) (aL rfl h43) (bA rfl rfl (sg (aN (v := .bool (decide ((es[i]'hif21f0).task = (k : Int)))) ((rfl : _ = (.bool (decide ((es[i]'hif21f0).run = r.id)) : Value)).trans (congrArg Value.bool h43)) rfl (aE (aR rfl (fun h48 => ?_) (fun h48 => ?_))))))))))))
        · have h48p := of_decide_eq_true h48
          refine wp_seq (wp_seq (aA (sg (aC bP hs32_8 ?_))))
          have hk49 := hc19
          obtain ⟨he49, rfl, hok49⟩ := hk49
          have he49 : _ = [I (r.tasks[k]'hif4d94).state, I (r.tasks[k]'hif4d94).need, I (r.tasks[k]'hif4d94).try_, I (r.tasks[k]'hif4d94).until_] := he49
          subst he49
          refine sg (aF aJ rfl rfl (st41.get 1 rfl) (i := 0) rfl rfl (sg (bA rfl rfl (sg (aB (v := .bool (decide ((r.tasks[k]'hif4d94).state = 2))) rfl ?_)))))
          rcases bd (decide ((r.tasks[k]'hif4d94).state = 2)) with h50 | h50
          · have h50p := of_decide_eq_false h50
            iterate 6 refine sgf 40 rfl (by decide) (bF rfl h50) ?_
            refine sg (aO (v := .bool false) ((rfl : _ = (.bool (decide ((r.tasks[k]'hif4d94).state = 2)) : Value)).trans (congrArg Value.bool h50)) rfl (aE (gX rfl rfl (wp_skip (aA (sg (aB (v := I ((eZ r.id (k : Int) (es.take i) : Nat) : Int)) hs32_9 (sg (aP rfl rfl (by (simp only [I64] at *; omega)) (sg (aD (v := I (((eZ r.id (k : Int) (es.take i) : Nat) : Int) + 1)) rfl (aE (aA (sg (aP hs32_22 rfl (by (simp only [I64] at *; omega)) (sg (aB (v := I ((i : Int) + 1)) rfl ?_)))))))))))))))))
            refine aE ?_
            have st51 := st41.f3
            have st52 := st51.f3
            have st53 := st52.f3
            have st54 := st53.d3
            exact ⟨_, es.length - (i + 1), (by omega), rfl, i + 1, (by omega), (by omega), (gP (by omega) hPr (fun _ h1 h2 h3 => by omega)), (by exact Nat.le_trans (kF _ _ _) (List.length_take_le _ _)), rfl, hs32_2, hs32_3, hs32_4, hs32_7, hs32_8, (Eq.trans (show _ = I (((eZ r.id (k : Int) (es.take i) : Nat) : Int) + 1) from rfl) (congrArg I (by rw [tQ (by omega) ⟨by assumption, by assumption⟩]; omega))), hs32_13, hs32_14, hs32_15, hs32_20, hs32_21, rfl, st54⟩
          · have h50p := of_decide_eq_true h50
            refine sgo 40 rfl (by decide) (aL rfl h50) (aC eS rfl (sgo 40 rfl (by decide) (aL rfl h50) (aF aJ rfl rfl (st41.get 0 rfl) (i := 0) rfl rfl (sgo 40 rfl (by decide) (aL rfl h50) (aC cQ hs32_4 (sgo 40 rfl (by decide) (aL rfl h50) (aC gB rfl (sgo 40 rfl (by decide) (aL rfl h50) (aF aJ rfl rfl (st41.get 2 rfl) (i := 1) rfl rfl (sgo 40 rfl (by decide) (aL rfl h50) (bL rfl rfl (sg (aN (v := .bool (!decide ((es[i]'hif21f0).prio = r.plan.prio))) ((rfl : _ = (.bool (decide ((r.tasks[k]'hif4d94).state = 2)) : Value)).trans (congrArg Value.bool h50)) rfl (aE (aR rfl (fun h55 => ?_) (fun h55 => ?_))))))))))))))))
            · have h55p := of_decide_eq_false (aS h55)
              refine wp_seq (aA (sg (aD (v := .bool false) rfl (aE (wp_ret ?_))))); repeat first|refine aH ?_|refine aI ?_
              refine aW Tryz.results99 rfl ?_
              exact ⟨(congrArg (fun z => Ending.returned (.bool z)) (by unfold gG; rw [dO (fun hz => qW (i := i) (k := k) (by omega) (by omega) (by assumption) (by assumption) (by assumption) (by assumption) (hz k (by omega)).1)])), st41.bare⟩
            · have h55p := of_decide_eq_true (aX h55)
              refine wp_skip (aA (sg (aB (v := I ((eZ r.id (k : Int) (es.take i) : Nat) : Int)) hs32_9 (sg (aP rfl rfl (by (simp only [I64] at *; omega)) (sg (aD (v := I (((eZ r.id (k : Int) (es.take i) : Nat) : Int) + 1)) rfl (aE (aA (sg (aP hs32_22 rfl (by (simp only [I64] at *; omega)) (sg (aB (v := I ((i : Int) + 1)) rfl (aE ?_))))))))))))))
              have st56 := st41.f3
              have st57 := st56.f3
              have st58 := st57.f3
              have st59 := st58.d3
              exact ⟨_, es.length - (i + 1), (by omega), rfl, i + 1, (by omega), (by omega), (gP (by omega) hPr (fun _ h1 h2 h3 => by omega)), (by exact Nat.le_trans (kF _ _ _) (List.length_take_le _ _)), rfl, hs32_2, hs32_3, hs32_4, hs32_7, hs32_8, (Eq.trans (show _ = I (((eZ r.id (k : Int) (es.take i) : Nat) : Int) + 1) from rfl) (congrArg I (by rw [tQ (by omega) ⟨by assumption, by assumption⟩]; omega))), hs32_13, hs32_14, hs32_15, hs32_20, hs32_21, rfl, st59⟩
        · have h48p := of_decide_eq_false h48
          refine wp_skip (aA (sg (aP hs32_22 rfl (by (simp only [I64] at *; omega)) (sg (aB (v := I ((i : Int) + 1)) rfl (aE ?_))))))
          have st60 := st41.f3
          have st61 := st60.f3
          have st62 := st61.f3
          have st63 := st62.d3
          exact ⟨_, es.length - (i + 1), (by omega), rfl, i + 1, (by omega), (by omega), (gP (by omega) hPr (fun _ h1 h2 h3 => by omega)), (by exact Nat.le_trans (kF _ _ _) (List.length_take_le _ _)), rfl, hs32_2, hs32_3, hs32_4, hs32_7, hs32_8, (Eq.trans (show _ = I ((eZ r.id (k : Int) (es.take i) : Nat) : Int) from hs32_9) (congrArg I (by rw [tR (by omega) (fun hz => by have hz1 := hz.1; have hz2 := hz.2; omega)]))), hs32_13, hs32_14, hs32_15, hs32_20, hs32_21, rfl, st63⟩
    · have h33p := of_decide_eq_false h33
      refine wp_exit (wp_seq (aA (sg (aC bP hs32_8 ?_))))
      have hk64 := hc19
      obtain ⟨he64, rfl, hok64⟩ := hk64
      have he64 : _ = [I (r.tasks[k]'hif4d94).state, I (r.tasks[k]'hif4d94).need, I (r.tasks[k]'hif4d94).try_, I (r.tasks[k]'hif4d94).until_] := he64
      subst he64
      refine sg (aF aJ rfl rfl (st31.get 0 rfl) (i := 0) rfl rfl (sg (bA rfl rfl (sg (aB (v := .bool (decide ((r.tasks[k]'hif4d94).state = 2))) rfl ?_)))))
      rcases bd (decide ((r.tasks[k]'hif4d94).state = 2)) with h65 | h65
      · have h65p := of_decide_eq_false h65
        iterate 2 refine sgf 54 rfl (by decide) (bF rfl h65) ?_
        refine sg (aO (v := .bool false) ((rfl : _ = (.bool (decide ((r.tasks[k]'hif4d94).state = 2)) : Value)).trans (congrArg Value.bool h65)) rfl (sg (aB (v := .bool false) rfl (sgo 58 rfl (by decide) (aL rfl rfl) (aC bP hs32_8 (sgo 58 rfl (by decide) (aL rfl rfl) (aF aJ rfl rfl (st31.get 0 rfl) (i := 0) rfl rfl (sgo 58 rfl (by decide) (aL rfl rfl) (bA rfl rfl (sgo 58 rfl (by decide) (aL rfl rfl) (aB (v := .bool (decide ((r.tasks[k]'hif4d94).state = 3))) rfl ?_)))))))))))
        rcases bd (decide ((r.tasks[k]'hif4d94).state = 3)) with h66 | h66
        · have h66p := of_decide_eq_false h66
          iterate 13 refine sgf 62 rfl (by decide) (bF rfl h66) ?_
          refine sgo 58 rfl (by decide) (aL rfl rfl) (aO (v := .bool false) ((rfl : _ = (.bool (decide ((r.tasks[k]'hif4d94).state = 3)) : Value)).trans (congrArg Value.bool h66)) rfl (sg (aO (v := .bool false) rfl rfl (aE (gX rfl rfl (wp_skip (aA (sg (aP hs32_15 rfl (by (simp only [I64] at *; omega)) (sg (aB (v := I ((k : Int) + 1)) rfl (aE ?_))))))))))))
          have st67 := st31.f2
          have st68 := st67.f2
          have st69 := st68.d2
          exact ⟨_, r.tasks.length - (k + 1), (by omega), rfl, k + 1, (by omega), (gO (by omega) hPr (fun _ => by omega) hT), rfl, hs32_2, hs32_3, hs32_4, hs32_13, hs32_14, rfl, st69⟩
        · have h66p := of_decide_eq_true h66
          refine sgo 62 rfl (by decide) (aL rfl h66) (aC eT hs32_8 (sgo 62 rfl (by decide) (aL rfl h66) (aF aJ rfl rfl (st31.get 0 rfl) (i := 3) rfl rfl (sgo 62 rfl (by decide) (aL rfl h66) (aC fE hs32_3 ?_)))))
          have hk70 := hc
          obtain ⟨v70_0, v70_1, g70_0, g70_1, rfl, hok70, h70_0, h70_1, rfl⟩ := hk70
          refine sgo 62 rfl (by decide) (aL rfl h66) (aF aJ rfl rfl (st31.get 2 rfl) (i := 0) rfl rfl (sgo 62 rfl (by decide) (aL rfl h66) (aP rfl rfl (by (simp only [I64] at *; omega)) (sgo 62 rfl (by decide) (aL rfl h66) (aC fE hs32_3 (sgo 62 rfl (by decide) (aL rfl h66) (aF aJ rfl rfl (st31.get 2 rfl) (i := 0) rfl rfl (sgo 62 rfl (by decide) (aL rfl h66) (aC cQ hs32_4 (sgo 62 rfl (by decide) (aL rfl h66) (aC gM rfl (sgo 62 rfl (by decide) (aL rfl h66) (aF aJ rfl rfl (st31.get 1 rfl) (i := 3) rfl rfl (sgo 62 rfl (by decide) (aL rfl h66) (aP rfl rfl (by (simp only [I64] at *; omega)) (sgo 62 rfl (by decide) (aL rfl h66) (bS Tryz.func47 rfl rfl rfl rfl ((eL W29 (r.tasks[k]'hif4d94).until_ (y.now + 1) (y.now + r.plan.wait)).mono ?_)))))))))))))))))); rintro _ W71 ⟨rfl, hk72⟩; refine ⟨_, rfl, ?_⟩
          have st73 := St.call st31 hk72
          refine sgo 62 rfl (by decide) (aL rfl h66) (bO rfl (sgo 58 rfl (by decide) (aL rfl rfl) (aN (v := .bool (!(inB (r.tasks[k]'hif4d94).until_ (y.now + 1) (y.now + r.plan.wait)))) ((rfl : _ = (.bool (decide ((r.tasks[k]'hif4d94).state = 3)) : Value)).trans (congrArg Value.bool h66)) rfl (sg (aO (v := .bool (!(inB (r.tasks[k]'hif4d94).until_ (y.now + 1) (y.now + r.plan.wait)))) rfl rfl (aE (aR rfl (fun h75 => ?_) (fun h75 => ?_))))))))
          · have h75p := dN (aS h75)
            refine wp_seq (aA (sg (aD (v := .bool false) rfl (aE (wp_ret ?_))))); repeat first|refine aH ?_|refine aI ?_
            refine aW Tryz.results99 rfl ?_
            have hent : eZ r.id (k : Int) es = eZ r.id (k : Int) (es.take i) := by rw [show i = es.length by omega, List.take_length]
            exact ⟨(congrArg (fun z => Ending.returned (.bool z)) (by unfold gG; rw [dO (fun hz => by have hz2 := (hz k (by omega)).2 (by omega); omega)])), st73.bare⟩
          · have h75p := inB_iff'.1 (aX h75)
            refine wp_skip (aA (sg (aP hs32_15 rfl (by (simp only [I64] at *; omega)) (sg (aB (v := I ((k : Int) + 1)) rfl (aE ?_))))))
            have st76 := st73.f2
            have st77 := st76.f2
            have st78 := st77.d2
            exact ⟨_, r.tasks.length - (k + 1), (by omega), rfl, k + 1, (by omega), (gO (by omega) hPr (fun _ => by omega) hT), rfl, hs32_2, hs32_3, hs32_4, hs32_13, hs32_14, rfl, st78⟩
      · have h65p := of_decide_eq_true h65
        refine sgo 54 rfl (by decide) (aL rfl h65) (aB (v := I ((eZ r.id (k : Int) (es.take i) : Nat) : Int)) hs32_9 (sgo 54 rfl (by decide) (aL rfl h65) (bL rfl rfl (sg (aN (v := .bool (!decide (((eZ r.id (k : Int) (es.take i) : Nat) : Int) = 1))) ((rfl : _ = (.bool (decide ((r.tasks[k]'hif4d94).state = 2)) : Value)).trans (congrArg Value.bool h65)) rfl (sg (aB (v := .bool (!decide (((eZ r.id (k : Int) (es.take i) : Nat) : Int) = 1))) rfl ?_)))))))
        rcases bd (!decide (((eZ r.id (k : Int) (es.take i) : Nat) : Int) = 1)) with h79 | h79
        · have h79p := of_decide_eq_true (aX h79)
          refine sgo 58 rfl (by decide) (aL rfl h79) (aC bP hs32_8 (sgo 58 rfl (by decide) (aL rfl h79) (aF aJ rfl rfl (st31.get 0 rfl) (i := 0) rfl rfl (sgo 58 rfl (by decide) (aL rfl h79) (bA rfl rfl (sgo 58 rfl (by decide) (aL rfl h79) (aB (v := .bool (decide ((r.tasks[k]'hif4d94).state = 3))) rfl ?_)))))))
          rcases bd (decide ((r.tasks[k]'hif4d94).state = 3)) with h80 | h80
          · have h80p := of_decide_eq_false h80
            iterate 13 refine sgf 62 rfl (by decide) (bF rfl h80) ?_
            refine sgo 58 rfl (by decide) (aL rfl h79) (aO (v := .bool false) ((rfl : _ = (.bool (decide ((r.tasks[k]'hif4d94).state = 3)) : Value)).trans (congrArg Value.bool h80)) rfl (sg (aO (v := .bool false) ((rfl : _ = (.bool (!decide (((eZ r.id (k : Int) (es.take i) : Nat) : Int) = 1)) : Value)).trans (congrArg Value.bool h79)) rfl (aE (gX rfl rfl (wp_skip (aA (sg (aP hs32_15 rfl (by (simp only [I64] at *; omega)) (sg (aB (v := I ((k : Int) + 1)) rfl (aE ?_))))))))))))
            have st81 := st31.f2
            have st82 := st81.f2
            have st83 := st82.d2
            exact ⟨_, r.tasks.length - (k + 1), (by omega), rfl, k + 1, (by omega), (gO (by omega) hPr (fun _ => by omega) hT), rfl, hs32_2, hs32_3, hs32_4, hs32_13, hs32_14, rfl, st83⟩
          · have h80p := of_decide_eq_true h80
            refine sgo 62 rfl (by decide) (aL rfl h80) (aC eT hs32_8 (sgo 62 rfl (by decide) (aL rfl h80) (aF aJ rfl rfl (st31.get 0 rfl) (i := 3) rfl rfl (sgo 62 rfl (by decide) (aL rfl h80) (aC fE hs32_3 ?_)))))
            have hk84 := hc
            obtain ⟨v84_0, v84_1, g84_0, g84_1, rfl, hok84, h84_0, h84_1, rfl⟩ := hk84
            refine sgo 62 rfl (by decide) (aL rfl h80) (aF aJ rfl rfl (st31.get 2 rfl) (i := 0) rfl rfl (sgo 62 rfl (by decide) (aL rfl h80) (aP rfl rfl (by (simp only [I64] at *; omega)) (sgo 62 rfl (by decide) (aL rfl h80) (aC fE hs32_3 (sgo 62 rfl (by decide) (aL rfl h80) (aF aJ rfl rfl (st31.get 2 rfl) (i := 0) rfl rfl (sgo 62 rfl (by decide) (aL rfl h80) (aC cQ hs32_4 (sgo 62 rfl (by decide) (aL rfl h80) (aC gM rfl (sgo 62 rfl (by decide) (aL rfl h80) (aF aJ rfl rfl (st31.get 1 rfl) (i := 3) rfl rfl (sgo 62 rfl (by decide) (aL rfl h80) (aP rfl rfl (by (simp only [I64] at *; omega)) (sgo 62 rfl (by decide) (aL rfl h80) (bS Tryz.func47 rfl rfl rfl rfl ((eL W29 (r.tasks[k]'hif4d94).until_ (y.now + 1) (y.now + r.plan.wait)).mono ?_)))))))))))))))))); rintro _ W85 ⟨rfl, hk86⟩; refine ⟨_, rfl, ?_⟩
            have st87 := St.call st31 hk86
            refine sgo 62 rfl (by decide) (aL rfl h80) (bO rfl (sgo 58 rfl (by decide) (aL rfl h79) (aN (v := .bool (!(inB (r.tasks[k]'hif4d94).until_ (y.now + 1) (y.now + r.plan.wait)))) ((rfl : _ = (.bool (decide ((r.tasks[k]'hif4d94).state = 3)) : Value)).trans (congrArg Value.bool h80)) rfl (sg (aO (v := .bool (!(inB (r.tasks[k]'hif4d94).until_ (y.now + 1) (y.now + r.plan.wait)))) ((rfl : _ = (.bool (!decide (((eZ r.id (k : Int) (es.take i) : Nat) : Int) = 1)) : Value)).trans (congrArg Value.bool h79)) rfl (aE (aR rfl (fun h89 => ?_) (fun h89 => ?_))))))))
            · have h89p := dN (aS h89)
              refine wp_seq (aA (sg (aD (v := .bool false) rfl (aE (wp_ret ?_))))); repeat first|refine aH ?_|refine aI ?_
              refine aW Tryz.results99 rfl ?_
              have hent : eZ r.id (k : Int) es = eZ r.id (k : Int) (es.take i) := by rw [show i = es.length by omega, List.take_length]
              exact ⟨(congrArg (fun z => Ending.returned (.bool z)) (by unfold gG; rw [dO (fun hz => by have hz2 := (hz k (by omega)).2 (by omega); omega)])), st87.bare⟩
            · have h89p := inB_iff'.1 (aX h89)
              refine wp_skip (aA (sg (aP hs32_15 rfl (by (simp only [I64] at *; omega)) (sg (aB (v := I ((k : Int) + 1)) rfl (aE ?_))))))
              have st90 := st87.f2
              have st91 := st90.f2
              have st92 := st91.d2
              exact ⟨_, r.tasks.length - (k + 1), (by omega), rfl, k + 1, (by omega), (gO (by omega) hPr (fun _ => by omega) hT), rfl, hs32_2, hs32_3, hs32_4, hs32_13, hs32_14, rfl, st92⟩
        · have h79p := of_decide_eq_false (aS h79)
          iterate 4 refine sgf 58 rfl (by decide) (bF rfl h79) ?_
          iterate 13 refine nL rfl rfl (by decide) (pD rfl) ?_
          refine sgf 58 rfl (by decide) (bF rfl h79) (sg (aN (v := .bool true) ((rfl : _ = (.bool (!decide (((eZ r.id (k : Int) (es.take i) : Nat) : Int) = 1)) : Value)).trans (congrArg Value.bool h79)) rfl (aE (gV rfl rfl (wp_seq (aA (sg (aD (v := .bool false) rfl (aE (wp_ret ?_)))))))))); repeat first|refine aH ?_|refine aI ?_
          refine aW Tryz.results99 rfl ?_
          have hent : eZ r.id (k : Int) es = eZ r.id (k : Int) (es.take i) := by rw [show i = es.length by omega, List.take_length]
          exact ⟨(congrArg (fun z => Ending.returned (.bool z)) (by unfold gG; rw [dO (fun hz => by have hz2 := (hz k (by omega)).2 (by omega); omega)])), st31.bare⟩
  · have h18p := of_decide_eq_false h18
    refine wp_exit (wp_seq (aA (sg (aD (v := .bool true) rfl (aE (wp_ret ?_)))))); repeat first|refine aH ?_|refine aI ?_
    refine aW Tryz.results99 rfl ?_
    exact ⟨(congrArg (fun z => Ending.returned (.bool z)) (by unfold gG; rw [gU (fun j hj => hT j (by omega))])), st16.bare⟩
set_option maxHeartbeats 2000000 in
theorem RunsOkS (w : World) {y : Yard} {cs : List Value} {fp : List Nat} (hc : Shape.C w cs y fp) {r : Run} {ds : List Value} {gp : List Nat} (hd : Shape.C w ds r gp) {v : Value} {es : List Entry} {fq : List Nat} (h : Sl w v es fq) (hn : 0 ≤ y.now ∧ y.now ≤ 999999980) (hwt : 0 ≤ r.plan.wait ∧ r.plan.wait ≤ 20) (hl : es.length ≤ 1048576) :
    Calls Tryz.prog 92 #[.agg cs.toArray, .agg ds.toArray, v] w fun e w' => e = .returned (.bool (gG y.now r es)) ∧ St w w' [] := by
  have hcap : r.tasks.length ≤ 9223372036854775807 := by have h0 := hd; obtain ⟨v1, v2, f1, f2, h0, hok, h1, h2, hfp⟩ := h0; exact h2.len_le
  have hcap2 := h.len_le
  refine nV Tryz.func92 rfl Tryz.ntmps92 (by decide) (wp_seq (aA (sg (aQ (cs := cs) rfl (St.start w) ?_)))); intro b1 W2 hb3 st4
  refine sg (aQ (cs := ds) rfl st4 ?_); intro b6 W7 hb8 st9
  refine sg (aD (v := .bool false) rfl (aE (wp_seq (wp_seq (aA (sg (aD (v := I 0) rfl (aE (wp_block (bH (fun (m : Nat) (f : Nat → Value) (W : World) => ∃ (k : Nat), k ≤ r.tasks.length ∧ (∀ j, j < k → qP y.now r es j) ∧ m = r.tasks.length - k ∧ f 2 = v ∧ f 3 = .pointer (some ⟨b1, 0, none⟩) ∧ f 4 = .pointer (some ⟨b6, 0, none⟩) ∧ f 7 = I (k : Int) ∧ St w W ([Res.bx b6 ds 123, Res.bx b1 cs 34])) (r.tasks.length - 0) ?_ ?_))))))))))
  · exact ⟨0, (by omega), (fun j hj => absurd hj (Nat.not_lt_zero j)), rfl, rfl, rfl, rfl, rfl, st9⟩
  intro m11 f12 W13 hJ14
  obtain ⟨k, hk, hT, rfl, hs16_2, hs16_3, hs16_4, hs16_7, st15⟩ := hJ14
  refine wp_seq (wp_seq (aA (sg (aB (v := I (k : Int)) hs16_7 (sg (aC bJ hs16_4 ?_))))))
  have hk17 := hd
  obtain ⟨v17_0, v17_1, g17_0, g17_1, rfl, hok17, h17_0, h17_1, rfl⟩ := hk17
  refine sg (aF bM rfl rfl (st15.get 0 rfl) (i := 7) rfl rfl (sg (aV bD rfl h17_1 (sg (aY rfl rfl (aE (aR rfl (fun h18 => ?_) (fun h18 => ?_))))))))
  · have h18p := of_decide_eq_true h18
    refine wp_skip (wp_seq (wp_block (wp_seq (aA (sg (aD (v := I 0) rfl (aE (wp_seq (wp_seq (aA (sg (aD (v := I 0) rfl (aE ?_)))))))))))))
    refine wp_block (bH (fun (m : Nat) (f : Nat → Value) (W : World) => ∃ (i : Nat), k < r.tasks.length ∧ i ≤ es.length ∧ nQ r k (es.take i) ∧ eZ r.id (k : Int) (es.take i) ≤ i ∧ m = es.length - i ∧ f 2 = v ∧ f 3 = .pointer (some ⟨b1, 0, none⟩) ∧ f 4 = .pointer (some ⟨b6, 0, none⟩) ∧ f 7 = I (k : Int) ∧ f 8 = I ((eZ r.id (k : Int) (es.take i) : Nat) : Int) ∧ f 9 = I (i : Int) ∧ St w W ([Res.bx b6 [I r.id, I r.plan.prio, I r.plan.most, I r.plan.wait, I r.plan.tasks, v17_0, I r.state, v17_1] 123, Res.bx b1 cs 34])) (es.length - 0) ?_ ?_)
    · exact ⟨0, (by omega), (by omega), (fun _ e he => by simp at he), (by simp [eZ]), rfl, hs16_2, hs16_3, hs16_4, hs16_7, (Eq.trans (show _ = I 0 from rfl) (congrArg I (by simp [eZ]))), rfl, st15⟩
    intro m19 f20 W21 hJ22
    obtain ⟨i, hk2, hi, hPr, hen, rfl, hs24_2, hs24_3, hs24_4, hs24_7, hs24_8, hs24_9, st23⟩ := hJ22
    refine wp_seq (wp_seq (aA (sg (aB (v := I (i : Int)) hs24_9 (sg (aB (v := v) hs24_2 (sg (aV sl_EntryS rfl h (sg (aY rfl rfl (aE (aR rfl (fun h25 => ?_) (fun h25 => ?_)))))))))))))
    · have h25p := of_decide_eq_true h25
      refine wp_skip (wp_seq (wp_block (wp_seq ?_)))
      have hif21f0 : i < es.length := (by omega)
      rcases bd (decide ((es[i]'hif21f0).run = r.id)) with h28 | h28
      · have h28p := of_decide_eq_false h28
        have hif21f0 : i < es.length := (by omega)
        have hq_ := idx h (i := i) hif21f0
        obtain ⟨b29, o29, cs29, f29, hp29, hr29, hc29, hm29⟩ := hq_
        have hk30 := hc29
        obtain ⟨he30, rfl, hok30⟩ := hk30
        have he30 : _ = [I (es[i]'hif21f0).prio, I (es[i]'hif21f0).seq, I (es[i]'hif21f0).run, I (es[i]'hif21f0).task] := he30
        subst he30
        refine dI [Pl.is (v) (Sl.yl h), Pl.is (I (i : Int)), Pl.is (.pointer (some ⟨b29, o29, none⟩)), Pl.is (.pointer (some ⟨b29, o29 + 2, none⟩)), Pl.is (I (es[i]'hif21f0).run), Pl.is (.pointer (some ⟨b6, 0 + 0, none⟩)), Pl.is (I r.id), Pl.bool false, Pl.bool false, Pl.off, Pl.off, Pl.off, Pl.off, Pl.off, Pl.off, Pl.off, Pl.bool false] mix (by rfl) st23 ⟨(fun f W hst hbl hd hf => aB (v := v) ((hf 2 rfl).trans hs24_2) brq), (fun f W hst hbl hd hf => aB (v := I (i : Int)) ((hf 9 rfl).trans hs24_9) brq), (fun f W hst hbl hd hf => aG sl_EntryS (hd 0 23 rfl rfl) hp29 (hd 1 24 rfl rfl) rfl brq), (fun f W hst hbl hd hf => aC fQ (hd 2 25 rfl rfl) brq), (fun f W hst hbl hd hf => aK aJ rfl (hd 3 26 rfl rfl) hr29 hst.below (i := 2) rfl rfl brq), (fun f W hst hbl hd hf => aC eU ((hf 4 rfl).trans hs24_4) brq), (fun f W hst hbl hd hf => aF aJ rfl (hd 5 28 rfl rfl) (hst.get 0 rfl) (i := 0) rfl rfl brq), (fun f W hst hbl hd hf => bA (hd 4 27 rfl rfl) (hd 6 29 rfl rfl) ⟨Below.refl _ _, congrArg Value.bool h28⟩), (fun f W hst hbl hd hf => aB (v := .bool false) (hd 7 30 rfl rfl) brq), (fun f W hst hbl hd hf => rfl), (fun f W hst hbl hd hf => rfl), (fun f W hst hbl hd hf => rfl), (fun f W hst hbl hd hf => rfl), (fun f W hst hbl hd hf => rfl), (fun f W hst hbl hd hf => rfl), (fun f W hst hbl hd hf => rfl), (fun f W hst hbl hd hf => aO (v := .bool false) (hd 8 31 rfl rfl) rfl brq), trivial⟩ ?_
        intro f31 W32 st33 hb34 hv35 hf36
        refine gX (hv35 16 39 (by decide) rfl) rfl (wp_skip (aA (sg (aB (v := I (i : Int)) ((hf36 9 rfl).trans hs24_9) (sg (aP rfl rfl (by (simp only [I64] at *; omega)) (sg (aD (v := I ((i : Int) + 1)) rfl (aE ?_)))))))))
        exact ⟨_, es.length - (i + 1), (by omega), rfl, i + 1, (by omega), (by omega), (gP (by omega) hPr (fun _ h1 h2 h3 => by omega)), (by exact Nat.le_trans (kF _ _ _) (List.length_take_le _ _)), rfl, ((hf36 2 rfl).trans hs24_2), ((hf36 3 rfl).trans hs24_3), ((hf36 4 rfl).trans hs24_4), ((hf36 7 rfl).trans hs24_7), (Eq.trans (show _ = I ((eZ r.id (k : Int) (es.take i) : Nat) : Int) from ((hf36 8 rfl).trans hs24_8)) (congrArg I (by rw [tR (by omega) (fun hz => by have hz1 := hz.1; have hz2 := hz.2; omega)]))), rfl, st33⟩
      · have h28p := of_decide_eq_true h28
        have hif21f0 : i < es.length := (by omega)
        have hq_ := idx h (i := i) hif21f0
        obtain ⟨b37, o37, cs37, f37, hp37, hr37, hc37, hm37⟩ := hq_
        have hk38 := hc37
        obtain ⟨he38, rfl, hok38⟩ := hk38
        have he38 : _ = [I (es[i]'hif21f0).prio, I (es[i]'hif21f0).seq, I (es[i]'hif21f0).run, I (es[i]'hif21f0).task] := he38
        subst he38
        refine dI [Pl.is (v) (Sl.yl h), Pl.is (I (i : Int)), Pl.is (.pointer (some ⟨b37, o37, none⟩)), Pl.is (.pointer (some ⟨b37, o37 + 2, none⟩)), Pl.is (I (es[i]'hif21f0).run), Pl.is (.pointer (some ⟨b6, 0 + 0, none⟩)), Pl.is (I r.id), Pl.bool true, Pl.bool true, Pl.is (v) (Sl.yl h), Pl.is (I (i : Int)), Pl.is (.pointer (some ⟨b37, o37, none⟩)), Pl.is (.pointer (some ⟨b37, o37 + 3, none⟩)), Pl.is (I (es[i]'hif21f0).task), Pl.is (I (k : Int)), Pl.bool (decide ((es[i]'hif21f0).task = (k : Int))), Pl.bool (decide ((es[i]'hif21f0).task = (k : Int)))] mix (by rfl) st23 ⟨(fun f W hst hbl hd hf => aB (v := v) ((hf 2 rfl).trans hs24_2) brq), (fun f W hst hbl hd hf => aB (v := I (i : Int)) ((hf 9 rfl).trans hs24_9) brq), (fun f W hst hbl hd hf => aG sl_EntryS (hd 0 23 rfl rfl) hp37 (hd 1 24 rfl rfl) rfl brq), (fun f W hst hbl hd hf => aC fQ (hd 2 25 rfl rfl) brq), (fun f W hst hbl hd hf => aK aJ rfl (hd 3 26 rfl rfl) hr37 hst.below (i := 2) rfl rfl brq), (fun f W hst hbl hd hf => aC eU ((hf 4 rfl).trans hs24_4) brq), (fun f W hst hbl hd hf => aF aJ rfl (hd 5 28 rfl rfl) (hst.get 0 rfl) (i := 0) rfl rfl brq), (fun f W hst hbl hd hf => bA (hd 4 27 rfl rfl) (hd 6 29 rfl rfl) ⟨Below.refl _ _, congrArg Value.bool h28⟩), (fun f W hst hbl hd hf => aB (v := .bool true) (hd 7 30 rfl rfl) brq), (fun f W hst hbl hd hf => aB (v := v) ((hf 2 rfl).trans hs24_2) brq), (fun f W hst hbl hd hf => aB (v := I (i : Int)) ((hf 9 rfl).trans hs24_9) brq), (fun f W hst hbl hd hf => aG sl_EntryS (hd 9 32 rfl rfl) hp37 (hd 10 33 rfl rfl) rfl brq), (fun f W hst hbl hd hf => aC fH (hd 11 34 rfl rfl) brq), (fun f W hst hbl hd hf => aK aJ rfl (hd 12 35 rfl rfl) hr37 hst.below (i := 3) rfl rfl brq), (fun f W hst hbl hd hf => aB (v := I (k : Int)) ((hf 7 rfl).trans hs24_7) brq), (fun f W hst hbl hd hf => bA (hd 13 36 rfl rfl) (hd 14 37 rfl rfl) brq), (fun f W hst hbl hd hf => aN (v := .bool (decide ((es[i]'hif21f0).task = (k : Int)))) (hd 8 31 rfl rfl) (hd 15 38 rfl rfl) brq), trivial⟩ ?_
        intro f39 W40 st41 hb42 hv43 hf44
        refine aR (hv43 16 39 (by decide) rfl) (fun h45 => ?_) (fun h45 => ?_)
        · have h45p := of_decide_eq_true h45
          refine wp_seq (aA (sg (aB (v := I ((eZ r.id (k : Int) (es.take i) : Nat) : Int)) ((hf44 8 rfl).trans hs24_8) (sg (aP rfl rfl (by (simp only [I64] at *; omega)) (sg (aD (v := I (((eZ r.id (k : Int) (es.take i) : Nat) : Int) + 1)) rfl (aE (wp_seq ?_)))))))))
          have hif4d94 : k < r.tasks.length := (by omega)
          rcases bd (decide ((r.tasks[k]'hif4d94).state = 2)) with h48 | h48
          · have h48p := of_decide_eq_false h48
            have hif4d94 : k < r.tasks.length := (by omega)
            have hq_ := idx h17_1 (i := k) hif4d94
            obtain ⟨b49, o49, cs49, f49, hp49, hr49, hc49, hm49⟩ := hq_
            have hk50 := hc49
            obtain ⟨he50, rfl, hok50⟩ := hk50
            have he50 : _ = [I (r.tasks[k]'hif4d94).state, I (r.tasks[k]'hif4d94).need, I (r.tasks[k]'hif4d94).try_, I (r.tasks[k]'hif4d94).until_] := he50
            subst he50
            refine dI [Pl.is (.pointer (some ⟨b6, 0 + 7, none⟩)), Pl.is (v17_1) (Sl.yl h17_1), Pl.is (I (k : Int)), Pl.is (.pointer (some ⟨b49, o49, none⟩)), Pl.is (.pointer (some ⟨b49, o49 + 0, none⟩)), Pl.is (I (r.tasks[k]'hif4d94).state), Pl.bool false, Pl.bool false, Pl.off, Pl.off, Pl.off, Pl.off, Pl.off, Pl.off, Pl.off, Pl.off, Pl.off, Pl.bool false] mix (by rfl) st41 ⟨(fun f W hst hbl hd hf => aC bJ ((hf 4 rfl).trans ((hf44 4 rfl).trans hs24_4)) brq), (fun f W hst hbl hd hf => aF bM rfl (hd 0 42 rfl rfl) (hst.get 0 rfl) (i := 7) rfl rfl brq), (fun f W hst hbl hd hf => aB (v := I (k : Int)) ((hf 7 rfl).trans ((hf44 7 rfl).trans hs24_7)) brq), (fun f W hst hbl hd hf => aG bD (hd 1 43 rfl rfl) hp49 (hd 2 44 rfl rfl) rfl brq), (fun f W hst hbl hd hf => aC bP (hd 3 45 rfl rfl) brq), (fun f W hst hbl hd hf => aK aJ rfl (hd 4 46 rfl rfl) hr49 hst.below (i := 0) rfl rfl brq), (fun f W hst hbl hd hf => bA (hd 5 47 rfl rfl) rfl ⟨Below.refl _ _, congrArg Value.bool h48⟩), (fun f W hst hbl hd hf => aB (v := .bool false) (hd 6 48 rfl rfl) brq), (fun f W hst hbl hd hf => rfl), (fun f W hst hbl hd hf => rfl), (fun f W hst hbl hd hf => rfl), (fun f W hst hbl hd hf => rfl), (fun f W hst hbl hd hf => rfl), (fun f W hst hbl hd hf => rfl), (fun f W hst hbl hd hf => rfl), (fun f W hst hbl hd hf => rfl), (fun f W hst hbl hd hf => rfl), (fun f W hst hbl hd hf => aO (v := .bool false) (hd 7 49 rfl rfl) rfl brq), trivial⟩ ?_
            intro f51 W52 st53 hb54 hv55 hf56
            refine gX (hv55 17 59 (by decide) rfl) rfl (wp_skip (aA (sg (aB (v := I (i : Int)) ((hf56 9 rfl).trans ((hf44 9 rfl).trans hs24_9)) (sg (aP rfl rfl (by (simp only [I64] at *; omega)) (sg (aD (v := I ((i : Int) + 1)) rfl (aE ?_)))))))))
            exact ⟨_, es.length - (i + 1), (by omega), rfl, i + 1, (by omega), (by omega), (gP (by omega) hPr (fun _ h1 h2 h3 => by omega)), (by exact Nat.le_trans (kF _ _ _) (List.length_take_le _ _)), rfl, ((hf56 2 rfl).trans ((hf44 2 rfl).trans hs24_2)), ((hf56 3 rfl).trans ((hf44 3 rfl).trans hs24_3)), ((hf56 4 rfl).trans ((hf44 4 rfl).trans hs24_4)), ((hf56 7 rfl).trans ((hf44 7 rfl).trans hs24_7)), (Eq.trans (show _ = I (((eZ r.id (k : Int) (es.take i) : Nat) : Int) + 1) from ((hf56 8 rfl).trans (show _ = I (((eZ r.id (k : Int) (es.take i) : Nat) : Int) + 1) from rfl))) (congrArg I (by rw [tQ (by omega) ⟨by assumption, by assumption⟩]; omega))), rfl, st53⟩
          · have h48p := of_decide_eq_true h48
            have hif4d94 : k < r.tasks.length := (by omega)
            have hq_ := idx h17_1 (i := k) hif4d94
            obtain ⟨b57, o57, cs57, f57, hp57, hr57, hc57, hm57⟩ := hq_
            have hk58 := hc57
            obtain ⟨he58, rfl, hok58⟩ := hk58
            have he58 : _ = [I (r.tasks[k]'hif4d94).state, I (r.tasks[k]'hif4d94).need, I (r.tasks[k]'hif4d94).try_, I (r.tasks[k]'hif4d94).until_] := he58
            subst he58
            refine dI [Pl.is (.pointer (some ⟨b6, 0 + 7, none⟩)), Pl.is (v17_1) (Sl.yl h17_1), Pl.is (I (k : Int)), Pl.is (.pointer (some ⟨b57, o57, none⟩)), Pl.is (.pointer (some ⟨b57, o57 + 0, none⟩)), Pl.is (I (r.tasks[k]'hif4d94).state), Pl.bool true, Pl.bool true, Pl.is (v) (Sl.yl h), Pl.is (I (i : Int)), Pl.is (.pointer (some ⟨b37, o37, none⟩)), Pl.is (.pointer (some ⟨b37, o37 + 0, none⟩)), Pl.is (I (es[i]'hif21f0).prio), Pl.is (.pointer (some ⟨b6, 0 + 1, none⟩)), Pl.is (.pointer (some ⟨b6, 0 + 1 + 0, none⟩)), Pl.is (I r.plan.prio), Pl.bool (!decide ((es[i]'hif21f0).prio = r.plan.prio)), Pl.bool (!decide ((es[i]'hif21f0).prio = r.plan.prio))] mix (by rfl) st41 ⟨(fun f W hst hbl hd hf => aC bJ ((hf 4 rfl).trans ((hf44 4 rfl).trans hs24_4)) brq), (fun f W hst hbl hd hf => aF bM rfl (hd 0 42 rfl rfl) (hst.get 0 rfl) (i := 7) rfl rfl brq), (fun f W hst hbl hd hf => aB (v := I (k : Int)) ((hf 7 rfl).trans ((hf44 7 rfl).trans hs24_7)) brq), (fun f W hst hbl hd hf => aG bD (hd 1 43 rfl rfl) hp57 (hd 2 44 rfl rfl) rfl brq), (fun f W hst hbl hd hf => aC bP (hd 3 45 rfl rfl) brq), (fun f W hst hbl hd hf => aK aJ rfl (hd 4 46 rfl rfl) hr57 hst.below (i := 0) rfl rfl brq), (fun f W hst hbl hd hf => bA (hd 5 47 rfl rfl) rfl ⟨Below.refl _ _, congrArg Value.bool h48⟩), (fun f W hst hbl hd hf => aB (v := .bool true) (hd 6 48 rfl rfl) brq), (fun f W hst hbl hd hf => aB (v := v) ((hf 2 rfl).trans ((hf44 2 rfl).trans hs24_2)) brq), (fun f W hst hbl hd hf => aB (v := I (i : Int)) ((hf 9 rfl).trans ((hf44 9 rfl).trans hs24_9)) brq), (fun f W hst hbl hd hf => aG sl_EntryS (hd 8 50 rfl rfl) hp37 (hd 9 51 rfl rfl) rfl brq), (fun f W hst hbl hd hf => aC eS (hd 10 52 rfl rfl) brq), (fun f W hst hbl hd hf => aK aJ rfl (hd 11 53 rfl rfl) hr37 hst.below (i := 0) rfl rfl brq), (fun f W hst hbl hd hf => aC cQ ((hf 4 rfl).trans ((hf44 4 rfl).trans hs24_4)) brq), (fun f W hst hbl hd hf => aC gB (hd 13 55 rfl rfl) brq), (fun f W hst hbl hd hf => aF aJ rfl (hd 14 56 rfl rfl) (hst.get 0 rfl) (i := 1) rfl rfl brq), (fun f W hst hbl hd hf => bL (hd 12 54 rfl rfl) (hd 15 57 rfl rfl) brq), (fun f W hst hbl hd hf => aN (v := .bool (!decide ((es[i]'hif21f0).prio = r.plan.prio))) (hd 7 49 rfl rfl) (hd 16 58 rfl rfl) brq), trivial⟩ ?_
            intro f59 W60 st61 hb62 hv63 hf64
            refine aR (hv63 17 59 (by decide) rfl) (fun h65 => ?_) (fun h65 => ?_)
            · have h65p := of_decide_eq_false (aS h65)
              refine wp_seq (aA (sg (aD (v := .bool false) rfl (aE (wp_ret ?_))))); repeat first|refine aH ?_|refine aI ?_
              refine aW Tryz.results92 rfl ?_
              exact ⟨(congrArg (fun z => Ending.returned (.bool z)) (by unfold gG; rw [dO (fun hz => qW (i := i) (k := k) (by omega) (by omega) (by assumption) (by assumption) (by assumption) (by assumption) (hz k (by omega)).1)])), st61.bare⟩
            · have h65p := of_decide_eq_true (aX h65)
              refine wp_skip (aA (sg (aB (v := I (i : Int)) ((hf64 9 rfl).trans ((hf44 9 rfl).trans hs24_9)) (sg (aP rfl rfl (by (simp only [I64] at *; omega)) (sg (aD (v := I ((i : Int) + 1)) rfl (aE ?_))))))))
              exact ⟨_, es.length - (i + 1), (by omega), rfl, i + 1, (by omega), (by omega), (gP (by omega) hPr (fun _ h1 h2 h3 => by omega)), (by exact Nat.le_trans (kF _ _ _) (List.length_take_le _ _)), rfl, ((hf64 2 rfl).trans ((hf44 2 rfl).trans hs24_2)), ((hf64 3 rfl).trans ((hf44 3 rfl).trans hs24_3)), ((hf64 4 rfl).trans ((hf44 4 rfl).trans hs24_4)), ((hf64 7 rfl).trans ((hf44 7 rfl).trans hs24_7)), (Eq.trans (show _ = I (((eZ r.id (k : Int) (es.take i) : Nat) : Int) + 1) from ((hf64 8 rfl).trans (show _ = I (((eZ r.id (k : Int) (es.take i) : Nat) : Int) + 1) from rfl))) (congrArg I (by rw [tQ (by omega) ⟨by assumption, by assumption⟩]; omega))), rfl, st61⟩
        · have h45p := of_decide_eq_false h45
          refine wp_skip (aA (sg (aB (v := I (i : Int)) ((hf44 9 rfl).trans hs24_9) (sg (aP rfl rfl (by (simp only [I64] at *; omega)) (sg (aD (v := I ((i : Int) + 1)) rfl (aE ?_))))))))
          exact ⟨_, es.length - (i + 1), (by omega), rfl, i + 1, (by omega), (by omega), (gP (by omega) hPr (fun _ h1 h2 h3 => by omega)), (by exact Nat.le_trans (kF _ _ _) (List.length_take_le _ _)), rfl, ((hf44 2 rfl).trans hs24_2), ((hf44 3 rfl).trans hs24_3), ((hf44 4 rfl).trans hs24_4), ((hf44 7 rfl).trans hs24_7), (Eq.trans (show _ = I ((eZ r.id (k : Int) (es.take i) : Nat) : Int) from ((hf44 8 rfl).trans hs24_8)) (congrArg I (by rw [tR (by omega) (fun hz => by have hz1 := hz.1; have hz2 := hz.2; omega)]))), rfl, st41⟩
    · have h25p := of_decide_eq_false h25
      refine wp_exit (wp_seq ?_)
      have hif4d94 : k < r.tasks.length := (by omega)
      rcases bd (decide ((r.tasks[k]'hif4d94).state = 2)) with h68 | h68
      · have h68p := of_decide_eq_false h68
        have hif4d94 : k < r.tasks.length := (by omega)
        rcases bd (decide ((r.tasks[k]'hif4d94).state = 3)) with h71 | h71
        · have h71p := of_decide_eq_false h71
          have hif4d94 : k < r.tasks.length := (by omega)
          have hq_ := idx h17_1 (i := k) hif4d94
          obtain ⟨b72, o72, cs72, f72, hp72, hr72, hc72, hm72⟩ := hq_
          have hk73 := hc72
          obtain ⟨he73, rfl, hok73⟩ := hk73
          have he73 : _ = [I (r.tasks[k]'hif4d94).state, I (r.tasks[k]'hif4d94).need, I (r.tasks[k]'hif4d94).try_, I (r.tasks[k]'hif4d94).until_] := he73
          subst he73
          refine dI [Pl.is (.pointer (some ⟨b6, 0 + 7, none⟩)), Pl.is (v17_1) (Sl.yl h17_1), Pl.is (I (k : Int)), Pl.is (.pointer (some ⟨b72, o72, none⟩)), Pl.is (.pointer (some ⟨b72, o72 + 0, none⟩)), Pl.is (I (r.tasks[k]'hif4d94).state), Pl.bool false, Pl.bool false, Pl.off, Pl.off, Pl.bool false, Pl.bool false, Pl.is (.pointer (some ⟨b6, 0 + 7, none⟩)), Pl.is (v17_1) (Sl.yl h17_1), Pl.is (I (k : Int)), Pl.is (.pointer (some ⟨b72, o72, none⟩)), Pl.is (.pointer (some ⟨b72, o72 + 0, none⟩)), Pl.is (I (r.tasks[k]'hif4d94).state), Pl.bool false, Pl.bool false, Pl.off, Pl.off, Pl.off, Pl.off, Pl.off, Pl.off, Pl.off, Pl.off, Pl.off, Pl.off, Pl.off, Pl.off, Pl.off, Pl.off, Pl.off, Pl.off, Pl.off, Pl.bool false, Pl.bool false] mix (by rfl) st23 ⟨(fun f W hst hbl hd hf => aC bJ ((hf 4 rfl).trans hs24_4) brq), (fun f W hst hbl hd hf => aF bM rfl (hd 0 60 rfl rfl) (hst.get 0 rfl) (i := 7) rfl rfl brq), (fun f W hst hbl hd hf => aB (v := I (k : Int)) ((hf 7 rfl).trans hs24_7) brq), (fun f W hst hbl hd hf => aG bD (hd 1 61 rfl rfl) hp72 (hd 2 62 rfl rfl) rfl brq), (fun f W hst hbl hd hf => aC bP (hd 3 63 rfl rfl) brq), (fun f W hst hbl hd hf => aK aJ rfl (hd 4 64 rfl rfl) hr72 hst.below (i := 0) rfl rfl brq), (fun f W hst hbl hd hf => bA (hd 5 65 rfl rfl) rfl ⟨Below.refl _ _, congrArg Value.bool h68⟩), (fun f W hst hbl hd hf => aB (v := .bool false) (hd 6 66 rfl rfl) brq), (fun f W hst hbl hd hf => rfl), (fun f W hst hbl hd hf => rfl), (fun f W hst hbl hd hf => aO (v := .bool false) (hd 7 67 rfl rfl) rfl brq), (fun f W hst hbl hd hf => aB (v := .bool false) (hd 10 70 rfl rfl) brq), (fun f W hst hbl hd hf => aC bJ ((hf 4 rfl).trans hs24_4) brq), (fun f W hst hbl hd hf => aF bM rfl (hd 12 72 rfl rfl) (hst.get 0 rfl) (i := 7) rfl rfl brq), (fun f W hst hbl hd hf => aB (v := I (k : Int)) ((hf 7 rfl).trans hs24_7) brq), (fun f W hst hbl hd hf => aG bD (hd 13 73 rfl rfl) hp72 (hd 14 74 rfl rfl) rfl brq), (fun f W hst hbl hd hf => aC bP (hd 15 75 rfl rfl) brq), (fun f W hst hbl hd hf => aK aJ rfl (hd 16 76 rfl rfl) hr72 hst.below (i := 0) rfl rfl brq), (fun f W hst hbl hd hf => bA (hd 17 77 rfl rfl) rfl ⟨Below.refl _ _, congrArg Value.bool h71⟩), (fun f W hst hbl hd hf => aB (v := .bool false) (hd 18 78 rfl rfl) brq), (fun f W hst hbl hd hf => rfl), (fun f W hst hbl hd hf => rfl), (fun f W hst hbl hd hf => rfl), (fun f W hst hbl hd hf => rfl), (fun f W hst hbl hd hf => rfl), (fun f W hst hbl hd hf => rfl), (fun f W hst hbl hd hf => rfl), (fun f W hst hbl hd hf => rfl), (fun f W hst hbl hd hf => rfl), (fun f W hst hbl hd hf => rfl), (fun f W hst hbl hd hf => rfl), (fun f W hst hbl hd hf => rfl), (fun f W hst hbl hd hf => rfl), (fun f W hst hbl hd hf => rfl), (fun f W hst hbl hd hf => rfl), (fun f W hst hbl hd hf => rfl), (fun f W hst hbl hd hf => rfl), (fun f W hst hbl hd hf => aO (v := .bool false) (hd 19 79 rfl rfl) rfl brq), (fun f W hst hbl hd hf => aO (v := .bool false) (hd 11 71 rfl rfl) (hd 37 97 rfl rfl) brq), trivial⟩ ?_
          intro f74 W75 st76 hb77 hv78 hf79
          refine gX (hv78 38 98 (by decide) rfl) rfl (wp_skip (aA (sg (aB (v := I (k : Int)) ((hf79 7 rfl).trans hs24_7) (sg (aP rfl rfl (by (simp only [I64] at *; omega)) (sg (aD (v := I ((k : Int) + 1)) rfl (aE ?_)))))))))
          exact ⟨_, r.tasks.length - (k + 1), (by omega), rfl, k + 1, (by omega), (gO (by omega) hPr (fun _ => by omega) hT), rfl, ((hf79 2 rfl).trans hs24_2), ((hf79 3 rfl).trans hs24_3), ((hf79 4 rfl).trans hs24_4), rfl, st76⟩
        · have h71p := of_decide_eq_true h71
          have hk82 := hc
          obtain ⟨v82_0, v82_1, g82_0, g82_1, rfl, hok82, h82_0, h82_1, rfl⟩ := hk82
          have hif4d94 : k < r.tasks.length := (by omega)
          have hq_ := idx h17_1 (i := k) hif4d94
          obtain ⟨b83, o83, cs83, f83, hp83, hr83, hc83, hm83⟩ := hq_
          have hk84 := hc83
          obtain ⟨he84, rfl, hok84⟩ := hk84
          have he84 : _ = [I (r.tasks[k]'hif4d94).state, I (r.tasks[k]'hif4d94).need, I (r.tasks[k]'hif4d94).try_, I (r.tasks[k]'hif4d94).until_] := he84
          subst he84
          refine dI [Pl.is (.pointer (some ⟨b6, 0 + 7, none⟩)), Pl.is (v17_1) (Sl.yl h17_1), Pl.is (I (k : Int)), Pl.is (.pointer (some ⟨b83, o83, none⟩)), Pl.is (.pointer (some ⟨b83, o83 + 0, none⟩)), Pl.is (I (r.tasks[k]'hif4d94).state), Pl.bool false, Pl.bool false, Pl.off, Pl.off, Pl.bool false, Pl.bool false, Pl.is (.pointer (some ⟨b6, 0 + 7, none⟩)), Pl.is (v17_1) (Sl.yl h17_1), Pl.is (I (k : Int)), Pl.is (.pointer (some ⟨b83, o83, none⟩)), Pl.is (.pointer (some ⟨b83, o83 + 0, none⟩)), Pl.is (I (r.tasks[k]'hif4d94).state), Pl.bool true, Pl.bool true, Pl.is (.pointer (some ⟨b6, 0 + 7, none⟩)), Pl.is (v17_1) (Sl.yl h17_1), Pl.is (I (k : Int)), Pl.is (.pointer (some ⟨b83, o83, none⟩)), Pl.is (.pointer (some ⟨b83, o83 + 3, none⟩)), Pl.is (I (r.tasks[k]'hif4d94).until_), Pl.is (.pointer (some ⟨b1, 0 + 0, none⟩)), Pl.is (I y.now), Pl.is (I (y.now + 1)), Pl.is (.pointer (some ⟨b1, 0 + 0, none⟩)), Pl.is (I y.now), Pl.is (.pointer (some ⟨b6, 0 + 1, none⟩)), Pl.is (.pointer (some ⟨b6, 0 + 1 + 2, none⟩)), Pl.is (I r.plan.wait), Pl.is (I (y.now + r.plan.wait)), Pl.bool (inB (r.tasks[k]'hif4d94).until_ (y.now + 1) (y.now + r.plan.wait)), Pl.bool (!(inB (r.tasks[k]'hif4d94).until_ (y.now + 1) (y.now + r.plan.wait))), Pl.bool (!(inB (r.tasks[k]'hif4d94).until_ (y.now + 1) (y.now + r.plan.wait))), Pl.bool (!(inB (r.tasks[k]'hif4d94).until_ (y.now + 1) (y.now + r.plan.wait)))] mix (by rfl) st23 ⟨(fun f W hst hbl hd hf => aC bJ ((hf 4 rfl).trans hs24_4) brq), (fun f W hst hbl hd hf => aF bM rfl (hd 0 60 rfl rfl) (hst.get 0 rfl) (i := 7) rfl rfl brq), (fun f W hst hbl hd hf => aB (v := I (k : Int)) ((hf 7 rfl).trans hs24_7) brq), (fun f W hst hbl hd hf => aG bD (hd 1 61 rfl rfl) hp83 (hd 2 62 rfl rfl) rfl brq), (fun f W hst hbl hd hf => aC bP (hd 3 63 rfl rfl) brq), (fun f W hst hbl hd hf => aK aJ rfl (hd 4 64 rfl rfl) hr83 hst.below (i := 0) rfl rfl brq), (fun f W hst hbl hd hf => bA (hd 5 65 rfl rfl) rfl ⟨Below.refl _ _, congrArg Value.bool h68⟩), (fun f W hst hbl hd hf => aB (v := .bool false) (hd 6 66 rfl rfl) brq), (fun f W hst hbl hd hf => rfl), (fun f W hst hbl hd hf => rfl), (fun f W hst hbl hd hf => aO (v := .bool false) (hd 7 67 rfl rfl) rfl brq), (fun f W hst hbl hd hf => aB (v := .bool false) (hd 10 70 rfl rfl) brq), (fun f W hst hbl hd hf => aC bJ ((hf 4 rfl).trans hs24_4) brq), (fun f W hst hbl hd hf => aF bM rfl (hd 12 72 rfl rfl) (hst.get 0 rfl) (i := 7) rfl rfl brq), (fun f W hst hbl hd hf => aB (v := I (k : Int)) ((hf 7 rfl).trans hs24_7) brq), (fun f W hst hbl hd hf => aG bD (hd 13 73 rfl rfl) hp83 (hd 14 74 rfl rfl) rfl brq), (fun f W hst hbl hd hf => aC bP (hd 15 75 rfl rfl) brq), (fun f W hst hbl hd hf => aK aJ rfl (hd 16 76 rfl rfl) hr83 hst.below (i := 0) rfl rfl brq), (fun f W hst hbl hd hf => bA (hd 17 77 rfl rfl) rfl ⟨Below.refl _ _, congrArg Value.bool h71⟩), (fun f W hst hbl hd hf => aB (v := .bool true) (hd 18 78 rfl rfl) brq), (fun f W hst hbl hd hf => aC bJ ((hf 4 rfl).trans hs24_4) brq), (fun f W hst hbl hd hf => aF bM rfl (hd 20 80 rfl rfl) (hst.get 0 rfl) (i := 7) rfl rfl brq), (fun f W hst hbl hd hf => aB (v := I (k : Int)) ((hf 7 rfl).trans hs24_7) brq), (fun f W hst hbl hd hf => aG bD (hd 21 81 rfl rfl) hp83 (hd 22 82 rfl rfl) rfl brq), (fun f W hst hbl hd hf => aC eT (hd 23 83 rfl rfl) brq), (fun f W hst hbl hd hf => aK aJ rfl (hd 24 84 rfl rfl) hr83 hst.below (i := 3) rfl rfl brq), (fun f W hst hbl hd hf => aC fE ((hf 3 rfl).trans hs24_3) brq), (fun f W hst hbl hd hf => aF aJ rfl (hd 26 86 rfl rfl) (hst.get 1 rfl) (i := 0) rfl rfl brq), (fun f W hst hbl hd hf => aP (hd 27 87 rfl rfl) rfl (by (simp only [I64] at *; omega)) brq), (fun f W hst hbl hd hf => aC fE ((hf 3 rfl).trans hs24_3) brq), (fun f W hst hbl hd hf => aF aJ rfl (hd 29 89 rfl rfl) (hst.get 1 rfl) (i := 0) rfl rfl brq), (fun f W hst hbl hd hf => aC cQ ((hf 4 rfl).trans hs24_4) brq), (fun f W hst hbl hd hf => aC gM (hd 31 91 rfl rfl) brq), (fun f W hst hbl hd hf => aF aJ rfl (hd 32 92 rfl rfl) (hst.get 0 rfl) (i := 3) rfl rfl brq), (fun f W hst hbl hd hf => aP (hd 30 90 rfl rfl) (hd 33 93 rfl rfl) (by (simp only [I64] at *; omega)) brq), (fun f W hst hbl hd hf => bS Tryz.func43 rfl (hd 25 85 rfl rfl) (hd 28 88 rfl rfl) (hd 34 94 rfl rfl) ((fK W (r.tasks[k]'hif4d94).until_ (y.now + 1) (y.now + r.plan.wait)).mono (by rintro e W2 ⟨rfl, hk⟩; exact ⟨_, rfl, hk.below, rfl⟩))), (fun f W hst hbl hd hf => bO (hd 35 95 rfl rfl) brq), (fun f W hst hbl hd hf => aN (v := .bool (!(inB (r.tasks[k]'hif4d94).until_ (y.now + 1) (y.now + r.plan.wait)))) (hd 19 79 rfl rfl) (hd 36 96 rfl rfl) brq), (fun f W hst hbl hd hf => aO (v := .bool (!(inB (r.tasks[k]'hif4d94).until_ (y.now + 1) (y.now + r.plan.wait)))) (hd 11 71 rfl rfl) (hd 37 97 rfl rfl) brq), trivial⟩ ?_
          intro f85 W86 st87 hb88 hv89 hf90
          refine aR (hv89 38 98 (by decide) rfl) (fun h91 => ?_) (fun h91 => ?_)
          · have h91p := dN (aS h91)
            refine wp_seq (aA (sg (aD (v := .bool false) rfl (aE (wp_ret ?_))))); repeat first|refine aH ?_|refine aI ?_
            refine aW Tryz.results92 rfl ?_
            have hent : eZ r.id (k : Int) es = eZ r.id (k : Int) (es.take i) := by rw [show i = es.length by omega, List.take_length]
            exact ⟨(congrArg (fun z => Ending.returned (.bool z)) (by unfold gG; rw [dO (fun hz => by have hz2 := (hz k (by omega)).2 (by omega); omega)])), st87.bare⟩
          · have h91p := inB_iff'.1 (aX h91)
            refine wp_skip (aA (sg (aB (v := I (k : Int)) ((hf90 7 rfl).trans hs24_7) (sg (aP rfl rfl (by (simp only [I64] at *; omega)) (sg (aD (v := I ((k : Int) + 1)) rfl (aE ?_))))))))
            exact ⟨_, r.tasks.length - (k + 1), (by omega), rfl, k + 1, (by omega), (gO (by omega) hPr (fun _ => by omega) hT), rfl, ((hf90 2 rfl).trans hs24_2), ((hf90 3 rfl).trans hs24_3), ((hf90 4 rfl).trans hs24_4), rfl, st87⟩
      · have h68p := of_decide_eq_true h68
        rcases bd (!decide (((eZ r.id (k : Int) (es.take i) : Nat) : Int) = 1)) with h94 | h94
        · have h94p := of_decide_eq_true (aX h94)
          have hif4d94 : k < r.tasks.length := (by omega)
          rcases bd (decide ((r.tasks[k]'hif4d94).state = 3)) with h97 | h97
          · have h97p := of_decide_eq_false h97
            have hif4d94 : k < r.tasks.length := (by omega)
            have hq_ := idx h17_1 (i := k) hif4d94
            obtain ⟨b98, o98, cs98, f98, hp98, hr98, hc98, hm98⟩ := hq_
            have hk99 := hc98
            obtain ⟨he99, rfl, hok99⟩ := hk99
            have he99 : _ = [I (r.tasks[k]'hif4d94).state, I (r.tasks[k]'hif4d94).need, I (r.tasks[k]'hif4d94).try_, I (r.tasks[k]'hif4d94).until_] := he99
            subst he99
            refine dI [Pl.is (.pointer (some ⟨b6, 0 + 7, none⟩)), Pl.is (v17_1) (Sl.yl h17_1), Pl.is (I (k : Int)), Pl.is (.pointer (some ⟨b98, o98, none⟩)), Pl.is (.pointer (some ⟨b98, o98 + 0, none⟩)), Pl.is (I (r.tasks[k]'hif4d94).state), Pl.bool true, Pl.bool true, Pl.is (I ((eZ r.id (k : Int) (es.take i) : Nat) : Int)), Pl.bool false, Pl.bool false, Pl.bool false, Pl.is (.pointer (some ⟨b6, 0 + 7, none⟩)), Pl.is (v17_1) (Sl.yl h17_1), Pl.is (I (k : Int)), Pl.is (.pointer (some ⟨b98, o98, none⟩)), Pl.is (.pointer (some ⟨b98, o98 + 0, none⟩)), Pl.is (I (r.tasks[k]'hif4d94).state), Pl.bool false, Pl.bool false, Pl.off, Pl.off, Pl.off, Pl.off, Pl.off, Pl.off, Pl.off, Pl.off, Pl.off, Pl.off, Pl.off, Pl.off, Pl.off, Pl.off, Pl.off, Pl.off, Pl.off, Pl.bool false, Pl.bool false] mix (by rfl) st23 ⟨(fun f W hst hbl hd hf => aC bJ ((hf 4 rfl).trans hs24_4) brq), (fun f W hst hbl hd hf => aF bM rfl (hd 0 60 rfl rfl) (hst.get 0 rfl) (i := 7) rfl rfl brq), (fun f W hst hbl hd hf => aB (v := I (k : Int)) ((hf 7 rfl).trans hs24_7) brq), (fun f W hst hbl hd hf => aG bD (hd 1 61 rfl rfl) hp98 (hd 2 62 rfl rfl) rfl brq), (fun f W hst hbl hd hf => aC bP (hd 3 63 rfl rfl) brq), (fun f W hst hbl hd hf => aK aJ rfl (hd 4 64 rfl rfl) hr98 hst.below (i := 0) rfl rfl brq), (fun f W hst hbl hd hf => bA (hd 5 65 rfl rfl) rfl ⟨Below.refl _ _, congrArg Value.bool h68⟩), (fun f W hst hbl hd hf => aB (v := .bool true) (hd 6 66 rfl rfl) brq), (fun f W hst hbl hd hf => aB (v := I ((eZ r.id (k : Int) (es.take i) : Nat) : Int)) ((hf 8 rfl).trans hs24_8) brq), (fun f W hst hbl hd hf => bL (hd 8 68 rfl rfl) rfl ⟨Below.refl _ _, congrArg Value.bool h94⟩), (fun f W hst hbl hd hf => aN (v := .bool false) (hd 7 67 rfl rfl) (hd 9 69 rfl rfl) brq), (fun f W hst hbl hd hf => aB (v := .bool false) (hd 10 70 rfl rfl) brq), (fun f W hst hbl hd hf => aC bJ ((hf 4 rfl).trans hs24_4) brq), (fun f W hst hbl hd hf => aF bM rfl (hd 12 72 rfl rfl) (hst.get 0 rfl) (i := 7) rfl rfl brq), (fun f W hst hbl hd hf => aB (v := I (k : Int)) ((hf 7 rfl).trans hs24_7) brq), (fun f W hst hbl hd hf => aG bD (hd 13 73 rfl rfl) hp98 (hd 14 74 rfl rfl) rfl brq), (fun f W hst hbl hd hf => aC bP (hd 15 75 rfl rfl) brq), (fun f W hst hbl hd hf => aK aJ rfl (hd 16 76 rfl rfl) hr98 hst.below (i := 0) rfl rfl brq), (fun f W hst hbl hd hf => bA (hd 17 77 rfl rfl) rfl ⟨Below.refl _ _, congrArg Value.bool h97⟩), (fun f W hst hbl hd hf => aB (v := .bool false) (hd 18 78 rfl rfl) brq), (fun f W hst hbl hd hf => rfl), (fun f W hst hbl hd hf => rfl), (fun f W hst hbl hd hf => rfl), (fun f W hst hbl hd hf => rfl), (fun f W hst hbl hd hf => rfl), (fun f W hst hbl hd hf => rfl), (fun f W hst hbl hd hf => rfl), (fun f W hst hbl hd hf => rfl), (fun f W hst hbl hd hf => rfl), (fun f W hst hbl hd hf => rfl), (fun f W hst hbl hd hf => rfl), (fun f W hst hbl hd hf => rfl), (fun f W hst hbl hd hf => rfl), (fun f W hst hbl hd hf => rfl), (fun f W hst hbl hd hf => rfl), (fun f W hst hbl hd hf => rfl), (fun f W hst hbl hd hf => rfl), (fun f W hst hbl hd hf => aO (v := .bool false) (hd 19 79 rfl rfl) rfl brq), (fun f W hst hbl hd hf => aO (v := .bool false) (hd 11 71 rfl rfl) (hd 37 97 rfl rfl) brq), trivial⟩ ?_
            intro f100 W101 st102 hb103 hv104 hf105
            refine gX (hv104 38 98 (by decide) rfl) rfl (wp_skip (aA (sg (aB (v := I (k : Int)) ((hf105 7 rfl).trans hs24_7) (sg (aP rfl rfl (by (simp only [I64] at *; omega)) (sg (aD (v := I ((k : Int) + 1)) rfl (aE ?_)))))))))
            exact ⟨_, r.tasks.length - (k + 1), (by omega), rfl, k + 1, (by omega), (gO (by omega) hPr (fun _ => by omega) hT), rfl, ((hf105 2 rfl).trans hs24_2), ((hf105 3 rfl).trans hs24_3), ((hf105 4 rfl).trans hs24_4), rfl, st102⟩
          · have h97p := of_decide_eq_true h97
            have hk108 := hc
            obtain ⟨v108_0, v108_1, g108_0, g108_1, rfl, hok108, h108_0, h108_1, rfl⟩ := hk108
            have hif4d94 : k < r.tasks.length := (by omega)
            have hq_ := idx h17_1 (i := k) hif4d94
            obtain ⟨b109, o109, cs109, f109, hp109, hr109, hc109, hm109⟩ := hq_
            have hk110 := hc109
            obtain ⟨he110, rfl, hok110⟩ := hk110
            have he110 : _ = [I (r.tasks[k]'hif4d94).state, I (r.tasks[k]'hif4d94).need, I (r.tasks[k]'hif4d94).try_, I (r.tasks[k]'hif4d94).until_] := he110
            subst he110
            refine dI [Pl.is (.pointer (some ⟨b6, 0 + 7, none⟩)), Pl.is (v17_1) (Sl.yl h17_1), Pl.is (I (k : Int)), Pl.is (.pointer (some ⟨b109, o109, none⟩)), Pl.is (.pointer (some ⟨b109, o109 + 0, none⟩)), Pl.is (I (r.tasks[k]'hif4d94).state), Pl.bool true, Pl.bool true, Pl.is (I ((eZ r.id (k : Int) (es.take i) : Nat) : Int)), Pl.bool false, Pl.bool false, Pl.bool false, Pl.is (.pointer (some ⟨b6, 0 + 7, none⟩)), Pl.is (v17_1) (Sl.yl h17_1), Pl.is (I (k : Int)), Pl.is (.pointer (some ⟨b109, o109, none⟩)), Pl.is (.pointer (some ⟨b109, o109 + 0, none⟩)), Pl.is (I (r.tasks[k]'hif4d94).state), Pl.bool true, Pl.bool true, Pl.is (.pointer (some ⟨b6, 0 + 7, none⟩)), Pl.is (v17_1) (Sl.yl h17_1), Pl.is (I (k : Int)), Pl.is (.pointer (some ⟨b109, o109, none⟩)), Pl.is (.pointer (some ⟨b109, o109 + 3, none⟩)), Pl.is (I (r.tasks[k]'hif4d94).until_), Pl.is (.pointer (some ⟨b1, 0 + 0, none⟩)), Pl.is (I y.now), Pl.is (I (y.now + 1)), Pl.is (.pointer (some ⟨b1, 0 + 0, none⟩)), Pl.is (I y.now), Pl.is (.pointer (some ⟨b6, 0 + 1, none⟩)), Pl.is (.pointer (some ⟨b6, 0 + 1 + 2, none⟩)), Pl.is (I r.plan.wait), Pl.is (I (y.now + r.plan.wait)), Pl.bool (inB (r.tasks[k]'hif4d94).until_ (y.now + 1) (y.now + r.plan.wait)), Pl.bool (!(inB (r.tasks[k]'hif4d94).until_ (y.now + 1) (y.now + r.plan.wait))), Pl.bool (!(inB (r.tasks[k]'hif4d94).until_ (y.now + 1) (y.now + r.plan.wait))), Pl.bool (!(inB (r.tasks[k]'hif4d94).until_ (y.now + 1) (y.now + r.plan.wait)))] mix (by rfl) st23 ⟨(fun f W hst hbl hd hf => aC bJ ((hf 4 rfl).trans hs24_4) brq), (fun f W hst hbl hd hf => aF bM rfl (hd 0 60 rfl rfl) (hst.get 0 rfl) (i := 7) rfl rfl brq), (fun f W hst hbl hd hf => aB (v := I (k : Int)) ((hf 7 rfl).trans hs24_7) brq), (fun f W hst hbl hd hf => aG bD (hd 1 61 rfl rfl) hp109 (hd 2 62 rfl rfl) rfl brq), (fun f W hst hbl hd hf => aC bP (hd 3 63 rfl rfl) brq), (fun f W hst hbl hd hf => aK aJ rfl (hd 4 64 rfl rfl) hr109 hst.below (i := 0) rfl rfl brq), (fun f W hst hbl hd hf => bA (hd 5 65 rfl rfl) rfl ⟨Below.refl _ _, congrArg Value.bool h68⟩), (fun f W hst hbl hd hf => aB (v := .bool true) (hd 6 66 rfl rfl) brq), (fun f W hst hbl hd hf => aB (v := I ((eZ r.id (k : Int) (es.take i) : Nat) : Int)) ((hf 8 rfl).trans hs24_8) brq), (fun f W hst hbl hd hf => bL (hd 8 68 rfl rfl) rfl ⟨Below.refl _ _, congrArg Value.bool h94⟩), (fun f W hst hbl hd hf => aN (v := .bool false) (hd 7 67 rfl rfl) (hd 9 69 rfl rfl) brq), (fun f W hst hbl hd hf => aB (v := .bool false) (hd 10 70 rfl rfl) brq), (fun f W hst hbl hd hf => aC bJ ((hf 4 rfl).trans hs24_4) brq), (fun f W hst hbl hd hf => aF bM rfl (hd 12 72 rfl rfl) (hst.get 0 rfl) (i := 7) rfl rfl brq), (fun f W hst hbl hd hf => aB (v := I (k : Int)) ((hf 7 rfl).trans hs24_7) brq), (fun f W hst hbl hd hf => aG bD (hd 13 73 rfl rfl) hp109 (hd 14 74 rfl rfl) rfl brq), (fun f W hst hbl hd hf => aC bP (hd 15 75 rfl rfl) brq), (fun f W hst hbl hd hf => aK aJ rfl (hd 16 76 rfl rfl) hr109 hst.below (i := 0) rfl rfl brq), (fun f W hst hbl hd hf => bA (hd 17 77 rfl rfl) rfl ⟨Below.refl _ _, congrArg Value.bool h97⟩), (fun f W hst hbl hd hf => aB (v := .bool true) (hd 18 78 rfl rfl) brq), (fun f W hst hbl hd hf => aC bJ ((hf 4 rfl).trans hs24_4) brq), (fun f W hst hbl hd hf => aF bM rfl (hd 20 80 rfl rfl) (hst.get 0 rfl) (i := 7) rfl rfl brq), (fun f W hst hbl hd hf => aB (v := I (k : Int)) ((hf 7 rfl).trans hs24_7) brq), (fun f W hst hbl hd hf => aG bD (hd 21 81 rfl rfl) hp109 (hd 22 82 rfl rfl) rfl brq), (fun f W hst hbl hd hf => aC eT (hd 23 83 rfl rfl) brq), (fun f W hst hbl hd hf => aK aJ rfl (hd 24 84 rfl rfl) hr109 hst.below (i := 3) rfl rfl brq), (fun f W hst hbl hd hf => aC fE ((hf 3 rfl).trans hs24_3) brq), (fun f W hst hbl hd hf => aF aJ rfl (hd 26 86 rfl rfl) (hst.get 1 rfl) (i := 0) rfl rfl brq), (fun f W hst hbl hd hf => aP (hd 27 87 rfl rfl) rfl (by (simp only [I64] at *; omega)) brq), (fun f W hst hbl hd hf => aC fE ((hf 3 rfl).trans hs24_3) brq), (fun f W hst hbl hd hf => aF aJ rfl (hd 29 89 rfl rfl) (hst.get 1 rfl) (i := 0) rfl rfl brq), (fun f W hst hbl hd hf => aC cQ ((hf 4 rfl).trans hs24_4) brq), (fun f W hst hbl hd hf => aC gM (hd 31 91 rfl rfl) brq), (fun f W hst hbl hd hf => aF aJ rfl (hd 32 92 rfl rfl) (hst.get 0 rfl) (i := 3) rfl rfl brq), (fun f W hst hbl hd hf => aP (hd 30 90 rfl rfl) (hd 33 93 rfl rfl) (by (simp only [I64] at *; omega)) brq), (fun f W hst hbl hd hf => bS Tryz.func43 rfl (hd 25 85 rfl rfl) (hd 28 88 rfl rfl) (hd 34 94 rfl rfl) ((fK W (r.tasks[k]'hif4d94).until_ (y.now + 1) (y.now + r.plan.wait)).mono (by rintro e W2 ⟨rfl, hk⟩; exact ⟨_, rfl, hk.below, rfl⟩))), (fun f W hst hbl hd hf => bO (hd 35 95 rfl rfl) brq), (fun f W hst hbl hd hf => aN (v := .bool (!(inB (r.tasks[k]'hif4d94).until_ (y.now + 1) (y.now + r.plan.wait)))) (hd 19 79 rfl rfl) (hd 36 96 rfl rfl) brq), (fun f W hst hbl hd hf => aO (v := .bool (!(inB (r.tasks[k]'hif4d94).until_ (y.now + 1) (y.now + r.plan.wait)))) (hd 11 71 rfl rfl) (hd 37 97 rfl rfl) brq), trivial⟩ ?_
            intro f111 W112 st113 hb114 hv115 hf116
            refine aR (hv115 38 98 (by decide) rfl) (fun h117 => ?_) (fun h117 => ?_)
            · have h117p := dN (aS h117)
              refine wp_seq (aA (sg (aD (v := .bool false) rfl (aE (wp_ret ?_))))); repeat first|refine aH ?_|refine aI ?_
              refine aW Tryz.results92 rfl ?_
              have hent : eZ r.id (k : Int) es = eZ r.id (k : Int) (es.take i) := by rw [show i = es.length by omega, List.take_length]
              exact ⟨(congrArg (fun z => Ending.returned (.bool z)) (by unfold gG; rw [dO (fun hz => by have hz2 := (hz k (by omega)).2 (by omega); omega)])), st113.bare⟩
            · have h117p := inB_iff'.1 (aX h117)
              refine wp_skip (aA (sg (aB (v := I (k : Int)) ((hf116 7 rfl).trans hs24_7) (sg (aP rfl rfl (by (simp only [I64] at *; omega)) (sg (aD (v := I ((k : Int) + 1)) rfl (aE ?_))))))))
              exact ⟨_, r.tasks.length - (k + 1), (by omega), rfl, k + 1, (by omega), (gO (by omega) hPr (fun _ => by omega) hT), rfl, ((hf116 2 rfl).trans hs24_2), ((hf116 3 rfl).trans hs24_3), ((hf116 4 rfl).trans hs24_4), rfl, st113⟩
        · have h94p := of_decide_eq_false (aS h94)
          have hif4d94 : k < r.tasks.length := (by omega)
          have hq_ := idx h17_1 (i := k) hif4d94
          obtain ⟨b118, o118, cs118, f118, hp118, hr118, hc118, hm118⟩ := hq_
          have hk119 := hc118
          obtain ⟨he119, rfl, hok119⟩ := hk119
          have he119 : _ = [I (r.tasks[k]'hif4d94).state, I (r.tasks[k]'hif4d94).need, I (r.tasks[k]'hif4d94).try_, I (r.tasks[k]'hif4d94).until_] := he119
          subst he119
          refine dI [Pl.is (.pointer (some ⟨b6, 0 + 7, none⟩)), Pl.is (v17_1) (Sl.yl h17_1), Pl.is (I (k : Int)), Pl.is (.pointer (some ⟨b118, o118, none⟩)), Pl.is (.pointer (some ⟨b118, o118 + 0, none⟩)), Pl.is (I (r.tasks[k]'hif4d94).state), Pl.bool true, Pl.bool true, Pl.is (I ((eZ r.id (k : Int) (es.take i) : Nat) : Int)), Pl.bool true, Pl.bool true, Pl.bool true, Pl.off, Pl.off, Pl.off, Pl.off, Pl.off, Pl.off, Pl.off, Pl.off, Pl.off, Pl.off, Pl.off, Pl.off, Pl.off, Pl.off, Pl.off, Pl.off, Pl.off, Pl.off, Pl.off, Pl.off, Pl.off, Pl.off, Pl.off, Pl.off, Pl.off, Pl.off, Pl.bool true] mix (by rfl) st23 ⟨(fun f W hst hbl hd hf => aC bJ ((hf 4 rfl).trans hs24_4) brq), (fun f W hst hbl hd hf => aF bM rfl (hd 0 60 rfl rfl) (hst.get 0 rfl) (i := 7) rfl rfl brq), (fun f W hst hbl hd hf => aB (v := I (k : Int)) ((hf 7 rfl).trans hs24_7) brq), (fun f W hst hbl hd hf => aG bD (hd 1 61 rfl rfl) hp118 (hd 2 62 rfl rfl) rfl brq), (fun f W hst hbl hd hf => aC bP (hd 3 63 rfl rfl) brq), (fun f W hst hbl hd hf => aK aJ rfl (hd 4 64 rfl rfl) hr118 hst.below (i := 0) rfl rfl brq), (fun f W hst hbl hd hf => bA (hd 5 65 rfl rfl) rfl ⟨Below.refl _ _, congrArg Value.bool h68⟩), (fun f W hst hbl hd hf => aB (v := .bool true) (hd 6 66 rfl rfl) brq), (fun f W hst hbl hd hf => aB (v := I ((eZ r.id (k : Int) (es.take i) : Nat) : Int)) ((hf 8 rfl).trans hs24_8) brq), (fun f W hst hbl hd hf => bL (hd 8 68 rfl rfl) rfl ⟨Below.refl _ _, congrArg Value.bool h94⟩), (fun f W hst hbl hd hf => aN (v := .bool true) (hd 7 67 rfl rfl) (hd 9 69 rfl rfl) brq), (fun f W hst hbl hd hf => aB (v := .bool true) (hd 10 70 rfl rfl) brq), (fun f W hst hbl hd hf => rfl), (fun f W hst hbl hd hf => rfl), (fun f W hst hbl hd hf => rfl), (fun f W hst hbl hd hf => rfl), (fun f W hst hbl hd hf => rfl), (fun f W hst hbl hd hf => rfl), (fun f W hst hbl hd hf => rfl), (fun f W hst hbl hd hf => rfl), (fun f W hst hbl hd hf => rfl), (fun f W hst hbl hd hf => rfl), (fun f W hst hbl hd hf => rfl), (fun f W hst hbl hd hf => rfl), (fun f W hst hbl hd hf => rfl), (fun f W hst hbl hd hf => rfl), (fun f W hst hbl hd hf => rfl), (fun f W hst hbl hd hf => rfl), (fun f W hst hbl hd hf => rfl), (fun f W hst hbl hd hf => rfl), (fun f W hst hbl hd hf => rfl), (fun f W hst hbl hd hf => rfl), (fun f W hst hbl hd hf => rfl), (fun f W hst hbl hd hf => rfl), (fun f W hst hbl hd hf => rfl), (fun f W hst hbl hd hf => rfl), (fun f W hst hbl hd hf => rfl), (fun f W hst hbl hd hf => rfl), (fun f W hst hbl hd hf => aN (v := .bool true) (hd 11 71 rfl rfl) rfl brq), trivial⟩ ?_
          intro f120 W121 st122 hb123 hv124 hf125
          refine gV (hv124 38 98 (by decide) rfl) rfl (wp_seq (aA (sg (aD (v := .bool false) rfl (aE (wp_ret ?_)))))); repeat first|refine aH ?_|refine aI ?_
          refine aW Tryz.results92 rfl ?_
          have hent : eZ r.id (k : Int) es = eZ r.id (k : Int) (es.take i) := by rw [show i = es.length by omega, List.take_length]
          exact ⟨(congrArg (fun z => Ending.returned (.bool z)) (by unfold gG; rw [dO (fun hz => by have hz2 := (hz k (by omega)).2 (by omega); omega)])), st122.bare⟩
  · have h18p := of_decide_eq_false h18
    refine wp_exit (wp_seq (aA (sg (aD (v := .bool true) rfl (aE (wp_ret ?_)))))); repeat first|refine aH ?_|refine aI ?_
    refine aW Tryz.results92 rfl ?_
    exact ⟨(congrArg (fun z => Ending.returned (.bool z)) (by unfold gG; rw [gU (fun j hj => hT j (by omega))])), st15.bare⟩
end Go.Proofs.YtchnllpegfbleaaGreat
namespace Go.Proofs.YtchnllpegfbleaaGreat
set_option linter.unusedSimpArgs false
set_option linter.unusedVariables false
set_option maxRecDepth 100000
open Go.RowKit


def oK (y : Yard) (j : Nat) : Prop := ∀ h : j < y.runs.length, dY y.runs[j] = true ∧ hO y y.runs[j].id = (j : Int) ∧ gG y.now y.runs[j] y.shelf.flatten = true
noncomputable def eE (y : Yard) : Bool := pB ((0 ≤ y.now ∧ y.now ≤ 999999980) ∧ (1 ≤ y.seq ∧ y.seq ≤ 1000000000) ∧ y.shelf.length = 4 ∧ y.runs.length ≤ 8 ∧ (∀ l ∈ y.shelf, fX l = true) ∧
  (∀ e ∈ y.shelf.flatten, 1 ≤ e.seq ∧ e.seq ≤ y.seq - 1) ∧ (y.shelf.flatten.map (·.seq)).Nodup ∧ (∀ j, j < y.runs.length → oK y j) ∧ iB y ≤ 40)
theorem nO {r : Run} (h : dY r = true) : (0 ≤ r.plan.wait ∧ r.plan.wait ≤ 20) ∧ r.tasks.length ≤ 12 := by
  have h1 := pB_iff.1 h
  have h2 := (qA h1.2.1).1
  have h3 := h1.2.2.1
  unfold dQ at h2
  omega
theorem pA {α : Type} {p : α → Prop} {xs : List α} {k : Nat} (hk : k < xs.length) (h : ∀ x ∈ xs.take k, p x) (h1 : p xs[k]) : ∀ x ∈ xs.take (k + 1), p x := by
  intro x hx
  rw [List.take_succ_eq_append_getElem hk] at hx
  rcases List.mem_append.1 hx with hx | hx
  · exact h x hx
  · rw [List.mem_singleton] at hx; subst hx; exact h1
theorem oP {α β : Type} (f : α → β) {xs : List α} {k : Nat} (hk : k < xs.length) : (xs.take (k + 1)).map f = (xs.take k).map f ++ [f xs[k]] := by
  rw [List.take_succ_eq_append_getElem hk, List.map_append]; rfl
theorem mJ {xs : List Entry} {k : Nat} (hk : k < xs.length) (h : ((xs.take k).map (·.seq)).Nodup) (hn : xs[k].seq ∉ (xs.take k).map (·.seq)) : ((xs.take (k + 1)).map (·.seq)).Nodup := by
  rw [oP _ hk, List.nodup_append]
  exact ⟨h, by simp, fun a ha b hb => by simp at hb; subst hb; exact fun e => hn (e ▸ ha)⟩
theorem nJ {xs : List Entry} {k : Nat} (hk : k < xs.length) (hm : xs[k].seq ∈ (xs.take k).map (·.seq)) : ¬ (xs.map (·.seq)).Nodup := by
  intro h
  have h2 : ((xs.take (k + 1)).map (·.seq)).Nodup := h.sublist ((List.take_sublist _ _).map _)
  rw [oP _ hk, List.nodup_append] at h2
  exact h2.2.2 _ hm _ (by simp) rfl

set_option maxHeartbeats 2000000 in
theorem wC (w : World) {y : Yard} {cs : List Value} {fp : List Nat} (hc : Shape.C w cs y fp) (hw : y.wt ≤ 1048576) :
    Calls Tryz.prog 46 #[.agg cs.toArray] w fun e w' => e = .returned (.bool (eE y)) ∧ St w w' [] := by
  have hyr : y.runs.length ≤ y.wt := by unfold Yard.wt wtL; omega
  have hys : y.shelf.length ≤ y.wt := by unfold Yard.wt wtL; omega
  have hfw := oR y
  refine dU Tryz.func46 rfl Tryz.ntmps46 (by decide) (wp_seq (aA (sg (aQ (cs := cs) rfl (St.start w) ?_)))); intro b1 W2 hb3 st4
  refine sg (aD (v := .bool false) rfl (aE (wp_seq (wp_seq (aA (sg (aC fE rfl ?_)))))))
  have hk6 := hc
  obtain ⟨v6_0, v6_1, g6_0, g6_1, rfl, hok6, h6_0, h6_1, rfl⟩ := hk6
  refine sg (aF aJ rfl rfl (st4.get 0 rfl) (i := 0) rfl rfl (sg (bS Tryz.func47 rfl rfl rfl rfl ((eL W2 y.now 0 999999980).mono ?_)))); rintro _ W7 ⟨rfl, hk8⟩; refine ⟨_, rfl, ?_⟩
  have st9 := St.call st4 hk8
  refine sg (bO rfl (sg (aB (v := .bool (!(inB y.now 0 999999980))) rfl ?_)))
  rcases bd (!(inB y.now 0 999999980)) with h11 | h11
  · have h11p := inB_iff'.1 (aX h11)
    refine sgo 15 rfl (by decide) (aL rfl h11) (aC eN rfl (sgo 15 rfl (by decide) (aL rfl h11) (aF aJ rfl rfl (st9.get 0 rfl) (i := 1) rfl rfl (sgo 15 rfl (by decide) (aL rfl h11) (bS Tryz.func47 rfl rfl rfl rfl ((eL W7 y.seq 1 1000000000).mono ?_)))))); rintro _ W12 ⟨rfl, hk13⟩; refine ⟨_, rfl, ?_⟩
    have st14 := St.call st9 hk13
    refine sgo 15 rfl (by decide) (aL rfl h11) (bO rfl (sg (aO (v := .bool (!(inB y.seq 1 1000000000))) ((rfl : _ = (.bool (!(inB y.now 0 999999980)) : Value)).trans (congrArg Value.bool h11)) rfl (sg (aB (v := .bool (!(inB y.seq 1 1000000000))) rfl ?_)))))
    rcases bd (!(inB y.seq 1 1000000000)) with h16 | h16
    · have h16p := inB_iff'.1 (aX h16)
      refine sgo 21 rfl (by decide) (aL rfl h16) (aC dG rfl (sgo 21 rfl (by decide) (aL rfl h16) (aF dE rfl rfl (st14.get 0 rfl) (i := 2) rfl rfl (sgo 21 rfl (by decide) (aL rfl h16) (aV cM rfl h6_0 (sgo 21 rfl (by decide) (aL rfl h16) (bL rfl rfl (sg (aO (v := .bool (!decide ((y.shelf.length : Int) = 4))) ((rfl : _ = (.bool (!(inB y.seq 1 1000000000)) : Value)).trans (congrArg Value.bool h16)) rfl (sg (aB (v := .bool (!decide ((y.shelf.length : Int) = 4))) rfl ?_)))))))))))
      rcases bd (!decide ((y.shelf.length : Int) = 4)) with h17 | h17
      · have h17p := of_decide_eq_true (aX h17)
        refine sgo 27 rfl (by decide) (aL rfl h17) (aC bW rfl (sgo 27 rfl (by decide) (aL rfl h17) (aF cV rfl rfl (st14.get 0 rfl) (i := 3) rfl rfl (sgo 27 rfl (by decide) (aL rfl h17) (aV bV rfl h6_1 (sgo 27 rfl (by decide) (aL rfl h17) (fV rfl rfl (sg (aO (v := .bool (decide (8 < (y.runs.length : Int)))) ((rfl : _ = (.bool (!decide ((y.shelf.length : Int) = 4)) : Value)).trans (congrArg Value.bool h17)) rfl (aE (aR rfl (fun h18 => ?_) (fun h18 => ?_))))))))))))
        · have h18p := of_decide_eq_true h18
          refine wp_seq (aA (sg (aD (v := .bool false) rfl (aE (wp_ret ?_))))); repeat first|refine aH ?_|refine aI ?_
          refine aW Tryz.results46 rfl ?_
          exact ⟨(congrArg (fun z => Ending.returned (.bool z)) (by unfold eE; rw [dO (by rintro ⟨hz1, hz2, hz3, hz4, hz5, hz6, hz7, hz8, hz9⟩; omega)])), st14.bare⟩
        · have h18p := of_decide_eq_false h18
          refine wp_skip (wp_seq (wp_seq (aA (sg (aC dG rfl (sg (aF dE rfl rfl (st14.get 0 rfl) (i := 2) rfl rfl (sg (aV cM rfl h6_0 (sg (aB (v := I 0) rfl (aE (wp_block (bH (fun (m : Nat) (f : Nat → Value) (W : World) => ∃ (k : Nat), k ≤ y.shelf.length ∧ (∀ l ∈ y.shelf.take k, fX l = true) ∧ m = y.shelf.length - k ∧ f 1 = .pointer (some ⟨b1, 0, none⟩) ∧ f 34 = v6_0 ∧ f 35 = I (y.shelf.length : Int) ∧ f 36 = I (k : Int) ∧ St w W ([Res.bx b1 [I y.now, I y.seq, v6_0, v6_1] 34])) (y.shelf.length - 0) ?_ ?_))))))))))))))
          · exact ⟨0, (by omega), (by simp), rfl, rfl, rfl, rfl, rfl, st14⟩
          intro m19 f20 W21 hJ22
          obtain ⟨k, hk, hS1, rfl, hs24_1, hs24_34, hs24_35, hs24_36, st23⟩ := hJ22
          refine wp_seq (aA (sg (aY hs24_36 hs24_35 (aE (wp_seq (aR rfl (fun h25 => ?_) (fun h25 => ?_)))))))
          · have h25p := of_decide_eq_true h25
            refine wp_skip (wp_seq (wp_block (wp_seq (aA ?_))))
            have hi019db : k < y.shelf.length := (by omega)
            have hq_ := idx h6_0 (i := k) hi019db
            obtain ⟨b26, o26, cs26, f26, hp26, hr26, hc26, hm26⟩ := hq_
            have hk26 := hc26
            obtain ⟨v27, rfl, h28⟩ := hk26
            refine sg (aG cM hs24_34 hp26 hs24_36 rfl (sg (aK fD rfl rfl hr26 st23.below (i := 0) rfl rfl (sg (aD (v := v27) rfl (aE (wp_seq (aA (sg (aB (v := v27) rfl (sg (bI Tryz.func95 rfl rfl ((ShelfOkI W21 (h28.below st23.below)).mono ?_))))))))))))); rintro _ W29 ⟨rfl, hk30⟩; refine ⟨_, rfl, ?_⟩
            have st31 := St.call st23 hk30
            refine sg (bO rfl (aE (aR rfl (fun h33 => ?_) (fun h33 => ?_))))
            · refine wp_seq (aA (sg (aD (v := .bool false) rfl (aE (wp_ret ?_))))); repeat first|refine aH ?_|refine aI ?_
              refine aW Tryz.results46 rfl ?_
              exact ⟨(congrArg (fun z => Ending.returned (.bool z)) (by unfold eE; rw [dO (by rintro ⟨hz1, hz2, hz3, hz4, hz5, hz6, hz7, hz8, hz9⟩; have hq := hz5 _ (List.getElem_mem (n := k) (by omega)); rw [(aS h33)] at hq; cases hq)])), st31.bare⟩
            · refine wp_skip (aA (sg (aP hs24_36 rfl (by (simp only [I64] at *; omega)) (sg (aB (v := I ((k : Int) + 1)) rfl (aE ?_))))))
              exact ⟨_, y.shelf.length - (k + 1), (by omega), rfl, k + 1, (by omega), (pA (by omega) hS1 (aX h33)), rfl, hs24_1, hs24_34, hs24_35, rfl, st31⟩
          · have h25p := of_decide_eq_false h25
            refine wp_exit (wp_seq (aA ?_))
            have hS1 : ∀ l ∈ y.shelf, fX l = true := by rw [show k = y.shelf.length by omega, List.take_length] at hS1; exact hS1
            refine sg (aU (cs := [I y.now, I y.seq, v6_0, v6_1]) cC rfl hs24_1 (st23.get 0 rfl) rfl rfl (sg (bI Tryz.func96 rfl rfl ((vB W21 (cA hc st23.below) (by omega)).mono ?_)))); rintro _ W36 ⟨v34, fp34, rfl, hk37⟩; refine ⟨_, rfl, ?_⟩
            have st38 := St.call st23 hk37
            refine sg (aD (v := v34) rfl (aE (wp_seq (aA (sg (aD (v := .slice none 0 0) rfl (aE (wp_seq (wp_seq (aA (sg (aB (v := v34) rfl (sg (aV sl_EntryS rfl (bC (st38.get 0 rfl)) (sg (aB (v := I 0) rfl ?_))))))))))))))))
            refine aE (wp_block ?_)
            have st41 := st38.row_nil (α := Int) 3
            refine bH (fun (m : Nat) (f : Nat → Value) (W : World) => ∃ (k2 : Nat) (v40 : Value), k2 ≤ y.shelf.flatten.length ∧ (∀ e ∈ y.shelf.flatten.take k2, 1 ≤ e.seq ∧ e.seq ≤ y.seq - 1) ∧ ((y.shelf.flatten.take k2).map (·.seq)).Nodup ∧ m = y.shelf.flatten.length - k2 ∧ f 1 = .pointer (some ⟨b1, 0, none⟩) ∧ f 5 = v34 ∧ f 6 = v40 ∧ f 46 = v34 ∧ f 47 = I ((y.shelf).flatten.length : Int) ∧ f 48 = I (k2 : Int) ∧ St w W ([Res.row (α := Int) 3 v40 ((y.shelf.flatten.take k2).map (·.seq)) [], Res.own (α := List Entry) v34 (y.shelf).flatten fp34, Res.bx b1 [I y.now, I y.seq, v6_0, v6_1] 34])) (y.shelf.flatten.length - 0) ?_ ?_
            · exact ⟨0, (.slice none 0 0), (by omega), (by simp), (by simp), rfl, hs24_1, rfl, rfl, rfl, rfl, rfl, st41⟩
            intro m43 f44 W45 hJ46
            obtain ⟨k2, v40, hk2, hS2, hS3, rfl, hs48_1, hs48_5, hs48_6, hs48_46, hs48_47, hs48_48, st47⟩ := hJ46
            have hml : ((y.shelf.flatten.take k2).map (·.seq)).length ≤ y.shelf.flatten.length := by rw [List.length_map]; exact List.length_take_le' _ _
            refine wp_seq (aA (sg (aY hs48_48 hs48_47 (aE (wp_seq (aR rfl (fun h49 => ?_) (fun h49 => ?_)))))))
            · have h49p := of_decide_eq_true h49
              refine wp_skip (wp_seq (wp_block (wp_seq (aA ?_))))
              have hi3bcf4 : k2 < (y.shelf).flatten.length := (by omega)
              have hq_ := idx (bC (st47.get 1 rfl)) (i := k2) hi3bcf4
              obtain ⟨b50, o50, cs50, f50, hp50, hr50, hc50, hm50⟩ := hq_
              refine sg (aG sl_EntryS hs48_46 hp50 hs48_48 rfl (sg (bY eA rfl rfl hr50 (Below.refl _ _) (Shape.len hc50) (sg (bN lV st47 ?_))))); intro b51 W52 hb53 st54
              refine sg (bU (cs := cs50) eA hc50 rfl rfl st54 rfl ?_); intro W56 st57
              refine aE (wp_seq (wp_seq (aA (sg (aC eR rfl ?_)))))
              have hk58 := hc50
              obtain ⟨he58, rfl, hok58⟩ := hk58
              have he58 : _ = [I ((y.shelf).flatten[k2]'hi3bcf4).prio, I ((y.shelf).flatten[k2]'hi3bcf4).seq, I ((y.shelf).flatten[k2]'hi3bcf4).run, I ((y.shelf).flatten[k2]'hi3bcf4).task] := he58
              subst he58
              refine sg (aF aJ rfl rfl (st57.get 0 rfl) (i := 1) rfl rfl (sg (aC eN hs48_1 (sg (aF aJ rfl rfl (st57.get 3 rfl) (i := 1) rfl rfl (sg (fI rfl rfl (by (simp only [I64] at *; omega)) (sg (bS Tryz.func47 rfl rfl rfl rfl ((eL W56 ((y.shelf).flatten[k2]'hi3bcf4).seq 1 (y.seq - 1)).mono ?_)))))))))); rintro _ W59 ⟨rfl, hk60⟩; refine ⟨_, rfl, ?_⟩
              have st61 := St.call st57 hk60
              refine sg (bO rfl (sg (aB (v := .bool (!(inB ((y.shelf).flatten[k2]'hi3bcf4).seq 1 (y.seq - 1)))) rfl ?_)))
              rcases bd (!(inB ((y.shelf).flatten[k2]'hi3bcf4).seq 1 (y.seq - 1))) with h63 | h63
              · have h63p := inB_iff'.1 (aX h63)
                refine sgo 59 rfl (by decide) (aL rfl h63) (aB (v := v40) hs48_6 (sgo 59 rfl (by decide) (aL rfl h63) (aC eR rfl (sgo 59 rfl (by decide) (aL rfl h63) (aF aJ rfl rfl (st61.get 0 rfl) (i := 1) rfl rfl (sgo 59 rfl (by decide) (aL rfl h63) (aZ Tryz.func75 rfl rfl rfl ((wX W59 (dL (st61.get 1 rfl)) ((y.shelf).flatten[k2]'hi3bcf4).seq).mono ?_)))))))); rintro _ W64 ⟨rfl, hk65⟩; refine ⟨_, rfl, ?_⟩
                have st66 := St.call st61 hk65
                refine sg (aO (v := .bool (decide (((y.shelf).flatten[k2]'hi3bcf4).seq ∈ ((y.shelf.flatten.take k2).map (·.seq))))) ((rfl : _ = (.bool (!(inB ((y.shelf).flatten[k2]'hi3bcf4).seq 1 (y.seq - 1))) : Value)).trans (congrArg Value.bool h63)) rfl (aE (aR rfl (fun h68 => ?_) (fun h68 => ?_))))
                · have h68p := of_decide_eq_true h68
                  refine wp_seq (aA (sg (aD (v := .bool false) rfl (aE (wp_ret ?_))))); repeat first|refine aH ?_|refine aI ?_
                  refine aW Tryz.results46 rfl ?_
                  exact ⟨(congrArg (fun z => Ending.returned (.bool z)) (by unfold eE; rw [dO (by rintro ⟨hz1, hz2, hz3, hz4, hz5, hz6, hz7, hz8, hz9⟩; exact nJ (k := k2) (by omega) (of_decide_eq_true h68) hz7)])), st66.bare⟩
                · have h68p := of_decide_eq_false h68
                  refine wp_skip (aA (sg (aB (v := v40) hs48_6 (sg (aC eR rfl (sg (aF aJ rfl rfl (st66.get 0 rfl) (i := 1) rfl rfl (sg (bR (cs := [I ((y.shelf).flatten[k2]'hi3bcf4).seq]) (e := 3) (eG (v := I ((y.shelf).flatten[k2]'hi3bcf4).seq) rfl gK) (cG gH _ _ rfl rfl (by decide)) st66 ?_))))))))); intro b69 W70 hb71 st72
                  have st74 := st72.f2
                  refine sg (eC (ys := [((y.shelf).flatten[k2]'hi3bcf4).seq]) gH rfl rfl rfl st74 (Elems.ic (by simp only [I64]; omega) Elems.i0) (by unfold maxLen; omega) (by omega) ?_); intro v75 W76 st77
                  refine sg (aD (v := v75) rfl (aE (aA (sg (aP hs48_48 rfl (by (simp only [I64] at *; omega)) (sg (aB (v := I ((k2 : Int) + 1)) rfl (aE ?_))))))))
                  have st78 := st77.f3
                  have st79 := st78.f3
                  have st80 := st79.f2
                  have st81 := st80.d3
                  exact ⟨_, y.shelf.flatten.length - (k2 + 1), (by omega), rfl, k2 + 1, v75, (by omega), (pA (by omega) hS2 (by omega)), (mJ (by omega) hS3 (of_decide_eq_false h68)), rfl, hs48_1, hs48_5, rfl, hs48_46, hs48_47, rfl, (by rw [oP _ (by omega)]; exact st81)⟩
              · have h63p := dN (aS h63)
                iterate 4 refine sgf 59 rfl (by decide) (bF rfl h63) ?_
                refine sg (aN (v := .bool true) ((rfl : _ = (.bool (!(inB ((y.shelf).flatten[k2]'hi3bcf4).seq 1 (y.seq - 1))) : Value)).trans (congrArg Value.bool h63)) rfl (aE (gV rfl rfl (wp_seq (aA (sg (aD (v := .bool false) rfl (aE (wp_ret ?_))))))))); repeat first|refine aH ?_|refine aI ?_
                refine aW Tryz.results46 rfl ?_
                exact ⟨(congrArg (fun z => Ending.returned (.bool z)) (by unfold eE; rw [dO (by rintro ⟨hz1, hz2, hz3, hz4, hz5, hz6, hz7, hz8, hz9⟩; have hq := hz6 _ (List.getElem_mem (n := k2) (by omega)); omega)])), st61.bare⟩
            · have h49p := of_decide_eq_false h49
              refine wp_exit (wp_seq (wp_seq (aA ?_)))
              have hS2 : ∀ e ∈ y.shelf.flatten, 1 ≤ e.seq ∧ e.seq ≤ y.seq - 1 := by rw [show k2 = y.shelf.flatten.length by omega, List.take_length] at hS2; exact hS2
              have hS3 : (y.shelf.flatten.map (·.seq)).Nodup := by rw [show k2 = y.shelf.flatten.length by omega, List.take_length] at hS3; exact hS3
              refine sg (aC bW hs48_1 (sg (aF cV rfl rfl (st47.get 2 rfl) (i := 3) rfl rfl (sg (aV bV rfl h6_1 (sg (aB (v := I 0) rfl (aE (wp_block (bH (fun (m : Nat) (f : Nat → Value) (W : World) => ∃ (k3 : Nat), k3 ≤ y.runs.length ∧ (∀ j, j < k3 → oK y j) ∧ m = y.runs.length - k3 ∧ f 1 = .pointer (some ⟨b1, 0, none⟩) ∧ f 5 = v34 ∧ f 72 = v6_1 ∧ f 73 = I (y.runs.length : Int) ∧ f 74 = I (k3 : Int) ∧ St w W ([Res.row (α := Int) 3 v40 ((y.shelf.flatten.take k2).map (·.seq)) [], Res.own (α := List Entry) v34 (y.shelf).flatten fp34, Res.bx b1 [I y.now, I y.seq, v6_0, v6_1] 34])) (y.runs.length - 0) ?_ ?_))))))))))
              · exact ⟨0, (by omega), (fun j hj => absurd hj (Nat.not_lt_zero j)), rfl, hs48_1, hs48_5, rfl, rfl, rfl, st47⟩
              intro m82 f83 W84 hJ85
              obtain ⟨k3, hk3, hS4, rfl, hs87_1, hs87_5, hs87_72, hs87_73, hs87_74, st86⟩ := hJ85
              refine wp_seq (aA (sg (aY hs87_74 hs87_73 (aE (wp_seq (aR rfl (fun h88 => ?_) (fun h88 => ?_)))))))
              · have h88p := of_decide_eq_true h88
                refine wp_skip (wp_seq (wp_block (wp_seq (aA (sg (aB (v := I (k3 : Int)) hs87_74 ?_))))))
                have hi7dcb8 : k3 < y.runs.length := (by omega)
                have hq_ := idx h6_1 (i := k3) hi7dcb8
                obtain ⟨b89, o89, cs89, f89, hp89, hr89, hc89, hm89⟩ := hq_
                refine sg (aG bV hs87_72 hp89 hs87_74 rfl (sg (bY cY rfl rfl hr89 st86.below (Shape.len hc89) (sg (bN jI st86 ?_))))); intro b90 W91 hb92 st93
                refine sg (aD (v := I (k3 : Int)) rfl (sg (bU (cs := cs89) cY hc89 rfl rfl st93 rfl ?_))); intro W95 st96
                refine aE (wp_seq (aA (sg (bE cY rfl rfl (st96.get 0 rfl) (Shape.len hc89) (sg (bI Tryz.func97 rfl rfl ((RunOkI W95 (cA hc89 st96.below)).mono ?_))))))); rintro _ W97 ⟨rfl, hk98⟩; refine ⟨_, rfl, ?_⟩
                have st99 := St.call st96 hk98
                refine sg (bO rfl (sg (aB (v := .bool (!(dY (y.runs[k3]'hi7dcb8)))) rfl ?_)))
                rcases bd (!(dY (y.runs[k3]'hi7dcb8))) with h101 | h101
                · refine sgo 82 rfl (by decide) (aL rfl h101) (aU (cs := [I y.now, I y.seq, v6_0, v6_1]) cC rfl hs87_1 (st99.get 3 rfl) rfl rfl (sgo 82 rfl (by decide) (aL rfl h101) (aC eU rfl ?_)))
                  have hk102 := hc89
                  obtain ⟨v102_0, v102_1, g102_0, g102_1, rfl, hok102, h102_0, h102_1, rfl⟩ := hk102
                  refine sgo 82 rfl (by decide) (aL rfl h101) (aF aJ rfl rfl (st99.get 0 rfl) (i := 0) rfl rfl (sgo 82 rfl (by decide) (aL rfl h101) (aZ Tryz.func98 rfl rfl rfl ((vJ W97 (cA hc st99.below) (y.runs[k3]'hi7dcb8).id (by omega)).mono ?_)))); rintro _ W103 ⟨rfl, hk104⟩; refine ⟨_, rfl, ?_⟩
                  have st105 := St.call st99 hk104
                  refine sgo 82 rfl (by decide) (aL rfl h101) (aB (v := I (k3 : Int)) rfl (sgo 82 rfl (by decide) (aL rfl h101) (bL rfl rfl (sg (aO (v := .bool (!decide ((hO y (y.runs[k3]'hi7dcb8).id) = (k3 : Int)))) ((rfl : _ = (.bool (!(dY (y.runs[k3]'hi7dcb8))) : Value)).trans (congrArg Value.bool h101)) rfl (sg (aB (v := .bool (!decide ((hO y (y.runs[k3]'hi7dcb8).id) = (k3 : Int)))) rfl ?_)))))))
                  rcases bd (!decide ((hO y (y.runs[k3]'hi7dcb8).id) = (k3 : Int))) with h107 | h107
                  · have h107p := of_decide_eq_true (aX h107)
                    refine sgo 90 rfl (by decide) (aL rfl h107) (aU (cs := [I y.now, I y.seq, v6_0, v6_1]) cC rfl hs87_1 (st105.get 3 rfl) rfl rfl (sgo 90 rfl (by decide) (aL rfl h107) (aU (cs := [I (y.runs[k3]'hi7dcb8).id, I (y.runs[k3]'hi7dcb8).plan.prio, I (y.runs[k3]'hi7dcb8).plan.most, I (y.runs[k3]'hi7dcb8).plan.wait, I (y.runs[k3]'hi7dcb8).plan.tasks, v102_0, I (y.runs[k3]'hi7dcb8).state, v102_1]) cY rfl rfl (st105.get 0 rfl) rfl rfl (sgo 90 rfl (by decide) (aL rfl h107) (aB (v := v34) hs87_5 ?_)))))
                    have hwt := nO (aX h101)
                    refine sgo 90 rfl (by decide) (aL rfl h107) (bS Tryz.func99 rfl rfl rfl rfl ((RunsOkI W103 (cA hc st105.below) (cA hc89 st105.below) (bC (st105.get 2 rfl)) (by omega) (by omega) (by omega)).mono ?_)); rintro _ W108 ⟨rfl, hk109⟩; refine ⟨_, rfl, ?_⟩
                    have st110 := St.call st105 hk109
                    refine sgo 90 rfl (by decide) (aL rfl h107) (bO rfl (sg (aO (v := .bool (!(gG y.now (y.runs[k3]'hi7dcb8) (y.shelf).flatten))) ((rfl : _ = (.bool (!decide ((hO y (y.runs[k3]'hi7dcb8).id) = (k3 : Int))) : Value)).trans (congrArg Value.bool h107)) rfl (aE (aR rfl (fun h112 => ?_) (fun h112 => ?_))))))
                    · refine wp_seq (aA (sg (aD (v := .bool false) rfl (aE (wp_ret ?_))))); repeat first|refine aH ?_|refine aI ?_
                      refine aW Tryz.results46 rfl ?_
                      exact ⟨(congrArg (fun z => Ending.returned (.bool z)) (by unfold eE; rw [dO (by rintro ⟨hz1, hz2, hz3, hz4, hz5, hz6, hz7, hz8, hz9⟩; have hq := (hz8 k3 (by omega) (by omega)).2.2; rw [(aS h112)] at hq; cases hq)])), st110.bare⟩
                    · refine wp_skip (aA (sg (aP hs87_74 rfl (by (simp only [I64] at *; omega)) (sg (aB (v := I ((k3 : Int) + 1)) rfl (aE ?_))))))
                      have st113 := st110.f3
                      have st114 := st113.f3
                      have st115 := st114.f3
                      have st116 := st115.d3
                      exact ⟨_, y.runs.length - (k3 + 1), (by omega), rfl, k3 + 1, (by omega), (fun j hj => by rcases Nat.lt_succ_iff_lt_or_eq.1 hj with h1 | rfl; exact hS4 j h1; exact fun _ => ⟨(aX h101), by omega, (aX h112)⟩), rfl, hs87_1, hs87_5, hs87_72, hs87_73, rfl, st116⟩
                  · have h107p := of_decide_eq_false (aS h107)
                    iterate 3 refine sgf 90 rfl (by decide) (bF rfl h107) ?_
                    have hwt := nO (aX h101)
                    iterate 2 refine sgf 90 rfl (by decide) (bF rfl h107) ?_
                    refine sg (aN (v := .bool true) ((rfl : _ = (.bool (!decide ((hO y (y.runs[k3]'hi7dcb8).id) = (k3 : Int))) : Value)).trans (congrArg Value.bool h107)) rfl (aE (gV rfl rfl (wp_seq (aA (sg (aD (v := .bool false) rfl (aE (wp_ret ?_))))))))); repeat first|refine aH ?_|refine aI ?_
                    refine aW Tryz.results46 rfl ?_
                    exact ⟨(congrArg (fun z => Ending.returned (.bool z)) (by unfold eE; rw [dO (by rintro ⟨hz1, hz2, hz3, hz4, hz5, hz6, hz7, hz8, hz9⟩; have hq := (hz8 k3 (by omega) (by omega)).2.1; omega)])), st105.bare⟩
                · iterate 6 refine sgf 82 rfl (by decide) (bF rfl h101) ?_
                  refine sg (aN (v := .bool true) ((rfl : _ = (.bool (!(dY (y.runs[k3]'hi7dcb8))) : Value)).trans (congrArg Value.bool h101)) rfl (sg (aB (v := .bool true) rfl ?_)))
                  iterate 3 refine sgf 90 rfl (by decide) (bF rfl rfl) ?_
                  skip
                  iterate 2 refine sgf 90 rfl (by decide) (bF rfl rfl) ?_
                  refine sg (aN (v := .bool true) rfl rfl (aE (gV rfl rfl (wp_seq (aA (sg (aD (v := .bool false) rfl (aE (wp_ret ?_))))))))); repeat first|refine aH ?_|refine aI ?_
                  refine aW Tryz.results46 rfl ?_
                  exact ⟨(congrArg (fun z => Ending.returned (.bool z)) (by unfold eE; rw [dO (by rintro ⟨hz1, hz2, hz3, hz4, hz5, hz6, hz7, hz8, hz9⟩; have hq := (hz8 k3 (by omega) (by omega)).1; rw [(aS h101)] at hq; cases hq)])), st99.bare⟩
              · have h88p := of_decide_eq_false h88
                refine wp_exit (wp_seq (aA ?_))
                have hS4 : ∀ j, j < y.runs.length → oK y j := by rw [show k3 = y.runs.length by omega] at hS4; exact hS4
                refine sg (aU (cs := [I y.now, I y.seq, v6_0, v6_1]) cC rfl hs87_1 (st86.get 2 rfl) rfl rfl (sg (bI Tryz.func100 rfl rfl ((SlotsOfI W84 (cA hc st86.below) (by omega)).mono ?_)))); rintro _ W117 ⟨rfl, hk118⟩; refine ⟨_, rfl, ?_⟩
                have st119 := St.call st86 hk118
                refine sg (qH rfl rfl (sg (aD (v := .bool (decide ((iB y) ≤ 40))) rfl (aE ?_))))
                rcases bd (decide ((iB y) ≤ 40)) with h121 | h121
                · have h121p := of_decide_eq_false h121
                  refine wp_ret ?_; repeat first|refine aH ?_|refine aI ?_
                  refine aW Tryz.results46 ((rfl : _ = (.bool (decide ((iB y) ≤ 40)) : Value)).trans (congrArg Value.bool h121)) ?_
                  exact ⟨(congrArg (fun z => Ending.returned (.bool z)) (by unfold eE; rw [dO (by rintro ⟨hz1, hz2, hz3, hz4, hz5, hz6, hz7, hz8, hz9⟩; omega)])), st119.bare⟩
                · have h121p := of_decide_eq_true h121
                  refine wp_ret ?_; repeat first|refine aH ?_|refine aI ?_
                  refine aW Tryz.results46 ((rfl : _ = (.bool (decide ((iB y) ≤ 40)) : Value)).trans (congrArg Value.bool h121)) ?_
                  exact ⟨(congrArg (fun z => Ending.returned (.bool z)) (by unfold eE; rw [gU ⟨by omega, by omega, by omega, by omega, hS1, hS2, hS3, hS4, by omega⟩])), st119.bare⟩
      · have h17p := of_decide_eq_false (aS h17)
        iterate 4 refine sgf 27 rfl (by decide) (bF rfl h17) ?_
        refine sg (aN (v := .bool true) ((rfl : _ = (.bool (!decide ((y.shelf.length : Int) = 4)) : Value)).trans (congrArg Value.bool h17)) rfl (aE (gV rfl rfl (wp_seq (aA (sg (aD (v := .bool false) rfl (aE (wp_ret ?_))))))))); repeat first|refine aH ?_|refine aI ?_
        refine aW Tryz.results46 rfl ?_
        exact ⟨(congrArg (fun z => Ending.returned (.bool z)) (by unfold eE; rw [dO (by rintro ⟨hz1, hz2, hz3, hz4, hz5, hz6, hz7, hz8, hz9⟩; omega)])), st14.bare⟩
    · have h16p := dN (aS h16)
      iterate 4 refine sgf 21 rfl (by decide) (bF rfl h16) ?_
      refine sg (aN (v := .bool true) ((rfl : _ = (.bool (!(inB y.seq 1 1000000000)) : Value)).trans (congrArg Value.bool h16)) rfl (sg (aB (v := .bool true) rfl ?_)))
      iterate 4 refine sgf 27 rfl (by decide) (bF rfl rfl) ?_
      refine sg (aN (v := .bool true) rfl rfl (aE (gV rfl rfl (wp_seq (aA (sg (aD (v := .bool false) rfl (aE (wp_ret ?_))))))))); repeat first|refine aH ?_|refine aI ?_
      refine aW Tryz.results46 rfl ?_
      exact ⟨(congrArg (fun z => Ending.returned (.bool z)) (by unfold eE; rw [dO (by rintro ⟨hz1, hz2, hz3, hz4, hz5, hz6, hz7, hz8, hz9⟩; omega)])), st14.bare⟩
  · have h11p := dN (aS h11)
    iterate 4 refine sgf 15 rfl (by decide) (bF rfl h11) ?_
    refine sg (aN (v := .bool true) ((rfl : _ = (.bool (!(inB y.now 0 999999980)) : Value)).trans (congrArg Value.bool h11)) rfl (sg (aB (v := .bool true) rfl ?_)))
    iterate 4 refine sgf 21 rfl (by decide) (bF rfl rfl) ?_
    refine sg (aN (v := .bool true) rfl rfl (sg (aB (v := .bool true) rfl ?_)))
    iterate 4 refine sgf 27 rfl (by decide) (bF rfl rfl) ?_
    refine sg (aN (v := .bool true) rfl rfl (aE (gV rfl rfl (wp_seq (aA (sg (aD (v := .bool false) rfl (aE (wp_ret ?_))))))))); repeat first|refine aH ?_|refine aI ?_
    refine aW Tryz.results46 rfl ?_
    exact ⟨(congrArg (fun z => Ending.returned (.bool z)) (by unfold eE; rw [dO (by rintro ⟨hz1, hz2, hz3, hz4, hz5, hz6, hz7, hz8, hz9⟩; omega)])), st9.bare⟩
set_option maxHeartbeats 2000000 in
theorem ShelvesS (w : World) {y : Yard} {cs : List Value} {fp : List Nat} (hc : Shape.C w cs y fp) (hsq : 1 ≤ y.seq ∧ y.seq ≤ 1000000000) (hw : y.wt ≤ 1048576) :
    Calls Tryz.prog 88 #[.agg cs.toArray] w fun e w' => e = .returned (.bool (pB (y.shelf.length = 4 ∧ (∀ l ∈ y.shelf, fX l = true) ∧ (∀ e ∈ y.shelf.flatten, 1 ≤ e.seq ∧ e.seq ≤ y.seq - 1) ∧ (y.shelf.flatten.map (·.seq)).Nodup))) ∧ St w w' [] := by
  have hyr : y.runs.length ≤ y.wt := by unfold Yard.wt wtL; omega
  have hys : y.shelf.length ≤ y.wt := by unfold Yard.wt wtL; omega
  have hfw := oR y
  refine dU Tryz.func88 rfl Tryz.ntmps88 (by decide) (wp_seq (aA (sg (aQ (cs := cs) rfl (St.start w) ?_)))); intro b1 W2 hb3 st4
  refine sg (aD (v := .bool false) rfl (aE (wp_seq (wp_seq (aA (sg (aC dG rfl ?_)))))))
  have hk6 := hc
  obtain ⟨v6_0, v6_1, g6_0, g6_1, rfl, hok6, h6_0, h6_1, rfl⟩ := hk6
  refine sg (aF dE rfl rfl (st4.get 0 rfl) (i := 2) rfl rfl (sg (aV cM rfl h6_0 (sg (bL rfl rfl (aE (aR rfl (fun h7 => ?_) (fun h7 => ?_))))))))
  · have h7p := of_decide_eq_false (aS h7)
    refine wp_seq (aA (sg (aD (v := .bool false) rfl (aE (wp_ret ?_))))); repeat first|refine aH ?_|refine aI ?_
    refine aW Tryz.results88 rfl ?_
    exact ⟨(congrArg (fun z => Ending.returned (.bool z)) (by rw [dO (by rintro ⟨hz3, hz5, hz6, hz7⟩; omega)])), st4.bare⟩
  · have h7p := of_decide_eq_true (aX h7)
    refine wp_skip (wp_seq (wp_seq (aA (sg (aD (v := I 0) rfl (aE (wp_block (bH (fun (m : Nat) (f : Nat → Value) (W : World) => ∃ (k : Nat), k ≤ y.shelf.length ∧ (∀ l ∈ y.shelf.take k, fX l = true) ∧ m = y.shelf.length - k ∧ f 1 = .pointer (some ⟨b1, 0, none⟩) ∧ f 3 = I (k : Int) ∧ St w W ([Res.bx b1 [I y.now, I y.seq, v6_0, v6_1] 34])) (y.shelf.length - 0) ?_ ?_))))))))
    · exact ⟨0, (by omega), (by simp), rfl, rfl, rfl, st4⟩
    intro m8 f9 W10 hJ11
    obtain ⟨k, hk, hS1, rfl, hs13_1, hs13_3, st12⟩ := hJ11
    refine wp_seq (wp_seq (aA (sg (aB (v := I (k : Int)) hs13_3 (sg (aC dG hs13_1 (sg (aF dE rfl rfl (st12.get 0 rfl) (i := 2) rfl rfl (sg (aV cM rfl h6_0 (sg (aY rfl rfl (aE (aR rfl (fun h14 => ?_) (fun h14 => ?_)))))))))))))))
    · have h14p := of_decide_eq_true h14
      refine wp_skip (wp_seq (wp_block (wp_seq (aA (sg (aC dG hs13_1 (sg (aF dE rfl rfl (st12.get 0 rfl) (i := 2) rfl rfl (sg (aB (v := I (k : Int)) hs13_3 ?_))))))))))
      have hi019db : k < y.shelf.length := (by omega)
      have hq_ := idx h6_0 (i := k) hi019db
      obtain ⟨b15, o15, cs15, f15, hp15, hr15, hc15, hm15⟩ := hq_
      have hk15 := hc15
      obtain ⟨v16, rfl, h17⟩ := hk15
      refine sg (aG cM rfl hp15 rfl rfl (sg (aK fD rfl rfl hr15 st12.below (i := 0) rfl rfl (sg (bI Tryz.func154 rfl rfl ((ShelfOkS W10 (h17.below st12.below)).mono ?_)))))); rintro _ W18 ⟨rfl, hk19⟩; refine ⟨_, rfl, ?_⟩
      have st20 := St.call st12 hk19
      refine sg (bO rfl (aE (aR rfl (fun h22 => ?_) (fun h22 => ?_))))
      · refine wp_seq (aA (sg (aD (v := .bool false) rfl (aE (wp_ret ?_))))); repeat first|refine aH ?_|refine aI ?_
        refine aW Tryz.results88 rfl ?_
        exact ⟨(congrArg (fun z => Ending.returned (.bool z)) (by rw [dO (by rintro ⟨hz3, hz5, hz6, hz7⟩; have hq := hz5 _ (List.getElem_mem (n := k) (by omega)); rw [(aS h22)] at hq; cases hq)])), st20.bare⟩
      · refine wp_skip (aA (sg (aB (v := I (k : Int)) hs13_3 (sg (aP rfl rfl (by (simp only [I64] at *; omega)) (sg (aD (v := I ((k : Int) + 1)) rfl (aE ?_))))))))
        exact ⟨_, y.shelf.length - (k + 1), (by omega), rfl, k + 1, (by omega), (pA (by omega) hS1 (aX h22)), rfl, hs13_1, rfl, st20⟩
    · have h14p := of_decide_eq_false h14
      refine wp_exit (wp_seq (aA ?_))
      have hS1 : ∀ l ∈ y.shelf, fX l = true := by rw [show k = y.shelf.length by omega, List.take_length] at hS1; exact hS1
      refine sg (aU (cs := [I y.now, I y.seq, v6_0, v6_1]) cC rfl hs13_1 (st12.get 0 rfl) rfl rfl (sg (bI Tryz.func91 rfl rfl ((vA W10 (cA hc st12.below) (by omega)).mono ?_)))); rintro _ W25 ⟨v23, fp23, rfl, hk26⟩; refine ⟨_, rfl, ?_⟩
      have st27 := St.call st12 hk26
      refine sg (aD (v := v23) rfl (aE (wp_seq (wp_seq (aA (sg (aD (v := I 0) rfl (aE (wp_block (bH (fun (m : Nat) (f : Nat → Value) (W : World) => ∃ (k2 : Nat), k2 ≤ y.shelf.flatten.length ∧ (∀ e ∈ y.shelf.flatten.take k2, 1 ≤ e.seq ∧ e.seq ≤ y.seq - 1) ∧ ((y.shelf.flatten.take k2).map (·.seq)).Nodup ∧ m = y.shelf.flatten.length - k2 ∧ f 1 = .pointer (some ⟨b1, 0, none⟩) ∧ f 4 = v23 ∧ f 5 = I (k2 : Int) ∧ St w W ([Res.own (α := List Entry) v23 (y.shelf).flatten fp23, Res.bx b1 [I y.now, I y.seq, v6_0, v6_1] 34])) (y.shelf.flatten.length - 0) ?_ ?_))))))))))
      · exact ⟨0, (by omega), (by simp), (by simp), rfl, hs13_1, rfl, rfl, st27⟩
      intro m29 f30 W31 hJ32
      obtain ⟨k2, hk2, hS2, hS3, rfl, hs34_1, hs34_4, hs34_5, st33⟩ := hJ32
      refine wp_seq (wp_seq (aA (sg (aB (v := I (k2 : Int)) hs34_5 (sg (aB (v := v23) hs34_4 (sg (aV sl_EntryS rfl (bC (st33.get 0 rfl)) (sg (aY rfl rfl (aE (aR rfl (fun h35 => ?_) (fun h35 => ?_)))))))))))))
      · have h35p := of_decide_eq_true h35
        refine wp_skip (wp_seq (wp_block (wp_seq (wp_seq ?_))))
        have hi3bcf4 : k2 < (y.shelf).flatten.length := (by omega)
        have hq_ := idx (bC (st33.get 0 rfl)) (i := k2) hi3bcf4
        obtain ⟨b36, o36, cs36, f36, hp36, hr36, hc36, hm36⟩ := hq_
        have hk37 := hc36
        obtain ⟨he37, rfl, hok37⟩ := hk37
        have he37 : _ = [I ((y.shelf).flatten[k2]'hi3bcf4).prio, I ((y.shelf).flatten[k2]'hi3bcf4).seq, I ((y.shelf).flatten[k2]'hi3bcf4).run, I ((y.shelf).flatten[k2]'hi3bcf4).task] := he37
        subst he37
        refine dI [Pl.is (v23) (Sl.yl (bC (st33.get 0 rfl))), Pl.is (I (k2 : Int)), Pl.is (.pointer (some ⟨b36, o36, none⟩)), Pl.is (.pointer (some ⟨b36, o36 + 1, none⟩)), Pl.is (I ((y.shelf).flatten[k2]'hi3bcf4).seq), Pl.is (.pointer (some ⟨b1, 0 + 1, none⟩)), Pl.is (I y.seq), Pl.is (I (y.seq - 1)), Pl.bool (inB ((y.shelf).flatten[k2]'hi3bcf4).seq 1 (y.seq - 1)), Pl.bool (!(inB ((y.shelf).flatten[k2]'hi3bcf4).seq 1 (y.seq - 1)))] mix (by rfl) st33 ⟨(fun f W hst hbl hd hf => aB (v := v23) ((hf 4 rfl).trans hs34_4) brq), (fun f W hst hbl hd hf => aB (v := I (k2 : Int)) ((hf 5 rfl).trans hs34_5) brq), (fun f W hst hbl hd hf => aG sl_EntryS (hd 0 33 rfl rfl) hp36 (hd 1 34 rfl rfl) rfl brq), (fun f W hst hbl hd hf => aC eR (hd 2 35 rfl rfl) brq), (fun f W hst hbl hd hf => aK aJ rfl (hd 3 36 rfl rfl) hr36 hbl (i := 1) rfl rfl brq), (fun f W hst hbl hd hf => aC eN ((hf 1 rfl).trans hs34_1) brq), (fun f W hst hbl hd hf => aF aJ rfl (hd 5 38 rfl rfl) (hst.get 1 rfl) (i := 1) rfl rfl brq), (fun f W hst hbl hd hf => fI (hd 6 39 rfl rfl) rfl (by (simp only [I64] at *; omega)) brq), (fun f W hst hbl hd hf => bS Tryz.func43 rfl (hd 4 37 rfl rfl) rfl (hd 7 40 rfl rfl) ((fK W ((y.shelf).flatten[k2]'hi3bcf4).seq 1 (y.seq - 1)).mono (by rintro e W2 ⟨rfl, hk⟩; exact ⟨_, rfl, hk.below, rfl⟩))), (fun f W hst hbl hd hf => bO (hd 8 41 rfl rfl) brq), trivial⟩ ?_
        intro f38 W39 st40 hb41 hv42 hf43
        refine aR (hv42 9 42 (by decide) rfl) (fun h44 => ?_) (fun h44 => ?_)
        · have h44p := dN (aS h44)
          refine wp_seq (aA (sg (aD (v := .bool false) rfl (aE (wp_ret ?_))))); repeat first|refine aH ?_|refine aI ?_
          refine aW Tryz.results88 rfl ?_
          exact ⟨(congrArg (fun z => Ending.returned (.bool z)) (by rw [dO (by rintro ⟨hz3, hz5, hz6, hz7⟩; have hq := hz6 _ (List.getElem_mem (n := k2) (by omega)); omega)])), st40.bare⟩
        · have h44p := inB_iff'.1 (aX h44)
          refine wp_skip (wp_seq (aA (sg (aD (v := I 0) rfl (aE (wp_block (bH (fun (m : Nat) (f : Nat → Value) (W : World) => ∃ (j : Nat), k2 < y.shelf.flatten.length ∧ j ≤ k2 ∧ (y.shelf.flatten[k2]'(by omega)).seq ∉ (y.shelf.flatten.take j).map (·.seq) ∧ m = k2 - j ∧ f 1 = .pointer (some ⟨b1, 0, none⟩) ∧ f 4 = v23 ∧ f 5 = I (k2 : Int) ∧ f 6 = I (j : Int) ∧ St w W ([Res.own (α := List Entry) v23 (y.shelf).flatten fp23, Res.bx b1 [I y.now, I y.seq, v6_0, v6_1] 34])) (k2 - 0) ?_ ?_)))))))
          · exact ⟨0, (by omega), (by omega), (by simp), rfl, ((hf43 1 rfl).trans hs34_1), ((hf43 4 rfl).trans hs34_4), ((hf43 5 rfl).trans hs34_5), rfl, st40⟩
          intro m45 f46 W47 hJ48
          obtain ⟨j, hk2b, hj, hJ, rfl, hs50_1, hs50_4, hs50_5, hs50_6, st49⟩ := hJ48
          refine wp_seq (wp_seq (aA (sg (aB (v := I (j : Int)) hs50_6 (sg (aB (v := I (k2 : Int)) hs50_5 (sg (aY rfl rfl (aE (aR rfl (fun h51 => ?_) (fun h51 => ?_)))))))))))
          · have h51p := of_decide_eq_true h51
            refine wp_skip (wp_seq (wp_block (wp_seq ?_)))
            have hi2a04a : j < (y.shelf).flatten.length := (by omega)
            have hq_ := idx (bC (st49.get 0 rfl)) (i := j) hi2a04a
            obtain ⟨b52, o52, cs52, f52, hp52, hr52, hc52, hm52⟩ := hq_
            have hk53 := hc52
            obtain ⟨he53, rfl, hok53⟩ := hk53
            have he53 : _ = [I ((y.shelf).flatten[j]'hi2a04a).prio, I ((y.shelf).flatten[j]'hi2a04a).seq, I ((y.shelf).flatten[j]'hi2a04a).run, I ((y.shelf).flatten[j]'hi2a04a).task] := he53
            subst he53
            have hi3bcf4 : k2 < (y.shelf).flatten.length := (by omega)
            have hq_ := idx (bC (st49.get 0 rfl)) (i := k2) hi3bcf4
            obtain ⟨b54, o54, cs54, f54, hp54, hr54, hc54, hm54⟩ := hq_
            have hk55 := hc54
            obtain ⟨he55, rfl, hok55⟩ := hk55
            have he55 : _ = [I ((y.shelf).flatten[k2]'hi3bcf4).prio, I ((y.shelf).flatten[k2]'hi3bcf4).seq, I ((y.shelf).flatten[k2]'hi3bcf4).run, I ((y.shelf).flatten[k2]'hi3bcf4).task] := he55
            subst he55
            refine dI [Pl.is (v23) (Sl.yl (bC (st49.get 0 rfl))), Pl.is (I (j : Int)), Pl.is (.pointer (some ⟨b52, o52, none⟩)), Pl.is (.pointer (some ⟨b52, o52 + 1, none⟩)), Pl.is (I ((y.shelf).flatten[j]'hi2a04a).seq), Pl.is (v23) (Sl.yl (bC (st49.get 0 rfl))), Pl.is (I (k2 : Int)), Pl.is (.pointer (some ⟨b54, o54, none⟩)), Pl.is (.pointer (some ⟨b54, o54 + 1, none⟩)), Pl.is (I ((y.shelf).flatten[k2]'hi3bcf4).seq), Pl.bool (decide (((y.shelf).flatten[j]'hi2a04a).seq = ((y.shelf).flatten[k2]'hi3bcf4).seq))] mix (by rfl) st49 ⟨(fun f W hst hbl hd hf => aB (v := v23) ((hf 4 rfl).trans hs50_4) brq), (fun f W hst hbl hd hf => aB (v := I (j : Int)) ((hf 6 rfl).trans hs50_6) brq), (fun f W hst hbl hd hf => aG sl_EntryS (hd 0 48 rfl rfl) hp52 (hd 1 49 rfl rfl) rfl brq), (fun f W hst hbl hd hf => aC eR (hd 2 50 rfl rfl) brq), (fun f W hst hbl hd hf => aK aJ rfl (hd 3 51 rfl rfl) hr52 hbl (i := 1) rfl rfl brq), (fun f W hst hbl hd hf => aB (v := v23) ((hf 4 rfl).trans hs50_4) brq), (fun f W hst hbl hd hf => aB (v := I (k2 : Int)) ((hf 5 rfl).trans hs50_5) brq), (fun f W hst hbl hd hf => aG sl_EntryS (hd 5 53 rfl rfl) hp54 (hd 6 54 rfl rfl) rfl brq), (fun f W hst hbl hd hf => aC eR (hd 7 55 rfl rfl) brq), (fun f W hst hbl hd hf => aK aJ rfl (hd 8 56 rfl rfl) hr54 hbl (i := 1) rfl rfl brq), (fun f W hst hbl hd hf => bA (hd 4 52 rfl rfl) (hd 9 57 rfl rfl) brq), trivial⟩ ?_
            intro f56 W57 st58 hb59 hv60 hf61
            refine aR (hv60 10 58 (by decide) rfl) (fun h62 => ?_) (fun h62 => ?_)
            · have h62p := of_decide_eq_true h62
              refine wp_seq (aA (sg (aD (v := .bool false) rfl (aE (wp_ret ?_))))); repeat first|refine aH ?_|refine aI ?_
              refine aW Tryz.results88 rfl ?_
              exact ⟨(congrArg (fun z => Ending.returned (.bool z)) (by rw [dO (by rintro ⟨hz3, hz5, hz6, hz7⟩; exact nJ (k := k2) (by omega) (by rw [← h62p]; exact List.mem_map_of_mem (qB (by omega) (by omega))) hz7)])), st58.bare⟩
            · have h62p := of_decide_eq_false h62
              refine wp_skip (aA (sg (aB (v := I (j : Int)) ((hf61 6 rfl).trans hs50_6) (sg (aP rfl rfl (by (simp only [I64] at *; omega)) (sg (aD (v := I ((j : Int) + 1)) rfl (aE ?_))))))))
              exact ⟨_, k2 - (j + 1), (by omega), rfl, j + 1, (by omega), (by omega), (by rw [oP _ (by omega), List.mem_append]; rintro (hq | hq); exact hJ hq; rw [List.mem_singleton] at hq; exact h62p hq.symm), rfl, ((hf61 1 rfl).trans hs50_1), ((hf61 4 rfl).trans hs50_4), ((hf61 5 rfl).trans hs50_5), rfl, st58⟩
          · have h51p := of_decide_eq_false h51
            refine wp_exit (aA (sg (aB (v := I (k2 : Int)) hs50_5 (sg (aP rfl rfl (by (simp only [I64] at *; omega)) (sg (aD (v := I ((k2 : Int) + 1)) rfl (aE ?_))))))))
            exact ⟨_, y.shelf.flatten.length - (k2 + 1), (by omega), rfl, k2 + 1, (by omega), (pA (by omega) hS2 (by omega)), (mJ (by omega) hS3 (by rw [show j = k2 by omega] at hJ; exact hJ)), rfl, hs50_1, hs50_4, rfl, st49⟩
      · have h35p := of_decide_eq_false h35
        refine wp_exit (wp_seq (aA (sg (aD (v := .bool true) rfl (aE (wp_ret ?_)))))); repeat first|refine aH ?_|refine aI ?_
        refine aW Tryz.results88 rfl ?_
        have hS2 : ∀ e ∈ y.shelf.flatten, 1 ≤ e.seq ∧ e.seq ≤ y.seq - 1 := by rw [show k2 = y.shelf.flatten.length by omega, List.take_length] at hS2; exact hS2
        have hS3 : (y.shelf.flatten.map (·.seq)).Nodup := by rw [show k2 = y.shelf.flatten.length by omega, List.take_length] at hS3; exact hS3
        exact ⟨(congrArg (fun z => Ending.returned (.bool z)) (by rw [gU ⟨by omega, hS1, hS2, hS3⟩])), st33.bare⟩
set_option maxHeartbeats 2000000 in
theorem wB (w : World) {y : Yard} {cs : List Value} {fp : List Nat} (hc : Shape.C w cs y fp) (hw : y.wt ≤ 1048576) :
    Calls Tryz.prog 42 #[.agg cs.toArray] w fun e w' => e = .returned (.bool (eE y)) ∧ St w w' [] := by
  have hyr : y.runs.length ≤ y.wt := by unfold Yard.wt wtL; omega
  have hys : y.shelf.length ≤ y.wt := by unfold Yard.wt wtL; omega
  have hfw := oR y
  refine dU Tryz.func42 rfl Tryz.ntmps42 (by decide) (wp_seq (aA (sg (aQ (cs := cs) rfl (St.start w) ?_)))); intro b1 W2 hb3 st4
  refine sg (aD (v := .bool false) rfl (aE (wp_seq (wp_seq (aA (sg (aC fE rfl ?_)))))))
  have hk6 := hc
  obtain ⟨v6_0, v6_1, g6_0, g6_1, rfl, hok6, h6_0, h6_1, rfl⟩ := hk6
  refine sg (aF aJ rfl rfl (st4.get 0 rfl) (i := 0) rfl rfl (sg (bS Tryz.func43 rfl rfl rfl rfl ((fK W2 y.now 0 999999980).mono ?_)))); rintro _ W7 ⟨rfl, hk8⟩; refine ⟨_, rfl, ?_⟩
  have st9 := St.call st4 hk8
  refine sg (bO rfl (sg (aB (v := .bool (!(inB y.now 0 999999980))) rfl ?_)))
  rcases bd (!(inB y.now 0 999999980)) with h11 | h11
  · have h11p := inB_iff'.1 (aX h11)
    refine sgo 10 rfl (by decide) (aL rfl h11) (aC eN rfl (sgo 10 rfl (by decide) (aL rfl h11) (aF aJ rfl rfl (st9.get 0 rfl) (i := 1) rfl rfl (sgo 10 rfl (by decide) (aL rfl h11) (bS Tryz.func43 rfl rfl rfl rfl ((fK W7 y.seq 1 1000000000).mono ?_)))))); rintro _ W12 ⟨rfl, hk13⟩; refine ⟨_, rfl, ?_⟩
    have st14 := St.call st9 hk13
    refine sgo 10 rfl (by decide) (aL rfl h11) (bO rfl (sg (aO (v := .bool (!(inB y.seq 1 1000000000))) ((rfl : _ = (.bool (!(inB y.now 0 999999980)) : Value)).trans (congrArg Value.bool h11)) rfl (sg (aB (v := .bool (!(inB y.seq 1 1000000000))) rfl ?_)))))
    rcases bd (!(inB y.seq 1 1000000000)) with h16 | h16
    · have h16p := inB_iff'.1 (aX h16)
      refine sgo 16 rfl (by decide) (aL rfl h16) (aC bW rfl (sgo 16 rfl (by decide) (aL rfl h16) (aF cV rfl rfl (st14.get 0 rfl) (i := 3) rfl rfl (sgo 16 rfl (by decide) (aL rfl h16) (aV bV rfl h6_1 (sgo 16 rfl (by decide) (aL rfl h16) (fV rfl rfl (sg (aO (v := .bool (decide (8 < (y.runs.length : Int)))) ((rfl : _ = (.bool (!(inB y.seq 1 1000000000)) : Value)).trans (congrArg Value.bool h16)) rfl (sg (aB (v := .bool (decide (8 < (y.runs.length : Int)))) rfl ?_)))))))))))
      rcases bd (decide (8 < (y.runs.length : Int))) with h17 | h17
      · have h17p := of_decide_eq_false h17
        refine sgo 22 rfl (by decide) (aL rfl h17) (aU (cs := [I y.now, I y.seq, v6_0, v6_1]) cC rfl rfl (st14.get 0 rfl) rfl rfl (sgo 22 rfl (by decide) (aL rfl h17) (bI Tryz.func88 rfl rfl ((ShelvesS W12 (cA hc st14.below) (by omega) (by omega)).mono ?_)))); rintro _ W18 ⟨rfl, hk19⟩; refine ⟨_, rfl, ?_⟩
        have st20 := St.call st14 hk19
        refine sgo 22 rfl (by decide) (aL rfl h17) (bO rfl (sg (aO (v := .bool (!(pB (y.shelf.length = 4 ∧ (∀ l ∈ y.shelf, fX l = true) ∧ (∀ e ∈ y.shelf.flatten, 1 ≤ e.seq ∧ e.seq ≤ y.seq - 1) ∧ (y.shelf.flatten.map (·.seq)).Nodup)))) ((rfl : _ = (.bool (decide (8 < (y.runs.length : Int))) : Value)).trans (congrArg Value.bool h17)) rfl (aE (aR rfl (fun h22 => ?_) (fun h22 => ?_))))))
        · refine wp_seq (aA (sg (aD (v := .bool false) rfl (aE (wp_ret ?_))))); repeat first|refine aH ?_|refine aI ?_
          refine aW Tryz.results42 rfl ?_
          exact ⟨(congrArg (fun z => Ending.returned (.bool z)) (by unfold eE; rw [dO (by rintro ⟨hz1, hz2, hz3, hz4, hz5, hz6, hz7, hz8, hz9⟩; exact vG (aS h22) ⟨hz3, hz5, hz6, hz7⟩)])), st20.bare⟩
        · refine wp_skip (wp_seq (wp_seq (aA ?_)))
          have hSH := pB_iff.1 (aX h22)
          refine sg (aD (v := I 0) rfl (aE (wp_block (bH (fun (m : Nat) (f : Nat → Value) (W : World) => ∃ (k3 : Nat), k3 ≤ y.runs.length ∧ (∀ j, j < k3 → ∀ h : j < y.runs.length, dY y.runs[j] = true ∧ hO y y.runs[j].id = (j : Int)) ∧ m = y.runs.length - k3 ∧ f 1 = .pointer (some ⟨b1, 0, none⟩) ∧ f 3 = I (k3 : Int) ∧ St w W ([Res.bx b1 [I y.now, I y.seq, v6_0, v6_1] 34])) (y.runs.length - 0) ?_ ?_))))
          · exact ⟨0, (by omega), (fun j hj => absurd hj (Nat.not_lt_zero j)), rfl, rfl, rfl, st20⟩
          intro m23 f24 W25 hJ26
          obtain ⟨k3, hk3, hS3, rfl, hs28_1, hs28_3, st27⟩ := hJ26
          refine wp_seq (wp_seq (aA (sg (aB (v := I (k3 : Int)) hs28_3 (sg (aC bW hs28_1 (sg (aF cV rfl rfl (st27.get 0 rfl) (i := 3) rfl rfl (sg (aV bV rfl h6_1 (sg (aY rfl rfl (aE (aR rfl (fun h29 => ?_) (fun h29 => ?_)))))))))))))))
          · have h29p := of_decide_eq_true h29
            refine wp_skip (wp_seq (wp_block (wp_seq ?_)))
            have hi7dcb8 : k3 < y.runs.length := (by omega)
            rcases bd (!(dY (y.runs[k3]'hi7dcb8))) with h32 | h32
            · have hi7dcb8 : k3 < y.runs.length := (by omega)
              have hq_ := idx h6_1 (i := k3) hi7dcb8
              obtain ⟨b33, o33, cs33, f33, hp33, hr33, hc33, hm33⟩ := hq_
              have hk34 := hc33
              obtain ⟨v34_0, v34_1, g34_0, g34_1, rfl, hok34, h34_0, h34_1, rfl⟩ := hk34
              refine dI [Pl.is (.pointer (some ⟨b1, 0 + 3, none⟩)), Pl.is (v6_1) (Sl.yl h6_1), Pl.is (I (k3 : Int)), Pl.is (.pointer (some ⟨b33, o33, none⟩)), Pl.is (.agg #[I (y.runs[k3]'hi7dcb8).id, I (y.runs[k3]'hi7dcb8).plan.prio, I (y.runs[k3]'hi7dcb8).plan.most, I (y.runs[k3]'hi7dcb8).plan.wait, I (y.runs[k3]'hi7dcb8).plan.tasks, v34_0, I (y.runs[k3]'hi7dcb8).state, v34_1]), Pl.bool (dY (y.runs[k3]'hi7dcb8)), Pl.bool false, Pl.bool false, Pl.is (.agg #[I y.now, I y.seq, v6_0, v6_1]), Pl.is (.pointer (some ⟨b1, 0 + 3, none⟩)), Pl.is (v6_1) (Sl.yl h6_1), Pl.is (I (k3 : Int)), Pl.is (.pointer (some ⟨b33, o33, none⟩)), Pl.is (.pointer (some ⟨b33, o33 + 0, none⟩)), Pl.is (I (y.runs[k3]'hi7dcb8).id), Pl.is (I (hO y (y.runs[k3]'hi7dcb8).id)), Pl.is (I (k3 : Int)), Pl.bool (!decide ((hO y (y.runs[k3]'hi7dcb8).id) = (k3 : Int))), Pl.bool (!decide ((hO y (y.runs[k3]'hi7dcb8).id) = (k3 : Int)))] mix (by rfl) st27 ⟨(fun f W hst hbl hd hf => aC bW ((hf 1 rfl).trans hs28_1) brq), (fun f W hst hbl hd hf => aF cV rfl (hd 0 34 rfl rfl) (hst.get 0 rfl) (i := 3) rfl rfl brq), (fun f W hst hbl hd hf => aB (v := I (k3 : Int)) ((hf 3 rfl).trans hs28_3) brq), (fun f W hst hbl hd hf => aG bV (hd 1 35 rfl rfl) hp33 (hd 2 36 rfl rfl) rfl brq), (fun f W hst hbl hd hf => cS (cs := [I (y.runs[k3]'hi7dcb8).id, I (y.runs[k3]'hi7dcb8).plan.prio, I (y.runs[k3]'hi7dcb8).plan.most, I (y.runs[k3]'hi7dcb8).plan.wait, I (y.runs[k3]'hi7dcb8).plan.tasks, v34_0, I (y.runs[k3]'hi7dcb8).state, v34_1]) cY rfl (hd 3 37 rfl rfl) hr33 hst.below (i := 0) rfl rfl rfl brq), (fun f W hst hbl hd hf => bI Tryz.func89 rfl (hd 4 38 rfl rfl) ((vH W (cA hc33 hst.below)).mono (by rintro e W2 ⟨rfl, hk⟩; exact ⟨_, rfl, hk.below, rfl⟩))), (fun f W hst hbl hd hf => bO (hd 5 39 rfl rfl) ⟨Below.refl _ _, congrArg Value.bool h32⟩), (fun f W hst hbl hd hf => aB (v := .bool false) (hd 6 40 rfl rfl) brq), (fun f W hst hbl hd hf => aU (cs := [I y.now, I y.seq, v6_0, v6_1]) cC rfl ((hf 1 rfl).trans hs28_1) (hst.get 0 rfl) rfl rfl brq), (fun f W hst hbl hd hf => aC bW ((hf 1 rfl).trans hs28_1) brq), (fun f W hst hbl hd hf => aF cV rfl (hd 9 43 rfl rfl) (hst.get 0 rfl) (i := 3) rfl rfl brq), (fun f W hst hbl hd hf => aB (v := I (k3 : Int)) ((hf 3 rfl).trans hs28_3) brq), (fun f W hst hbl hd hf => aG bV (hd 10 44 rfl rfl) hp33 (hd 11 45 rfl rfl) rfl brq), (fun f W hst hbl hd hf => aC eU (hd 12 46 rfl rfl) brq), (fun f W hst hbl hd hf => aK aJ rfl (hd 13 47 rfl rfl) hr33 hst.below (i := 0) rfl rfl brq), (fun f W hst hbl hd hf => aZ Tryz.func90 rfl (hd 8 42 rfl rfl) (hd 14 48 rfl rfl) ((vI W (cA hc hst.below) (y.runs[k3]'hi7dcb8).id (by omega)).mono (by rintro e W2 ⟨rfl, hk⟩; exact ⟨_, rfl, hk.below, rfl⟩))), (fun f W hst hbl hd hf => aB (v := I (k3 : Int)) ((hf 3 rfl).trans hs28_3) brq), (fun f W hst hbl hd hf => bL (hd 15 49 rfl rfl) (hd 16 50 rfl rfl) brq), (fun f W hst hbl hd hf => aO (v := .bool (!decide ((hO y (y.runs[k3]'hi7dcb8).id) = (k3 : Int)))) (hd 7 41 rfl rfl) (hd 17 51 rfl rfl) brq), trivial⟩ ?_
              intro f35 W36 st37 hb38 hv39 hf40
              refine aR (hv39 18 52 (by decide) rfl) (fun h41 => ?_) (fun h41 => ?_)
              · have h41p := of_decide_eq_false (aS h41)
                refine wp_seq (aA (sg (aD (v := .bool false) rfl (aE (wp_ret ?_))))); repeat first|refine aH ?_|refine aI ?_
                refine aW Tryz.results42 rfl ?_
                exact ⟨(congrArg (fun z => Ending.returned (.bool z)) (by unfold eE; rw [dO (by rintro ⟨hz1, hz2, hz3, hz4, hz5, hz6, hz7, hz8, hz9⟩; have hq := (hz8 k3 (by omega) (by omega)).2.1; omega)])), st37.bare⟩
              · have h41p := of_decide_eq_true (aX h41)
                refine wp_skip (aA (sg (aB (v := I (k3 : Int)) ((hf40 3 rfl).trans hs28_3) (sg (aP rfl rfl (by (simp only [I64] at *; omega)) ?_)))))
                skip
                refine sg (aD (v := I ((k3 : Int) + 1)) rfl (aE ?_))
                exact ⟨_, y.runs.length - (k3 + 1), (by omega), rfl, k3 + 1, (by omega), (fun j hj => by rcases Nat.lt_succ_iff_lt_or_eq.1 hj with h1 | rfl; exact hS3 j h1; exact fun _ => ⟨(aX h32), by omega⟩), rfl, ((hf40 1 rfl).trans hs28_1), rfl, st37⟩
            · have hi7dcb8 : k3 < y.runs.length := (by omega)
              have hq_ := idx h6_1 (i := k3) hi7dcb8
              obtain ⟨b42, o42, cs42, f42, hp42, hr42, hc42, hm42⟩ := hq_
              have hk43 := hc42
              obtain ⟨v43_0, v43_1, g43_0, g43_1, rfl, hok43, h43_0, h43_1, rfl⟩ := hk43
              refine dI [Pl.is (.pointer (some ⟨b1, 0 + 3, none⟩)), Pl.is (v6_1) (Sl.yl h6_1), Pl.is (I (k3 : Int)), Pl.is (.pointer (some ⟨b42, o42, none⟩)), Pl.is (.agg #[I (y.runs[k3]'hi7dcb8).id, I (y.runs[k3]'hi7dcb8).plan.prio, I (y.runs[k3]'hi7dcb8).plan.most, I (y.runs[k3]'hi7dcb8).plan.wait, I (y.runs[k3]'hi7dcb8).plan.tasks, v43_0, I (y.runs[k3]'hi7dcb8).state, v43_1]), Pl.bool (dY (y.runs[k3]'hi7dcb8)), Pl.bool true, Pl.bool true, Pl.off, Pl.off, Pl.off, Pl.off, Pl.off, Pl.off, Pl.off, Pl.off, Pl.off, Pl.off, Pl.bool true] mix (by rfl) st27 ⟨(fun f W hst hbl hd hf => aC bW ((hf 1 rfl).trans hs28_1) brq), (fun f W hst hbl hd hf => aF cV rfl (hd 0 34 rfl rfl) (hst.get 0 rfl) (i := 3) rfl rfl brq), (fun f W hst hbl hd hf => aB (v := I (k3 : Int)) ((hf 3 rfl).trans hs28_3) brq), (fun f W hst hbl hd hf => aG bV (hd 1 35 rfl rfl) hp42 (hd 2 36 rfl rfl) rfl brq), (fun f W hst hbl hd hf => cS (cs := [I (y.runs[k3]'hi7dcb8).id, I (y.runs[k3]'hi7dcb8).plan.prio, I (y.runs[k3]'hi7dcb8).plan.most, I (y.runs[k3]'hi7dcb8).plan.wait, I (y.runs[k3]'hi7dcb8).plan.tasks, v43_0, I (y.runs[k3]'hi7dcb8).state, v43_1]) cY rfl (hd 3 37 rfl rfl) hr42 hst.below (i := 0) rfl rfl rfl brq), (fun f W hst hbl hd hf => bI Tryz.func89 rfl (hd 4 38 rfl rfl) ((vH W (cA hc42 hst.below)).mono (by rintro e W2 ⟨rfl, hk⟩; exact ⟨_, rfl, hk.below, rfl⟩))), (fun f W hst hbl hd hf => bO (hd 5 39 rfl rfl) ⟨Below.refl _ _, congrArg Value.bool h32⟩), (fun f W hst hbl hd hf => aB (v := .bool true) (hd 6 40 rfl rfl) brq), (fun f W hst hbl hd hf => rfl), (fun f W hst hbl hd hf => rfl), (fun f W hst hbl hd hf => rfl), (fun f W hst hbl hd hf => rfl), (fun f W hst hbl hd hf => rfl), (fun f W hst hbl hd hf => rfl), (fun f W hst hbl hd hf => rfl), (fun f W hst hbl hd hf => rfl), (fun f W hst hbl hd hf => rfl), (fun f W hst hbl hd hf => rfl), (fun f W hst hbl hd hf => aN (v := .bool true) (hd 7 41 rfl rfl) rfl brq), trivial⟩ ?_
              intro f44 W45 st46 hb47 hv48 hf49
              refine gV (hv48 18 52 (by decide) rfl) rfl (wp_seq (aA (sg (aD (v := .bool false) rfl (aE (wp_ret ?_)))))); repeat first|refine aH ?_|refine aI ?_
              refine aW Tryz.results42 rfl ?_
              exact ⟨(congrArg (fun z => Ending.returned (.bool z)) (by unfold eE; rw [dO (by rintro ⟨hz1, hz2, hz3, hz4, hz5, hz6, hz7, hz8, hz9⟩; have hq := (hz8 k3 (by omega) (by omega)).1; rw [(aS h32)] at hq; cases hq)])), st46.bare⟩
          · have h29p := of_decide_eq_false h29
            refine wp_exit (wp_seq (aA (sg (aU (cs := [I y.now, I y.seq, v6_0, v6_1]) cC rfl hs28_1 (st27.get 0 rfl) rfl rfl (sg (bI Tryz.func91 rfl rfl ((vA W25 (cA hc st27.below) (by omega)).mono ?_))))))); rintro _ W52 ⟨v50, fp50, rfl, hk53⟩; refine ⟨_, rfl, ?_⟩
            have st54 := St.call st27 hk53
            refine sg (aD (v := v50) rfl (aE (wp_seq (wp_seq (aA (sg (aD (v := I 0) rfl (aE (wp_block (bH (fun (m : Nat) (f : Nat → Value) (W : World) => ∃ (k4 : Nat), k4 ≤ y.runs.length ∧ (∀ j, j < k4 → oK y j) ∧ m = y.runs.length - k4 ∧ f 1 = .pointer (some ⟨b1, 0, none⟩) ∧ f 4 = v50 ∧ f 5 = I (k4 : Int) ∧ St w W ([Res.own (α := List Entry) v50 (y.shelf).flatten fp50, Res.bx b1 [I y.now, I y.seq, v6_0, v6_1] 34])) (y.runs.length - 0) ?_ ?_))))))))))
            · exact ⟨0, (by omega), (fun j hj => absurd hj (Nat.not_lt_zero j)), rfl, hs28_1, rfl, rfl, st54⟩
            intro m56 f57 W58 hJ59
            obtain ⟨k4, hk4, hS4, rfl, hs61_1, hs61_4, hs61_5, st60⟩ := hJ59
            refine wp_seq (wp_seq (aA (sg (aB (v := I (k4 : Int)) hs61_5 (sg (aC bW hs61_1 (sg (aF cV rfl rfl (st60.get 1 rfl) (i := 3) rfl rfl (sg (aV bV rfl h6_1 (sg (aY rfl rfl (aE (aR rfl (fun h62 => ?_) (fun h62 => ?_)))))))))))))))
            · have h62p := of_decide_eq_true h62
              refine wp_skip (wp_seq (wp_block (wp_seq ?_)))
              have hwt := nO (hS3 k4 (by omega) (by omega)).1
              have hi68dc9 : k4 < y.runs.length := (by omega)
              have hq_ := idx h6_1 (i := k4) hi68dc9
              obtain ⟨b63, o63, cs63, f63, hp63, hr63, hc63, hm63⟩ := hq_
              refine dI [Pl.is (.agg #[I y.now, I y.seq, v6_0, v6_1]), Pl.is (.pointer (some ⟨b1, 0 + 3, none⟩)), Pl.is (v6_1) (Sl.yl h6_1), Pl.is (I (k4 : Int)), Pl.is (.pointer (some ⟨b63, o63, none⟩)), Pl.is (.agg cs63.toArray), Pl.is (v50) (Sl.yl (bC (st60.get 0 rfl))), Pl.bool (gG y.now (y.runs[k4]'hi68dc9) (y.shelf).flatten), Pl.bool (!(gG y.now (y.runs[k4]'hi68dc9) (y.shelf).flatten))] mix (by rfl) st60 ⟨(fun f W hst hbl hd hf => aU (cs := [I y.now, I y.seq, v6_0, v6_1]) cC rfl ((hf 1 rfl).trans hs61_1) (hst.get 1 rfl) rfl rfl brq), (fun f W hst hbl hd hf => aC bW ((hf 1 rfl).trans hs61_1) brq), (fun f W hst hbl hd hf => aF cV rfl (hd 1 63 rfl rfl) (hst.get 1 rfl) (i := 3) rfl rfl brq), (fun f W hst hbl hd hf => aB (v := I (k4 : Int)) ((hf 5 rfl).trans hs61_5) brq), (fun f W hst hbl hd hf => aG bV (hd 2 64 rfl rfl) hp63 (hd 3 65 rfl rfl) rfl brq), (fun f W hst hbl hd hf => bY cY rfl (hd 4 66 rfl rfl) hr63 hst.below (Shape.len hc63) brq), (fun f W hst hbl hd hf => aB (v := v50) ((hf 4 rfl).trans hs61_4) brq), (fun f W hst hbl hd hf => bS Tryz.func92 rfl (hd 0 62 rfl rfl) (hd 5 67 rfl rfl) (hd 6 68 rfl rfl) ((RunsOkS W (cA hc hst.below) (cA hc63 hst.below) (bC (hst.get 0 rfl)) (by omega) (by omega) (by omega)).mono (by rintro e W2 ⟨rfl, hk⟩; exact ⟨_, rfl, hk.below, rfl⟩))), (fun f W hst hbl hd hf => bO (hd 7 69 rfl rfl) brq), trivial⟩ ?_
              intro f64 W65 st66 hb67 hv68 hf69
              refine aR (hv68 8 70 (by decide) rfl) (fun h70 => ?_) (fun h70 => ?_)
              · refine wp_seq (aA (sg (aD (v := .bool false) rfl (aE (wp_ret ?_))))); repeat first|refine aH ?_|refine aI ?_
                refine aW Tryz.results42 rfl ?_
                exact ⟨(congrArg (fun z => Ending.returned (.bool z)) (by unfold eE; rw [dO (by rintro ⟨hz1, hz2, hz3, hz4, hz5, hz6, hz7, hz8, hz9⟩; have hq := (hz8 k4 (by omega) (by omega)).2.2; rw [(aS h70)] at hq; cases hq)])), st66.bare⟩
              · refine wp_skip (aA (sg (aB (v := I (k4 : Int)) ((hf69 5 rfl).trans hs61_5) (sg (aP rfl rfl (by (simp only [I64] at *; omega)) (sg (aD (v := I ((k4 : Int) + 1)) rfl (aE ?_))))))))
                exact ⟨_, y.runs.length - (k4 + 1), (by omega), rfl, k4 + 1, (by omega), (fun j hj => by rcases Nat.lt_succ_iff_lt_or_eq.1 hj with h1 | rfl; exact hS4 j h1; exact fun _ => ⟨(hS3 _ (by omega) (by omega)).1, (hS3 _ (by omega) (by omega)).2, (aX h70)⟩), rfl, ((hf69 1 rfl).trans hs61_1), ((hf69 4 rfl).trans hs61_4), rfl, st66⟩
            · have h62p := of_decide_eq_false h62
              refine wp_exit (wp_seq (aA ?_))
              have hS4 : ∀ j, j < y.runs.length → oK y j := by rw [show k4 = y.runs.length by omega] at hS4; exact hS4
              refine sg (aU (cs := [I y.now, I y.seq, v6_0, v6_1]) cC rfl hs61_1 (st60.get 1 rfl) rfl rfl (sg (bI Tryz.func93 rfl rfl ((SlotsOfS W58 (cA hc st60.below) (by omega)).mono ?_)))); rintro _ W71 ⟨rfl, hk72⟩; refine ⟨_, rfl, ?_⟩
              have st73 := St.call st60 hk72
              refine sg (qH rfl rfl (sg (aD (v := .bool (decide ((iB y) ≤ 40))) rfl (aE ?_))))
              rcases bd (decide ((iB y) ≤ 40)) with h75 | h75
              · have h75p := of_decide_eq_false h75
                refine wp_ret ?_; repeat first|refine aH ?_|refine aI ?_
                refine aW Tryz.results42 ((rfl : _ = (.bool (decide ((iB y) ≤ 40)) : Value)).trans (congrArg Value.bool h75)) ?_
                exact ⟨(congrArg (fun z => Ending.returned (.bool z)) (by unfold eE; rw [dO (by rintro ⟨hz1, hz2, hz3, hz4, hz5, hz6, hz7, hz8, hz9⟩; omega)])), st73.bare⟩
              · have h75p := of_decide_eq_true h75
                refine wp_ret ?_; repeat first|refine aH ?_|refine aI ?_
                refine aW Tryz.results42 ((rfl : _ = (.bool (decide ((iB y) ≤ 40)) : Value)).trans (congrArg Value.bool h75)) ?_
                exact ⟨(congrArg (fun z => Ending.returned (.bool z)) (by unfold eE; rw [gU ⟨by omega, by omega, hSH.1, by omega, hSH.2.1, hSH.2.2.1, hSH.2.2.2, hS4, by omega⟩])), st73.bare⟩
      · have h17p := of_decide_eq_true h17
        iterate 3 refine sgf 22 rfl (by decide) (bF rfl h17) ?_
        refine sg (aN (v := .bool true) ((rfl : _ = (.bool (decide (8 < (y.runs.length : Int))) : Value)).trans (congrArg Value.bool h17)) rfl (aE (gV rfl rfl (wp_seq (aA (sg (aD (v := .bool false) rfl (aE (wp_ret ?_))))))))); repeat first|refine aH ?_|refine aI ?_
        refine aW Tryz.results42 rfl ?_
        exact ⟨(congrArg (fun z => Ending.returned (.bool z)) (by unfold eE; rw [dO (by rintro ⟨hz1, hz2, hz3, hz4, hz5, hz6, hz7, hz8, hz9⟩; omega)])), st14.bare⟩
    · have h16p := dN (aS h16)
      iterate 4 refine sgf 16 rfl (by decide) (bF rfl h16) ?_
      refine sg (aN (v := .bool true) ((rfl : _ = (.bool (!(inB y.seq 1 1000000000)) : Value)).trans (congrArg Value.bool h16)) rfl (sg (aB (v := .bool true) rfl ?_)))
      iterate 3 refine sgf 22 rfl (by decide) (bF rfl rfl) ?_
      refine sg (aN (v := .bool true) rfl rfl (aE (gV rfl rfl (wp_seq (aA (sg (aD (v := .bool false) rfl (aE (wp_ret ?_))))))))); repeat first|refine aH ?_|refine aI ?_
      refine aW Tryz.results42 rfl ?_
      exact ⟨(congrArg (fun z => Ending.returned (.bool z)) (by unfold eE; rw [dO (by rintro ⟨hz1, hz2, hz3, hz4, hz5, hz6, hz7, hz8, hz9⟩; omega)])), st14.bare⟩
  · have h11p := dN (aS h11)
    iterate 4 refine sgf 10 rfl (by decide) (bF rfl h11) ?_
    refine sg (aN (v := .bool true) ((rfl : _ = (.bool (!(inB y.now 0 999999980)) : Value)).trans (congrArg Value.bool h11)) rfl (sg (aB (v := .bool true) rfl ?_)))
    iterate 4 refine sgf 16 rfl (by decide) (bF rfl rfl) ?_
    refine sg (aN (v := .bool true) rfl rfl (sg (aB (v := .bool true) rfl ?_)))
    iterate 3 refine sgf 22 rfl (by decide) (bF rfl rfl) ?_
    refine sg (aN (v := .bool true) rfl rfl (aE (gV rfl rfl (wp_seq (aA (sg (aD (v := .bool false) rfl (aE (wp_ret ?_))))))))); repeat first|refine aH ?_|refine aI ?_
    refine aW Tryz.results42 rfl ?_
    exact ⟨(congrArg (fun z => Ending.returned (.bool z)) (by unfold eE; rw [dO (by rintro ⟨hz1, hz2, hz3, hz4, hz5, hz6, hz7, hz8, hz9⟩; omega)])), st9.bare⟩
end Go.Proofs.YtchnllpegfbleaaGreat
namespace Go.Proofs.YtchnllpegfbleaaGreat
set_option linter.unusedSimpArgs false
set_option linter.unusedVariables false
open Go.RowKit

def gE (y : Yard) (k : Nat) (r r' : Run) : Yard := ⟨y.now, y.seq + ((iS r r').length : Int), cU (bG r'.id).toNat r'.plan.prio r'.id (iS r r') y.shelf y.seq, y.runs.set k r'⟩
def qJ (out : Yard) (k i : Nat) : Yard := match out.runs[k]? with
  | none => out
  | some r => match r.tasks[i]? with
    | none => out
    | some t => if t.state = 3 then gE out k r (eW r i) else out
def dM (y : Yard) (k : Nat) : Nat → Yard
  | 0 => y
  | i + 1 => qJ (dM y k i) k i
def pG (y : Yard) (k : Nat) : Nat := match y.runs[k]? with | some r => r.tasks.length | none => 0
def cN (y : Yard) : Nat → Yard
  | 0 => y
  | k + 1 => dM (cN y k) k (pG y k)
noncomputable def cI (y : Yard) : Yard := if eE y then cN y y.runs.length else y
theorem pF {y : Yard} {k : Nat} {r : Run} (h : y.runs[k]? = some r) : pG y k = r.tasks.length := by unfold pG; rw [h]

structure YardIs (y : Yard) : Prop where
  now : 0 ≤ y.now ∧ y.now ≤ 999999980
  seq : 1 ≤ y.seq ∧ y.seq ≤ 1000000000
  shelf : y.shelf.length = 4
  runs : y.runs.length ≤ 8
  each : ∀ l ∈ y.shelf, fX l = true
  run : ∀ (j : Nat) (r : Run), y.runs[j]? = some r → RunIs r ∧ gC y r.id = some j
theorem tK {y : Yard} (h : eE y = true) : YardIs y := by
  unfold eE at h
  rw [pB_iff] at h
  obtain ⟨h1, h2, h3, h4, h5, h6, h7, h8, h9⟩ := h
  refine ⟨h1, h2, h3, h4, h5, fun j r hj => ?_⟩
  obtain ⟨hl, rfl⟩ := List.getElem?_eq_some_iff.1 hj
  obtain ⟨a, b, _⟩ := h8 j hl hl
  refine ⟨runIs.1 a, ?_⟩
  unfold hO at b
  cases hq : gC y y.runs[j].id with
  | none => rw [hq] at b; simp only [ixI] at b; omega
  | some k => rw [hq] at b; simp only [ixI] at b; congr 1; omega
theorem RunIs.small {r : Run} (h : RunIs r) : r.ok ∧ r.tasks.length ≤ 12 ∧ r.plan.edges.length ≤ 30 := by
  have h2 := (qA h.plan).1
  have hl := h.len
  have hs := h.state
  have hid := h.id
  unfold dQ at h2
  have hst : 0 ≤ fL r.tasks ∧ fL r.tasks ≤ 4 := by
    unfold fL
    split
    · omega
    · split
      · omega
      · split
        · omega
        · split <;> omega
  refine ⟨⟨by unfold I64; omega, ?_, by unfold I64; omega⟩, by omega, by omega⟩
  unfold Plan.ok
  refine ⟨?_, ?_, ?_, ?_⟩ <;> (unfold I64; omega)
theorem shelfOk_len {xs : List Entry} (h : fX xs = true) : xs.length ≤ 80 := by
  unfold fX at h
  first | exact (pB_iff.1 h).1 | exact (pB_iff.1 h).2 | (simp at h; omega)
theorem sQ {α β : Type} {p : α → Bool} {q : β → Bool} : ∀ {xs : List α} {ys : List β}, xs.length = ys.length → (∀ (j : Nat) (x : α) (y : β), xs[j]? = some x → ys[j]? = some y → p x = q y) → hG p xs = hG q ys
  | [], [], _, _ => rfl
  | x :: xs, y :: ys, hl, h => by
    have h0 := h 0 x y rfl rfl
    have ih := sQ (xs := xs) (ys := ys) (by simpa using hl) (fun j a b ha hb => h (j + 1) a b (by simpa using ha) (by simpa using hb))
    unfold hG
    rw [h0, ih]
  | [], _ :: _, hl, _ => by simp at hl
  | _ :: _, [], hl, _ => by simp at hl
structure RI (y out : Yard) (n : Nat) : Prop where
  now : out.now = y.now
  seq : y.seq ≤ out.seq ∧ out.seq ≤ y.seq + 12 * (n : Int)
  shelf : out.shelf.length = y.shelf.length
  each : ∀ s, s < 4 → (out.shelf.getD s []).length ≤ 80 + 12 * n
  runs : out.runs.length = y.runs.length
  run : ∀ (j : Nat) (r : Run), y.runs[j]? = some r → ∃ r2 : Run, out.runs[j]? = some r2 ∧ RunIs r2 ∧ r2.id = r.id ∧ r2.tasks.length = r.tasks.length ∧ ∀ (i : Nat) (t : Task), r.tasks[i]? = some t → ∃ t2, r2.tasks[i]? = some t2 ∧ t2.try_ = t.try_
theorem RI.start {y : Yard} (h : YardIs y) : RI y y 0 := by
  refine ⟨rfl, by omega, rfl, fun s hs => ?_, rfl, fun j r hj => ⟨r, hj, (h.run j r hj).1, rfl, rfl, fun i t ht => ⟨t, ht, rfl⟩⟩⟩
  have hl := h.shelf
  rw [List.getD_eq_getElem?_getD, List.getElem?_eq_getElem (by omega)]
  have := shelfOk_len (h.each y.shelf[s] (List.getElem_mem _))
  simpa using this
theorem RI.mono {y out : Yard} {n m : Nat} (h : RI y out n) (hm : n ≤ m) : RI y out m :=
  ⟨h.now, by have := h.seq; omega, h.shelf, fun s hs => by have := h.each s hs; omega, h.runs, h.run⟩
theorem oG (sh : Nat) (prio rid : Int) (s : Nat) (hs : s ≠ sh) : ∀ (ts : List Int) (xss : List (List Entry)) (seq : Int), (cU sh prio rid ts xss seq).getD s [] = xss.getD s []
  | [], xss, seq => rfl
  | u :: ts, xss, seq => by
    simp only [cU]
    rw [oG sh prio rid s hs ts]
    rw [List.getD_eq_getElem?_getD, List.getElem?_set_ne (fun e => hs e.symm), List.getD_eq_getElem?_getD]
theorem RI.change {y out : Yard} {n k i : Nat} {r : Run} {t : Task} (hy : YardIs y) (h : RI y out n) (hr : out.runs[k]? = some r) (ht : r.tasks[i]? = some t) (h3 : t.state = 3) (hR : RunIs r) : RI y (gE out k r (eW r i)) (n + 1) := by
  obtain ⟨hk1, hk2, hk3, hk4⟩ := failsR_keeps r i
  have hsm := hR.small
  have hfl := qD r (eW r i)
  have hsh := hy.shelf
  have hsr := jD (eW r i).id
  have hkl := (List.getElem?_eq_some_iff.1 hr).1
  refine ⟨h.now, ?_, ?_, ?_, ?_, ?_⟩
  · show y.seq ≤ out.seq + _ ∧ out.seq + _ ≤ _
    have := h.seq; omega
  · show (cU _ _ _ _ _ _).length = _
    rw [kX]; exact h.shelf
  · intro s hs
    show ((cU _ _ _ _ _ _).getD s []).length ≤ _
    by_cases e : s = (bG (eW r i).id).toNat
    · subst e
      rw [kY _ _ _ _ _ _ (by rw [h.shelf]; omega)]
      have := h.each _ hs
      omega
    · rw [oG _ _ _ s e]
      have := h.each s hs
      omega
  · show (out.runs.set k _).length = _
    rw [List.length_set]; exact h.runs
  · intro j r0 hj
    obtain ⟨r2, h1, h2, h4, h5, h6⟩ := h.run j r0 hj
    show ∃ r2, (out.runs.set k _)[j]? = some r2 ∧ _
    by_cases e : k = j
    · subst e
      rw [hr] at h1
      have e2 := Option.some.inj h1
      subst e2
      refine ⟨eW r i, List.getElem?_set_self hkl, hR.fails ht h3, by rw [hk1]; exact h4, by rw [hk3]; exact h5, fun a u hu => ?_⟩
      obtain ⟨u2, g1, g2⟩ := h6 a u hu
      obtain ⟨u3, g3, g4⟩ := hk4 a u2 g1
      exact ⟨u3, g3, by rw [g4]; exact g2⟩
    · exact ⟨r2, by rw [List.getElem?_set_ne e]; exact h1, h2, h4, h5, h6⟩
theorem RI.turn {y out : Yard} {n : Nat} (hy : YardIs y) (h : RI y out n) {k i : Nat} (hk : k < y.runs.length) : RI y (qJ out k i) (n + 1) := by
  obtain ⟨r2, h1, h2, _⟩ := h.run k _ (List.getElem?_eq_getElem hk)
  unfold qJ
  rw [h1]
  simp only
  cases ht : r2.tasks[i]? with
  | none => exact h.mono (by omega)
  | some t =>
    simp only
    split
    · next h3 => exact h.change hy h1 ht h3 h2
    · exact h.mono (by omega)
theorem RI.inner {y out : Yard} {n : Nat} (hy : YardIs y) (h : RI y out n) {k : Nat} (hk : k < y.runs.length) : ∀ i, RI y (dM out k i) (n + i)
  | 0 => h
  | i + 1 => (RI.inner hy h hk i).turn hy hk
theorem RI.outer {y : Yard} (hy : YardIs y) : ∀ k, k ≤ y.runs.length → RI y (cN y k) (12 * k)
  | 0, _ => RI.start hy
  | k + 1, hk => by
    have ih := RI.outer hy k (by omega)
    have hr : y.runs[k]? = some y.runs[k] := List.getElem?_eq_getElem (by omega)
    have hs := (hy.run k _ hr).1.small
    have := ih.inner hy (k := k) (by omega) (pG y k)
    rw [pF hr] at this
    show RI y (dM (cN y k) k (pG y k)) _
    rw [pF hr]
    exact this.mono (by omega)
theorem RI.at {y : Yard} (hy : YardIs y) {k i : Nat} (hk : k < y.runs.length) : RI y (dM (cN y k) k i) (12 * k + i) := (RI.outer hy k (by omega)).inner hy hk i
theorem RI.ix {y out : Yard} {n : Nat} (hy : YardIs y) (h : RI y out n) {k : Nat} {r : Run} (hr : y.runs[k]? = some r) : gC out r.id = some k := by
  rw [← (hy.run k r hr).2]
  unfold gC
  rw [h.runs]
  congr 1
  exact sQ h.runs (fun j a b ha hb => by
    obtain ⟨r2, h1, _, h3, _⟩ := h.run j b hb
    rw [ha] at h1
    have := Option.some.inj h1
    subst this
    rw [h3])
def kI (y : Yard) (id task try_ : Int) : Bool :=
  match gC y id with
  | none => false
  | some k => match y.runs[k]? with
    | none => false
    | some r => inB task 0 ((r.tasks.length : Int) - 1) && (match r.tasks[task.toNat]? with | some t => decide (t.state = 3) && decide (t.try_ = try_) | none => false)
theorem RI.holds {y out : Yard} {n : Nat} (hy : YardIs y) (h : RI y out n) {k i : Nat} {r : Run} {t : Task} (hr : y.runs[k]? = some r) (ht : r.tasks[i]? = some t) :
    ∃ r2 t2, out.runs[k]? = some r2 ∧ RunIs r2 ∧ r2.tasks[i]? = some t2 ∧ kI out r.id (i : Int) t.try_ = decide (t2.state = 3) := by
  obtain ⟨r2, h1, h2, h3, h4, h5⟩ := h.run k r hr
  obtain ⟨t2, h6, h7⟩ := h5 i t ht
  refine ⟨r2, t2, h1, h2, h6, ?_⟩
  have hl := (List.getElem?_eq_some_iff.1 ht).1
  unfold kI
  rw [h.ix hy hr]
  simp only [h1, Int.toNat_natCast, h6, h7, decide_true, Bool.and_true]
  have : inB (i : Int) 0 ((r2.tasks.length : Int) - 1) = true := inB_iff'.2 (by omega)
  rw [this]; rfl
theorem vK {out : Yard} {k i : Nat} {r : Run} {t : Task} (hr : out.runs[k]? = some r) (ht : r.tasks[i]? = some t) (h3 : t.state = 3) : qJ out k i = gE out k r (eW r i) := by unfold qJ; rw [hr]; simp only [ht, h3, if_true]
theorem vL {out : Yard} {k i : Nat} {r : Run} {t : Task} (hr : out.runs[k]? = some r) (ht : r.tasks[i]? = some t) (h3 : ¬ t.state = 3) : qJ out k i = out := by unfold qJ; rw [hr]; simp only [ht, h3, if_false]
end Go.Proofs.YtchnllpegfbleaaGreat
