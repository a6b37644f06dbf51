/-
  The law on Ahead2, walked.
-/
import Derived.Test.YtgkloiodfhmckaaAhead2
import Derived.Test.YtgkloiodfhmckaaHeld
namespace Go.Proofs.Ytgkloiodfhmckaa
set_option linter.unusedSimpArgs false
set_option linter.unusedVariables false
open Go.RowKit

set_option maxHeartbeats 1000000 in
theorem ahead2_law (w : World) (cs0 : List Value) (x : Span) (fp0 : List Nat) (hc0 : Shape.C w cs0 x fp0) (cs1 : List Value) (y : Span) (fp1 : List Nat) (hc1 : Shape.C w cs1 y fp1) :
    Calls Try.prog 7 #[.agg cs0.toArray, .agg cs1.toArray] w fun e w' => e = .returned (.bool true) ∧ Below w.heap.size w w' := by
  have hl0 : cs0.length = 17 := Shape.len hc0
  have hl1 : cs1.length = 17 := Shape.len hc1
  have HL0 := Lib.hid hl0
  have HL1 := Lib.hid hl1
  clear hl0 hl1
  by_cases hbig0 : (1048576 : Int) < (x.wt : Nat)
  · go_enter Try.func7, Try.ntmps7
    go_wp2_with (first | ((with_reducible refine at_load 44 _ rfl ?_); refine wpList_load_all rfl 44 _ rfl _ Try.underlying44 _ (by exact rfl) _ _ _ (by repeat (first | (refine heap_alloc_at _ _ _ ?_; first | (with_reducible rfl) | (simp only [size_alloc, after_size]; done)) | (refine (heap_alloc_past _ _ _ ?_).trans ?_; ((try simp only [size_alloc, after_size]); omega)) | (refine (heap_after _ _ _ ?_).trans ?_; ((try simp only [size_alloc, after_size]); omega)))) 17 (by kernel_rfl) (by first | exact HL0.out | exact HL1.out) ?_))
    refine (szSpan_C x cs0 fp0 1048576 _ (C_below hc0 (below_alloc (below_alloc (Below.refl _ _)))) (by omega) (by omega)).mono ?_
    rintro e w1 ⟨rfl, hb1⟩
    obtain ⟨p1, rfl⟩ := after_of_below hb1
    rw [szL_t (by omega)]
    go_wp2_with fail
    go_ret
    exact ⟨rfl, (by (try simp only [after_after]); repeat (first | with_reducible exact Below.refl _ _ | with_reducible refine below_alloc ?_ | with_reducible refine below_after ?_))⟩
  · by_cases hbig1 : (1048576 : Int) - (x.wt : Nat) < (y.wt : Nat)
    · go_enter Try.func7, Try.ntmps7
      go_wp2_with (first | ((with_reducible refine at_load 44 _ rfl ?_); refine wpList_load_all rfl 44 _ rfl _ Try.underlying44 _ (by exact rfl) _ _ _ (by repeat (first | (refine heap_alloc_at _ _ _ ?_; first | (with_reducible rfl) | (simp only [size_alloc, after_size]; done)) | (refine (heap_alloc_past _ _ _ ?_).trans ?_; ((try simp only [size_alloc, after_size]); omega)) | (refine (heap_after _ _ _ ?_).trans ?_; ((try simp only [size_alloc, after_size]); omega)))) 17 (by kernel_rfl) (by first | exact HL0.out | exact HL1.out) ?_))
      refine (szSpan_C x cs0 fp0 1048576 _ (C_below hc0 (below_alloc (below_alloc (Below.refl _ _)))) (by omega) (by omega)).mono ?_
      rintro e w1 ⟨rfl, hb1⟩
      obtain ⟨p1, rfl⟩ := after_of_below hb1
      rw [szL_f (by omega)]
      go_wp2_with (first | ((with_reducible refine at_load 44 _ rfl ?_); refine wpList_load_all rfl 44 _ rfl _ Try.underlying44 _ (by exact rfl) _ _ _ (by repeat (first | (refine heap_alloc_at _ _ _ ?_; first | (with_reducible rfl) | (simp only [size_alloc, after_size]; done)) | (refine (heap_alloc_past _ _ _ ?_).trans ?_; ((try simp only [size_alloc, after_size]); omega)) | (refine (heap_after _ _ _ ?_).trans ?_; ((try simp only [size_alloc, after_size]); omega)))) 17 (by kernel_rfl) (by first | exact HL0.out | exact HL1.out) ?_))
      refine (szSpan_C y cs1 fp1 (1048576 - (x.wt : Nat)) _ (C_below hc1 (below_after (below_alloc (below_alloc (Below.refl _ _))))) (by omega) (by omega)).mono ?_
      rintro e w2 ⟨rfl, hb2⟩
      obtain ⟨p2, rfl⟩ := after_of_below hb2
      rw [szL_t (by omega)]
      go_wp2_with fail
      go_ret
      exact ⟨rfl, (by (try simp only [after_after]); repeat (first | with_reducible exact Below.refl _ _ | with_reducible refine below_alloc ?_ | with_reducible refine below_after ?_))⟩
    · go_enter Try.func7, Try.ntmps7
      go_wp2_with (first | ((with_reducible refine at_load 44 _ rfl ?_); refine wpList_load_all rfl 44 _ rfl _ Try.underlying44 _ (by exact rfl) _ _ _ (by repeat (first | (refine heap_alloc_at _ _ _ ?_; first | (with_reducible rfl) | (simp only [size_alloc, after_size]; done)) | (refine (heap_alloc_past _ _ _ ?_).trans ?_; ((try simp only [size_alloc, after_size]); omega)) | (refine (heap_after _ _ _ ?_).trans ?_; ((try simp only [size_alloc, after_size]); omega)))) 17 (by kernel_rfl) (by first | exact HL0.out | exact HL1.out) ?_))
      refine (szSpan_C x cs0 fp0 1048576 _ (C_below hc0 (below_alloc (below_alloc (Below.refl _ _)))) (by omega) (by omega)).mono ?_
      rintro e w1 ⟨rfl, hb1⟩
      obtain ⟨p1, rfl⟩ := after_of_below hb1
      rw [szL_f (by omega)]
      go_wp2_with (first | ((with_reducible refine at_load 44 _ rfl ?_); refine wpList_load_all rfl 44 _ rfl _ Try.underlying44 _ (by exact rfl) _ _ _ (by repeat (first | (refine heap_alloc_at _ _ _ ?_; first | (with_reducible rfl) | (simp only [size_alloc, after_size]; done)) | (refine (heap_alloc_past _ _ _ ?_).trans ?_; ((try simp only [size_alloc, after_size]); omega)) | (refine (heap_after _ _ _ ?_).trans ?_; ((try simp only [size_alloc, after_size]); omega)))) 17 (by kernel_rfl) (by first | exact HL0.out | exact HL1.out) ?_))
      refine (szSpan_C y cs1 fp1 (1048576 - (x.wt : Nat)) _ (C_below hc1 (below_after (below_alloc (below_alloc (Below.refl _ _))))) (by omega) (by omega)).mono ?_
      rintro e w2 ⟨rfl, hb2⟩
      obtain ⟨p2, rfl⟩ := after_of_below hb2
      rw [szL_f (by omega)]
      go_wp2_with (first | ((with_reducible refine at_load 44 _ rfl ?_); refine wpList_load_all rfl 44 _ rfl _ Try.underlying44 _ (by exact rfl) _ _ _ (by repeat (first | (refine heap_alloc_at _ _ _ ?_; first | (with_reducible rfl) | (simp only [size_alloc, after_size]; done)) | (refine (heap_alloc_past _ _ _ ?_).trans ?_; ((try simp only [size_alloc, after_size]); omega)) | (refine (heap_after _ _ _ ?_).trans ?_; ((try simp only [size_alloc, after_size]); omega)))) 17 (by kernel_rfl) (by first | exact HL0.out | exact HL1.out) ?_))
      obtain ⟨W, hW⟩ : ∃ W, W = after ((w.alloc (.cells cs0.toArray 44)).alloc (.cells cs1.toArray 44)) (joinR p1 p2) := ⟨_, rfl⟩
      have hB : Below w.heap.size w W := by rw [hW]; exact below_after (below_alloc (below_alloc (Below.refl _ _)))
      have hA0 : W.heap[w.heap.size]? = some (.cells cs0.toArray 44 (0, 0)) := by rw [hW]; exact (by repeat (first | (refine heap_alloc_at _ _ _ ?_; first | (with_reducible rfl) | (simp only [size_alloc, after_size]; done)) | (refine (heap_alloc_past _ _ _ ?_).trans ?_; ((try simp only [size_alloc, after_size]); omega)) | (refine (heap_after _ _ _ ?_).trans ?_; ((try simp only [size_alloc, after_size]); omega))))
      have hA1 : W.heap[w.heap.size + 1]? = some (.cells cs1.toArray 44 (0, 0)) := by rw [hW]; exact (by repeat (first | (refine heap_alloc_at _ _ _ ?_; first | (with_reducible rfl) | (simp only [size_alloc, after_size]; done)) | (refine (heap_alloc_past _ _ _ ?_).trans ?_; ((try simp only [size_alloc, after_size]); omega)) | (refine (heap_after _ _ _ ?_).trans ?_; ((try simp only [size_alloc, after_size]); omega))))
      rw [← hW]
      have HW := Lib.hid hW
      clear hW hb1 hb2
      have hL0 : ∀ w', Below W.heap.size W w' → (Instr.loadAt 44 (.pointer (some ⟨w.heap.size, 0, none⟩))).run Try.prog w' = .ok (.agg cs0.toArray) w' := fun w' h => run_loadAt_all _ _ Try.underlying44 (by rw [HL0.out]; kernel_rfl) (by rw [h.block _ (Array.getElem?_eq_some_iff.1 hA0).1]; exact hA0)
      have hL1 : ∀ w', Below W.heap.size W w' → (Instr.loadAt 44 (.pointer (some ⟨w.heap.size + 1, 0, none⟩))).run Try.prog w' = .ok (.agg cs1.toArray) w' := fun w' h => run_loadAt_all _ _ Try.underlying44 (by rw [HL1.out]; kernel_rfl) (by rw [h.block _ (Array.getElem?_eq_some_iff.1 hA1).1]; exact hA1)
      have H0 := Lib.hid hc0
      have H1 := Lib.hid hc1
      have HB := Lib.hid hB
      clear hA0 hA1 hc0 hc1 hB
      refine wp_region_held (S := fun w' => Below W.heap.size W w') (by kernel_rfl) ?_
      have hS0 : Below W.heap.size W { W with drawn := W.drawn + 1 } := (Below.refl _ _).drew
      generalize ({ W with drawn := W.drawn + 1 } : World) = W1 at *
      refine held_load 0 20 _ 44 (.tmp 2) _ rfl rfl rfl rfl (by kernel_rfl) (by kernel_rfl) (by kernel_rfl) rfl hL0 (fun _ _ _ h => h) hS0 ?_
      refine held_load 2 22 _ 44 (.tmp 3) _ rfl rfl rfl rfl (by kernel_rfl) (by kernel_rfl) (by kernel_rfl) rfl hL1 (fun _ _ _ h => h) hS0 ?_
      refine held_call 1 21 26 [.tmp 20] _ [.agg cs0.toArray] (by kernel_rfl) rfl rfl rfl rfl Try.func26 (by kernel_rfl) (by kernel_rfl) rfl ?_
      refine (toSpan_C x cs0 fp0 W1 (C_below H0.out (HB.out.trans (hS0.mono HB.out.size))) (by omega)).mono ?_
      rintro e w3 ⟨ds0, gp0, rfl, hb3, hd0, hf0⟩
      have hS3 : Below W.heap.size W w3 := hS0.trans (hb3.mono hS0.size)
      refine ⟨_, rfl, hS3, ?_⟩
      refine held_call 3 23 26 [.tmp 22] _ [.agg cs1.toArray] (by kernel_rfl) rfl rfl rfl rfl Try.func26 (by kernel_rfl) (by kernel_rfl) rfl ?_
      refine (toSpan_C y cs1 fp1 w3 (C_below H1.out (HB.out.trans (hS3.mono HB.out.size))) (by omega)).mono ?_
      rintro e w4 ⟨ds1, gp1, rfl, hb4, hd1, hf1⟩
      have hS4 : Below W.heap.size W w4 := hS3.trans (hb4.mono hS3.size)
      refine ⟨_, rfl, hS4, ?_⟩
      refine held_call 4 24 25 [.tmp 21, .tmp 23] _ [.agg ds0.toArray, .agg ds1.toArray] (by kernel_rfl) rfl rfl rfl rfl Try.func25 (by kernel_rfl) (by kernel_rfl) rfl ?_
      refine (ahead2S_C x y ds0 ds1 gp0 gp1 w4 (C_below hd0 hb4) hd1).mono ?_
      rintro e w5 ⟨rfl, hb5⟩
      have hS5 : Below W.heap.size W w5 := hS4.trans (hb5.mono hS4.size)
      refine ⟨_, rfl, hS5, ?_⟩
      refine held_pure 5 (some 6) (.bool (decide (x.end_ < y.begin_))) rfl rfl rfl (by kernel_rfl) (by kernel_rfl) (by kernel_rfl) (fun _ => rfl) (fun _ _ _ h => h) hS5 ?_
      refine wpAnyH_done (by kernel_rfl) ?_ _
      simp only [Act.put, List.setIfInBounds_toArray, List.set_cons_zero, List.set_cons_succ]
      obtain ⟨p3, rfl⟩ := after_of_below hS5
      rw [HW.out]
      clear hL0 hL1 hS5 hS4 hS3 hS0 hb5 hb4 hb3 hd0 hd1 hf0 hf1
      go_wp2_with (first | ((with_reducible refine at_load 44 _ rfl ?_); refine wpList_load_all rfl 44 _ rfl _ Try.underlying44 _ (by exact rfl) _ _ _ (by repeat (first | (refine heap_alloc_at _ _ _ ?_; first | (with_reducible rfl) | (simp only [size_alloc, after_size]; done)) | (refine (heap_alloc_past _ _ _ ?_).trans ?_; ((try simp only [size_alloc, after_size]); omega)) | (refine (heap_after _ _ _ ?_).trans ?_; ((try simp only [size_alloc, after_size]); omega)))) 17 (by kernel_rfl) (by first | exact HL0.out | exact HL1.out) ?_))
      refine (toSpan_C x cs0 fp0 _ (C_below H0.out (by repeat (first | with_reducible exact Below.refl _ _ | with_reducible refine below_alloc ?_ | with_reducible refine below_after ?_))) (by omega)).mono ?_
      rintro e w3 ⟨ds0, gp0, rfl, hb3, hd0, hf0⟩
      have HL2 := Lib.hid (Shape.len hd0)
      obtain ⟨p4, rfl⟩ := after_of_below hb3
      go_wp2_with (first | ((with_reducible refine at_load 44 _ rfl ?_); refine wpList_load_all rfl 44 _ rfl _ Try.underlying44 _ (by exact rfl) _ _ _ (by repeat (first | (refine heap_alloc_at _ _ _ ?_; first | (with_reducible rfl) | (simp only [size_alloc, after_size]; done)) | (refine (heap_alloc_past _ _ _ ?_).trans ?_; ((try simp only [size_alloc, after_size]); omega)) | (refine (heap_after _ _ _ ?_).trans ?_; ((try simp only [size_alloc, after_size]); omega)))) 17 (by kernel_rfl) (by first | exact HL0.out | exact HL1.out) ?_) | ((with_reducible refine at_store 54 _ _ rfl ?_); refine wpList_store_all rfl 54 _ _ rfl _ Try.underlying54 _ (by exact rfl) ds0 (by exact rfl) _ _ (by repeat (first | (refine heap_alloc_at _ _ _ ?_; first | (with_reducible rfl) | (simp only [size_alloc, after_size]; done)) | (refine (heap_alloc_past _ _ _ ?_).trans ?_; ((try simp only [size_alloc, after_size]); omega)) | (refine (heap_after _ _ _ ?_).trans ?_; ((try simp only [size_alloc, after_size]); omega)))) 17 (by kernel_rfl) HL2.out (by exact rfl) (Shape.one hd0) _ (putBlk_alloc_at _ _ _ _ (by simp only [size_alloc, after_size])) ?_))
      refine (toSpan_C y cs1 fp1 _ (C_below H1.out (by repeat (first | with_reducible exact Below.refl _ _ | with_reducible refine below_alloc ?_ | with_reducible refine below_after ?_))) (by omega)).mono ?_
      rintro e w4 ⟨ds1, gp1, rfl, hb4, hd1, hf1⟩
      have HL3 := Lib.hid (Shape.len hd1)
      obtain ⟨p5, rfl⟩ := after_of_below hb4
      go_wp2_with (first | ((with_reducible refine at_load 44 _ rfl ?_); refine wpList_load_all rfl 44 _ rfl _ Try.underlying44 _ (by exact rfl) _ _ _ (by repeat (first | (refine heap_alloc_at _ _ _ ?_; first | (with_reducible rfl) | (simp only [size_alloc, after_size]; done)) | (refine (heap_alloc_past _ _ _ ?_).trans ?_; ((try simp only [size_alloc, after_size]); omega)) | (refine (heap_after _ _ _ ?_).trans ?_; ((try simp only [size_alloc, after_size]); omega)))) 17 (by kernel_rfl) (by first | exact HL0.out | exact HL1.out) ?_) | ((with_reducible refine at_store 54 _ _ rfl ?_); refine wpList_store_all rfl 54 _ _ rfl _ Try.underlying54 _ (by exact rfl) ds1 (by exact rfl) _ _ (by repeat (first | (refine heap_alloc_at _ _ _ ?_; first | (with_reducible rfl) | (simp only [size_alloc, after_size]; done)) | (refine (heap_alloc_past _ _ _ ?_).trans ?_; ((try simp only [size_alloc, after_size]); omega)) | (refine (heap_after _ _ _ ?_).trans ?_; ((try simp only [size_alloc, after_size]); omega)))) 17 (by kernel_rfl) HL3.out (by exact rfl) (Shape.one hd1) _ (putBlk_alloc_at _ _ _ _ (by simp only [size_alloc, after_size])) ?_) | ((with_reducible refine at_load 54 _ rfl ?_); refine wpList_load_all rfl 54 _ rfl _ Try.underlying54 _ (by exact rfl) _ _ _ (by repeat (first | (refine heap_alloc_at _ _ _ ?_; first | (with_reducible rfl) | (simp only [size_alloc, after_size]; done)) | (refine (heap_alloc_past _ _ _ ?_).trans ?_; ((try simp only [size_alloc, after_size]); omega)) | (refine (heap_after _ _ _ ?_).trans ?_; ((try simp only [size_alloc, after_size]); omega)))) 17 (by kernel_rfl) (by first | exact HL2.out | exact HL3.out) ?_))
      refine (ahead2I_C x y ds0 ds1 gp0 gp1 _ (C_below hd0 (by (try simp only [after_after]); repeat (first | with_reducible exact Below.refl _ _ | with_reducible refine below_alloc ?_ | with_reducible refine below_after ?_))) (C_below hd1 (by (try simp only [after_after]); repeat (first | with_reducible exact Below.refl _ _ | with_reducible refine below_alloc ?_ | with_reducible refine below_after ?_)))).mono ?_
      rintro e w5 ⟨rfl, hb5⟩
      obtain ⟨p6, rfl⟩ := after_of_below hb5
      go_wp2_with fail
      refine with_world ?_
      intro W hW
      have HW := Lib.hid hW
      clear hW
      have HB := Lib.hid (show Below w.heap.size w W by rw [HW.out]; exact (by (try simp only [after_after]); repeat (first | with_reducible exact Below.refl _ _ | with_reducible refine below_alloc ?_ | with_reducible refine below_after ?_)))
      have HD := Lib.hid (show Shape.C W ds0 x gp0 by rw [HW.out]; exact C_below hd0 (by (try simp only [after_after]); repeat (first | with_reducible exact Below.refl _ _ | with_reducible refine below_alloc ?_ | with_reducible refine below_after ?_)))
      refine wp_region_held (S := fun w' => Below W.heap.size W w') (by kernel_rfl) ?_
      have hS0 : Below W.heap.size W { W with drawn := W.drawn + 1 } := (Below.refl _ _).drew
      generalize ({ W with drawn := W.drawn + 1 } : World) = W1 at *
      refine held_box 0 35 54 (.tmp 7) rfl rfl rfl rfl (by kernel_rfl) (by kernel_rfl) (by kernel_rfl) _ rfl _ _ _ (by rw [HW.out]; exact (by repeat (first | (refine heap_alloc_at _ _ _ ?_; first | (with_reducible rfl) | (simp only [size_alloc, after_size]; done)) | (refine (heap_alloc_past _ _ _ ?_).trans ?_; ((try simp only [size_alloc, after_size]); omega)) | (refine (heap_after _ _ _ ?_).trans ?_; ((try simp only [size_alloc, after_size]); omega))))) _ Try.underlying54 17 (by kernel_rfl) HL2.out (fun _ _ _ h => h) hS0 ?_
      refine held_box 1 36 44 (.tmp 2) rfl rfl rfl rfl (by kernel_rfl) (by kernel_rfl) (by kernel_rfl) _ rfl _ _ _ (by rw [HW.out]; exact (by repeat (first | (refine heap_alloc_at _ _ _ ?_; first | (with_reducible rfl) | (simp only [size_alloc, after_size]; done)) | (refine (heap_alloc_past _ _ _ ?_).trans ?_; ((try simp only [size_alloc, after_size]); omega)) | (refine (heap_after _ _ _ ?_).trans ?_; ((try simp only [size_alloc, after_size]); omega))))) _ Try.underlying44 17 (by kernel_rfl) HL0.out (fun _ _ _ h => h) hS0 ?_
      refine held_call 2 37 26 [.tmp 36] _ [.agg cs0.toArray] (by kernel_rfl) rfl rfl rfl rfl Try.func26 (by kernel_rfl) (by kernel_rfl) rfl ?_
      refine (toSpan_C x cs0 fp0 W1 (C_below H0.out (HB.out.trans (hS0.mono HB.out.size))) (by omega)).mono ?_
      rintro e w3 ⟨es, hp, rfl, hb3, he, hf⟩
      have hS3 : Below W.heap.size W w3 := hS0.trans (hb3.mono hS0.size)
      refine ⟨_, rfl, hS3, ?_⟩
      refine held_call 3 38 28 [.tmp 35, .tmp 37] _ [.agg ds0.toArray, .agg es.toArray] (by kernel_rfl) rfl rfl rfl rfl Try.func28 (by kernel_rfl) (by kernel_rfl) rfl ?_
      refine (eqSpan_C x x ds0 es gp0 hp w3 (C_below HD.out hS3) he).mono ?_
      rintro e w5 ⟨rfl, hb5⟩
      rw [eqB_t rfl]
      have hS5 : Below W.heap.size W w5 := hS3.trans (hb5.mono hS3.size)
      refine ⟨_, rfl, hS5, ?_⟩
      refine held_pure 4 (some 39) (.bool false) rfl rfl rfl (by kernel_rfl) (by kernel_rfl) (by kernel_rfl) (fun _ => rfl) (fun _ _ _ h => h) hS5 ?_
      refine wpAnyH_done (by kernel_rfl) ?_ _
      simp only [Act.put, List.setIfInBounds_toArray, List.set_cons_zero, List.set_cons_succ]
      obtain ⟨p7, rfl⟩ := after_of_below hS5
      rw [HW.out]
      clear hS0 hS3 hS5 hb3 hb5 he hf HB HD
      go_wp2_with fail
      refine with_world ?_
      intro W hW
      have HW := Lib.hid hW
      clear hW
      have HB := Lib.hid (show Below w.heap.size w W by rw [HW.out]; exact (by (try simp only [after_after]); repeat (first | with_reducible exact Below.refl _ _ | with_reducible refine below_alloc ?_ | with_reducible refine below_after ?_)))
      have HD := Lib.hid (show Shape.C W ds1 y gp1 by rw [HW.out]; exact C_below hd1 (by (try simp only [after_after]); repeat (first | with_reducible exact Below.refl _ _ | with_reducible refine below_alloc ?_ | with_reducible refine below_after ?_)))
      refine wp_region_held (S := fun w' => Below W.heap.size W w') (by kernel_rfl) ?_
      have hS0 : Below W.heap.size W { W with drawn := W.drawn + 1 } := (Below.refl _ _).drew
      generalize ({ W with drawn := W.drawn + 1 } : World) = W1 at *
      refine held_box 0 40 54 (.tmp 8) rfl rfl rfl rfl (by kernel_rfl) (by kernel_rfl) (by kernel_rfl) _ rfl _ _ _ (by rw [HW.out]; exact (by repeat (first | (refine heap_alloc_at _ _ _ ?_; first | (with_reducible rfl) | (simp only [size_alloc, after_size]; done)) | (refine (heap_alloc_past _ _ _ ?_).trans ?_; ((try simp only [size_alloc, after_size]); omega)) | (refine (heap_after _ _ _ ?_).trans ?_; ((try simp only [size_alloc, after_size]); omega))))) _ Try.underlying54 17 (by kernel_rfl) HL3.out (fun _ _ _ h => h) hS0 ?_
      refine held_box 1 41 44 (.tmp 3) rfl rfl rfl rfl (by kernel_rfl) (by kernel_rfl) (by kernel_rfl) _ rfl _ _ _ (by rw [HW.out]; exact (by repeat (first | (refine heap_alloc_at _ _ _ ?_; first | (with_reducible rfl) | (simp only [size_alloc, after_size]; done)) | (refine (heap_alloc_past _ _ _ ?_).trans ?_; ((try simp only [size_alloc, after_size]); omega)) | (refine (heap_after _ _ _ ?_).trans ?_; ((try simp only [size_alloc, after_size]); omega))))) _ Try.underlying44 17 (by kernel_rfl) HL1.out (fun _ _ _ h => h) hS0 ?_
      refine held_call 2 42 26 [.tmp 41] _ [.agg cs1.toArray] (by kernel_rfl) rfl rfl rfl rfl Try.func26 (by kernel_rfl) (by kernel_rfl) rfl ?_
      refine (toSpan_C y cs1 fp1 W1 (C_below H1.out (HB.out.trans (hS0.mono HB.out.size))) (by omega)).mono ?_
      rintro e w3 ⟨es, hp, rfl, hb3, he, hf⟩
      have hS3 : Below W.heap.size W w3 := hS0.trans (hb3.mono hS0.size)
      refine ⟨_, rfl, hS3, ?_⟩
      refine held_call 3 43 28 [.tmp 40, .tmp 42] _ [.agg ds1.toArray, .agg es.toArray] (by kernel_rfl) rfl rfl rfl rfl Try.func28 (by kernel_rfl) (by kernel_rfl) rfl ?_
      refine (eqSpan_C y y ds1 es gp1 hp w3 (C_below HD.out hS3) he).mono ?_
      rintro e w5 ⟨rfl, hb5⟩
      rw [eqB_t rfl]
      have hS5 : Below W.heap.size W w5 := hS3.trans (hb5.mono hS3.size)
      refine ⟨_, rfl, hS5, ?_⟩
      refine held_pure 4 (some 44) (.bool false) rfl rfl rfl (by kernel_rfl) (by kernel_rfl) (by kernel_rfl) (fun _ => rfl) (fun _ _ _ h => h) hS5 ?_
      refine wpAnyH_done (by kernel_rfl) ?_ _
      simp only [Act.put, List.setIfInBounds_toArray, List.set_cons_zero, List.set_cons_succ]
      obtain ⟨p8, rfl⟩ := after_of_below hS5
      rw [HW.out]
      clear hS0 hS3 hS5 hb3 hb5 he hf HB HD
      go_wp2_with fail
      go_ret
      exact ⟨rfl, (by (try simp only [after_after]); repeat (first | with_reducible exact Below.refl _ _ | with_reducible refine below_alloc ?_ | with_reducible refine below_after ?_))⟩
end Go.Proofs.Ytgkloiodfhmckaa
