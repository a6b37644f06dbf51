/-
  Proved: the statement on FnExactOrderedBy: for every input the law returns true, and its arguments read afterwards as before. No condition.
-/
import Derived.Test.YtchnllpegfbleaaGreatQ07
import Derived.Test.YtchnllpegfbleaaGreatQ08
namespace Go.Proofs.YtchnllpegfbleaaGreat
set_option linter.unusedSimpArgs false
set_option linter.unusedVariables false
set_option maxHeartbeats 2000000
open Go.ChangeShapes Go.WideShapes Go.ChangeAt Go.RowKit Go.Deep
set_option maxRecDepth 100000 in
theorem fnExactOrderedBy_lifted (os : Os) (started : os.Started) (H : Type) (enc : TypeId × Value → H) :
  ReturnsInHanded {} Tryz.checked os 8 .any (Rows.fnExactOrderedBySpec.pre6 enc Tryz.prog Tryz.f8 Rows.fnExactOrderedByRow.domain false) (Rows.fnExactOrderedBySpec.post enc Tryz.prog Tryz.f8 false true false false) := by
 refine returnsInHanded_of_change (C := Tryz.checked) ownKnobTry started (by kernel_rfl) Tryz.func8
  (ChangeSpec.witness6 (enc := enc) (C := Tryz.checked) false ⟨#[], #[.agg #[I 0, I 0, .slice none 0 0, .slice none 0 0], .slice none 0 0, .slice none 0 0], []⟩ 8 (by kernel_rfl) (by kernel_rfl) (by kernel_rfl) (by kernel_rfl)) ?_
 intro W base args ds gs before hval0 hW hcnd _
 have hval : ∀ (j : Nat) t v, Tryz.f8.params[j]? = some t → args[j]? = some v → Value.okWide Tryz.prog W .any base t v := hval0
 have hW' := hW
 obtain ⟨p, q, hA0, hV, rfl, hfz, hnd⟩ := hW
 have hA : DataW.TrodAll enc Tryz.prog W 0 (fun _ => true) true Tryz.f8.params.toList args.toList ds p := hA0
 have hAk := hA0
 rw [Tryz.params8] at hA hval
 obtain ⟨v0, vs0, d0, ds0, p0, q0, hargs, rfl, rfl, h0, r0⟩ := trodAll_cons hA
 obtain ⟨v1, vs1, d1, ds1, p1, q1, rfl, rfl, rfl, h1, r1⟩ := trodAll_cons r0
 obtain ⟨v2, vs2, d2, ds2, p2, q2, rfl, rfl, rfl, h2, r2⟩ := trodAll_cons r1
 obtain ⟨rfl, rfl, rfl⟩ := trodAll_nil r2
 obtain rfl : args = #[v0, v1, v2] := by cases args; simp_all
 obtain ⟨rfl, rfl⟩ := trodVars_none hV
 obtain ⟨cs0, x0, fp0, rfl, hc0⟩ := open_param_struct Tryz.underlying25 opens_Yard (hval 0 25 v0 rfl rfl) h0
 obtain ⟨xs1, fp1, hs1⟩ := nM Tryz.underlying59 opens_SpanS (hval 1 59 v1 rfl rfl) h1
 obtain ⟨xs2, fp2, hs2⟩ := nM Tryz.underlying49 opens_intS (hval 2 49 v2 rfl rfl) h2
 have hlt := hW'.lt
 clear hA0 hval0 hA
 refine (orderedBy_law W cs0 x0 fp0 hc0 v1 xs1 fp1 hs1 v2 xs2 fp2 hs2).mono fun e W' ⟨he, hb⟩ => ?_
 subst he
 refine ⟨_, rfl, _, _, _, [], _, [], hW', trodAll_cons_mk (shut_bool Tryz.underlying4 _) trodAll_mk0, qY laidOutTry hb ?_ hAk (fun x hx => hlt x (by simpa using hx)), rfl, hb.frame _, fun h => by cases h⟩
 intro t ht
 rw [Tryz.params8] at ht
 simp at ht
 rcases ht with rfl | rfl | rfl
 all_goals exact ⟨by kernel_rfl, of_decide_eq_true (by kernel_rfl)⟩

theorem fnExactOrderedBy_holds : Rows.FnExactOrderedBySaid :=
 OpenClaim.holds_of_wide 8 Tryz.f8 rfl rfl rfl rfl rfl rfl rfl ⟨rfl, rfl, rfl, rfl, rfl⟩ rfl rfl rfl rfl rfl (by kernel_rfl) Tryz.func8 (by kernel_rfl)
  (of_decide_eq_true (by kernel_rfl)) (by unfold Func.isWrapper; first | (rw [if_pos (by decide +kernel)]; kernel_rfl) | (rw [if_neg (by decide +kernel)]; exact ⟨rfl, rfl⟩))
  (fun os started H enc _ => fnExactOrderedBy_lifted os started H enc)
#print axioms fnExactOrderedBy_holds
end Go.Proofs.YtchnllpegfbleaaGreat
