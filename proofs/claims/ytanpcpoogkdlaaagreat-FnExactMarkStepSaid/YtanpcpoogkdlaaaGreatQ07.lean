/-
  Proved: the statement on FnExactMarkStep: for every input the law returns true, and its arguments read afterwards as before. No condition.
-/
import Derived.Test.YtanpcpoogkdlaaaGreatQ06
namespace Go.Proofs.YtanpcpoogkdlaaaGreat
set_option linter.unusedSimpArgs false
set_option linter.unusedVariables false
set_option maxHeartbeats 2000000
open Go.ChangeShapes Go.WideShapes Go.ChangeAt Go.RowKit Go.Deep
set_option maxRecDepth 100000 in
theorem fnExactMarkStep_lifted (os : Os) (started : os.Started) (H : Type) (enc : TypeId × Value → H) :
  ReturnsInHanded {} Tryz.checked os 6 .any (Rows.fnExactMarkStepSpec.pre6 enc Tryz.prog Tryz.f6 Rows.fnExactMarkStepRow.domain false) (Rows.fnExactMarkStepSpec.post enc Tryz.prog Tryz.f6 false true false false) := by
 refine returnsInHanded_of_change (C := Tryz.checked) ownKnobTry started (by kernel_rfl) Tryz.func6
  (ChangeSpec.witness6 (enc := enc) (C := Tryz.checked) false ⟨#[], #[.agg #[I 0, I 0, .slice none 0 0, .slice none 0 0, .slice none 0 0, I 0, I 0, .slice none 0 0, I 0, .bool false], .int .i64 0], []⟩ 8 (by kernel_rfl) (by kernel_rfl) (by kernel_rfl) (by kernel_rfl)) ?_
 intro W base args ds gs before hval0 hW hcnd _
 have hval : ∀ (j : Nat) t v, Tryz.f6.params[j]? = some t → args[j]? = some v → Value.okWide Tryz.prog W .any base t v := hval0
 have hW' := hW
 obtain ⟨p, q, hA0, hV, rfl, hfz, hnd⟩ := hW
 have hA : DataW.TrodAll enc Tryz.prog W 0 (fun _ => true) true Tryz.f6.params.toList args.toList ds p := hA0
 have hAk := hA0
 rw [Tryz.params6] at hA hval
 obtain ⟨v0, vs0, d0, ds0, p0, q0, hargs, rfl, rfl, h0, r0⟩ := trodAll_cons hA
 obtain ⟨v1, vs1, d1, ds1, p1, q1, rfl, rfl, rfl, h1, r1⟩ := trodAll_cons r0
 obtain ⟨rfl, rfl, rfl⟩ := trodAll_nil r1
 obtain rfl : args = #[v0, v1] := by cases args; simp_all
 obtain ⟨rfl, rfl⟩ := trodVars_none hV
 obtain ⟨cs0, x0, fp0, rfl, hc0⟩ := open_param_struct Tryz.underlying73 opens_Engine (hval 0 73 v0 rfl rfl) h0
 obtain ⟨n1, rfl, hn1⟩ := open_param_int (hval 1 3 v1 rfl rfl) h1
 have hlt := hW'.lt
 clear hA0 hval0 hA
 refine (markStep_law W cs0 x0 fp0 hc0 n1 hn1).mono fun e W' ⟨he, hb⟩ => ?_
 subst he
 refine ⟨_, rfl, _, _, _, [], _, [], hW', trodAll_cons_mk (shut_bool Tryz.underlying4 _) trodAll_mk0, oJ laidOutTry hb ?_ hAk (fun x hx => hlt x (by simpa using hx)), rfl, hb.frame _, fun h => by cases h⟩
 intro t ht
 rw [Tryz.params6] at ht
 simp at ht
 rcases ht with rfl | rfl
 all_goals exact ⟨by kernel_rfl, of_decide_eq_true (by kernel_rfl)⟩

theorem b_and {a b : Bool} (h : a = true) (k : b = true) : (a && b) = true := by rw [h, k]; rfl
theorem fnExactMarkStep_c0 : (Rows.fnExactMarkStepRow.wf (OpenSpec.ofChange Rows.fnExactMarkStepSpec)) = true := by kernel_rfl
theorem fnExactMarkStep_c1 : (laidOutB Tryz.prog) = true := by kernel_rfl
theorem fnExactMarkStep_c2 : (mapsRowed Tryz.prog) = true := by kernel_rfl
theorem fnExactMarkStep_c3 : (Tryz.f6.params.all (Tryz.prog.readableRec ·)) = true := by kernel_rfl
theorem fnExactMarkStep_c4 : (namedTie Tryz.prog Rows.fnExactMarkStepRow.named Rows.fnExactMarkStepSpec.vars) = true := by kernel_rfl
theorem fnExactMarkStep_c5 : ((Rows.fnExactMarkStepRow.stops == [])) = true := by kernel_rfl
theorem fnExactMarkStep_c6 : ((Tryz.prog.stops == [])) = true := by kernel_rfl
theorem fnExactMarkStep_c7 : ((Rows.fnExactMarkStepRow.knobs == [])) = true := by kernel_rfl
theorem fnExactMarkStep_c8 : ((Tryz.prog.stopKnobs == [])) = true := by kernel_rfl
theorem fnExactMarkStep_c9 : ((Rows.fnExactMarkStepRow.inPlace == Tryz.prog.inPlace 6)) = true := by kernel_rfl
theorem fnExactMarkStep_c10 : ((Rows.fnExactMarkStepRow.unfollowed == Tryz.prog.unfollowed 6)) = true := by kernel_rfl
theorem fnExactMarkStep_c11 : ((Rows.fnExactMarkStepRow.recurses == Tryz.prog.recurses 6)) = true := by kernel_rfl
theorem fnExactMarkStep_c12 : ((Rows.fnExactMarkStepRow.named == Tryz.prog.varsNamed 6)) = true := by kernel_rfl
theorem fnExactMarkStep_c13 : ((Rows.fnExactMarkStepRow.maps == (Tryz.f6.params.toList ++ Rows.fnExactMarkStepSpec.plain.varTypes Tryz.prog).any (Tryz.prog.mapsRec ·))) = true := by kernel_rfl
theorem fnExactMarkStep_c14 : ((Rows.fnExactMarkStepRow.ifaces == (Tryz.f6.params.toList ++ Rows.fnExactMarkStepSpec.plain.varTypes Tryz.prog).any (Tryz.prog.ifacesRec ·))) = true := by kernel_rfl
theorem fnExactMarkStep_c15 : ((Rows.fnExactMarkStepRow.mapsOut == Tryz.prog.mapsAmong Tryz.f6.resultTypes.toList)) = true := by kernel_rfl
theorem fnExactMarkStep_c16 : ((Rows.fnExactMarkStepRow.loops == (Tryz.f6.params.toList ++ Rows.fnExactMarkStepSpec.plain.varTypes Tryz.prog).any (Tryz.prog.loopsFrom ·))) = true := by kernel_rfl
theorem fnExactMarkStep_c17 : ((Rows.fnExactMarkStepRow.wideKeys == (Tryz.f6.params.toList ++ Rows.fnExactMarkStepSpec.plain.varTypes Tryz.prog ++ Tryz.f6.resultTypes.toList).any (Tryz.prog.wideKeysFrom ·))) = true := by kernel_rfl
theorem fnExactMarkStep_c18 : (Rows.fnExactMarkStepSpec.vars.all (Tryz.prog.varReadable ·)) = true := by kernel_rfl
theorem fnExactMarkStep_c19 : (Tryz.f6.resultTypes.all (fun t => Tryz.prog.readableRec t && decide (t < Tryz.prog.types.size))) = true := by kernel_rfl
theorem fnExactMarkStep_c20 : ((Rows.fnExactMarkStepRow.ifacesOut == Tryz.f6.resultTypes.toList.any (Tryz.prog.ifacesRec ·))) = true := by kernel_rfl
theorem fnExactMarkStep_c21 : ((Rows.fnExactMarkStepRow.loopsOut == Tryz.f6.resultTypes.toList.any (Tryz.prog.loopsFrom ·))) = true := by kernel_rfl
theorem fnExactMarkStep_c22 : ((Rows.fnExactMarkStepRow.plainKeys == Tryz.prog.plainKeys)) = true := by kernel_rfl
theorem fnExactMarkStep_c23 : (Rows.fnExactMarkStepRow.shortTexts.isNone) = true := by kernel_rfl
theorem fnExactMarkStep_c24 : (Tryz.prog.stopsHeard) = true := by kernel_rfl
theorem fnExactMarkStep_c25 : (Tryz.prog.mayEnter) = true := by kernel_rfl
theorem fnExactMarkStep_c26 : ((Rows.fnExactMarkStepRow.lifted == Tryz.prog.liftsFinal)) = true := by kernel_rfl
theorem fnExactMarkStep_c27 : ((Tryz.prog.make == some Rows.fnExactMarkStepRow.make)) = true := by kernel_rfl
theorem fnExactMarkStep_c28 : ((Rows.fnExactMarkStepRow.kinds == (if Rows.fnExactMarkStepRow.domain.isEmpty then [] else Tryz.f6.params.toList.map fun t => match Tryz.prog.underlying t with | some (.int k) => some k | _ => none))) = true := by kernel_rfl
theorem fnExactMarkStep_c29 : ((Rows.fnExactMarkStepRow.pinned == Rows.fnExactMarkStepRow.pinnedBy)) = true := by kernel_rfl
theorem fnExactMarkStep_c30 : ((Rows.fnExactMarkStepRow.veiled == (Tryz.f6.params.toList ++ Rows.fnExactMarkStepSpec.plain.varTypes Tryz.prog ++ Tryz.f6.resultTypes.toList).any (Tryz.prog.veiledRec ·))) = true := by kernel_rfl
theorem fnExactMarkStep_c31 : (Rows.fnExactMarkStepRow.veiledFits Tryz.prog Tryz.f6.params.toList (Tryz.f6.params.toList ++ Rows.fnExactMarkStepSpec.plain.varTypes Tryz.prog ++ Tryz.f6.resultTypes.toList)) = true := by kernel_rfl
set_option maxRecDepth 100000 in
theorem fnExactMarkStep_closed : joinedFacts Tryz.prog 6 Tryz.f6 Rows.fnExactMarkStepSpec Rows.fnExactMarkStepRow = true := by
 unfold joinedFacts
 exact b_and (b_and (b_and (b_and (b_and (b_and (b_and (b_and (b_and (b_and (b_and (b_and (b_and (b_and (b_and (b_and (b_and (b_and (b_and (b_and (b_and (b_and (b_and (b_and (b_and (b_and (b_and (b_and (b_and (b_and (b_and (fnExactMarkStep_c0) fnExactMarkStep_c1) fnExactMarkStep_c2) fnExactMarkStep_c3) fnExactMarkStep_c4) fnExactMarkStep_c5) fnExactMarkStep_c6) fnExactMarkStep_c7) fnExactMarkStep_c8) fnExactMarkStep_c9) fnExactMarkStep_c10) fnExactMarkStep_c11) fnExactMarkStep_c12) fnExactMarkStep_c13) fnExactMarkStep_c14) fnExactMarkStep_c15) fnExactMarkStep_c16) fnExactMarkStep_c17) fnExactMarkStep_c18) fnExactMarkStep_c19) fnExactMarkStep_c20) fnExactMarkStep_c21) fnExactMarkStep_c22) fnExactMarkStep_c23) fnExactMarkStep_c24) fnExactMarkStep_c25) fnExactMarkStep_c26) fnExactMarkStep_c27) fnExactMarkStep_c28) fnExactMarkStep_c29) fnExactMarkStep_c30) fnExactMarkStep_c31
theorem fnExactMarkStep_holds : Rows.FnExactMarkStepSaid :=
 OpenClaim.holds_of_wide 6 Tryz.f6 rfl rfl rfl rfl rfl rfl rfl ⟨rfl, rfl, rfl, rfl, rfl⟩ rfl rfl rfl rfl rfl (by kernel_rfl) Tryz.func6 fnExactMarkStep_closed
  (of_decide_eq_true (by kernel_rfl)) (by unfold Func.isWrapper; first | (rw [if_pos (by decide +kernel)]; kernel_rfl) | (rw [if_neg (by decide +kernel)]; exact ⟨rfl, rfl⟩))
  (fun os started H enc _ => fnExactMarkStep_lifted os started H enc)
#print axioms fnExactMarkStep_holds
end Go.Proofs.YtanpcpoogkdlaaaGreat
