/-
  Proved: the statement on FnExactMarkOf: for every input the law returns true, and its arguments read afterwards as before. No condition.
-/
import Derived.Test.YtanpcpoogkdlaaaGreatQ06
namespace Go.Proofs.YtanpcpoogkdlaaaGreat
set_option linter.unusedSimpArgs false
set_option linter.unusedVariables false
set_option maxHeartbeats 2000000
open Go.ChangeShapes Go.WideShapes Go.ChangeAt Go.RowKit Go.Deep
set_option maxRecDepth 100000 in
theorem fnExactMarkOf_lifted (os : Os) (started : os.Started) (H : Type) (enc : TypeId × Value → H) :
  ReturnsInHanded {} Tryz.checked os 5 .any (Rows.fnExactMarkOfSpec.pre6 enc Tryz.prog Tryz.f5 Rows.fnExactMarkOfRow.domain false) (Rows.fnExactMarkOfSpec.post enc Tryz.prog Tryz.f5 false true false false) := by
 refine returnsInHanded_of_change (C := Tryz.checked) ownKnobTry started (by kernel_rfl) Tryz.func5
  (ChangeSpec.witness6 (enc := enc) (C := Tryz.checked) false ⟨#[], #[.agg #[.slice none 0 0]], []⟩ 8 (by kernel_rfl) (by kernel_rfl) (by kernel_rfl) (by kernel_rfl)) ?_
 intro W base args ds gs before hval0 hW hcnd _
 have hval : ∀ (j : Nat) t v, Tryz.f5.params[j]? = some t → args[j]? = some v → Value.okWide Tryz.prog W .any base t v := hval0
 have hW' := hW
 obtain ⟨p, q, hA0, hV, rfl, hfz, hnd⟩ := hW
 have hA : DataW.TrodAll enc Tryz.prog W 0 (fun _ => true) true Tryz.f5.params.toList args.toList ds p := hA0
 have hAk := hA0
 rw [Tryz.params5] at hA hval
 obtain ⟨v0, vs0, d0, ds0, p0, q0, hargs, rfl, rfl, h0, r0⟩ := trodAll_cons hA
 obtain ⟨rfl, rfl, rfl⟩ := trodAll_nil r0
 obtain rfl : args = #[v0] := by cases args; simp_all
 obtain ⟨rfl, rfl⟩ := trodVars_none hV
 obtain ⟨cs0, x0, fp0, rfl, hc0⟩ := open_param_struct Tryz.underlying60 opens_Disk (hval 0 60 v0 rfl rfl) h0
 have hlt := hW'.lt
 clear hA0 hval0 hA
 refine (markOf_law W cs0 x0 fp0 hc0).mono fun e W' ⟨he, hb⟩ => ?_
 subst he
 refine ⟨_, rfl, _, _, _, [], _, [], hW', trodAll_cons_mk (shut_bool Tryz.underlying4 _) trodAll_mk0, mX laidOutTry hb ?_ hAk (fun x hx => hlt x (by simpa using hx)), rfl, hb.frame _, fun h => by cases h⟩
 intro t ht
 rw [Tryz.params5] at ht
 simp at ht
 subst ht
 exact ⟨by kernel_rfl, of_decide_eq_true (by kernel_rfl)⟩

theorem b_and {a b : Bool} (h : a = true) (k : b = true) : (a && b) = true := by rw [h, k]; rfl
theorem fnExactMarkOf_c0 : (Rows.fnExactMarkOfRow.wf (OpenSpec.ofChange Rows.fnExactMarkOfSpec)) = true := by kernel_rfl
theorem fnExactMarkOf_c1 : (laidOutB Tryz.prog) = true := by kernel_rfl
theorem fnExactMarkOf_c2 : (mapsRowed Tryz.prog) = true := by kernel_rfl
theorem fnExactMarkOf_c3 : (Tryz.f5.params.all (Tryz.prog.readableRec ·)) = true := by kernel_rfl
theorem fnExactMarkOf_c4 : (namedTie Tryz.prog Rows.fnExactMarkOfRow.named Rows.fnExactMarkOfSpec.vars) = true := by kernel_rfl
theorem fnExactMarkOf_c5 : ((Rows.fnExactMarkOfRow.stops == [])) = true := by kernel_rfl
theorem fnExactMarkOf_c6 : ((Tryz.prog.stops == [])) = true := by kernel_rfl
theorem fnExactMarkOf_c7 : ((Rows.fnExactMarkOfRow.knobs == [])) = true := by kernel_rfl
theorem fnExactMarkOf_c8 : ((Tryz.prog.stopKnobs == [])) = true := by kernel_rfl
theorem fnExactMarkOf_c9 : ((Rows.fnExactMarkOfRow.inPlace == Tryz.prog.inPlace 5)) = true := by kernel_rfl
theorem fnExactMarkOf_c10 : ((Rows.fnExactMarkOfRow.unfollowed == Tryz.prog.unfollowed 5)) = true := by kernel_rfl
theorem fnExactMarkOf_c11 : ((Rows.fnExactMarkOfRow.recurses == Tryz.prog.recurses 5)) = true := by kernel_rfl
theorem fnExactMarkOf_c12 : ((Rows.fnExactMarkOfRow.named == Tryz.prog.varsNamed 5)) = true := by kernel_rfl
theorem fnExactMarkOf_c13 : ((Rows.fnExactMarkOfRow.maps == (Tryz.f5.params.toList ++ Rows.fnExactMarkOfSpec.plain.varTypes Tryz.prog).any (Tryz.prog.mapsRec ·))) = true := by kernel_rfl
theorem fnExactMarkOf_c14 : ((Rows.fnExactMarkOfRow.ifaces == (Tryz.f5.params.toList ++ Rows.fnExactMarkOfSpec.plain.varTypes Tryz.prog).any (Tryz.prog.ifacesRec ·))) = true := by kernel_rfl
theorem fnExactMarkOf_c15 : ((Rows.fnExactMarkOfRow.mapsOut == Tryz.prog.mapsAmong Tryz.f5.resultTypes.toList)) = true := by kernel_rfl
theorem fnExactMarkOf_c16 : ((Rows.fnExactMarkOfRow.loops == (Tryz.f5.params.toList ++ Rows.fnExactMarkOfSpec.plain.varTypes Tryz.prog).any (Tryz.prog.loopsFrom ·))) = true := by kernel_rfl
theorem fnExactMarkOf_c17 : ((Rows.fnExactMarkOfRow.wideKeys == (Tryz.f5.params.toList ++ Rows.fnExactMarkOfSpec.plain.varTypes Tryz.prog ++ Tryz.f5.resultTypes.toList).any (Tryz.prog.wideKeysFrom ·))) = true := by kernel_rfl
theorem fnExactMarkOf_c18 : (Rows.fnExactMarkOfSpec.vars.all (Tryz.prog.varReadable ·)) = true := by kernel_rfl
theorem fnExactMarkOf_c19 : (Tryz.f5.resultTypes.all (fun t => Tryz.prog.readableRec t && decide (t < Tryz.prog.types.size))) = true := by kernel_rfl
theorem fnExactMarkOf_c20 : ((Rows.fnExactMarkOfRow.ifacesOut == Tryz.f5.resultTypes.toList.any (Tryz.prog.ifacesRec ·))) = true := by kernel_rfl
theorem fnExactMarkOf_c21 : ((Rows.fnExactMarkOfRow.loopsOut == Tryz.f5.resultTypes.toList.any (Tryz.prog.loopsFrom ·))) = true := by kernel_rfl
theorem fnExactMarkOf_c22 : ((Rows.fnExactMarkOfRow.plainKeys == Tryz.prog.plainKeys)) = true := by kernel_rfl
theorem fnExactMarkOf_c23 : (Rows.fnExactMarkOfRow.shortTexts.isNone) = true := by kernel_rfl
theorem fnExactMarkOf_c24 : (Tryz.prog.stopsHeard) = true := by kernel_rfl
theorem fnExactMarkOf_c25 : (Tryz.prog.mayEnter) = true := by kernel_rfl
theorem fnExactMarkOf_c26 : ((Rows.fnExactMarkOfRow.lifted == Tryz.prog.liftsFinal)) = true := by kernel_rfl
theorem fnExactMarkOf_c27 : ((Tryz.prog.make == some Rows.fnExactMarkOfRow.make)) = true := by kernel_rfl
theorem fnExactMarkOf_c28 : ((Rows.fnExactMarkOfRow.kinds == (if Rows.fnExactMarkOfRow.domain.isEmpty then [] else Tryz.f5.params.toList.map fun t => match Tryz.prog.underlying t with | some (.int k) => some k | _ => none))) = true := by kernel_rfl
theorem fnExactMarkOf_c29 : ((Rows.fnExactMarkOfRow.pinned == Rows.fnExactMarkOfRow.pinnedBy)) = true := by kernel_rfl
theorem fnExactMarkOf_c30 : ((Rows.fnExactMarkOfRow.veiled == (Tryz.f5.params.toList ++ Rows.fnExactMarkOfSpec.plain.varTypes Tryz.prog ++ Tryz.f5.resultTypes.toList).any (Tryz.prog.veiledRec ·))) = true := by kernel_rfl
theorem fnExactMarkOf_c31 : (Rows.fnExactMarkOfRow.veiledFits Tryz.prog Tryz.f5.params.toList (Tryz.f5.params.toList ++ Rows.fnExactMarkOfSpec.plain.varTypes Tryz.prog ++ Tryz.f5.resultTypes.toList)) = true := by kernel_rfl
set_option maxRecDepth 100000 in
theorem fnExactMarkOf_closed : joinedFacts Tryz.prog 5 Tryz.f5 Rows.fnExactMarkOfSpec Rows.fnExactMarkOfRow = true := by
 unfold joinedFacts
 exact b_and (b_and (b_and (b_and (b_and (b_and (b_and (b_and (b_and (b_and (b_and (b_and (b_and (b_and (b_and (b_and (b_and (b_and (b_and (b_and (b_and (b_and (b_and (b_and (b_and (b_and (b_and (b_and (b_and (b_and (b_and (fnExactMarkOf_c0) fnExactMarkOf_c1) fnExactMarkOf_c2) fnExactMarkOf_c3) fnExactMarkOf_c4) fnExactMarkOf_c5) fnExactMarkOf_c6) fnExactMarkOf_c7) fnExactMarkOf_c8) fnExactMarkOf_c9) fnExactMarkOf_c10) fnExactMarkOf_c11) fnExactMarkOf_c12) fnExactMarkOf_c13) fnExactMarkOf_c14) fnExactMarkOf_c15) fnExactMarkOf_c16) fnExactMarkOf_c17) fnExactMarkOf_c18) fnExactMarkOf_c19) fnExactMarkOf_c20) fnExactMarkOf_c21) fnExactMarkOf_c22) fnExactMarkOf_c23) fnExactMarkOf_c24) fnExactMarkOf_c25) fnExactMarkOf_c26) fnExactMarkOf_c27) fnExactMarkOf_c28) fnExactMarkOf_c29) fnExactMarkOf_c30) fnExactMarkOf_c31
theorem fnExactMarkOf_holds : Rows.FnExactMarkOfSaid :=
 OpenClaim.holds_of_wide 5 Tryz.f5 rfl rfl rfl rfl rfl rfl rfl ⟨rfl, rfl, rfl, rfl, rfl⟩ rfl rfl rfl rfl rfl (by kernel_rfl) Tryz.func5 fnExactMarkOf_closed
  (of_decide_eq_true (by kernel_rfl)) (by unfold Func.isWrapper; first | (rw [if_pos (by decide +kernel)]; kernel_rfl) | (rw [if_neg (by decide +kernel)]; exact ⟨rfl, rfl⟩))
  (fun os started H enc _ => fnExactMarkOf_lifted os started H enc)
#print axioms fnExactMarkOf_holds
end Go.Proofs.YtanpcpoogkdlaaaGreat
