/-
  Proved: the statement on FnExactStays: for every input the law returns true, and its arguments read afterwards as before. No condition.
-/
import Derived.Test.YtanpcpoogkdlaaaGreatQ06
namespace Go.Proofs.YtanpcpoogkdlaaaGreat
set_option linter.unusedSimpArgs false
set_option linter.unusedVariables false
set_option maxHeartbeats 2000000
open Go.ChangeShapes Go.WideShapes Go.ChangeAt Go.RowKit Go.Deep
set_option maxRecDepth 100000 in
theorem fnExactStays_lifted (os : Os) (started : os.Started) (H : Type) (enc : TypeId × Value → H) :
  ReturnsInHanded {} Tryz.checked os 10 .any (Rows.fnExactStaysSpec.pre6 enc Tryz.prog Tryz.f10 Rows.fnExactStaysRow.domain false) (Rows.fnExactStaysSpec.post enc Tryz.prog Tryz.f10 false true false false) := by
 refine returnsInHanded_of_change (C := Tryz.checked) ownKnobTry started (by kernel_rfl) Tryz.func10
  (ChangeSpec.witness6 (enc := enc) (C := Tryz.checked) false ⟨#[], #[.agg #[I 0, I 0, .slice none 0 0, .slice none 0 0, .slice none 0 0, I 0, I 0, .slice none 0 0, I 0, .bool false, .slice none 0 0, .slice none 0 0, I 0, I 0]], []⟩ 8 (by kernel_rfl) (by kernel_rfl) (by kernel_rfl) (by kernel_rfl)) ?_
 intro W base args ds gs before hval0 hW hcnd _
 have hval : ∀ (j : Nat) t v, Tryz.f10.params[j]? = some t → args[j]? = some v → Value.okWide Tryz.prog W .any base t v := hval0
 have hW' := hW
 obtain ⟨p, q, hA0, hV, rfl, hfz, hnd⟩ := hW
 have hA : DataW.TrodAll enc Tryz.prog W 0 (fun _ => true) true Tryz.f10.params.toList args.toList ds p := hA0
 have hAk := hA0
 rw [Tryz.params10] at hA hval
 obtain ⟨v0, vs0, d0, ds0, p0, q0, hargs, rfl, rfl, h0, r0⟩ := trodAll_cons hA
 obtain ⟨rfl, rfl, rfl⟩ := trodAll_nil r0
 obtain rfl : args = #[v0] := by cases args; simp_all
 obtain ⟨rfl, rfl⟩ := trodVars_none hV
 obtain ⟨cs0, x0, fp0, rfl, hc0⟩ := open_param_struct Tryz.underlying92 opens_World (hval 0 92 v0 rfl rfl) h0
 have hlt := hW'.lt
 clear hA0 hval0 hA
 refine (stays_law W cs0 x0 fp0 hc0).mono fun e W' ⟨he, hb⟩ => ?_
 subst he
 refine ⟨_, rfl, _, _, _, [], _, [], hW', trodAll_cons_mk (shut_bool Tryz.underlying4 _) trodAll_mk0, oF laidOutTry hb ?_ hAk (fun x hx => hlt x (by simpa using hx)), rfl, hb.frame _, fun h => by cases h⟩
 intro t ht
 rw [Tryz.params10] at ht
 simp at ht
 subst ht
 exact ⟨by kernel_rfl, of_decide_eq_true (by kernel_rfl)⟩

theorem b_and {a b : Bool} (h : a = true) (k : b = true) : (a && b) = true := by rw [h, k]; rfl
theorem fnExactStays_c0 : (Rows.fnExactStaysRow.wf (OpenSpec.ofChange Rows.fnExactStaysSpec)) = true := by kernel_rfl
theorem fnExactStays_c1 : (laidOutB Tryz.prog) = true := by kernel_rfl
theorem fnExactStays_c2 : (mapsRowed Tryz.prog) = true := by kernel_rfl
theorem fnExactStays_c3 : (Tryz.f10.params.all (Tryz.prog.readableRec ·)) = true := by kernel_rfl
theorem fnExactStays_c4 : (namedTie Tryz.prog Rows.fnExactStaysRow.named Rows.fnExactStaysSpec.vars) = true := by kernel_rfl
theorem fnExactStays_c5 : ((Rows.fnExactStaysRow.stops == [])) = true := by kernel_rfl
theorem fnExactStays_c6 : ((Tryz.prog.stops == [])) = true := by kernel_rfl
theorem fnExactStays_c7 : ((Rows.fnExactStaysRow.knobs == [])) = true := by kernel_rfl
theorem fnExactStays_c8 : ((Tryz.prog.stopKnobs == [])) = true := by kernel_rfl
theorem fnExactStays_c9 : ((Rows.fnExactStaysRow.inPlace == Tryz.prog.inPlace 10)) = true := by kernel_rfl
theorem fnExactStays_c10 : ((Rows.fnExactStaysRow.unfollowed == Tryz.prog.unfollowed 10)) = true := by kernel_rfl
theorem fnExactStays_c11 : ((Rows.fnExactStaysRow.recurses == Tryz.prog.recurses 10)) = true := by kernel_rfl
theorem fnExactStays_c12 : ((Rows.fnExactStaysRow.named == Tryz.prog.varsNamed 10)) = true := by kernel_rfl
theorem fnExactStays_c13 : ((Rows.fnExactStaysRow.maps == (Tryz.f10.params.toList ++ Rows.fnExactStaysSpec.plain.varTypes Tryz.prog).any (Tryz.prog.mapsRec ·))) = true := by kernel_rfl
theorem fnExactStays_c14 : ((Rows.fnExactStaysRow.ifaces == (Tryz.f10.params.toList ++ Rows.fnExactStaysSpec.plain.varTypes Tryz.prog).any (Tryz.prog.ifacesRec ·))) = true := by kernel_rfl
theorem fnExactStays_c15 : ((Rows.fnExactStaysRow.mapsOut == Tryz.prog.mapsAmong Tryz.f10.resultTypes.toList)) = true := by kernel_rfl
theorem fnExactStays_c16 : ((Rows.fnExactStaysRow.loops == (Tryz.f10.params.toList ++ Rows.fnExactStaysSpec.plain.varTypes Tryz.prog).any (Tryz.prog.loopsFrom ·))) = true := by kernel_rfl
theorem fnExactStays_c17 : ((Rows.fnExactStaysRow.wideKeys == (Tryz.f10.params.toList ++ Rows.fnExactStaysSpec.plain.varTypes Tryz.prog ++ Tryz.f10.resultTypes.toList).any (Tryz.prog.wideKeysFrom ·))) = true := by kernel_rfl
theorem fnExactStays_c18 : (Rows.fnExactStaysSpec.vars.all (Tryz.prog.varReadable ·)) = true := by kernel_rfl
theorem fnExactStays_c19 : (Tryz.f10.resultTypes.all (fun t => Tryz.prog.readableRec t && decide (t < Tryz.prog.types.size))) = true := by kernel_rfl
theorem fnExactStays_c20 : ((Rows.fnExactStaysRow.ifacesOut == Tryz.f10.resultTypes.toList.any (Tryz.prog.ifacesRec ·))) = true := by kernel_rfl
theorem fnExactStays_c21 : ((Rows.fnExactStaysRow.loopsOut == Tryz.f10.resultTypes.toList.any (Tryz.prog.loopsFrom ·))) = true := by kernel_rfl
theorem fnExactStays_c22 : ((Rows.fnExactStaysRow.plainKeys == Tryz.prog.plainKeys)) = true := by kernel_rfl
theorem fnExactStays_c23 : (Rows.fnExactStaysRow.shortTexts.isNone) = true := by kernel_rfl
theorem fnExactStays_c24 : (Tryz.prog.stopsHeard) = true := by kernel_rfl
theorem fnExactStays_c25 : (Tryz.prog.mayEnter) = true := by kernel_rfl
theorem fnExactStays_c26 : ((Rows.fnExactStaysRow.lifted == Tryz.prog.liftsFinal)) = true := by kernel_rfl
theorem fnExactStays_c27 : ((Tryz.prog.make == some Rows.fnExactStaysRow.make)) = true := by kernel_rfl
theorem fnExactStays_c28 : ((Rows.fnExactStaysRow.kinds == (if Rows.fnExactStaysRow.domain.isEmpty then [] else Tryz.f10.params.toList.map fun t => match Tryz.prog.underlying t with | some (.int k) => some k | _ => none))) = true := by kernel_rfl
theorem fnExactStays_c29 : ((Rows.fnExactStaysRow.pinned == Rows.fnExactStaysRow.pinnedBy)) = true := by kernel_rfl
theorem fnExactStays_c30 : ((Rows.fnExactStaysRow.veiled == (Tryz.f10.params.toList ++ Rows.fnExactStaysSpec.plain.varTypes Tryz.prog ++ Tryz.f10.resultTypes.toList).any (Tryz.prog.veiledRec ·))) = true := by kernel_rfl
theorem fnExactStays_c31 : (Rows.fnExactStaysRow.veiledFits Tryz.prog Tryz.f10.params.toList (Tryz.f10.params.toList ++ Rows.fnExactStaysSpec.plain.varTypes Tryz.prog ++ Tryz.f10.resultTypes.toList)) = true := by kernel_rfl
set_option maxRecDepth 100000 in
theorem fnExactStays_closed : joinedFacts Tryz.prog 10 Tryz.f10 Rows.fnExactStaysSpec Rows.fnExactStaysRow = true := by
 unfold joinedFacts
 exact b_and (b_and (b_and (b_and (b_and (b_and (b_and (b_and (b_and (b_and (b_and (b_and (b_and (b_and (b_and (b_and (b_and (b_and (b_and (b_and (b_and (b_and (b_and (b_and (b_and (b_and (b_and (b_and (b_and (b_and (b_and (fnExactStays_c0) fnExactStays_c1) fnExactStays_c2) fnExactStays_c3) fnExactStays_c4) fnExactStays_c5) fnExactStays_c6) fnExactStays_c7) fnExactStays_c8) fnExactStays_c9) fnExactStays_c10) fnExactStays_c11) fnExactStays_c12) fnExactStays_c13) fnExactStays_c14) fnExactStays_c15) fnExactStays_c16) fnExactStays_c17) fnExactStays_c18) fnExactStays_c19) fnExactStays_c20) fnExactStays_c21) fnExactStays_c22) fnExactStays_c23) fnExactStays_c24) fnExactStays_c25) fnExactStays_c26) fnExactStays_c27) fnExactStays_c28) fnExactStays_c29) fnExactStays_c30) fnExactStays_c31
theorem fnExactStays_holds : Rows.FnExactStaysSaid :=
 OpenClaim.holds_of_wide 10 Tryz.f10 rfl rfl rfl rfl rfl rfl rfl ⟨rfl, rfl, rfl, rfl, rfl⟩ rfl rfl rfl rfl rfl (by kernel_rfl) Tryz.func10 fnExactStays_closed
  (of_decide_eq_true (by kernel_rfl)) (by unfold Func.isWrapper; first | (rw [if_pos (by decide +kernel)]; kernel_rfl) | (rw [if_neg (by decide +kernel)]; exact ⟨rfl, rfl⟩))
  (fun os started H enc _ => fnExactStays_lifted os started H enc)
#print axioms fnExactStays_holds
end Go.Proofs.YtanpcpoogkdlaaaGreat
