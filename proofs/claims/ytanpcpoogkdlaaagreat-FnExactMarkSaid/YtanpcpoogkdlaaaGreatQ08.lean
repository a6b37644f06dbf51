/-
  Proved: the statement on FnExactMark: for every input the law returns true, and its arguments read afterwards as before. No condition.
-/
import Derived.Test.YtanpcpoogkdlaaaGreatQ06
import Derived.Test.YtanpcpoogkdlaaaGreatQ07
namespace Go.Proofs.YtanpcpoogkdlaaaGreat
set_option linter.unusedSimpArgs false
set_option linter.unusedVariables false
set_option maxHeartbeats 2000000
open Go.ChangeShapes Go.WideShapes Go.ChangeAt Go.RowKit Go.Deep
set_option maxRecDepth 100000 in
theorem fnExactMark_lifted (os : Os) (started : os.Started) (H : Type) (enc : TypeId × Value → H) :
  ReturnsInHanded {} Tryz.checked os 7 .any (Rows.fnExactMarkSpec.pre6 enc Tryz.prog Tryz.f7 Rows.fnExactMarkRow.domain false) (Rows.fnExactMarkSpec.post enc Tryz.prog Tryz.f7 false true false false) := by
 refine returnsInHanded_of_change (C := Tryz.checked) ownKnobTry started (by kernel_rfl) Tryz.func7
  (ChangeSpec.witness6 (enc := enc) (C := Tryz.checked) false ⟨#[], #[.agg #[I 0, I 0, .slice none 0 0, .slice none 0 0, .slice none 0 0, I 0, I 0, .slice none 0 0, I 0, .bool false], .int .i64 0], []⟩ 8 (by kernel_rfl) (by kernel_rfl) (by kernel_rfl) (by kernel_rfl)) ?_
 intro W base args ds gs before hval0 hW hcnd _
 have hval : ∀ (j : Nat) t v, Tryz.f7.params[j]? = some t → args[j]? = some v → Value.okWide Tryz.prog W .any base t v := hval0
 have hW' := hW
 obtain ⟨p, q, hA0, hV, rfl, hfz, hnd⟩ := hW
 have hA : DataW.TrodAll enc Tryz.prog W 0 (fun _ => true) true Tryz.f7.params.toList args.toList ds p := hA0
 have hAk := hA0
 rw [Tryz.params7] at hA hval
 obtain ⟨v0, vs0, d0, ds0, p0, q0, hargs, rfl, rfl, h0, r0⟩ := trodAll_cons hA
 obtain ⟨v1, vs1, d1, ds1, p1, q1, rfl, rfl, rfl, h1, r1⟩ := trodAll_cons r0
 obtain ⟨rfl, rfl, rfl⟩ := trodAll_nil r1
 obtain rfl : args = #[v0, v1] := by cases args; simp_all
 obtain ⟨rfl, rfl⟩ := trodVars_none hV
 obtain ⟨cs0, x0, fp0, rfl, hc0⟩ := open_param_struct Tryz.underlying73 opens_Engine (hval 0 73 v0 rfl rfl) h0
 obtain ⟨n1, rfl, hn1⟩ := open_param_int (hval 1 3 v1 rfl rfl) h1
 have hlt := hW'.lt
 clear hA0 hval0 hA
 refine (mark_law W cs0 x0 fp0 hc0 n1 hn1).mono fun e W' ⟨he, hb⟩ => ?_
 subst he
 refine ⟨_, rfl, _, _, _, [], _, [], hW', trodAll_cons_mk (shut_bool Tryz.underlying4 _) trodAll_mk0, oM laidOutTry hb ?_ hAk (fun x hx => hlt x (by simpa using hx)), rfl, hb.frame _, fun h => by cases h⟩
 intro t ht
 rw [Tryz.params7] at ht
 simp at ht
 rcases ht with rfl | rfl
 all_goals exact ⟨by kernel_rfl, of_decide_eq_true (by kernel_rfl)⟩

theorem b_and {a b : Bool} (h : a = true) (k : b = true) : (a && b) = true := by rw [h, k]; rfl
theorem fnExactMark_c0 : (Rows.fnExactMarkRow.wf (OpenSpec.ofChange Rows.fnExactMarkSpec)) = true := by kernel_rfl
theorem fnExactMark_c1 : (laidOutB Tryz.prog) = true := by kernel_rfl
theorem fnExactMark_c2 : (mapsRowed Tryz.prog) = true := by kernel_rfl
theorem fnExactMark_c3 : (Tryz.f7.params.all (Tryz.prog.readableRec ·)) = true := by kernel_rfl
theorem fnExactMark_c4 : (namedTie Tryz.prog Rows.fnExactMarkRow.named Rows.fnExactMarkSpec.vars) = true := by kernel_rfl
theorem fnExactMark_c5 : ((Rows.fnExactMarkRow.stops == [])) = true := by kernel_rfl
theorem fnExactMark_c6 : ((Tryz.prog.stops == [])) = true := by kernel_rfl
theorem fnExactMark_c7 : ((Rows.fnExactMarkRow.knobs == [])) = true := by kernel_rfl
theorem fnExactMark_c8 : ((Tryz.prog.stopKnobs == [])) = true := by kernel_rfl
theorem fnExactMark_c9 : ((Rows.fnExactMarkRow.inPlace == Tryz.prog.inPlace 7)) = true := by kernel_rfl
theorem fnExactMark_c10 : ((Rows.fnExactMarkRow.unfollowed == Tryz.prog.unfollowed 7)) = true := by kernel_rfl
theorem fnExactMark_c11 : ((Rows.fnExactMarkRow.recurses == Tryz.prog.recurses 7)) = true := by kernel_rfl
theorem fnExactMark_c12 : ((Rows.fnExactMarkRow.named == Tryz.prog.varsNamed 7)) = true := by kernel_rfl
theorem fnExactMark_c13 : ((Rows.fnExactMarkRow.maps == (Tryz.f7.params.toList ++ Rows.fnExactMarkSpec.plain.varTypes Tryz.prog).any (Tryz.prog.mapsRec ·))) = true := by kernel_rfl
theorem fnExactMark_c14 : ((Rows.fnExactMarkRow.ifaces == (Tryz.f7.params.toList ++ Rows.fnExactMarkSpec.plain.varTypes Tryz.prog).any (Tryz.prog.ifacesRec ·))) = true := by kernel_rfl
theorem fnExactMark_c15 : ((Rows.fnExactMarkRow.mapsOut == Tryz.prog.mapsAmong Tryz.f7.resultTypes.toList)) = true := by kernel_rfl
theorem fnExactMark_c16 : ((Rows.fnExactMarkRow.loops == (Tryz.f7.params.toList ++ Rows.fnExactMarkSpec.plain.varTypes Tryz.prog).any (Tryz.prog.loopsFrom ·))) = true := by kernel_rfl
theorem fnExactMark_c17 : ((Rows.fnExactMarkRow.wideKeys == (Tryz.f7.params.toList ++ Rows.fnExactMarkSpec.plain.varTypes Tryz.prog ++ Tryz.f7.resultTypes.toList).any (Tryz.prog.wideKeysFrom ·))) = true := by kernel_rfl
theorem fnExactMark_c18 : (Rows.fnExactMarkSpec.vars.all (Tryz.prog.varReadable ·)) = true := by kernel_rfl
theorem fnExactMark_c19 : (Tryz.f7.resultTypes.all (fun t => Tryz.prog.readableRec t && decide (t < Tryz.prog.types.size))) = true := by kernel_rfl
theorem fnExactMark_c20 : ((Rows.fnExactMarkRow.ifacesOut == Tryz.f7.resultTypes.toList.any (Tryz.prog.ifacesRec ·))) = true := by kernel_rfl
theorem fnExactMark_c21 : ((Rows.fnExactMarkRow.loopsOut == Tryz.f7.resultTypes.toList.any (Tryz.prog.loopsFrom ·))) = true := by kernel_rfl
theorem fnExactMark_c22 : ((Rows.fnExactMarkRow.plainKeys == Tryz.prog.plainKeys)) = true := by kernel_rfl
theorem fnExactMark_c23 : (Rows.fnExactMarkRow.shortTexts.isNone) = true := by kernel_rfl
theorem fnExactMark_c24 : (Tryz.prog.stopsHeard) = true := by kernel_rfl
theorem fnExactMark_c25 : (Tryz.prog.mayEnter) = true := by kernel_rfl
theorem fnExactMark_c26 : ((Rows.fnExactMarkRow.lifted == Tryz.prog.liftsFinal)) = true := by kernel_rfl
theorem fnExactMark_c27 : ((Tryz.prog.make == some Rows.fnExactMarkRow.make)) = true := by kernel_rfl
theorem fnExactMark_c28 : ((Rows.fnExactMarkRow.kinds == (if Rows.fnExactMarkRow.domain.isEmpty then [] else Tryz.f7.params.toList.map fun t => match Tryz.prog.underlying t with | some (.int k) => some k | _ => none))) = true := by kernel_rfl
theorem fnExactMark_c29 : ((Rows.fnExactMarkRow.pinned == Rows.fnExactMarkRow.pinnedBy)) = true := by kernel_rfl
theorem fnExactMark_c30 : ((Rows.fnExactMarkRow.veiled == (Tryz.f7.params.toList ++ Rows.fnExactMarkSpec.plain.varTypes Tryz.prog ++ Tryz.f7.resultTypes.toList).any (Tryz.prog.veiledRec ·))) = true := by kernel_rfl
theorem fnExactMark_c31 : (Rows.fnExactMarkRow.veiledFits Tryz.prog Tryz.f7.params.toList (Tryz.f7.params.toList ++ Rows.fnExactMarkSpec.plain.varTypes Tryz.prog ++ Tryz.f7.resultTypes.toList)) = true := by kernel_rfl
set_option maxRecDepth 100000 in
theorem fnExactMark_closed : joinedFacts Tryz.prog 7 Tryz.f7 Rows.fnExactMarkSpec Rows.fnExactMarkRow = true := by
 unfold joinedFacts
 exact b_and (b_and (b_and (b_and (b_and (b_and (b_and (b_and (b_and (b_and (b_and (b_and (b_and (b_and (b_and (b_and (b_and (b_and (b_and (b_and (b_and (b_and (b_and (b_and (b_and (b_and (b_and (b_and (b_and (b_and (b_and (fnExactMark_c0) fnExactMark_c1) fnExactMark_c2) fnExactMark_c3) fnExactMark_c4) fnExactMark_c5) fnExactMark_c6) fnExactMark_c7) fnExactMark_c8) fnExactMark_c9) fnExactMark_c10) fnExactMark_c11) fnExactMark_c12) fnExactMark_c13) fnExactMark_c14) fnExactMark_c15) fnExactMark_c16) fnExactMark_c17) fnExactMark_c18) fnExactMark_c19) fnExactMark_c20) fnExactMark_c21) fnExactMark_c22) fnExactMark_c23) fnExactMark_c24) fnExactMark_c25) fnExactMark_c26) fnExactMark_c27) fnExactMark_c28) fnExactMark_c29) fnExactMark_c30) fnExactMark_c31
theorem fnExactMark_holds : Rows.FnExactMarkSaid :=
 OpenClaim.holds_of_wide 7 Tryz.f7 rfl rfl rfl rfl rfl rfl rfl ⟨rfl, rfl, rfl, rfl, rfl⟩ rfl rfl rfl rfl rfl (by kernel_rfl) Tryz.func7 fnExactMark_closed
  (of_decide_eq_true (by kernel_rfl)) (by unfold Func.isWrapper; first | (rw [if_pos (by decide +kernel)]; kernel_rfl) | (rw [if_neg (by decide +kernel)]; exact ⟨rfl, rfl⟩))
  (fun os started H enc _ => fnExactMark_lifted os started H enc)
#print axioms fnExactMark_holds
end Go.Proofs.YtanpcpoogkdlaaaGreat
