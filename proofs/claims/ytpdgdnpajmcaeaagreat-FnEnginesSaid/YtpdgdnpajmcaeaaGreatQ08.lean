/-
  Proved: the statement on FnEngines: for every input the law returns true, and its arguments read afterwards as before. No condition.
-/
import Derived.Test.YtpdgdnpajmcaeaaGreatQ07
set_option linter.unusedSimpArgs false
set_option linter.unusedVariables false
namespace Go.Proofs.YtpdgdnpajmcaeaaGreat
set_option maxHeartbeats 2000000
open Go.ChangeShapes Go.WideShapes Go.ChangeAt Go.RowKit Go.Deep
set_option maxRecDepth 100000 in
theorem fnEngines_lifted (os:Os) (started:os.Started) (H:Type) (enc:TypeId×Value->H) :
  ReturnsInHanded {} Tryz.checked os 4 .any (Rows.fnEnginesSpec.pre6 enc Tryz.prog Tryz.f4 Rows.fnEnginesRow.domain false) (Rows.fnEnginesSpec.post enc Tryz.prog Tryz.f4 false true false false):=by
 refine returnsInHanded_of_change (C:=Tryz.checked) ownKnobTry started (by kernel_rfl) Tryz.func4
  (ChangeSpec.witness6 (enc:=enc) (C:=Tryz.checked) false ⟨#[],#[.slice none 0 0],[]⟩ 8 (by kernel_rfl) (by kernel_rfl) (by kernel_rfl) (by kernel_rfl)) ?_
 intro W base args ds gs before hval0 hW hcnd _;have hval:∀(j:Nat) t v,Tryz.f4.params[j]? = some t->args[j]? = some v->Value.okWide Tryz.prog W .any base t v:=hval0;have hW':=hW;obtain⟨p,q,hA0,hV,rfl,hfz,hnd⟩:=hW;have hA:DataW.TrodAll enc Tryz.prog W 0 (fun _=>true) true Tryz.f4.params.toList args.toList ds p:=hA0;have hAk:=hA0;rw[Tryz.params4]at hA hval;obtain⟨v0,vs0,d0,ds0,p0,q0,hargs,rfl,rfl,h0,r0⟩:=trodAll_cons hA;obtain⟨rfl,rfl,rfl⟩:=trodAll_nil r0;obtain rfl:args = #[v0]:=by cases args;simp_all
 obtain⟨rfl,rfl⟩:=trodVars_none hV;obtain⟨xs0,fp0,hs0⟩:=open_param_slice Tryz.underlying22 opens_uint8S (hval 0 22 v0 rfl rfl) h0;have hlt:=hW'.lt;clear hA0 hval0 hA;refine(engines_law W v0 xs0 fp0 hs0).mono fun e W' ⟨he,hb⟩=>?_
 subst he;refine⟨_,rfl,_,_,_,[],_,[],hW',trodAll_cons_mk (shut_bool Tryz.underlying4 _) trodAll_mk0,rT laidOutTry hb ?_ hAk (fun x hx=>hlt x (by simpa using hx)),rfl,hb.frame _,fun h=>by cases h⟩;intro t ht;rw[Tryz.params4]at ht;simp at ht;subst ht;exact⟨by kernel_rfl,of_decide_eq_true (by kernel_rfl)⟩

theorem b_and {a b:Bool}(h:a=true) (k:b=true):(a && b)=true:=by rw[h,k];rfl
theorem fnEngines_c0:(Rows.fnEnginesRow.wf (OpenSpec.ofChange Rows.fnEnginesSpec))=true:=by kernel_rfl
theorem fnEngines_c1:(laidOutB Tryz.prog)=true:=by kernel_rfl
theorem fnEngines_c2:(mapsRowed Tryz.prog)=true:=by kernel_rfl
theorem fnEngines_c3:(Tryz.f4.params.all (Tryz.prog.readableRec ·))=true:=by kernel_rfl
theorem fnEngines_c4:(namedTie Tryz.prog Rows.fnEnginesRow.named Rows.fnEnginesSpec.vars)=true:=by kernel_rfl
theorem fnEngines_c5:((Rows.fnEnginesRow.stops == []))=true:=by kernel_rfl
theorem fnEngines_c6:((Tryz.prog.stops == []))=true:=by kernel_rfl
theorem fnEngines_c7:((Rows.fnEnginesRow.knobs == []))=true:=by kernel_rfl
theorem fnEngines_c8:((Tryz.prog.stopKnobs == []))=true:=by kernel_rfl
theorem fnEngines_c9:((Rows.fnEnginesRow.inPlace == Tryz.prog.inPlace 4))=true:=by kernel_rfl
theorem fnEngines_c10:((Rows.fnEnginesRow.unfollowed == Tryz.prog.unfollowed 4))=true:=by kernel_rfl
theorem fnEngines_c11:((Rows.fnEnginesRow.recurses == Tryz.prog.recurses 4))=true:=by kernel_rfl
theorem fnEngines_c12:((Rows.fnEnginesRow.named == Tryz.prog.varsNamed 4))=true:=by kernel_rfl
theorem fnEngines_c13:((Rows.fnEnginesRow.maps == (Tryz.f4.params.toList++Rows.fnEnginesSpec.plain.varTypes Tryz.prog).any (Tryz.prog.mapsRec ·)))=true:=by kernel_rfl
theorem fnEngines_c14:((Rows.fnEnginesRow.ifaces == (Tryz.f4.params.toList++Rows.fnEnginesSpec.plain.varTypes Tryz.prog).any (Tryz.prog.ifacesRec ·)))=true:=by kernel_rfl
theorem fnEngines_c15:((Rows.fnEnginesRow.mapsOut == Tryz.prog.mapsAmong Tryz.f4.resultTypes.toList))=true:=by kernel_rfl
theorem fnEngines_c16:((Rows.fnEnginesRow.loops == (Tryz.f4.params.toList++Rows.fnEnginesSpec.plain.varTypes Tryz.prog).any (Tryz.prog.loopsFrom ·)))=true:=by kernel_rfl
theorem fnEngines_c17:((Rows.fnEnginesRow.wideKeys == (Tryz.f4.params.toList++Rows.fnEnginesSpec.plain.varTypes Tryz.prog++Tryz.f4.resultTypes.toList).any (Tryz.prog.wideKeysFrom ·)))=true:=by kernel_rfl
theorem fnEngines_c18:(Rows.fnEnginesSpec.vars.all (Tryz.prog.varReadable ·))=true:=by kernel_rfl
theorem fnEngines_c19:(Tryz.f4.resultTypes.all (fun t=>Tryz.prog.readableRec t && decide (t<Tryz.prog.types.size)))=true:=by kernel_rfl
theorem fnEngines_c20:((Rows.fnEnginesRow.ifacesOut == Tryz.f4.resultTypes.toList.any (Tryz.prog.ifacesRec ·)))=true:=by kernel_rfl
theorem fnEngines_c21:((Rows.fnEnginesRow.loopsOut == Tryz.f4.resultTypes.toList.any (Tryz.prog.loopsFrom ·)))=true:=by kernel_rfl
theorem fnEngines_c22:((Rows.fnEnginesRow.plainKeys == Tryz.prog.plainKeys))=true:=by kernel_rfl
theorem fnEngines_c23:(Rows.fnEnginesRow.shortTexts.isNone)=true:=by kernel_rfl
theorem fnEngines_c24:(Tryz.prog.stopsHeard)=true:=by kernel_rfl
theorem fnEngines_c25:(Tryz.prog.mayEnter)=true:=by kernel_rfl
theorem fnEngines_c26:((Rows.fnEnginesRow.lifted == Tryz.prog.liftsFinal))=true:=by kernel_rfl
theorem fnEngines_c27:((Tryz.prog.make == some Rows.fnEnginesRow.make))=true:=by kernel_rfl
theorem fnEngines_c28:((Rows.fnEnginesRow.kinds == (if Rows.fnEnginesRow.domain.isEmpty then [] else Tryz.f4.params.toList.map fun t=>match Tryz.prog.underlying t with | some (.int k)=>some k | _=>none)))=true:=by kernel_rfl
theorem fnEngines_c29:((Rows.fnEnginesRow.pinned == Rows.fnEnginesRow.pinnedBy))=true:=by kernel_rfl
theorem fnEngines_c30:((Rows.fnEnginesRow.veiled == (Tryz.f4.params.toList++Rows.fnEnginesSpec.plain.varTypes Tryz.prog++Tryz.f4.resultTypes.toList).any (Tryz.prog.veiledRec ·)))=true:=by kernel_rfl
theorem fnEngines_c31:(Rows.fnEnginesRow.veiledFits Tryz.prog Tryz.f4.params.toList (Tryz.f4.params.toList++Rows.fnEnginesSpec.plain.varTypes Tryz.prog++Tryz.f4.resultTypes.toList))=true:=by kernel_rfl
set_option maxRecDepth 100000 in
theorem fnEngines_closed:joinedFacts Tryz.prog 4 Tryz.f4 Rows.fnEnginesSpec Rows.fnEnginesRow=true:=by
 unfold joinedFacts;exact b_and (b_and (b_and (b_and (b_and (b_and (b_and (b_and (b_and (b_and (b_and (b_and (b_and (b_and (b_and (b_and (b_and (b_and (b_and (b_and (b_and (b_and (b_and (b_and (b_and (b_and (b_and (b_and (b_and (b_and (b_and (fnEngines_c0) fnEngines_c1) fnEngines_c2) fnEngines_c3) fnEngines_c4) fnEngines_c5) fnEngines_c6) fnEngines_c7) fnEngines_c8) fnEngines_c9) fnEngines_c10) fnEngines_c11) fnEngines_c12) fnEngines_c13) fnEngines_c14) fnEngines_c15) fnEngines_c16) fnEngines_c17) fnEngines_c18) fnEngines_c19) fnEngines_c20) fnEngines_c21) fnEngines_c22) fnEngines_c23) fnEngines_c24) fnEngines_c25) fnEngines_c26) fnEngines_c27) fnEngines_c28) fnEngines_c29) fnEngines_c30) fnEngines_c31
theorem fnEngines_holds:Rows.FnEnginesSaid:=
 OpenClaim.holds_of_wide 4 Tryz.f4 rfl rfl rfl rfl rfl rfl rfl ⟨rfl,rfl,rfl,rfl,rfl⟩ rfl rfl rfl rfl rfl (by kernel_rfl) Tryz.func4 fnEngines_closed
  (of_decide_eq_true (by kernel_rfl)) (by unfold Func.isWrapper;first | (rw[if_pos (by decide +kernel)];kernel_rfl) | (rw[if_neg (by decide +kernel)];exact⟨rfl,rfl⟩))
  (fun os started H enc _=>fnEngines_lifted os started H enc)
#print axioms fnEngines_holds
end Go.Proofs.YtpdgdnpajmcaeaaGreat
