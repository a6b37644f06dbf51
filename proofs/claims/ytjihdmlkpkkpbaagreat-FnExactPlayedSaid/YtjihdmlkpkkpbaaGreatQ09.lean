/-
  Proved: the statement on FnExactPlayed: for every input the law returns true, and its arguments read afterwards as before. No condition.
-/
import Derived.Test.YtjihdmlkpkkpbaaGreatQ08
set_option linter.unusedSimpArgs false
set_option linter.unusedVariables false
namespace Go.Proofs.YtjihdmlkpkkpbaaGreat
set_option maxHeartbeats 2000000
open Go.ChangeShapes Go.WideShapes Go.ChangeAt Go.RowKit Go.Deep
set_option maxRecDepth 100000 in
theorem fnExactPlayed_lifted (os:Os) (started:os.Started) (H:Type) (enc:TypeId×Value->H) :
  ReturnsInHanded {} Tryz.checked os 3 .any (Rows.fnExactPlayedSpec.pre6 enc Tryz.prog Tryz.f3 Rows.fnExactPlayedRow.domain false) (Rows.fnExactPlayedSpec.post enc Tryz.prog Tryz.f3 false true false false):=by
 refine returnsInHanded_of_change (C:=Tryz.checked) ownKnobTry started (by kernel_rfl) Tryz.func3
  (ChangeSpec.witness6 (enc:=enc) (C:=Tryz.checked) false ⟨#[],#[.slice none 0 0],[]⟩ 8 (by kernel_rfl) (by kernel_rfl) (by kernel_rfl) (by kernel_rfl)) ?_
 intro W base args ds gs before hval0 hW hcnd _;have hval:∀(j:Nat) t v,Tryz.f3.params[j]? = some t->args[j]? = some v->Value.okWide Tryz.prog W .any base t v:=hval0;have hW':=hW;obtain⟨p,q,hA0,hV,rfl,hfz,hnd⟩:=hW;have hA:DataW.TrodAll enc Tryz.prog W 0 (fun _=>true) true Tryz.f3.params.toList args.toList ds p:=hA0;have hAk:=hA0;rw[Tryz.params3]at hA hval;obtain⟨v0,vs0,d0,ds0,p0,q0,hargs,rfl,rfl,h0,r0⟩:=trodAll_cons hA;obtain⟨rfl,rfl,rfl⟩:=trodAll_nil r0;obtain rfl:args = #[v0]:=by cases args;simp_all
 obtain⟨rfl,rfl⟩:=trodVars_none hV;obtain⟨xs0,fp0,hs0⟩:=open_param_slice Tryz.underlying22 opens_ActS (hval 0 22 v0 rfl rfl) h0;have hlt:=hW'.lt;clear hA0 hval0 hA;refine(played_law W v0 xs0 fp0 hs0).mono fun e W' ⟨he,hb⟩=>?_
 subst he;refine⟨_,rfl,_,_,_,[],_,[],hW',trodAll_cons_mk (shut_bool Tryz.underlying4 _) trodAll_mk0,wE laidOutTry hb ?_ hAk (fun x hx=>hlt x (by simpa using hx)),rfl,hb.frame _,fun h=>by cases h⟩;intro t ht;rw[Tryz.params3]at ht;simp at ht;subst ht;exact⟨by kernel_rfl,of_decide_eq_true (by kernel_rfl)⟩

theorem b_and {a b:Bool}(h:a=true) (k:b=true):(a && b)=true:=by rw[h,k];rfl
theorem fnExactPlayed_c0:(Rows.fnExactPlayedRow.wf (OpenSpec.ofChange Rows.fnExactPlayedSpec))=true:=by kernel_rfl
theorem fnExactPlayed_c1:(laidOutB Tryz.prog)=true:=by kernel_rfl
theorem fnExactPlayed_c2:(mapsRowed Tryz.prog)=true:=by kernel_rfl
theorem fnExactPlayed_c3:(Tryz.f3.params.all (Tryz.prog.readableRec ·))=true:=by kernel_rfl
theorem fnExactPlayed_c4:(namedTie Tryz.prog Rows.fnExactPlayedRow.named Rows.fnExactPlayedSpec.vars)=true:=by kernel_rfl
theorem fnExactPlayed_c5:((Rows.fnExactPlayedRow.stops == []))=true:=by kernel_rfl
theorem fnExactPlayed_c6:((Tryz.prog.stops == []))=true:=by kernel_rfl
theorem fnExactPlayed_c7:((Rows.fnExactPlayedRow.knobs == []))=true:=by kernel_rfl
theorem fnExactPlayed_c8:((Tryz.prog.stopKnobs == []))=true:=by kernel_rfl
theorem fnExactPlayed_c9:((Rows.fnExactPlayedRow.inPlace == Tryz.prog.inPlace 3))=true:=by kernel_rfl
theorem fnExactPlayed_c10:((Rows.fnExactPlayedRow.unfollowed == Tryz.prog.unfollowed 3))=true:=by kernel_rfl
theorem fnExactPlayed_c11:((Rows.fnExactPlayedRow.recurses == Tryz.prog.recurses 3))=true:=by kernel_rfl
theorem fnExactPlayed_c12:((Rows.fnExactPlayedRow.named == Tryz.prog.varsNamed 3))=true:=by kernel_rfl
theorem fnExactPlayed_c13:((Rows.fnExactPlayedRow.maps == (Tryz.f3.params.toList++Rows.fnExactPlayedSpec.plain.varTypes Tryz.prog).any (Tryz.prog.mapsRec ·)))=true:=by kernel_rfl
theorem fnExactPlayed_c14:((Rows.fnExactPlayedRow.ifaces == (Tryz.f3.params.toList++Rows.fnExactPlayedSpec.plain.varTypes Tryz.prog).any (Tryz.prog.ifacesRec ·)))=true:=by kernel_rfl
theorem fnExactPlayed_c15:((Rows.fnExactPlayedRow.mapsOut == Tryz.prog.mapsAmong Tryz.f3.resultTypes.toList))=true:=by kernel_rfl
theorem fnExactPlayed_c16:((Rows.fnExactPlayedRow.loops == (Tryz.f3.params.toList++Rows.fnExactPlayedSpec.plain.varTypes Tryz.prog).any (Tryz.prog.loopsFrom ·)))=true:=by kernel_rfl
theorem fnExactPlayed_c17:((Rows.fnExactPlayedRow.wideKeys == (Tryz.f3.params.toList++Rows.fnExactPlayedSpec.plain.varTypes Tryz.prog++Tryz.f3.resultTypes.toList).any (Tryz.prog.wideKeysFrom ·)))=true:=by kernel_rfl
theorem fnExactPlayed_c18:(Rows.fnExactPlayedSpec.vars.all (Tryz.prog.varReadable ·))=true:=by kernel_rfl
theorem fnExactPlayed_c19:(Tryz.f3.resultTypes.all (fun t=>Tryz.prog.readableRec t && decide (t<Tryz.prog.types.size)))=true:=by kernel_rfl
theorem fnExactPlayed_c20:((Rows.fnExactPlayedRow.ifacesOut == Tryz.f3.resultTypes.toList.any (Tryz.prog.ifacesRec ·)))=true:=by kernel_rfl
theorem fnExactPlayed_c21:((Rows.fnExactPlayedRow.loopsOut == Tryz.f3.resultTypes.toList.any (Tryz.prog.loopsFrom ·)))=true:=by kernel_rfl
theorem fnExactPlayed_c22:((Rows.fnExactPlayedRow.plainKeys == Tryz.prog.plainKeys))=true:=by kernel_rfl
theorem fnExactPlayed_c23:(Rows.fnExactPlayedRow.shortTexts.isNone)=true:=by kernel_rfl
theorem fnExactPlayed_c24:(Tryz.prog.stopsHeard)=true:=by kernel_rfl
theorem fnExactPlayed_c25:(Tryz.prog.mayEnter)=true:=by kernel_rfl
theorem fnExactPlayed_c26:((Rows.fnExactPlayedRow.lifted == Tryz.prog.liftsFinal))=true:=by kernel_rfl
theorem fnExactPlayed_c27:((Tryz.prog.make == some Rows.fnExactPlayedRow.make))=true:=by kernel_rfl
theorem fnExactPlayed_c28:((Rows.fnExactPlayedRow.kinds == (if Rows.fnExactPlayedRow.domain.isEmpty then [] else Tryz.f3.params.toList.map fun t=>match Tryz.prog.underlying t with | some (.int k)=>some k | _=>none)))=true:=by kernel_rfl
theorem fnExactPlayed_c29:((Rows.fnExactPlayedRow.pinned == Rows.fnExactPlayedRow.pinnedBy))=true:=by kernel_rfl
theorem fnExactPlayed_c30:((Rows.fnExactPlayedRow.veiled == (Tryz.f3.params.toList++Rows.fnExactPlayedSpec.plain.varTypes Tryz.prog++Tryz.f3.resultTypes.toList).any (Tryz.prog.veiledRec ·)))=true:=by kernel_rfl
theorem fnExactPlayed_c31:(Rows.fnExactPlayedRow.veiledFits Tryz.prog Tryz.f3.params.toList (Tryz.f3.params.toList++Rows.fnExactPlayedSpec.plain.varTypes Tryz.prog++Tryz.f3.resultTypes.toList))=true:=by kernel_rfl
set_option maxRecDepth 100000 in
theorem fnExactPlayed_closed:joinedFacts Tryz.prog 3 Tryz.f3 Rows.fnExactPlayedSpec Rows.fnExactPlayedRow=true:=by
 unfold joinedFacts;exact b_and (b_and (b_and (b_and (b_and (b_and (b_and (b_and (b_and (b_and (b_and (b_and (b_and (b_and (b_and (b_and (b_and (b_and (b_and (b_and (b_and (b_and (b_and (b_and (b_and (b_and (b_and (b_and (b_and (b_and (b_and (fnExactPlayed_c0) fnExactPlayed_c1) fnExactPlayed_c2) fnExactPlayed_c3) fnExactPlayed_c4) fnExactPlayed_c5) fnExactPlayed_c6) fnExactPlayed_c7) fnExactPlayed_c8) fnExactPlayed_c9) fnExactPlayed_c10) fnExactPlayed_c11) fnExactPlayed_c12) fnExactPlayed_c13) fnExactPlayed_c14) fnExactPlayed_c15) fnExactPlayed_c16) fnExactPlayed_c17) fnExactPlayed_c18) fnExactPlayed_c19) fnExactPlayed_c20) fnExactPlayed_c21) fnExactPlayed_c22) fnExactPlayed_c23) fnExactPlayed_c24) fnExactPlayed_c25) fnExactPlayed_c26) fnExactPlayed_c27) fnExactPlayed_c28) fnExactPlayed_c29) fnExactPlayed_c30) fnExactPlayed_c31
theorem fnExactPlayed_holds:Rows.FnExactPlayedSaid:=
 OpenClaim.holds_of_wide 3 Tryz.f3 rfl rfl rfl rfl rfl rfl rfl ⟨rfl,rfl,rfl,rfl,rfl⟩ rfl rfl rfl rfl rfl (by kernel_rfl) Tryz.func3 fnExactPlayed_closed
  (of_decide_eq_true (by kernel_rfl)) (by unfold Func.isWrapper;first | (rw[if_pos (by decide +kernel)];kernel_rfl) | (rw[if_neg (by decide +kernel)];exact⟨rfl,rfl⟩))
  (fun os started H enc _=>fnExactPlayed_lifted os started H enc)
#print axioms fnExactPlayed_holds
end Go.Proofs.YtjihdmlkpkkpbaaGreat
