/-
  Proved: the statement on FnExactRecovered: for every input the law returns true, and its arguments read afterwards as before. No condition.
-/
import Derived.Test.YtanpcpoogkdlaaaGreatQ07
namespace Go.Proofs.YtanpcpoogkdlaaaGreat
set_option linter.unusedSimpArgs false
set_option linter.unusedVariables false
set_option maxHeartbeats 2000000
open Go.ChangeShapes Go.WideShapes Go.ChangeAt Go.RowKit Go.Deep
set_option maxRecDepth 100000 in
theorem fnExactRecovered_lifted (os:Os) (started:os.Started) (H:Type) (enc:TypeId×Value→H) :
  ReturnsInHanded {} Tryz.checked os 11 .any (Rows.fnExactRecoveredSpec.pre6 enc Tryz.prog Tryz.f11 Rows.fnExactRecoveredRow.domain false) (Rows.fnExactRecoveredSpec.post enc Tryz.prog Tryz.f11 false true false false):=by
 refine returnsInHanded_of_change (C:=Tryz.checked) ownKnobTry started (by kernel_rfl) Tryz.func11
  (ChangeSpec.witness6 (enc:=enc) (C:=Tryz.checked) false ⟨#[],#[.agg #[.slice none 0 0]],[]⟩ 8 (by kernel_rfl) (by kernel_rfl) (by kernel_rfl) (by kernel_rfl)) ?_
 intro W base args ds gs before hval0 hW hcnd _
 have hval:∀ (j:Nat) t v,Tryz.f11.params[j]? = some t→args[j]? = some v→Value.okWide Tryz.prog W .any base t v:=hval0
 have hW':=hW
 obtain ⟨p,q,hA0,hV,rfl,hfz,hnd⟩:=hW
 have hA:DataW.TrodAll enc Tryz.prog W 0 (fun _=>true) true Tryz.f11.params.toList args.toList ds p:=hA0
 have hAk:=hA0
 rw[Tryz.params11] at hA hval
 obtain ⟨v0,vs0,d0,ds0,p0,q0,hargs,rfl,rfl,h0,r0⟩:=trodAll_cons hA
 obtain ⟨rfl,rfl,rfl⟩:=trodAll_nil r0
 obtain rfl:args = #[v0]:=by cases args;simp_all
 obtain ⟨rfl,rfl⟩:=trodVars_none hV
 obtain ⟨cs0,x0,fp0,rfl,hc0⟩:=open_param_struct Tryz.underlying60 opens_Disk (hval 0 60 v0 rfl rfl) h0
 have hlt:=hW'.lt
 clear hA0 hval0 hA
 refine (recovered_law W cs0 x0 fp0 hc0).mono fun e W' ⟨he,hb⟩ => ?_
 subst he
 refine ⟨_,rfl,_,_,_,[],_,[],hW',trodAll_cons_mk (shut_bool Tryz.underlying4 _) trodAll_mk0,tH laidOutTry hb ?_ hAk (fun x hx=>hlt x (by simpa using hx)),rfl,hb.frame _,fun h=>by cases h⟩
 intro t ht
 rw[Tryz.params11] at ht
 simp at ht
 subst ht
 exact ⟨by kernel_rfl,of_decide_eq_true (by kernel_rfl)⟩

theorem b_and {a b:Bool} (h:a=true) (k:b=true):(a && b)=true:=by rw[h,k];rfl
theorem fnExactRecovered_c0:(Rows.fnExactRecoveredRow.wf (OpenSpec.ofChange Rows.fnExactRecoveredSpec))=true:=by kernel_rfl
theorem fnExactRecovered_c1:(laidOutB Tryz.prog)=true:=by kernel_rfl
theorem fnExactRecovered_c2:(mapsRowed Tryz.prog)=true:=by kernel_rfl
theorem fnExactRecovered_c3:(Tryz.f11.params.all (Tryz.prog.readableRec ·))=true:=by kernel_rfl
theorem fnExactRecovered_c4:(namedTie Tryz.prog Rows.fnExactRecoveredRow.named Rows.fnExactRecoveredSpec.vars)=true:=by kernel_rfl
theorem fnExactRecovered_c5:((Rows.fnExactRecoveredRow.stops == []))=true:=by kernel_rfl
theorem fnExactRecovered_c6:((Tryz.prog.stops == []))=true:=by kernel_rfl
theorem fnExactRecovered_c7:((Rows.fnExactRecoveredRow.knobs == []))=true:=by kernel_rfl
theorem fnExactRecovered_c8:((Tryz.prog.stopKnobs == []))=true:=by kernel_rfl
theorem fnExactRecovered_c9:((Rows.fnExactRecoveredRow.inPlace == Tryz.prog.inPlace 11))=true:=by kernel_rfl
theorem fnExactRecovered_c10:((Rows.fnExactRecoveredRow.unfollowed == Tryz.prog.unfollowed 11))=true:=by kernel_rfl
theorem fnExactRecovered_c11:((Rows.fnExactRecoveredRow.recurses == Tryz.prog.recurses 11))=true:=by kernel_rfl
theorem fnExactRecovered_c12:((Rows.fnExactRecoveredRow.named == Tryz.prog.varsNamed 11))=true:=by kernel_rfl
theorem fnExactRecovered_c13:((Rows.fnExactRecoveredRow.maps == (Tryz.f11.params.toList++Rows.fnExactRecoveredSpec.plain.varTypes Tryz.prog).any (Tryz.prog.mapsRec ·)))=true:=by kernel_rfl
theorem fnExactRecovered_c14:((Rows.fnExactRecoveredRow.ifaces == (Tryz.f11.params.toList++Rows.fnExactRecoveredSpec.plain.varTypes Tryz.prog).any (Tryz.prog.ifacesRec ·)))=true:=by kernel_rfl
theorem fnExactRecovered_c15:((Rows.fnExactRecoveredRow.mapsOut == Tryz.prog.mapsAmong Tryz.f11.resultTypes.toList))=true:=by kernel_rfl
theorem fnExactRecovered_c16:((Rows.fnExactRecoveredRow.loops == (Tryz.f11.params.toList++Rows.fnExactRecoveredSpec.plain.varTypes Tryz.prog).any (Tryz.prog.loopsFrom ·)))=true:=by kernel_rfl
theorem fnExactRecovered_c17:((Rows.fnExactRecoveredRow.wideKeys == (Tryz.f11.params.toList++Rows.fnExactRecoveredSpec.plain.varTypes Tryz.prog++Tryz.f11.resultTypes.toList).any (Tryz.prog.wideKeysFrom ·)))=true:=by kernel_rfl
theorem fnExactRecovered_c18:(Rows.fnExactRecoveredSpec.vars.all (Tryz.prog.varReadable ·))=true:=by kernel_rfl
theorem fnExactRecovered_c19:(Tryz.f11.resultTypes.all (fun t=>Tryz.prog.readableRec t && decide (t<Tryz.prog.types.size)))=true:=by kernel_rfl
theorem fnExactRecovered_c20:((Rows.fnExactRecoveredRow.ifacesOut == Tryz.f11.resultTypes.toList.any (Tryz.prog.ifacesRec ·)))=true:=by kernel_rfl
theorem fnExactRecovered_c21:((Rows.fnExactRecoveredRow.loopsOut == Tryz.f11.resultTypes.toList.any (Tryz.prog.loopsFrom ·)))=true:=by kernel_rfl
theorem fnExactRecovered_c22:((Rows.fnExactRecoveredRow.plainKeys == Tryz.prog.plainKeys))=true:=by kernel_rfl
theorem fnExactRecovered_c23:(Rows.fnExactRecoveredRow.shortTexts.isNone)=true:=by kernel_rfl
theorem fnExactRecovered_c24:(Tryz.prog.stopsHeard)=true:=by kernel_rfl
theorem fnExactRecovered_c25:(Tryz.prog.mayEnter)=true:=by kernel_rfl
theorem fnExactRecovered_c26:((Rows.fnExactRecoveredRow.lifted == Tryz.prog.liftsFinal))=true:=by kernel_rfl
theorem fnExactRecovered_c27:((Tryz.prog.make == some Rows.fnExactRecoveredRow.make))=true:=by kernel_rfl
theorem fnExactRecovered_c28:((Rows.fnExactRecoveredRow.kinds == (if Rows.fnExactRecoveredRow.domain.isEmpty then [] else Tryz.f11.params.toList.map fun t=>match Tryz.prog.underlying t with | some (.int k)=>some k | _=>none)))=true:=by kernel_rfl
theorem fnExactRecovered_c29:((Rows.fnExactRecoveredRow.pinned == Rows.fnExactRecoveredRow.pinnedBy))=true:=by kernel_rfl
theorem fnExactRecovered_c30:((Rows.fnExactRecoveredRow.veiled == (Tryz.f11.params.toList++Rows.fnExactRecoveredSpec.plain.varTypes Tryz.prog++Tryz.f11.resultTypes.toList).any (Tryz.prog.veiledRec ·)))=true:=by kernel_rfl
theorem fnExactRecovered_c31:(Rows.fnExactRecoveredRow.veiledFits Tryz.prog Tryz.f11.params.toList (Tryz.f11.params.toList++Rows.fnExactRecoveredSpec.plain.varTypes Tryz.prog++Tryz.f11.resultTypes.toList))=true:=by kernel_rfl
set_option maxRecDepth 100000 in
theorem fnExactRecovered_closed:joinedFacts Tryz.prog 11 Tryz.f11 Rows.fnExactRecoveredSpec Rows.fnExactRecoveredRow=true:=by
 unfold joinedFacts
 exact b_and (b_and (b_and (b_and (b_and (b_and (b_and (b_and (b_and (b_and (b_and (b_and (b_and (b_and (b_and (b_and (b_and (b_and (b_and (b_and (b_and (b_and (b_and (b_and (b_and (b_and (b_and (b_and (b_and (b_and (b_and (fnExactRecovered_c0) fnExactRecovered_c1) fnExactRecovered_c2) fnExactRecovered_c3) fnExactRecovered_c4) fnExactRecovered_c5) fnExactRecovered_c6) fnExactRecovered_c7) fnExactRecovered_c8) fnExactRecovered_c9) fnExactRecovered_c10) fnExactRecovered_c11) fnExactRecovered_c12) fnExactRecovered_c13) fnExactRecovered_c14) fnExactRecovered_c15) fnExactRecovered_c16) fnExactRecovered_c17) fnExactRecovered_c18) fnExactRecovered_c19) fnExactRecovered_c20) fnExactRecovered_c21) fnExactRecovered_c22) fnExactRecovered_c23) fnExactRecovered_c24) fnExactRecovered_c25) fnExactRecovered_c26) fnExactRecovered_c27) fnExactRecovered_c28) fnExactRecovered_c29) fnExactRecovered_c30) fnExactRecovered_c31
theorem fnExactRecovered_holds:Rows.FnExactRecoveredSaid:=
 OpenClaim.holds_of_wide 11 Tryz.f11 rfl rfl rfl rfl rfl rfl rfl ⟨rfl,rfl,rfl,rfl,rfl⟩ rfl rfl rfl rfl rfl (by kernel_rfl) Tryz.func11 fnExactRecovered_closed
  (of_decide_eq_true (by kernel_rfl)) (by unfold Func.isWrapper;first | (rw[if_pos (by decide +kernel)];kernel_rfl) | (rw[if_neg (by decide +kernel)];exact ⟨rfl,rfl⟩))
  (fun os started H enc _=>fnExactRecovered_lifted os started H enc)
#print axioms fnExactRecovered_holds
end Go.Proofs.YtanpcpoogkdlaaaGreat
