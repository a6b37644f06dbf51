/-
  Proved: the statement on FnExactBoot: for every input the law returns true, and its arguments read afterwards as before. No condition.
-/
import Derived.Test.YtanpcpoogkdlaaaGreatQ07
namespace Go.Proofs.YtanpcpoogkdlaaaGreat
set_option linter.unusedSimpArgs false
set_option linter.unusedVariables false
set_option maxHeartbeats 2000000
open Go.ChangeShapes Go.WideShapes Go.ChangeAt Go.RowKit Go.Deep
set_option maxRecDepth 100000 in
theorem fnExactBoot_lifted (os:Os) (started:os.Started) (H:Type) (enc:TypeId×Value→H) :
  ReturnsInHanded {} Tryz.checked os 13 .any (Rows.fnExactBootSpec.pre6 enc Tryz.prog Tryz.f13 Rows.fnExactBootRow.domain false) (Rows.fnExactBootSpec.post enc Tryz.prog Tryz.f13 false true false false):=by
 refine returnsInHanded_of_change (C:=Tryz.checked) ownKnobTry started (by kernel_rfl) Tryz.func13
  (ChangeSpec.witness6 (enc:=enc) (C:=Tryz.checked) false ⟨#[],#[.agg #[.slice none 0 0]],[]⟩ 8 (by kernel_rfl) (by kernel_rfl) (by kernel_rfl) (by kernel_rfl)) ?_
 intro W base args ds gs before hval0 hW hcnd _
 have hval:∀ (j:Nat) t v,Tryz.f13.params[j]? = some t→args[j]? = some v→Value.okWide Tryz.prog W .any base t v:=hval0
 have hW':=hW
 obtain ⟨p,q,hA0,hV,rfl,hfz,hnd⟩:=hW
 have hA:DataW.TrodAll enc Tryz.prog W 0 (fun _=>true) true Tryz.f13.params.toList args.toList ds p:=hA0
 have hAk:=hA0
 rw[Tryz.params13] at hA hval
 obtain ⟨v0,vs0,d0,ds0,p0,q0,hargs,rfl,rfl,h0,r0⟩:=trodAll_cons hA
 obtain ⟨rfl,rfl,rfl⟩:=trodAll_nil r0
 obtain rfl:args = #[v0]:=by cases args;simp_all
 obtain ⟨rfl,rfl⟩:=trodVars_none hV
 obtain ⟨cs0,x0,fp0,rfl,hc0⟩:=open_param_struct Tryz.underlying60 opens_Disk (hval 0 60 v0 rfl rfl) h0
 have hlt:=hW'.lt
 clear hA0 hval0 hA
 refine (boot_law W cs0 x0 fp0 hc0).mono fun e W' ⟨he,hb⟩ => ?_
 subst he
 refine ⟨_,rfl,_,_,_,[],_,[],hW',trodAll_cons_mk (shut_bool Tryz.underlying4 _) trodAll_mk0,uC laidOutTry hb ?_ hAk (fun x hx=>hlt x (by simpa using hx)),rfl,hb.frame _,fun h=>by cases h⟩
 intro t ht
 rw[Tryz.params13] at ht
 simp at ht
 subst ht
 exact ⟨by kernel_rfl,of_decide_eq_true (by kernel_rfl)⟩

theorem b_and {a b:Bool} (h:a=true) (k:b=true):(a && b)=true:=by rw[h,k];rfl
theorem fnExactBoot_c0:(Rows.fnExactBootRow.wf (OpenSpec.ofChange Rows.fnExactBootSpec))=true:=by kernel_rfl
theorem fnExactBoot_c1:(laidOutB Tryz.prog)=true:=by kernel_rfl
theorem fnExactBoot_c2:(mapsRowed Tryz.prog)=true:=by kernel_rfl
theorem fnExactBoot_c3:(Tryz.f13.params.all (Tryz.prog.readableRec ·))=true:=by kernel_rfl
theorem fnExactBoot_c4:(namedTie Tryz.prog Rows.fnExactBootRow.named Rows.fnExactBootSpec.vars)=true:=by kernel_rfl
theorem fnExactBoot_c5:((Rows.fnExactBootRow.stops == []))=true:=by kernel_rfl
theorem fnExactBoot_c6:((Tryz.prog.stops == []))=true:=by kernel_rfl
theorem fnExactBoot_c7:((Rows.fnExactBootRow.knobs == []))=true:=by kernel_rfl
theorem fnExactBoot_c8:((Tryz.prog.stopKnobs == []))=true:=by kernel_rfl
theorem fnExactBoot_c9:((Rows.fnExactBootRow.inPlace == Tryz.prog.inPlace 13))=true:=by kernel_rfl
theorem fnExactBoot_c10:((Rows.fnExactBootRow.unfollowed == Tryz.prog.unfollowed 13))=true:=by kernel_rfl
theorem fnExactBoot_c11:((Rows.fnExactBootRow.recurses == Tryz.prog.recurses 13))=true:=by kernel_rfl
theorem fnExactBoot_c12:((Rows.fnExactBootRow.named == Tryz.prog.varsNamed 13))=true:=by kernel_rfl
theorem fnExactBoot_c13:((Rows.fnExactBootRow.maps == (Tryz.f13.params.toList++Rows.fnExactBootSpec.plain.varTypes Tryz.prog).any (Tryz.prog.mapsRec ·)))=true:=by kernel_rfl
theorem fnExactBoot_c14:((Rows.fnExactBootRow.ifaces == (Tryz.f13.params.toList++Rows.fnExactBootSpec.plain.varTypes Tryz.prog).any (Tryz.prog.ifacesRec ·)))=true:=by kernel_rfl
theorem fnExactBoot_c15:((Rows.fnExactBootRow.mapsOut == Tryz.prog.mapsAmong Tryz.f13.resultTypes.toList))=true:=by kernel_rfl
theorem fnExactBoot_c16:((Rows.fnExactBootRow.loops == (Tryz.f13.params.toList++Rows.fnExactBootSpec.plain.varTypes Tryz.prog).any (Tryz.prog.loopsFrom ·)))=true:=by kernel_rfl
theorem fnExactBoot_c17:((Rows.fnExactBootRow.wideKeys == (Tryz.f13.params.toList++Rows.fnExactBootSpec.plain.varTypes Tryz.prog++Tryz.f13.resultTypes.toList).any (Tryz.prog.wideKeysFrom ·)))=true:=by kernel_rfl
theorem fnExactBoot_c18:(Rows.fnExactBootSpec.vars.all (Tryz.prog.varReadable ·))=true:=by kernel_rfl
theorem fnExactBoot_c19:(Tryz.f13.resultTypes.all (fun t=>Tryz.prog.readableRec t && decide (t<Tryz.prog.types.size)))=true:=by kernel_rfl
theorem fnExactBoot_c20:((Rows.fnExactBootRow.ifacesOut == Tryz.f13.resultTypes.toList.any (Tryz.prog.ifacesRec ·)))=true:=by kernel_rfl
theorem fnExactBoot_c21:((Rows.fnExactBootRow.loopsOut == Tryz.f13.resultTypes.toList.any (Tryz.prog.loopsFrom ·)))=true:=by kernel_rfl
theorem fnExactBoot_c22:((Rows.fnExactBootRow.plainKeys == Tryz.prog.plainKeys))=true:=by kernel_rfl
theorem fnExactBoot_c23:(Rows.fnExactBootRow.shortTexts.isNone)=true:=by kernel_rfl
theorem fnExactBoot_c24:(Tryz.prog.stopsHeard)=true:=by kernel_rfl
theorem fnExactBoot_c25:(Tryz.prog.mayEnter)=true:=by kernel_rfl
theorem fnExactBoot_c26:((Rows.fnExactBootRow.lifted == Tryz.prog.liftsFinal))=true:=by kernel_rfl
theorem fnExactBoot_c27:((Tryz.prog.make == some Rows.fnExactBootRow.make))=true:=by kernel_rfl
theorem fnExactBoot_c28:((Rows.fnExactBootRow.kinds == (if Rows.fnExactBootRow.domain.isEmpty then [] else Tryz.f13.params.toList.map fun t=>match Tryz.prog.underlying t with | some (.int k)=>some k | _=>none)))=true:=by kernel_rfl
theorem fnExactBoot_c29:((Rows.fnExactBootRow.pinned == Rows.fnExactBootRow.pinnedBy))=true:=by kernel_rfl
theorem fnExactBoot_c30:((Rows.fnExactBootRow.veiled == (Tryz.f13.params.toList++Rows.fnExactBootSpec.plain.varTypes Tryz.prog++Tryz.f13.resultTypes.toList).any (Tryz.prog.veiledRec ·)))=true:=by kernel_rfl
theorem fnExactBoot_c31:(Rows.fnExactBootRow.veiledFits Tryz.prog Tryz.f13.params.toList (Tryz.f13.params.toList++Rows.fnExactBootSpec.plain.varTypes Tryz.prog++Tryz.f13.resultTypes.toList))=true:=by kernel_rfl
set_option maxRecDepth 100000 in
theorem fnExactBoot_closed:joinedFacts Tryz.prog 13 Tryz.f13 Rows.fnExactBootSpec Rows.fnExactBootRow=true:=by
 unfold joinedFacts
 exact b_and (b_and (b_and (b_and (b_and (b_and (b_and (b_and (b_and (b_and (b_and (b_and (b_and (b_and (b_and (b_and (b_and (b_and (b_and (b_and (b_and (b_and (b_and (b_and (b_and (b_and (b_and (b_and (b_and (b_and (b_and (fnExactBoot_c0) fnExactBoot_c1) fnExactBoot_c2) fnExactBoot_c3) fnExactBoot_c4) fnExactBoot_c5) fnExactBoot_c6) fnExactBoot_c7) fnExactBoot_c8) fnExactBoot_c9) fnExactBoot_c10) fnExactBoot_c11) fnExactBoot_c12) fnExactBoot_c13) fnExactBoot_c14) fnExactBoot_c15) fnExactBoot_c16) fnExactBoot_c17) fnExactBoot_c18) fnExactBoot_c19) fnExactBoot_c20) fnExactBoot_c21) fnExactBoot_c22) fnExactBoot_c23) fnExactBoot_c24) fnExactBoot_c25) fnExactBoot_c26) fnExactBoot_c27) fnExactBoot_c28) fnExactBoot_c29) fnExactBoot_c30) fnExactBoot_c31
theorem fnExactBoot_holds:Rows.FnExactBootSaid:=
 OpenClaim.holds_of_wide 13 Tryz.f13 rfl rfl rfl rfl rfl rfl rfl ⟨rfl,rfl,rfl,rfl,rfl⟩ rfl rfl rfl rfl rfl (by kernel_rfl) Tryz.func13 fnExactBoot_closed
  (of_decide_eq_true (by kernel_rfl)) (by unfold Func.isWrapper;first | (rw[if_pos (by decide +kernel)];kernel_rfl) | (rw[if_neg (by decide +kernel)];exact ⟨rfl,rfl⟩))
  (fun os started H enc _=>fnExactBoot_lifted os started H enc)
#print axioms fnExactBoot_holds
end Go.Proofs.YtanpcpoogkdlaaaGreat
