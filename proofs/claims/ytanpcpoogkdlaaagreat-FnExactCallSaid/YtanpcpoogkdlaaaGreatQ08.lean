/-
  Proved: the statement on FnExactCall: for every input the law returns true, and its arguments read afterwards as before. No condition.
-/
import Derived.Test.YtanpcpoogkdlaaaGreatQ07
namespace Go.Proofs.YtanpcpoogkdlaaaGreat
set_option linter.unusedSimpArgs false
set_option linter.unusedVariables false
set_option maxHeartbeats 2000000
open Go.ChangeShapes Go.WideShapes Go.ChangeAt Go.RowKit Go.Deep
set_option maxRecDepth 100000 in
theorem fnExactCall_lifted (os:Os) (started:os.Started) (H:Type) (enc:TypeId×Value→H) :
  ReturnsInHanded {} Tryz.checked os 12 .any (Rows.fnExactCallSpec.pre6 enc Tryz.prog Tryz.f12 Rows.fnExactCallRow.domain false) (Rows.fnExactCallSpec.post enc Tryz.prog Tryz.f12 false true false false):=by
 refine returnsInHanded_of_change (C:=Tryz.checked) ownKnobTry started (by kernel_rfl) Tryz.func12
  (ChangeSpec.witness6 (enc:=enc) (C:=Tryz.checked) false ⟨#[],#[.agg #[I 0,I 0,.slice none 0 0,.slice none 0 0,.slice none 0 0,I 0,I 0,.slice none 0 0,I 0,.bool false],.agg #[I 0,I 0,I 0,I 0,I 0,I 0,.slice none 0 0,I 0,I 0,I 0,I 0]],[]⟩ 8 (by kernel_rfl) (by kernel_rfl) (by kernel_rfl) (by kernel_rfl)) ?_
 intro W base args ds gs before hval0 hW hcnd _
 have hval:∀ (j:Nat) t v,Tryz.f12.params[j]? = some t→args[j]? = some v→Value.okWide Tryz.prog W .any base t v:=hval0
 have hW':=hW
 obtain ⟨p,q,hA0,hV,rfl,hfz,hnd⟩:=hW
 have hA:DataW.TrodAll enc Tryz.prog W 0 (fun _=>true) true Tryz.f12.params.toList args.toList ds p:=hA0
 have hAk:=hA0
 rw[Tryz.params12] at hA hval
 obtain ⟨v0,vs0,d0,ds0,p0,q0,hargs,rfl,rfl,h0,r0⟩:=trodAll_cons hA
 obtain ⟨v1,vs1,d1,ds1,p1,q1,rfl,rfl,rfl,h1,r1⟩:=trodAll_cons r0
 obtain ⟨rfl,rfl,rfl⟩:=trodAll_nil r1
 obtain rfl:args = #[v0,v1]:=by cases args;simp_all
 obtain ⟨rfl,rfl⟩:=trodVars_none hV
 obtain ⟨cs0,x0,fp0,rfl,hc0⟩:=mC Tryz.underlying73 opens_Engine (hval 0 73 v0 rfl rfl) h0
 obtain ⟨cs1,x1,fp1,rfl,hc1⟩:=mC Tryz.underlying106 opens_Deed (hval 1 106 v1 rfl rfl) h1
 have hlt:=hW'.lt
 clear hA0 hval0 hA
 refine (call_law W cs0 x0 fp0 hc0 cs1 x1 fp1 hc1).mono fun e W' ⟨he,hb⟩ => ?_
 subst he
 refine ⟨_,rfl,_,_,_,[],_,[],hW',trodAll_cons_mk (shut_bool Tryz.underlying4 _) trodAll_mk0,qS laidOutTry hb ?_ hAk (fun x hx=>hlt x (by simpa using hx)),rfl,hb.frame _,fun h=>by cases h⟩
 intro t ht
 rw[Tryz.params12] at ht
 simp at ht
 rcases ht with rfl | rfl
 all_goals exact ⟨by kernel_rfl,of_decide_eq_true (by kernel_rfl)⟩

theorem b_and {a b:Bool} (h:a=true) (k:b=true):(a && b)=true:=by rw[h,k];rfl
theorem fnExactCall_c0:(Rows.fnExactCallRow.wf (OpenSpec.ofChange Rows.fnExactCallSpec))=true:=by kernel_rfl
theorem fnExactCall_c1:(laidOutB Tryz.prog)=true:=by kernel_rfl
theorem fnExactCall_c2:(mapsRowed Tryz.prog)=true:=by kernel_rfl
theorem fnExactCall_c3:(Tryz.f12.params.all (Tryz.prog.readableRec ·))=true:=by kernel_rfl
theorem fnExactCall_c4:(namedTie Tryz.prog Rows.fnExactCallRow.named Rows.fnExactCallSpec.vars)=true:=by kernel_rfl
theorem fnExactCall_c5:((Rows.fnExactCallRow.stops == []))=true:=by kernel_rfl
theorem fnExactCall_c6:((Tryz.prog.stops == []))=true:=by kernel_rfl
theorem fnExactCall_c7:((Rows.fnExactCallRow.knobs == []))=true:=by kernel_rfl
theorem fnExactCall_c8:((Tryz.prog.stopKnobs == []))=true:=by kernel_rfl
theorem fnExactCall_c9:((Rows.fnExactCallRow.inPlace == Tryz.prog.inPlace 12))=true:=by kernel_rfl
theorem fnExactCall_c10:((Rows.fnExactCallRow.unfollowed == Tryz.prog.unfollowed 12))=true:=by kernel_rfl
theorem fnExactCall_c11:((Rows.fnExactCallRow.recurses == Tryz.prog.recurses 12))=true:=by kernel_rfl
theorem fnExactCall_c12:((Rows.fnExactCallRow.named == Tryz.prog.varsNamed 12))=true:=by kernel_rfl
theorem fnExactCall_c13:((Rows.fnExactCallRow.maps == (Tryz.f12.params.toList++Rows.fnExactCallSpec.plain.varTypes Tryz.prog).any (Tryz.prog.mapsRec ·)))=true:=by kernel_rfl
theorem fnExactCall_c14:((Rows.fnExactCallRow.ifaces == (Tryz.f12.params.toList++Rows.fnExactCallSpec.plain.varTypes Tryz.prog).any (Tryz.prog.ifacesRec ·)))=true:=by kernel_rfl
theorem fnExactCall_c15:((Rows.fnExactCallRow.mapsOut == Tryz.prog.mapsAmong Tryz.f12.resultTypes.toList))=true:=by kernel_rfl
theorem fnExactCall_c16:((Rows.fnExactCallRow.loops == (Tryz.f12.params.toList++Rows.fnExactCallSpec.plain.varTypes Tryz.prog).any (Tryz.prog.loopsFrom ·)))=true:=by kernel_rfl
theorem fnExactCall_c17:((Rows.fnExactCallRow.wideKeys == (Tryz.f12.params.toList++Rows.fnExactCallSpec.plain.varTypes Tryz.prog++Tryz.f12.resultTypes.toList).any (Tryz.prog.wideKeysFrom ·)))=true:=by kernel_rfl
theorem fnExactCall_c18:(Rows.fnExactCallSpec.vars.all (Tryz.prog.varReadable ·))=true:=by kernel_rfl
theorem fnExactCall_c19:(Tryz.f12.resultTypes.all (fun t=>Tryz.prog.readableRec t && decide (t<Tryz.prog.types.size)))=true:=by kernel_rfl
theorem fnExactCall_c20:((Rows.fnExactCallRow.ifacesOut == Tryz.f12.resultTypes.toList.any (Tryz.prog.ifacesRec ·)))=true:=by kernel_rfl
theorem fnExactCall_c21:((Rows.fnExactCallRow.loopsOut == Tryz.f12.resultTypes.toList.any (Tryz.prog.loopsFrom ·)))=true:=by kernel_rfl
theorem fnExactCall_c22:((Rows.fnExactCallRow.plainKeys == Tryz.prog.plainKeys))=true:=by kernel_rfl
theorem fnExactCall_c23:(Rows.fnExactCallRow.shortTexts.isNone)=true:=by kernel_rfl
theorem fnExactCall_c24:(Tryz.prog.stopsHeard)=true:=by kernel_rfl
theorem fnExactCall_c25:(Tryz.prog.mayEnter)=true:=by kernel_rfl
theorem fnExactCall_c26:((Rows.fnExactCallRow.lifted == Tryz.prog.liftsFinal))=true:=by kernel_rfl
theorem fnExactCall_c27:((Tryz.prog.make == some Rows.fnExactCallRow.make))=true:=by kernel_rfl
theorem fnExactCall_c28:((Rows.fnExactCallRow.kinds == (if Rows.fnExactCallRow.domain.isEmpty then [] else Tryz.f12.params.toList.map fun t=>match Tryz.prog.underlying t with | some (.int k)=>some k | _=>none)))=true:=by kernel_rfl
theorem fnExactCall_c29:((Rows.fnExactCallRow.pinned == Rows.fnExactCallRow.pinnedBy))=true:=by kernel_rfl
theorem fnExactCall_c30:((Rows.fnExactCallRow.veiled == (Tryz.f12.params.toList++Rows.fnExactCallSpec.plain.varTypes Tryz.prog++Tryz.f12.resultTypes.toList).any (Tryz.prog.veiledRec ·)))=true:=by kernel_rfl
theorem fnExactCall_c31:(Rows.fnExactCallRow.veiledFits Tryz.prog Tryz.f12.params.toList (Tryz.f12.params.toList++Rows.fnExactCallSpec.plain.varTypes Tryz.prog++Tryz.f12.resultTypes.toList))=true:=by kernel_rfl
set_option maxRecDepth 100000 in
theorem fnExactCall_closed:joinedFacts Tryz.prog 12 Tryz.f12 Rows.fnExactCallSpec Rows.fnExactCallRow=true:=by
 unfold joinedFacts
 exact b_and (b_and (b_and (b_and (b_and (b_and (b_and (b_and (b_and (b_and (b_and (b_and (b_and (b_and (b_and (b_and (b_and (b_and (b_and (b_and (b_and (b_and (b_and (b_and (b_and (b_and (b_and (b_and (b_and (b_and (b_and (fnExactCall_c0) fnExactCall_c1) fnExactCall_c2) fnExactCall_c3) fnExactCall_c4) fnExactCall_c5) fnExactCall_c6) fnExactCall_c7) fnExactCall_c8) fnExactCall_c9) fnExactCall_c10) fnExactCall_c11) fnExactCall_c12) fnExactCall_c13) fnExactCall_c14) fnExactCall_c15) fnExactCall_c16) fnExactCall_c17) fnExactCall_c18) fnExactCall_c19) fnExactCall_c20) fnExactCall_c21) fnExactCall_c22) fnExactCall_c23) fnExactCall_c24) fnExactCall_c25) fnExactCall_c26) fnExactCall_c27) fnExactCall_c28) fnExactCall_c29) fnExactCall_c30) fnExactCall_c31
theorem fnExactCall_holds:Rows.FnExactCallSaid:=
 OpenClaim.holds_of_wide 12 Tryz.f12 rfl rfl rfl rfl rfl rfl rfl ⟨rfl,rfl,rfl,rfl,rfl⟩ rfl rfl rfl rfl rfl (by kernel_rfl) Tryz.func12 fnExactCall_closed
  (of_decide_eq_true (by kernel_rfl)) (by unfold Func.isWrapper;first | (rw[if_pos (by decide +kernel)];kernel_rfl) | (rw[if_neg (by decide +kernel)];exact ⟨rfl,rfl⟩))
  (fun os started H enc _=>fnExactCall_lifted os started H enc)
#print axioms fnExactCall_holds
end Go.Proofs.YtanpcpoogkdlaaaGreat
