/-
  A task that is done: what becomes of a right run. Theory alone.
  Runs that are changed where they lie, of the program; told to the reader, and as calls.
  Yards that are started again, of both.
  A task that is done, of both.
  What is told of a task, of both.
  A task that failed, of both.
  A run that is left, of both.
  Runs that are done, or fail, or are left; what is told of work; starting anew; of the reference; told to the reader.
  Tasks that are late, yards whose time goes on. Theory alone.
  Late tasks of the program; told to the reader.
  Tasks that are late, time that goes on, of both.
  Runs that are done; starting anew; of the reference; told to the reader.
  Runs that are given up, of both.
  Late tasks, time that goes on, runs that are left, of the reference; told to the reader.
  Shelves that are halved, merged, taken from, of both.
  What a worker is given, of both.
  Shelves that are swept, tasks that are started, polls, of the reference; told to the reader.
  DeedOk of the program, and what the reference looks at.
  DeedOk of the reference; SpanOk.
  What deeds are well made, of both; told to the reader.
  What is submitted, of both.
  Runs that are forgotten, of both.
  A deed that is done, of both.
  A deed that is done, of the reference; told to the reader.
  slices.DeleteFunc, told as a reader; shelves that are swept, of the program.
  Runs that are forgotten, of the program; told to the reader.
  Runs that are changed where they lie, of the program; told to the reader.
  A deed that is done, of the program; told to the reader.
  A made slice, all zeros, of elements of several cells.
  A new crew, of both.
  What a crew's turn makes of it, and many turns; how heavy it becomes. Theory alone.
  Orders of spans: what is asked of them; the weight of a yard behind a deed. Theory alone.
  All deeds of a list, and what stays, of both; told to the reader.
  Frames of the log, of both; told to the reader.
  Notes as texts, and read out of texts; notes in a text of frames. Plain theory.
-/
import Derived.Test.YtanpcpoogkdlaaaGreatQ01
import Derived.Test.YtanpcpoogkdlaaaGreatQ02
import Derived.Test.YtanpcpoogkdlaaaGreatQ03
import Derived.Test.YtanpcpoogkdlaaaGreatQ04
import Derived.Test.YtanpcpoogkdlaaaGreatQ05
namespace Go.Proofs.YtanpcpoogkdlaaaGreat
set_option linter.unusedSimpArgs false
set_option linter.unusedVariables false
set_option maxRecDepth 100000
set_option maxHeartbeats 2000000
open Go.RowKit Go.Proofs.Tryz List
def mG (t:Task):Task:=⟨if t.need - 1=0 then 2 else t.state,t.need - 1,t.try_,t.until_⟩
def rE (ts:List Task) (k:Int):List Task:=match ts[k.toNat]? with | some t=>ts.set k.toNat (mG t) | none=>ts
def oS (ts:List Task) (l:List Int):List Task:=l.foldl rE ts
theorem aJ6 (ts:List Task) (l:List Int):oS ts (l.take 0)=ts:=rfl
theorem behSt_at {ts:List Task} {k:Int} {t:Task} (h:ts[k.toNat]? = some t):rE ts k=ts.set k.toNat (mG t):=by unfold rE;rw[h]
theorem bF3 {ts:List Task} {l:List Int} {j:Nat} {k:Int} {t u:Task} (hl:l[j]? = some k) (h:(oS ts (l.take j))[k.toNat]? = some t) (hu:mG t=u):oS ts (l.take (j+1))=(oS ts (l.take j)).set k.toNat u:=by
 obtain ⟨hj,rfl⟩:=gsi_.1 hl
 rw[take_succ_eq_append_getElem hj]
 unfold oS at h ⊢
 rw[foldl_append,foldl_cons,foldl_nil,behSt_at h,hu]
theorem bC7 {t:Task} (h:t.need - 1=0):mG t=⟨2,t.need - 1,t.try_,t.until_⟩:=by unfold mG;rw[if_pos h]
theorem bC6 {t:Task} (h:¬ t.need - 1=0):mG t=⟨t.state,t.need - 1,t.try_,t.until_⟩:=by unfold mG;rw[if_neg h]
theorem behSt_len (ts:List Task) (k:Int):(rE ts k).length=ts.length:=by unfold rE;split <;> simp
theorem aC2 (ts:List Task):∀ l:List Int,(oS ts l).length=ts.length
 | []=>rfl
 | k::l=>by
  show (oS (rE ts k) l).length=_
  rw[aC2 _ l,behSt_len]
theorem behSt_all {P:Task→Prop} {ts:List Task} (h:∀ t∈ts,P t) (hs:∀ t,P t→P (mG t)) (k:Int):∀ t∈rE ts k,P t:=by
 intro t ht
 unfold rE at ht
 split at ht
 ·next u hu=>
  rcases mem_or_eq_of_mem_set ht with h1 | rfl
  ·exact h t h1
  exact hs u (h u (mem_of_getElem? hu))
 exact h t ht
theorem aC3 {P:Task→Prop} (hs:∀ t,P t→P (mG t)):∀ (l:List Int) {ts:List Task},(∀ t∈ts,P t)→∀ t∈oS ts l,P t
 | [],ts,h=>h
 | k::l,ts,h=>aC3 hs l (behSt_all h hs k)
theorem behSt_need {ts:List Task} {a b:Int} (h:∀ t∈ts,a≤t.need∧t.need≤b) (k:Int):∀ t∈rE ts k,a - 1≤t.need∧t.need≤b:=by
 intro t ht
 unfold rE at ht
 split at ht
 ·next u hu=>
  rcases mem_or_eq_of_mem_set ht with h1 | rfl
  ·have:=h t h1;omega
  have:=h u (mem_of_getElem? hu)
  simp only[mG];omega
 have:=h t ht;omega
theorem aJ7:∀ (l:List Int) {ts:List Task} {a b:Int},(∀ t∈ts,a≤t.need∧t.need≤b)→∀ t∈oS ts l,a - l.length≤t.need∧t.need≤b
 | [],ts,a,b,h=>fun t ht=>by have:=h t ht;simp;omega
 | k::l,ts,a,b,h=>fun t ht=>by
  have:=aJ7 l (behSt_need h k) t ht
  simp only[length_cons];omega
noncomputable def cG (r:Run) (i:Nat) (t:Task):List Task:=oS (r.tasks.set i ⟨4,t.need,t.try_,0⟩) (bF r.plan (i:Int))
noncomputable def aU2 (r:Run) (i:Nat) (t:Task):Run:=⟨r.id,r.plan,if aN (cG r i t) 4=((cG r i t).length:Int) then 2 else r.state,cG r i t⟩
noncomputable def gP (r:Run) (i:Nat):Run:=match r.tasks[i]? with | some t=>aU2 r i t | none=>r
theorem aB0 {r:Run} {i:Nat} {t:Task} (h:r.tasks[i]? = some t):gP r i=aU2 r i t:=by unfold gP;rw[h]
theorem sB (r:Run) (i:Nat) (t:Task):(cG r i t).length=r.tasks.length:=by unfold cG;rw[aC2,length_set]
theorem mL (r:Run) (i:Nat):(gP r i).id=r.id∧(gP r i).plan=r.plan∧(gP r i).tasks.length=r.tasks.length∧((gP r i).state=r.state∨(gP r i).state=2):=by
 unfold gP
 split
 ·next t h=>
  refine ⟨rfl,rfl,sB r i t,?_⟩
  show (if _ then (2:Int) else r.state)=_∨(if _ then (2:Int) else r.state)=_
  split
  ·exact .inr rfl
  exact .inl rfl
 exact ⟨rfl,rfl,rfl,.inl rfl⟩
theorem doneR_ok {r:Run} (h:r.ok) (i:Nat):(gP r i).ok:=by
 obtain ⟨h1,h2,h3,h4⟩:=mL r i
 unfold Run.ok at h ⊢
 rw[h1,h2]
 refine ⟨h.1,h.2.1,?_⟩
 rcases h4 with h4 | h4
 ·rw[h4];exact h.2.2
 rw[h4];unfold I64;omega
theorem doneT_state {r:Run} (h:RunIs r) {i:Nat} {t:Task} (ht:r.tasks[i]? = some t) (h3:t.state=3):bQ (cG r i t)=(if aN (cG r i t) 4=((cG r i t).length:Int) then 2 else r.state):=by
 have hm:=mem_of_getElem? ht
 have hl:=h.live hm h3
 have h56:∀ u∈cG r i t,¬ u.state=5∧¬ u.state=6:=by
  unfold cG
  refine aC3 (P:=fun u=>¬ u.state=5∧¬ u.state=6) (fun u hu => ?_) _ (fun u hu => ?_)
  ·unfold mG;simp only;split
   ·omega
   exact hu
  rcases mem_or_eq_of_mem_set hu with h1 | rfl
  ·exact h.none5 hm h3 u h1
  exact ⟨by show ¬ (4:Int)=5;omega,by show ¬ (4:Int)=6;omega⟩
 have c5:=uV (s:=5) (fun u hu=>(h56 u hu).1)
 have c6:=uV (s:=6) (fun u hu=>(h56 u hu).2)
 unfold bQ
 by_cases c4:aN (cG r i t) 4=((cG r i t).length:Int)
 ·rw[if_pos c4,if_pos c4]
 rw[if_neg c4,if_neg c4,if_neg aA,if_neg aA,if_pos ⟨c5,c6⟩,hl.1]
theorem doneTs_st {r:Run} (h:RunIs r) {i:Nat} {t:Task} (ht:r.tasks[i]? = some t):∀ u∈cG r i t,1≤u.state∧u.state≤6:=by
 unfold cG
 refine aC3 (P:=fun u=>1≤u.state∧u.state≤6) (fun u hu => ?_) _ (fun u hu => ?_)
 ·unfold mG;simp only;split
  ·omega
  exact hu
 rcases mem_or_eq_of_mem_set hu with h1 | rfl
 ·obtain ⟨k,hk,rfl⟩:=getElem_of_mem h1
  exact (h.task k hk hk).1
 exact ⟨by show (1:Int)≤4;omega,by show (4:Int)≤6;omega⟩
theorem RunIs.need {r:Run} (h:RunIs r):∀ t∈r.tasks,0≤t.need∧t.need≤30:=by
 intro t ht
 obtain ⟨k,hk,rfl⟩:=getElem_of_mem ht
 have h2:=(h.task k hk hk).2.1
 have h3:=yY r (aS r.plan (k:Int))
 have h4:=jK r.plan (k:Int)
 rw[h2];unfold fY;omega
theorem done_need {r:Run} (h:RunIs r) {i:Nat} {t:Task} (ht:r.tasks[i]? = some t) (l:List Int) (hl:l.length≤30):∀ u∈oS (r.tasks.set i ⟨4,t.need,t.try_,0⟩) l,-30≤u.need∧u.need≤30:=by
 intro u hu
 have:=aJ7 l (a:=0) (b:=30) (fun u hu=>by
  rcases mem_or_eq_of_mem_set hu with h1 | rfl
  ·exact h.need u h1
  exact h.need t (mem_of_getElem? ht)) u hu
 omega
theorem aY9 {i:Int} (h:0≤i):((i.toNat:Nat):Int)=i:=Int.toNat_of_nonneg h
theorem aE3 {t:Task} {a:Int} (g:t.ok) (ha:0≤a∧a≤100):Task.ok ⟨a,t.need,t.try_,0⟩:=⟨by show I64 a;unfold I64;omega,g.2.1,g.2.2.1,by show I64 0;unfold I64;omega⟩
theorem zL {r:Run} (h:RunIs r):r.plan.edges.length≤1048576∧r.tasks.length≤1048576:=by have:=h.small;omega
theorem rd_ts {r:Run} {task:Int} {t:Task} {k:Nat} (h0:0≤task) (hk:k=(bF r.plan task).length):oS (r.tasks.set task.toNat ⟨4,t.need,t.try_,0⟩) ((bF r.plan task).take k)=cG r task.toNat t:=by
 unfold cG;rw[aY9 h0,hk,take_length]
theorem rd_in {r:Run} {task:Int} {t:Task} (hR:RunIs r) (ht:r.tasks[task.toNat]? = some t) (k:Nat) (hk:k<(bF r.plan task).length):∃ q:Int×Task,(bF r.plan task)[k]? = some q.1∧(oS (r.tasks.set task.toNat ⟨4,t.need,t.try_,0⟩) ((bF r.plan task).take k))[q.1.toNat]? = some q.2∧0≤q.1∧(-30≤q.2.need∧q.2.need≤30):=by
 have hb:=behind_rng r.plan task _ (getElem_mem hk)
 have hl:=aC2 (r.tasks.set task.toNat ⟨4,t.need,t.try_,0⟩) ((bF r.plan task).take k)
 rw[length_set] at hl
 have hil:=hR.len
 have hx:(bF r.plan task)[k].toNat<(oS (r.tasks.set task.toNat ⟨4,t.need,t.try_,0⟩) ((bF r.plan task).take k)).length:=by omega
 exact ⟨((bF r.plan task)[k],_),getElem?_eq_getElem hk,getElem?_eq_getElem hx,hb.1,done_need hR ht _ (by rw[length_take];have:=sE r.plan task;omega) _ (getElem_mem hx)⟩
theorem wP {u:Task} (g:u.ok) (h : -30≤u.need∧u.need≤30) (s:Int) (hs:I64 s):Task.ok ⟨s,u.need - 1,u.try_,u.until_⟩:=⟨hs,by show I64 (u.need - 1);unfold I64;omega,g.2.2.1,g.2.2.2⟩
abbrev runB (r:Run) (ts:List Task) (b e t:Nat):List (Nat×To):=[oB b [.v (I r.id),.v (I r.plan.prio),.v (I r.plan.most),.v (I r.plan.wait),.v (I r.plan.tasks),.r e,.v (I r.state),.r t],oO t ts]
theorem leaveTo_end {ts:List Task} {b:Int} {k:Nat} (hk:k≤ts.length) (h:¬ (k:Int)<ts.length):gS ts b k=fE ts b:=by rw[show k=ts.length by omega,leaveTo_all]
theorem leaveOne_ok {u:Task} (g:u.ok):(gB u).ok:=⟨by show I64 6;unfold I64;omega,g.2.1,g.2.2.1,by show I64 0;unfold I64;omega⟩
theorem bG6 (r:Run) (b:Int) (hl:r.tasks.length≤1048576):Cm prog 238 [.I b] inferInstance r (fun _:Unit=>True) (fun _=>leaveR r b) (fun _=>[]):=
 vcm func238 (fun hg hn => .wt 11 <| .g 2 (leaveTo_zero r.tasks b).symm <| .l (Γ:=Nat) (fun k=>k≤r.tasks.length) (fun k=>r.tasks.length - k) [0,1,10] [1,1000000] [] (fun k=>[vI 11 k]) (fun k=>runB r (gS r.tasks b k) 0 1 2) 0 fun k hk t=>
  .s ((k:Int)<r.tasks.length)
   (fun h => .ex (p:=fun u=>r.tasks[k]? = some u) ⟨_,getElem?_eq_getElem (show k<r.tasks.length by omega)⟩ fun u hu => .d 2 (leaveTo_at (but:=b) hu) fun gu=>
    let fin:∀ v:Task,fF b k u=v→Task.ok v→D prog (fun _:Unit=>True∧rgd []):=fun v hv gv => .p k 1 (h:=by unfold I64;omega) <| .wt 36 <| .f 2 (gS r.tasks b k) v (h:=gv) <| .g 2 (leaveTo_set hu hv) <| .n t (k+1) []
    .i k <| .u ((k:Int)=b)
     (fun h1 => .u (u.state=4) (fun h2=>fin (gB u) (leaveIf_t h1 h2) (leaveOne_ok gu)) (fun h2=>fin u (leaveIf_d h2) gu))
     (fun h1=>fin u (leaveIf_b h1) gu))
   (fun h => .g 2 (leaveTo_end (b:=b) hk h) <| .rt () ⟨trivial,trivial⟩)) aC
theorem fl_a {r:Run} {i:Int} {t:Task} (ht:r.tasks[i.toNat]? = some t) (h:t.try_<r.plan.most):(⟨r.id,r.plan,r.state,r.tasks.set i.toNat ⟨2,t.need,t.try_,0⟩⟩:Run)=bR r i.toNat:=by rw[uR ht];unfold nZ;rw[if_pos h]
theorem fl_b {r:Run} {i:Int} {t:Task} (h0:0≤i) (ht:r.tasks[i.toNat]? = some t) (h:¬ t.try_<r.plan.most):(⟨r.id,r.plan,3,fE (r.tasks.set i.toNat ⟨5,t.need,t.try_,0⟩) i⟩:Run)=bR r i.toNat:=by rw[uR ht];unfold nZ;rw[if_neg h,aY9 h0]
theorem aO5 (r:Run) (i:Int) (t:Task) (h0:0≤i) (ht:r.tasks[i.toNat]? = some t) (hl:r.tasks.length≤1048576):Cm prog 123 [.I i] inferInstance r (fun _:Unit=>True) (fun _=>bR r i.toNat) (fun _=>[]):=
 Cm.one (bR r i.toNat) (y:=fun a=>a) (rk:=fun _=>[])<|vcm func123 (fun hg hn => .d 2 ht fun gt => .ie i.toNat i (he:=by omega) <| .s (t.try_<r.plan.most)
  (fun h => .wt 999 <| .f 2 r.tasks ⟨2,t.need,t.try_,0⟩ (h:=aE3 gt aA) <| .rt ⟨r.id,r.plan,r.state,r.tasks.set i.toNat ⟨2,t.need,t.try_,0⟩⟩ ⟨fl_a ht h,trivial⟩)
  (fun h => .wt 30 <| .f 2 r.tasks ⟨5,t.need,t.try_,0⟩ (h:=aE3 gt aA) <| .cm _ func238 (bG6 ⟨r.id,r.plan,r.state,r.tasks.set i.toNat ⟨5,t.need,t.try_,0⟩⟩ i (by show (r.tasks.set _ _).length≤_;rw[length_set];exact hl)) trivial fun _ _ _ _=>
   .rt ⟨r.id,r.plan,3,fE (r.tasks.set i.toNat ⟨5,t.need,t.try_,0⟩) i⟩ ⟨fl_b h0 ht h,trivial⟩)) aC
theorem dn_a {r:Run} {i:Int} {t:Task} (ht:r.tasks[i.toNat]? = some t) (h:((aM (cG r i.toNat t) 4).length:Int)=((cG r i.toNat t).length:Int)):(⟨r.id,r.plan,2,cG r i.toNat t⟩:Run)=gP r i.toNat:=by
 rw[aB0 ht];unfold aU2;rw[if_pos (by rw[← jV];exact h)]
theorem dn_b {r:Run} {i:Int} {t:Task} (ht:r.tasks[i.toNat]? = some t) (h:¬ ((aM (cG r i.toNat t) 4).length:Int)=((cG r i.toNat t).length:Int)):(⟨r.id,r.plan,r.state,cG r i.toNat t⟩:Run)=gP r i.toNat:=by
 rw[aB0 ht];unfold aU2;rw[if_neg (by rw[← jV];exact h)]
theorem Done_p (r:Run) (i:Int) (t:Task) (h0:0≤i) (ht:r.tasks[i.toNat]? = some t) (hR:RunIs r):Cm prog 312 [.I i] inferInstance r (fun _:Unit=>True) (fun _=>gP r i.toNat) (fun _=>[]):=
 Cm.one (gP r i.toNat) (y:=fun a=>a) (rk:=fun _=>[])<|vcm func312 (fun hg hn=>let gr:=hR.small.1
  let hl:=(zL hR).2
  .d 2 ht fun gt => .ie i.toNat i (he:=by omega) <| .ie i.toNat i (he:=by omega) <| .wt 21 <| .f 2 r.tasks ⟨4,t.need,t.try_,0⟩ (h:=aE3 gt aA) <|
  .c func381 (BehindOf_i r.plan i) (hg:=⟨gr.2.1,trivial⟩) fun _ => .g 2 (aJ6 (r.tasks.set i.toNat ⟨4,t.need,t.try_,0⟩) (bF r.plan i)).symm <|
  .l (Γ:=Nat) (fun k=>k≤(bF r.plan i).length) (fun k=>(bF r.plan i).length - k) [0,26,27] [1,4,1000000] [] (fun k=>[vI 28 k]) (fun k=>runB r (oS (r.tasks.set i.toNat ⟨4,t.need,t.try_,0⟩) ((bF r.plan i).take k)) 0 1 2) 0 fun k hk tk=>
   .s ((k:Int)<(bF r.plan i).length)
    (fun hlt => .ex (rd_in hR ht k aA) fun q hq=>
     .y hq.1 fun _ => .d 2 hq.2.1 fun gu=>
     let fin:∀ v:Task,mG q.2=v→Task.ok v→D prog (fun x:Run=>x=gP r i.toNat∧rgd []):=fun v hv gv => .p k 1 (h:=by have:=sE r.plan i;unfold I64;omega) <| .wt 53 <| .f 2 (oS (r.tasks.set i.toNat ⟨4,t.need,t.try_,0⟩) ((bF r.plan i).take k)) v (h:=gv) <| .g 2 (bF3 hq.1 hq.2.1 hv).symm <| .n tk (k+1) []
     .ie q.1.toNat q.1 (he:=by omega) <| .m q.2.need 1 (h:=by unfold I64;omega) <| .s (q.2.need - 1=0)
      (fun h2=>fin ⟨2,q.2.need - 1,q.2.try_,q.2.until_⟩ (bC7 h2) (wP gu hq.2.2.2 2 (by unfold I64;omega)))
      (fun h2=>fin ⟨q.2.state,q.2.need - 1,q.2.try_,q.2.until_⟩ (bC6 h2) (wP gu hq.2.2.2 _ gu.1)))
    (fun hge => .g 2 (rd_ts (t:=t) h0 (show k=(bF r.plan i).length by omega)) <| .c func30 (jL ⟨r.id,r.plan,r.state,cG r i.toNat t⟩ 4 (by show (cG r i.toNat t).length≤_;rw[sB];exact hl)) (hg:=⟨gr,trivial⟩) fun _=>
     .s (((aM (cG r i.toNat t) 4).length:Int)=((cG r i.toNat t).length:Int))
      (fun h2 => .rt ⟨r.id,r.plan,2,cG r i.toNat t⟩ ⟨dn_a ht h2,trivial⟩)
      (fun h2 => .rt ⟨r.id,r.plan,r.state,cG r i.toNat t⟩ ⟨dn_b ht h2,trivial⟩))) aC
theorem vS {r:Run} (h:RunIs r) {i:Nat} {t:Task} (ht:r.tasks[i]? = some t) (h3:t.state=3):bP r (i:Int)=bR r i:=by
 have hl:=(gsi_.1 ht).1
 have hb:fV r (i:Int)=true:=by
  unfold fV
  rw[runIs.2 h,inB_iff'.2 (show 0≤(i:Int)∧(i:Int)≤(r.tasks.length:Int) - 1 by omega),Int.toNat_natCast,ht]
  simp[h3]
 unfold bP
 rw[if_pos hb,Int.toNat_natCast,failsS_eq h ht h3]
theorem aQ6 {y:Yard} {k i:Nat} {r:Run} (hr:y.runs[k]? = some r) (hi:i=r.tasks.length):oK (kO y k) k i=kO y (k+1):=by
 show _=oK (kO y k) k (uD y k)
 rw[uC hr,hi]
theorem RI.ok {y out:Yard} {n:Nat} (hy:YardIs y) (h:RI y out n) (hn:n≤1000):out.ok:=by
 have h1:=h.now;have h2:=h.seq;have h3:=hy.now;have h4:=hy.seq
 exact ⟨by unfold I64;omega,by unfold I64;omega⟩
theorem aV6 {α:Type} (f:α→Nat) (m:Nat):∀ xs:List α,(∀ x∈xs,f x≤m)→(xs.map f).sum≤xs.length*m
 | [],_=>by simp
 | x::xs,h=>by
  have h1:=h x (by simp)
  have h2:=aV6 f m xs (fun z hz=>h z (by simp[hz]))
  simp only[map_cons,sum_cons,length_cons,Nat.succ_mul]
  omega
theorem RunIs.wt {r:Run} (h:RunIs r):r.wt≤42:=by
 have:=h.small
 unfold Run.wt Plan.wt
 omega
theorem RI.wt {y out:Yard} {n:Nat} (hy:YardIs y) (h:RI y out n) (hn:n≤1000):out.wt≤100000:=by
 have h1:=h.shelf
 have h2:=hy.shelf
 have h3:=h.runs
 have h4:=hy.runs
 have hs:=aV6 (fun z:List Entry=>z.length) 20000 out.shelf (fun z hz=>by
  obtain ⟨s,hs,rfl⟩:=getElem_of_mem hz
  have:=h.each s aA
  rw[getD_eq_getElem?_getD,getElem?_eq_getElem hs] at this
  simp only[Option.getD_some] at this
  omega)
 have hr:=aV6 (fun z:Run=>z.wt) 42 out.runs (fun z hz=>by
  obtain ⟨s,hs,rfl⟩:=getElem_of_mem hz
  obtain ⟨r2,e,hR,_⟩:=h.run s _ (getElem?_eq_getElem (show s<y.runs.length by omega))
  rw[getElem?_eq_getElem hs] at e
  rw[Option.some.inj e]
  exact hR.wt)
 rw[h1,h2] at hs
 have hr2:out.runs.length*42≤8*42:=Nat.mul_le_mul_right _ aA
 unfold Yard.wt wtL
 omega
theorem RI.chg {y out:Yard} {n:Nat} (hy:YardIs y) (h:RI y out n) (hn:n≤1000) (id:Int):4≤out.shelf.length∧(out.shelf.getD (aU id).toNat []).length≤1000000∧(0≤out.seq∧out.seq≤4000000000):=by
 have h1:=h.shelf;have h2:=hy.shelf;have h3:=fU id;have h4:=h.each (aU id).toNat aA;have h5:=h.seq;have h6:=hy.seq
 refine ⟨by omega,by omega,by omega⟩

theorem toNat_cast {i:Int} (h:0≤i):((i.toNat:Nat):Int)=i:=by omega
noncomputable def fP (r:Run) (task:Int):Run:=if fV r task then gP r task.toNat else r
theorem yJ {r:Run} (h:RunIs r) {task:Int} {t:Task} (h0:0≤task) (ht:r.tasks[task.toNat]? = some t) (h3:t.state=3):fP r task=gP r task.toNat:=by
 have hl:=(gsi_.1 ht).1
 have hb:fV r task=true:=by
  unfold fV
  rw[runIs.2 h,inB_iff'.2 (show 0≤task∧task≤(r.tasks.length:Int) - 1 by omega),ht]
  simp[h3]
 unfold fP
 rw[if_pos hb]

noncomputable def dB (y:Yard) (id task try_:Int):Int:=if aK y=false then 8 else if aE y id<0 then 10 else if eB y id task try_=false then 11 else 0
noncomputable def vG (g:Run→Nat→Run) (y:Yard) (id task try_:Int):Yard:=if dB y id task try_=0 then (match bO y id with | some k=>(match y.runs[k]? with | some r=>cS y k r (g r task.toNat) | none=>y) | none=>y) else y
noncomputable def dZ (y:Yard) (id task try_:Int):Yard:=vG gP y id task try_
theorem askF_rng (y:Yard) (id task try_:Int):0≤dB y id task try_∧dB y id task try_≤11:=by
 unfold dB
 split
 ·omega
 split
 ·omega
 split <;> omega
theorem aC4 {y:Yard} {id task try_:Int} (h:dB y id task try_=0):YardIs y∧∃ k r t,bO y id=some k∧y.runs[k]? = some r∧RunIs r∧0≤task∧r.tasks[task.toNat]? = some t∧t.state=3:=by
 unfold dB at h
 split at h
 ·omega
 next h1=>
 have hY:=gU (by simpa using h1)
 split at h
 ·omega
 split at h
 ·omega
 next h3=>
 refine ⟨hY,?_⟩
 have h4:eB y id task try_=true:=by simpa using h3
 unfold eB at h4
 cases hk:bO y id with
 | none=>rw[hk] at h4;cases h4
 | some k=>
  rw[hk] at h4
  simp only at h4
  cases hr:y.runs[k]? with
  | none=>rw[hr] at h4;cases h4
  | some r=>
   rw[hr] at h4
   simp only[Bool.and_eq_true] at h4
   obtain ⟨h5,h6⟩:=h4
   cases ht:r.tasks[task.toNat]? with
   | none=>rw[ht] at h6;cases h6
   | some t=>rw[ht] at h6;simp only[Bool.and_eq_true,decide_eq_true_eq] at h6;exact ⟨k,r,t,rfl,hr,(hY.run k r hr).1,(inB_iff'.1 h5).1,ht,h6.1⟩
theorem mX {g:Run→Nat→Run} {y:Yard} {id task try_:Int} {k:Nat} {r:Run} (h:dB y id task try_=0) (hk:bO y id=some k) (hr:y.runs[k]? = some r):vG g y id task try_=cS y k r (g r task.toNat):=by unfold vG;rw[if_pos h,hk];simp only[hr]
theorem mW {g:Run→Nat→Run} {y:Yard} {id task try_:Int} (h:¬ dB y id task try_=0):vG g y id task try_=y:=by unfold vG;rw[if_neg h]
theorem sC {y:Yard} (hY:YardIs y) {k:Nat} {r r':Run} (hl:r'.tasks.length≤1000):(cS y k r r').ok:=by
 have h1:=hY.now;have h2:=hY.seq;have h3:=mI r r'
 unfold cS
 exact ⟨by simp only[I64];omega,by simp only[I64];omega⟩

noncomputable def mK (y:Yard) (id task try_:Int):Yard:=vG bR y id task try_
theorem vQ {r:Run} (h:RunIs r) {task:Int} {t:Task} (h0:0≤task) (ht:r.tasks[task.toNat]? = some t) (h3:t.state=3):bP r task=bR r task.toNat:=by
 have:=vS h ht h3
 rwa [toNat_cast h0] at this
theorem failsR_ok {r:Run} (h:r.ok) (i:Nat):(bR r i).ok:=by
 unfold bR
 cases r.tasks[i]? with
 | none=>exact h
 | some t=>
  show (nZ r i t).ok
  unfold nZ
  split
  ·exact h
  exact ⟨h.1,h.2.1,by show I64 3;unfold I64;omega⟩
noncomputable def aH6 (r:Run):Bool:=dL r && decide (r.state=1)
noncomputable def jC (r:Run):Run:=if aH6 r=true then ⟨r.id,r.plan,4,fE r.tasks (-1)⟩ else r
theorem bD6 {r:Run} (h:aH6 r=true):jC r=⟨r.id,r.plan,4,fE r.tasks (-1)⟩:=by unfold jC;rw[if_pos h]
theorem RunIs.no5 {r:Run} (h:RunIs r) (h1:r.state=1):∀ u∈r.tasks,¬ u.state=5:=by
 intro u hu h5
 have c5:=aB3 hu h5
 have hs:=h.state
 rw[h1] at hs
 unfold bQ at hs
 have p6:=dY r.tasks 6
 repeat' split at hs
 all_goals omega
theorem leave_all {ts:List Task} (h:∀ u∈ts,¬ u.state=5):cQ ts=fE ts (-1):=by
 apply ext_getElem?
 intro k
 unfold fE cQ
 rw[getElem?_mapIdx,getElem?_map]
 cases hk:ts[k]? with
 | none=>rfl
 | some u=>
  have h5:=h u (mem_of_getElem? hk)
  have e':¬ (k:Int) = -1:=by omega
  simp[fF,dW,h5,e']

theorem runs_no {r:Run} {task:Int} (h:dL r=false):false=fV r task:=by unfold fV;rw[h];rfl
theorem runs_out {r:Run} {task:Int} (h:inB task 0 ((r.tasks.length:Int) - 1)=false):false=fV r task:=by unfold fV;rw[h];simp
theorem runs_in {r:Run} {task:Int} {t:Task} (h0:dL r=true) (h:inB task 0 ((r.tasks.length:Int) - 1)=true) (ht:r.tasks[task.toNat]? = some t):decide (t.state=3)=fV r task:=by unfold fV;rw[h0,h,ht];rfl
theorem bS0 (r:Run) (task:Int):Ct1 prog 390 [.S r,.I task] [.B (fV r task)]:=
 .one (fV r task) (rk:=fun x=>[.B x])<|vc func390 (fun (hg:gin [Par.S r,Par.I task])=>let hrl:=hg.1.2.2.1
  .c func290 (aO3 r) (hg:=⟨hg.1.1,trivial⟩) fun _ => .sb (dL r)
  (fun h0 => .m (r.tasks.length:Int) 1 (h:=by unfold I64;omega) <| .c func138 (InV task 0 ((r.tasks.length:Int) - 1)) fun _ => .sb (inB task 0 ((r.tasks.length:Int) - 1))
   (fun h1 => .ex (rW h1) fun t ht => .ye ht task (he:=gT h1) fun _ => .rt (decide (t.state=3)) ⟨runs_in h0 h1 ht,trivial⟩)
   (fun h1 => .rt false ⟨runs_out h1,trivial⟩))
  (fun h0 => .rt false ⟨runs_no h0,trivial⟩)) aC
abbrev ownRun (r:Run):List Lr:=[.v (I r.id),.v (I r.plan.prio),.v (I r.plan.most),.v (I r.plan.wait),.v (I r.plan.tasks),.o (inferInstance:Shape Edge) r.plan.edges,.v (I r.state),.o (inferInstance:Shape Task) r.tasks]
theorem bG5 (r:Run) (st:Int) (hs:I64 st) (hl:r.tasks.length≤1048576) (gr:r.ok):Co prog 392 (ownRun r) true [.I st] (fun _:Unit=>True) (fun _=>[.S (⟨r.id,r.plan,st,cQ r.tasks⟩:Run)]):=
 vco func392 (fun hg ho => .wt 4 <| .g 1 (leaveSTo_zero r.tasks).symm <| .l (Γ:=Nat) (fun k=>k≤r.tasks.length) (fun k=>r.tasks.length - k) [1,2,4] [3,1000000] [] (fun k=>[vI 5 k]) (fun k=>[oO 0 r.plan.edges,oO 1 (eA r.tasks k),oB 2 [.v (I r.id),.v (I r.plan.prio),.v (I r.plan.most),.v (I r.plan.wait),.v (I r.plan.tasks),.r 0,.v (I r.state),.r 1]]) 0 fun k hk t=>let hln:=leaveSTo_len r.tasks k
   .s ((k:Int)<(eA r.tasks k).length)
    (fun h => .ex (p:=fun u=>r.tasks[k]? = some u) ⟨_,getElem?_eq_getElem (show k<r.tasks.length by omega)⟩ fun u hu => .y (wE hu) fun gu=>
     let fin:∀ y:Task,dW u=y→Task.ok y→D prog (fun _:Unit=>True∧rgd [Rk.S (⟨r.id,r.plan,st,cQ r.tasks⟩:Run)]):=fun y hy gy => .d 1 (wE hu) fun _ => .i k <| .wt 12 <| .f 1 (eA r.tasks k) y (h:=gy) <| .g 1 (leaveSTo_set hu hy) <| .p k 1 (h:=by unfold I64;omega) <| .n t (k+1) []
     .u (u.state=4)
      (fun h4 => .u (u.state=5)
       (fun h5=>fin ⟨6,u.need,u.try_,0⟩ (leaveS1_t h4 h5) ⟨by show I64 6;unfold I64;omega,(show Task.ok u from gu).2.1,(show Task.ok u from gu).2.2.1,by show I64 0;unfold I64;omega⟩)
       (fun h5=>fin u (leaveS1_5 h5) gu))
      (fun h4=>fin u (leaveS1_4 h4) gu))
    (fun h => .g 1 (show eA r.tasks k=cQ r.tasks by rw[show k=r.tasks.length by omega];exact leaveSTo_all _) <| .rt () ⟨trivial,⟨gr.1,gr.2.1,hs⟩,trivial⟩)) aC
theorem rf_no {r:Run} {task:Int} (h:fV r task=false):r=bP r task:=by unfold bP;rw[if_neg (by rw[h];simp)]
theorem rf_a {r:Run} {task:Int} {t:Task} (h:fV r task=true) (ht:r.tasks[task.toNat]? = some t) (hl:t.try_<r.plan.most):(⟨r.id,r.plan,r.state,r.tasks.set task.toNat ⟨2,t.need,t.try_,0⟩⟩:Run)=bP r task:=by
 unfold bP aA4;rw[if_pos h,ht];simp only;rw[if_pos hl]
theorem rf_b {r:Run} {task:Int} {t:Task} (h:fV r task=true) (ht:r.tasks[task.toNat]? = some t) (hl:¬ t.try_<r.plan.most):(⟨r.id,r.plan,3,cQ (r.tasks.set task.toNat ⟨5,t.need,t.try_,0⟩)⟩:Run)=bP r task:=by
 unfold bP aA4;rw[if_pos h,ht];simp only;rw[if_neg hl]
theorem sH (r:Run) (task:Int) (hl:r.plan.edges.length≤1048576) (htl:r.tasks.length≤1048576):Ct1 prog 338 [.S r,.I task] [.S (bP r task)]:=
 .one (bP r task) (rk:=fun x=>[.S x])<|vc func338 (fun (hg:gin [Par.S r,Par.I task])=>let gr:=hg.1.1
  .c func288 (lD r hl htl) (hg:=⟨gr,trivial⟩) fun _ => .c func390 (bS0 r task) (hg:=⟨gr,trivial⟩) fun _ => .v (fV r task)
   (fun h => .rt r ⟨rf_no h,gr,trivial⟩)
   (fun h => .ex (yE h).2 fun t ht => .d 5 ht.2.1 fun gt => .ie task.toNat task (he:=by omega) <| .ie task.toNat task (he:=by omega) <| .ie task.toNat task (he:=by omega) <| .s (t.try_<r.plan.most)
    (fun h2 => .f 5 r.tasks ⟨2,t.need,t.try_,0⟩ (h:=aE3 gt aA) <| .rt ⟨r.id,r.plan,r.state,r.tasks.set task.toNat ⟨2,t.need,t.try_,0⟩⟩ ⟨rf_a h ht.2.1 h2,gr,trivial⟩)
    (fun h2 => .ie task.toNat task (he:=by omega) <| .wt 39 <| .f 5 r.tasks ⟨5,t.need,t.try_,0⟩ (h:=aE3 gt aA) <|
     .co _ func392 (bG5 ⟨r.id,r.plan,r.state,r.tasks.set task.toNat ⟨5,t.need,t.try_,0⟩⟩ 3 (by unfold I64;omega) (by rw[length_set];exact htl) gr) trivial fun _ _ hq => .rt ⟨r.id,r.plan,3,cQ (r.tasks.set task.toNat ⟨5,t.need,t.try_,0⟩)⟩ ⟨rf_b h ht.2.1 h2,hq.1.1,trivial⟩))) aC
theorem bR8 (y:Yard) (id task try_:Int) (hw:y.wt≤1048576):Ct1 prog 310 [.S y,.I id,.I task,.I try_] [.I (dB y id task try_)]:=
 .one (dB y id task try_) (rk:=fun x=>[.I x])<|vc func310 (fun (hg:gin [Par.S y,Par.I id,Par.I task,Par.I try_]) => .c func118 (iX y hw) (hg:=⟨hg.1.1,trivial⟩) fun _ => .v (aK y)
  (fun h => .rt 8 ⟨by unfold dB;rw[if_pos h],trivial⟩)
  (fun h => .c func232 (iY y id hw) (hg:=⟨hg.1.1,trivial⟩) fun _ => .s (aE y id<0)
   (fun h2 => .rt 10 ⟨by unfold dB;rw[if_neg (by rw[h];simp),if_pos h2],trivial⟩)
   (fun h2 => .c func120 (aO4 y id task try_ hw) (hg:=⟨hg.1.1,trivial⟩) fun _ => .v (eB y id task try_)
    (fun h3 => .rt 11 ⟨by unfold dB;rw[if_neg (by rw[h];simp),if_neg h2,if_pos h3],trivial⟩)
    (fun h3 => .rt 0 ⟨by unfold dB;rw[if_neg (by rw[h];simp),if_neg h2,if_neg (by rw[h3];simp)],trivial⟩)))) aC
theorem Ask_s (y:Yard) (id task try_:Int) (hw:y.wt≤1048576):Ct1 prog 335 [.S y,.I id,.I task,.I try_] [.I (dB y id task try_)]:=
 .one (dB y id task try_) (rk:=fun x=>[.I x])<|vc func335 (fun (hg:gin [Par.S y,Par.I id,Par.I task,Par.I try_]) => .c func185 (iW y hw) (hg:=⟨hg.1.1,trivial⟩) fun _ => .v (aK y)
  (fun h => .rt 8 ⟨by unfold dB;rw[if_pos h],trivial⟩)
  (fun h => .c func291 (jT y id hw) (hg:=⟨hg.1.1,trivial⟩) fun _ => .s (aE y id<0)
   (fun h2 => .rt 10 ⟨by unfold dB;rw[if_neg (by rw[h];simp),if_pos h2],trivial⟩)
   (fun h2 => .c func389 (Holds_s y id task try_ hw) (hg:=⟨hg.1.1,trivial⟩) fun _ => .v (eB y id task try_)
    (fun h3 => .rt 11 ⟨by unfold dB;rw[if_neg (by rw[h];simp),if_neg h2,if_pos h3],trivial⟩)
    (fun h3 => .rt 0 ⟨by unfold dB;rw[if_neg (by rw[h];simp),if_neg h2,if_neg (by rw[h3];simp)],trivial⟩)))) aC
theorem fail_at {y:Yard} {id task try_:Int} {k:Nat} {r:Run} {t:Task} (h:dB y id task try_=0) (hk:bO y id=some k) (hr:y.runs[k]? = some r) (hR:RunIs r) (h0:0≤task) (ht:r.tasks[task.toNat]? = some t) (h3:t.state=3):cS y k r (bP r task)=mK y id task try_:=by
 unfold mK;rw[mX h hk hr,vQ hR h0 ht h3]
theorem aP2 {y:Yard} (hY:YardIs y) (id:Int):4≤y.shelf.length∧(y.shelf.getD (aU id).toNat []).length≤1000000∧(0≤y.seq∧y.seq≤4000000000):=by
 refine ⟨by rw[hY.shelf];exact Nat.le_refl _,?_,by have:=hY.seq;omega⟩
 have h:=jS hY (aU id).toNat (by have:=fU id;omega)
 omega
theorem Fail_s (y:Yard) (id task try_:Int) (hw:y.wt≤1048576):Ct1 prog 222 [.S y,.I id,.I task,.I try_] [.S (mK y id task try_),.I (dB y id task try_)]:=
 .one (mK y id task try_,dB y id task try_) (rk:=fun q=>[.S q.1,.I q.2])<|vc func222 (fun (hg:gin [Par.S y,Par.I id,Par.I task,Par.I try_])=>let gy:=hg.1.1
  .c func184 (eG y hw) (hg:=⟨gy,trivial⟩) fun _ => .c func335 (Ask_s y id task try_ hw) (hg:=⟨gy,trivial⟩) fun _ => .u (dB y id task try_=0)
   (fun h => .rt (y,dB y id task try_) ⟨by rw[mK,mW h],gy,trivial⟩)
   (fun h=>let ha:=aC4 h
    .ex (p:=fun q:Nat×Run×Task=>bO y id=some q.1∧y.runs[q.1]? = some q.2.1∧RunIs q.2.1∧0≤task∧q.2.1.tasks[task.toNat]? = some q.2.2∧q.2.2.state=3) (ha.2.elim fun k hk=>hk.elim fun r hr=>hr.elim fun t ht=>⟨(k,r,t),ht⟩) fun q hq=>
    let hrf:=vQ hq.2.2.1 hq.2.2.2.1 hq.2.2.2.2.1 hq.2.2.2.2.2
    let hpre:=aP2 ha.1 (bP q.2.1 task).id
    let hlen:(bP q.2.1 task).tasks.length≤1000:=(by rw[hrf,(oA _ _).2.2.1];have:=hq.2.2.1.small;omega)
    .c func291 (jT y id hw) (hg:=⟨gy,trivial⟩) fun _ => .ye hq.2.1 (aE y id) (he:=cI hq.1) fun gr => .c func338 (sH q.2.1 task (zL hq.2.2.1).1 (zL hq.2.2.1).2) (hg:=⟨gr,trivial⟩) fun hf=>
     .cw _ func336 (aO2 y (aE y id) q.1 q.2.1 (bP q.2.1 task) (cI hq.1) hq.2.1 hpre.1 hlen hpre.2.1 hpre.2.2 hf.1.1 (sC ha.1 hlen)) ⟨trivial,trivial⟩ fun _ _ hz => .rt (cS y q.1 q.2.1 (bP q.2.1 task),0) ⟨by rw[fail_at h hq.1 hq.2.1 hq.2.2.1 hq.2.2.2.1 hq.2.2.2.2.1 hq.2.2.2.2.2,h],hz.1.1,trivial⟩)) aC
def pE (n:Int) (t:Task):Bool:=decide (t.state=3) && decide (t.until_≤n+1)
def wF (n:Int) (r:Run) (m:Nat):List Nat:=(List.range m).filter (fun i=>match r.tasks[i]? with | some t=>pE n t | none=>false)
def jB (y:Yard):Nat→List (Nat×Nat)
 | 0=>[]
 | k+1=>jB y k++(match y.runs[k]? with | some r=>(wF y.now r r.tasks.length).map (fun i=>(k,i)) | none=>[])
def eW (y:Yard) (p:Nat×Nat):List Int:=match y.runs[p.1]? with | some r=>(match r.tasks[p.2]? with | some t=>[r.id,p.2,t.try_] | none=>[]) | none=>[]
def gK (y:Yard) (k:Nat) (r:Run) (i:Nat):List (List Int):=(jB y k++(wF y.now r i).map (fun j=>(k,j))).map (eW y)
def bY (y:Yard):List (Nat×Nat):=jB y y.runs.length
theorem wG (y:Yard) (k:Nat) (r:Run):gK y k r 0=(jB y k).map (eW y):=by simp[gK,wF]
theorem aS3 {y:Yard} {k:Nat} {r:Run} {i:Nat} {t:Task} (hr:y.runs[k]? = some r) (ht:r.tasks[i]? = some t) (h:pE y.now t=true):gK y k r (i+1)=gK y k r i++[[r.id,(i:Int),t.try_]]:=by
 unfold gK wF
 rw[range_succ,filter_append]
 simp[ht,h,eW,hr]
theorem aS4 {y:Yard} {k:Nat} {r:Run} {i:Nat} {t:Task} (ht:r.tasks[i]? = some t) (h:pE y.now t=false):gK y k r (i+1)=gK y k r i:=by
 unfold gK wF
 rw[range_succ,filter_append]
 simp[ht,h]
theorem zS {y:Yard} {k:Nat} {r:Run} (hr:y.runs[k]? = some r) {i:Nat} (hi:i=r.tasks.length):gK y k r i=(jB y (k+1)).map (eW y):=by
 subst hi
 unfold gK
 simp[jB,hr]
theorem aG8 (n:Int) (r:Run) (m:Nat):(wF n r m).length≤m:=by
 unfold wF
 exact Nat.le_trans (length_filter_le _ _) (by simp)
theorem qB {y:Yard} (hy:YardIs y):∀ k,(jB y k).length≤12*k
 | 0=>by simp[jB]
 | k+1=>by
  have ih:=qB hy k
  simp only[jB,length_append]
  cases hr:y.runs[k]? with
  | none=>simp;omega
  | some r=>
   have h1:=aG8 y.now r r.tasks.length
   have h2:=(hy.run k r hr).1.small
   simp only[length_map];omega
theorem zR {y:Yard} (hy:YardIs y) (k:Nat) (r:Run) (i:Nat):(gK y k r i).length≤12*k+i:=by
 have h1:=qB hy k
 have h2:=aG8 y.now r i
 unfold gK
 simp only[length_map,length_append];omega
theorem uO {y:Yard} {p:Nat×Nat}:∀ {k},p∈jB y k→∃ r t,y.runs[p.1]? = some r∧r.tasks[p.2]? = some t∧eW y p=[r.id,(p.2:Int),t.try_]
 | 0,h=>by simp[jB] at h
 | k+1,h=>by
  simp only[jB,mem_append] at h
  rcases h with h | h
  ·exact uO h
  ·cases hr:y.runs[k]? with
   | none=>rw[hr] at h;simp at h
   | some r=>
    rw[hr] at h
    simp only[mem_map] at h
    obtain ⟨i,hi,rfl⟩:=h
    unfold wF at hi
    rw[mem_filter] at hi
    cases ht:r.tasks[i]? with
    | none=>rw[ht] at hi;simp at hi
    | some t=>exact ⟨r,t,hr,ht,by simp[eW,hr,ht]⟩
def mN (n:Int) (y:Yard):Yard:=⟨n,y.seq,y.shelf,y.runs⟩
def lF (y:Yard) (l:List (Nat×Nat)):Yard:=l.foldl (fun o p=>jA o p.1 p.2) y
theorem turnF_now (n:Int) (y:Yard) (k i:Nat):jA (mN n y) k i=mN n (jA y k i):=by
 unfold jA
 show (match y.runs[k]? with | none=>_ | some r=>_)=_
 cases y.runs[k]? with
 | none=>rfl
 | some r=>
  simp only
  cases r.tasks[i]? with
  | none=>rfl
  | some t=>simp only;split <;> rfl
theorem aE2 (n:Int):∀ (l:List (Nat×Nat)) (y:Yard),lF (mN n y) l=mN n (lF y l)
 | [],y=>rfl
 | p::l,y=>by
  show lF (jA (mN n y) p.1 p.2) l=mN n (lF (jA y p.1 p.2) l)
  rw[turnF_now,aE2 n l]
theorem lE {y:Yard} {l:List (Nat×Nat)} {j:Nat} {p:Nat×Nat} (h:l[j]? = some p):lF y (l.take (j+1))=jA (lF y (l.take j)) p.1 p.2:=by
 unfold lF
 rw[take_add_one,h]
 simp[foldl_append]
theorem rF (y:Yard) (l:List (Nat×Nat)):lF y (l.take 0)=y:=by simp[lF]
theorem YardIs.at {y:Yard} (hy:YardIs y) {n:Int} (h:0≤n∧n≤999999980):YardIs (mN n y):=⟨h,hy.seq,hy.shelf,hy.runs,hy.each,hy.run⟩
theorem RI.list {y:Yard} (hy:YardIs y) {l:List (Nat×Nat)} (hl:∀ p∈l,p.1<y.runs.length):∀ j,RI y (lF y (l.take j)) j
 | 0=>by rw[rF];exact RI.start hy
 | j+1=>by
  have ih:=RI.list hy hl j
  cases hp:l[j]? with
  | none=>
   have h1:=List.getElem?_eq_none_iff.1 hp
   rw[take_of_length_le (show l.length≤j+1 by omega)]
   rw[take_of_length_le h1] at ih
   exact ih.mono aA
  | some p=>rw[lE hp];exact ih.turn hy (hl p (mem_of_getElem? hp))
theorem wZ {y:Yard}:∀ p∈bY y,p.1<y.runs.length:=fun p hp=>by
 obtain ⟨r,t,h1,_⟩:=uO hp
 exact (gsi_.1 h1).1
noncomputable def bJ2 (y:Yard):Yard:=lF (mN (y.now+1) y) (bY y)
noncomputable def dH (y:Yard):Yard×Int:=if aK y=false then (y,8) else if 999999980<y.now+1 then (y,7) else (bJ2 y,0)
theorem aS2 {y:Yard} {j:Nat} (hj:j<(bY y).length):∃ k i r t,(bY y)[j]? = some (k,i)∧y.runs[k]? = some r∧r.tasks[i]? = some t∧((bY y).map (eW y))[j]? = some [r.id,(i:Int),t.try_]:=by
 obtain ⟨⟨k,i⟩,hp⟩:∃ p,(bY y)[j]? = some p:=⟨_,getElem?_eq_getElem hj⟩
 obtain ⟨r,t,h1,h2,h3⟩:=uO (mem_of_getElem? hp)
 exact ⟨k,i,r,t,hp,h1,h2,by rw[getElem?_map,hp,Option.map_some,h3]⟩
theorem RunIs.tk {r:Run} (h:RunIs r) {i:Nat} {t:Task} (ht:r.tasks[i]? = some t):(0≤t.try_∧t.try_≤1000000)∧(0≤t.until_∧t.until_≤1000000000):=by
 obtain ⟨hl,rfl⟩:=gsi_.1 ht
 obtain ⟨_,_,h3,h4,h5,_⟩:=h.task i hl hl
 have hp:=(qW h.plan).1
 unfold bE at hp
 by_cases e:r.tasks[i].state=3
 ·have:=h4 e;omega
 have:=h5 e;omega
theorem xA {n:Int} {t:Task} (h3:t.state=3) (h:t.until_≤n+1):pE n t=true:=by unfold pE;simp[h3,h]
theorem xB {n:Int} {t:Task} (h:¬ (t.state=3∧t.until_≤n+1)):pE n t=false:=by
 unfold pE
 cases h1:decide (t.state=3) with
 | false=>rfl
 | true=>cases h2:decide (t.until_≤n+1) with
  | false=>rfl
  | true=>exact absurd ⟨of_decide_eq_true h1,of_decide_eq_true h2⟩ h

theorem bA8 {r:Run} {i:Nat} {t:Task} (g:r.ok) (hi:i≤1000) (gt:t.ok):∀ z∈[r.id,(i:Int),t.try_],Dsh.good z:=by
 intro z hz
 simp only[mem_cons,not_mem_nil,or_false] at hz
 rcases hz with rfl | rfl | rfl
 ·exact g.1
 ·show I64 _;unfold I64;omega
 exact gt.2.2.1
theorem aQ1 {y:Yard} (hY:YardIs y) {k:Nat} {r:Run} (hr:y.runs[k]? = some r):r.tasks.length≤12∧r.ok:=⟨(hY.run k r hr).1.small.2.1,(hY.run k r hr).1.small.1⟩
theorem LateOf_i (y:Yard) (hY:YardIs y):Ct1 prog 314 [.S y] [.L ((bY y).map (eW y))]:=
 vc func314 (fun (hg:gin [Par.S y])=>let h8:=hY.runs
  .w (List Int) 34 3 <| .l (Γ:=Nat) (fun k=>k≤y.runs.length) (fun k=>y.runs.length - k) [1,9,10] [2] [0,1] (fun k=>[vR 3 3,vI 11 k]) (fun k=>[oR 3 34 ((jB y k).map (eW y))]) 0 fun k hk tk=>
   .s ((k:Int)<y.runs.length)
    (fun h => .x y.runs k (h:=by omega) fun r hr gr=>let hlk:=aQ1 hY hr
     .g 3 (wG y k r).symm <| .l (Γ:=Nat) (fun i=>i≤r.tasks.length) (fun i=>r.tasks.length - i) [1,5,9,10,11,16,17] [2,7] [0,1,5,6] (fun i=>[vR 3 3,vI 18 i]) (fun i=>[oR 3 34 (gK y k r i)]) 0 fun i hi ti=>let hln:=zR hY k r i
      .s ((i:Int)<r.tasks.length)
       (fun h2 => .x r.tasks i (h:=by omega) fun t ht gt=>let htk:=(hY.run k r hr).1.tk ht
        let no:pE y.now t=false→D prog (fun _:Unit=>True∧rgd [Rk.L ((bY y).map (eW y))]):=fun hb => .g 3 (aS4 (y:=y) (k:=k) ht hb).symm <| .p i 1 (h:=by unfold I64;omega) <| .n ti (i+1) []
        let yes:pE y.now t=true→D prog (fun _:Unit=>True∧rgd [Rk.L ((bY y).map (eW y))]):=fun hb => .li inferInstance 47 [r.id,(i:Int),t.try_] (by simp) (by simp) (bA8 gr aA gt) <| .a (gK y k r i) [r.id,(i:Int),t.try_] 24 (hy:=trivial) (h63:=by unfold maxLen;omega) (hby:=by omega) <| .g 3 (aS3 hr ht hb).symm <| .p i 1 (h:=by unfold I64;omega) <| .n ti (i+1) []
        .s (t.state=3)
         (fun h3 => .s (t.until_≤y.now)
          (fun h4=>yes (xA h3 aA))
          (fun h4 => .m t.until_ 1 (h:=by unfold I64;omega) <| .s (t.until_ - 1=y.now)
           (fun h5=>yes (xA h3 aA))
           (fun h5=>no (xB aA))))
         (fun h3=>no (xB aA)))
       (fun h2 => .g 3 (zS hr (show i=r.tasks.length by omega)) <| .p k 1 (h:=by unfold I64;omega) <| .n tk (k+1) []))
    (fun h => .g 3 (show (jB y k).map (eW y)=(bY y).map (eW y) by rw[show k=y.runs.length by omega];rfl) <| .rt () ⟨trivial,trivial⟩)) aC
theorem LateOf_s (y:Yard) (hY:YardIs y):Ct1 prog 339 [.S y] [.L ((bY y).map (eW y))]:=
 vc func339 (fun (hg:gin [Par.S y])=>let h8:=hY.runs
  .e (List Int) <| .l (Γ:=Nat) (fun k=>k≤y.runs.length) (fun k=>y.runs.length - k) [777777,7] [777777] [777777] (fun k=>[vR 3 3,vI 4 k]) (fun k=>[oR 3 34 ((jB y k).map (eW y))]) 0 fun k hk tk=>
   .s ((k:Int)<y.runs.length)
    (fun h => .ex (p:=fun r=>y.runs[k]? = some r) ⟨y.runs[k]'(by omega),getElem?_eq_getElem _⟩ fun r hr=>let hlk:=aQ1 hY hr
     let gr:=hlk.2
     .g 3 (wG y k r).symm <| .l (Γ:=Nat) (fun i=>i≤r.tasks.length) (fun i=>r.tasks.length - i) [777777] [777777] [777777] (fun i=>[vR 3 3,vI 5 i]) (fun i=>[oR 3 34 (gK y k r i)]) 0 fun i hi ti=>let hln:=zR hY k r i
      .y hr fun _ => .s ((i:Int)<r.tasks.length)
       (fun h2 => .y hr fun _ => .x r.tasks i (h:=by omega) fun t ht gt=>let htk:=(hY.run k r hr).1.tk ht
        let no:pE y.now t=false→D prog (fun _:Unit=>True∧rgd [Rk.L ((bY y).map (eW y))]):=fun hb => .g 3 (aS4 (y:=y) (k:=k) ht hb).symm <| .p i 1 (h:=by unfold I64;omega) <| .n ti (i+1) []
        let yes:pE y.now t=true→D prog (fun _:Unit=>True∧rgd [Rk.L ((bY y).map (eW y))]):=fun hb => .y hr fun _ => .lo inferInstance [r.id,(i:Int),t.try_] (by simp) (by simp) (bA8 gr aA gt) <| .a (gK y k r i) [r.id,(i:Int),t.try_] 24 (hy:=trivial) (h63:=by unfold maxLen;omega) (hby:=by omega) <| .g 3 (aS3 hr ht hb).symm <| .p i 1 (h:=by unfold I64;omega) <| .n ti (i+1) []
        .s (t.state=3)
         (fun h3 => .s (t.until_≤y.now)
          (fun h4=>yes (xA h3 aA))
          (fun h4 => .m t.until_ 1 (h:=by unfold I64;omega) <| .s (t.until_ - 1≤y.now)
           (fun h5=>yes (xA h3 aA))
           (fun h5=>no (xB aA))))
         (fun h3=>no (xB aA)))
       (fun h2 => .g 3 (zS hr (show i=r.tasks.length by omega)) <| .p k 1 (h:=by unfold I64;omega) <| .n tk (k+1) []))
    (fun h => .g 3 (show (jB y k).map (eW y)=(bY y).map (eW y) by rw[show k=y.runs.length by omega];rfl) <| .rt () ⟨trivial,trivial⟩)) aC
theorem sU {α:Type} {xs:List α} {k:Nat} {x:α} (h:xs[k]? = some x):xs.set k x=xs:=by
 obtain ⟨hl,rfl⟩:=gsi_.1 h
 exact set_getElem_self hl
theorem rd_no {r:Run} {task:Int} (h:fV r task=false):r=fP r task:=by unfold fP;rw[if_neg (by rw[h];simp)]
theorem rd_val {r:Run} {task:Int} {t:Task} (hB:fV r task=true) (hR:RunIs r) (h0:0≤task) (ht:r.tasks[task.toNat]? = some t) (h3:t.state=3):(⟨r.id,r.plan,bQ (cG r task.toNat t),cG r task.toNat t⟩:Run)=fP r task:=by
 unfold fP;rw[if_pos hB,aB0 ht];unfold aU2;rw[← doneT_state hR ht h3]
theorem st_i64 (ts:List Task):I64 (bQ ts):=by unfold bQ I64;(repeat' split) <;> omega
theorem RunDone_s (r:Run) (task:Int) (hl:r.plan.edges.length≤1048576) (htl:r.tasks.length≤1048576):Ct1 prog 337 [.S r,.I task] [.S (fP r task)]:=
 .one (fP r task) (rk:=fun x=>[.S x])<|vc func337 (fun (hg:gin [Par.S r,Par.I task])=>let gr:=hg.1.1
  .c func288 (lD r hl htl) (hg:=⟨gr,trivial⟩) fun _ => .c func390 (bS0 r task) (hg:=⟨gr,trivial⟩) fun _ => .v (fV r task)
   (fun h => .rt r ⟨rd_no h,gr,trivial⟩)
   (fun h => .ex (p:=fun t=>r.tasks[task.toNat]? = some t∧t.state=3∧0≤task∧RunIs r) ((yE h).2.elim fun t ht=>⟨t,ht.2.1,ht.2.2,ht.1,(yE h).1⟩) fun t ht=>
    let hR:=ht.2.2.2
    .d 5 ht.1 fun gt => .ie task.toNat task (he:=by omega) <| .ie task.toNat task (he:=by omega) <| .wt 26 <| .f 5 r.tasks ⟨4,t.need,t.try_,0⟩ (h:=aE3 gt aA) <|
    .c func391 (BehindP_s r.plan task hR.plan) (hg:=⟨gr.2.1,trivial⟩) fun _ => .g 5 (aJ6 (r.tasks.set task.toNat ⟨4,t.need,t.try_,0⟩) (bF r.plan task)).symm <|
    .l (Γ:=Nat) (fun k=>k≤(bF r.plan task).length) (fun k=>(bF r.plan task).length - k) [4,5,6] [3,4,8] [] (fun k=>[vI 7 k]) (fun k=>[oO 5 (oS (r.tasks.set task.toNat ⟨4,t.need,t.try_,0⟩) ((bF r.plan task).take k)),oB 6 [.v (I r.id),.v (I r.plan.prio),.v (I r.plan.most),.v (I r.plan.wait),.v (I r.plan.tasks),.r 4,.v (I r.state),.r 5]]) 0 fun k hk tk=>
     .s ((k:Int)<(bF r.plan task).length)
      (fun hlt => .ex (rd_in hR ht.1 k aA) fun q hq=>
       let fin:∀ y:Task,mG q.2=y→Task.ok y→D prog (fun x:Run=>x=fP r task∧rgd [Rk.S x]):=fun y hy gy => .d 5 hq.2.1 fun _ => .y hq.1 fun _ => .ie q.1.toNat q.1 (he:=by omega) <| .wt 34 <| .f 5 (oS (r.tasks.set task.toNat ⟨4,t.need,t.try_,0⟩) ((bF r.plan task).take k)) y (h:=gy) <| .g 5 (bF3 hq.1 hq.2.1 hy).symm <| .p k 1 (h:=by have:=sE r.plan task;unfold I64;omega) <| .n tk (k+1) []
       .y hq.1 fun _ => .ye hq.2.1 q.1 (he:=by omega) fun gu => .m q.2.need 1 (h:=by unfold I64;omega) <| .s (q.2.need - 1=0)
        (fun h0=>fin ⟨2,q.2.need - 1,q.2.try_,q.2.until_⟩ (bC7 h0) (wP gu hq.2.2.2 2 (by unfold I64;omega)))
        (fun h0=>fin ⟨q.2.state,q.2.need - 1,q.2.try_,q.2.until_⟩ (bC6 h0) (wP gu hq.2.2.2 _ gu.1)))
      (fun hge => .g 5 (rd_ts (t:=t) ht.2.2.1 (show k=(bF r.plan task).length by omega)) <| .c func373 (bG2 ⟨r.id,r.plan,r.state,cG r task.toNat t⟩ (doneTs_st hR ht.1) (by show (cG r task.toNat t).length≤_;rw[sB];exact htl)) (hg:=⟨gr,trivial⟩) fun _=>
       .rt ⟨r.id,r.plan,bQ (cG r task.toNat t),cG r task.toNat t⟩ ⟨rd_val h hR ht.2.2.1 ht.1 ht.2.1,⟨gr.1,gr.2.1,st_i64 _⟩,trivial⟩))) aC
theorem done_at {y:Yard} {id task try_:Int} {k:Nat} {r:Run} {t:Task} (h:dB y id task try_=0) (hk:bO y id=some k) (hr:y.runs[k]? = some r) (hR:RunIs r) (h0:0≤task) (ht:r.tasks[task.toNat]? = some t) (h3:t.state=3):cS y k r (fP r task)=dZ y id task try_:=by
 unfold dZ;rw[mX h hk hr,yJ hR h0 ht h3]
theorem Complete_s (y:Yard) (id task try_:Int) (hw:y.wt≤1048576):Ct1 prog 221 [.S y,.I id,.I task,.I try_] [.S (dZ y id task try_),.I (dB y id task try_)]:=
 .one (dZ y id task try_,dB y id task try_) (rk:=fun q=>[.S q.1,.I q.2])<|vc func221 (fun (hg:gin [Par.S y,Par.I id,Par.I task,Par.I try_])=>let gy:=hg.1.1
  .c func184 (eG y hw) (hg:=⟨gy,trivial⟩) fun _ => .c func335 (Ask_s y id task try_ hw) (hg:=⟨gy,trivial⟩) fun _ => .u (dB y id task try_=0)
   (fun h => .rt (y,dB y id task try_) ⟨by rw[dZ,mW h],gy,trivial⟩)
   (fun h=>let ha:=aC4 h
    .ex (p:=fun q:Nat×Run×Task=>bO y id=some q.1∧y.runs[q.1]? = some q.2.1∧RunIs q.2.1∧0≤task∧q.2.1.tasks[task.toNat]? = some q.2.2∧q.2.2.state=3) (ha.2.elim fun k hk=>hk.elim fun r hr=>hr.elim fun t ht=>⟨(k,r,t),ht⟩) fun q hq=>
    let hrf:=yJ hq.2.2.1 hq.2.2.2.1 hq.2.2.2.2.1 hq.2.2.2.2.2
    let hpre:=aP2 ha.1 (fP q.2.1 task).id
    let hlen:(fP q.2.1 task).tasks.length≤1000:=(by rw[hrf,(mL _ _).2.2.1];have:=hq.2.2.1.small;omega)
    .c func291 (jT y id hw) (hg:=⟨gy,trivial⟩) fun _ => .ye hq.2.1 (aE y id) (he:=cI hq.1) fun gr => .c func337 (RunDone_s q.2.1 task (zL hq.2.2.1).1 (zL hq.2.2.1).2) (hg:=⟨gr,trivial⟩) fun hf=>
     .cw _ func336 (aO2 y (aE y id) q.1 q.2.1 (fP q.2.1 task) (cI hq.1) hq.2.1 hpre.1 hlen hpre.2.1 hpre.2.2 hf.1.1 (sC ha.1 hlen)) ⟨trivial,trivial⟩ fun _ _ hz => .rt (cS y q.1 q.2.1 (fP q.2.1 task),0) ⟨by rw[done_at h hq.1 hq.2.1 hq.2.2.1 hq.2.2.2.1 hq.2.2.2.2.1 hq.2.2.2.2.2,h],hz.1.1,trivial⟩)) aC
theorem rest_run {y out:Yard} {n k:Nat} {r1:Run} (h:RI y out n) (hr:y.runs[k]? = some r1):∃ r2,out.runs[k]? = some r2∧RunIs r2∧r2.tasks.length=r1.tasks.length:=by
 obtain ⟨r2,h1,h2,h3,h4,h5⟩:=h.run k r1 hr
 exact ⟨r2,h1,h2,h4⟩
theorem aF6 {y out:Yard} {n k i:Nat} {r:Run} {t:Task} (hY:YardIs y) (h:RI y out n) (hn:n≤900) (hr:out.runs[k]? = some r) (ht:r.tasks[i]? = some t) (h3:t.state=3) (hR:RunIs r):(4≤out.shelf.length∧(out.shelf.getD (aU (bP r (i:Int)).id).toNat []).length≤1000000∧(0≤out.seq∧out.seq≤4000000000))∧(bP r (i:Int)).tasks.length≤1000∧(cS out k r (bP r (i:Int))).ok∧cS out k r (bP r (i:Int))=jA out k i:=by
 have he:=vS hR ht h3
 refine ⟨h.chg hY aA _,by rw[he];have:=(hR.fails ht h3).small;omega,by rw[he];exact (h.change hY hr ht h3 hR).ok hY aA,by rw[he];exact (aY4 hr ht h3).symm⟩
theorem aQ5 {y:Yard} (hY:YardIs y) {k:Nat} (hk:k≤y.runs.length):RI y (kO y k) 96:=(RI.outer hY k hk).mono (by have:=hY.runs;omega)
theorem bA9 {y:Yard} (hY:YardIs y) {k i:Nat} {r:Run} (hr:y.runs[k]? = some r) (hi:i≤r.tasks.length):RI y (oK (kO y k) k i) 200:=(RI.at hY (gsi_.1 hr).1).mono (by have:=hY.runs;have:=(gsi_.1 hr).1;have:=(hY.run k r hr).1.small;omega)
abbrev ryS (y:Yard) (b s r:Nat):List (Nat×To):=[oB b [.v (I y.now),.v (I y.seq),.r s,.r r],oO s y.shelf,oO r y.runs]
theorem Restart_s (y:Yard) (hw:y.wt≤1048576):Ct1 prog 226 [.S y] [.S (cX y)]:=
 .one (cX y) (rk:=fun x=>[.S x])<|vc func226 (fun (hg:gin [Par.S y])=>let gy:=hg.1.1
  .c func184 (eG y hw) (hg:=⟨gy,trivial⟩) fun _ => .c func185 (iW y hw) (hg:=⟨gy,trivial⟩) fun _ => .v (aK y)
   (fun h => .rt y ⟨by unfold cX;rw[if_neg (by rw[h];simp)],gy,trivial⟩)
   (fun h=>let hY:=gU h
    .l (Γ:=Nat×Yard) (fun g=>g.1≤y.runs.length∧g.2=kO y g.1) (fun g=>y.runs.length - g.1) [2,3] [3] [] (fun g=>[vI 4 g.1]) (fun g=>ryS g.2 6 4 5) (0,y) (h:=⟨Nat.zero_le _,rfl⟩) fun g hJ tk=>
     let hRK:RI y g.2 96:=(by rw[hJ.2];exact aQ5 hY hJ.1)
     .s ((g.1:Int)<g.2.runs.length)
      (fun hlt => .ex (p:=fun r1=>y.runs[g.1]? = some r1) ⟨_,getElem?_eq_getElem (show g.1<y.runs.length by have:=hRK.runs;omega)⟩ fun r1 hr1=>
       .l (Γ:=Nat×Yard) (fun q=>q.1≤r1.tasks.length∧q.2=oK (kO y g.1) g.1 q.1) (fun q=>r1.tasks.length - q.1) [2,3,4] [3] [] (fun q=>[vI 5 q.1]) (fun q=>ryS q.2 6 4 5) (0,g.2) (h:=⟨Nat.zero_le _,hJ.2⟩) fun q hq tq=>
        let hRI:RI y q.2 200:=(by rw[hq.2];exact bA9 hY hr1 hq.1)
        .ex (rest_run hRI hr1) fun r2 h2 => .y h2.1 fun gr => .s ((q.1:Int)<r2.tasks.length)
         (fun hl2 => .ex (p:=fun t=>r2.tasks[q.1]? = some t) ⟨_,getElem?_eq_getElem (show q.1<r2.tasks.length by omega)⟩ fun t2 ht2 => .y h2.1 fun _ => .y ht2 fun _ => .s (t2.state=3)
          (fun h3=>let hT:=aF6 hY hRI aA h2.1 ht2 h3 h2.2.1
           .y h2.1 fun _ => .c func338 (sH r2 (q.1:Int) (zL h2.2.1).1 (zL h2.2.1).2) (hg:=⟨gr,trivial⟩) fun hf=>
           .cw _ func336 (aO2 q.2 (g.1:Int) g.1 r2 (bP r2 (q.1:Int)) rfl h2.1 hT.1.1 hT.2.1 hT.1.2.1 hT.1.2.2 hf.1.1 hT.2.2.1) ⟨trivial,trivial⟩ fun _ _ hz=>
           .p q.1 1 (h:=by have:=h2.2.1.small;unfold I64;omega) <| .n tq (q.1+1,cS q.2 g.1 r2 (bP r2 (q.1:Int))) [(4,19),(5,20)] (h1:=⟨by show q.1+1≤_;omega,by show cS q.2 g.1 r2 (bP r2 (q.1:Int))=_;rw[hT.2.2.2,hq.2];rfl⟩) (h2:=by show r1.tasks.length - (q.1+1)<_;omega))
          (fun h3 => .p q.1 1 (h:=by have:=h2.2.1.small;unfold I64;omega) <| .n tq (q.1+1,q.2) [] (h1:=⟨by show q.1+1≤_;omega,by show q.2=jA (oK (kO y g.1) g.1 q.1) g.1 q.1;rw[← hq.2];exact (wN h2.1 ht2 h3).symm⟩) (h2:=by show r1.tasks.length - (q.1+1)<_;omega)))
         (fun hl2 => .p g.1 1 (h:=by have:=hY.runs;unfold I64;omega) <| .n tk (g.1+1,q.2) [] (h1:=⟨by show g.1+1≤_;have:=hRK.runs;omega,by show q.2=_;rw[hq.2];exact aQ6 hr1 aA⟩) (h2:=by show y.runs.length - (g.1+1)<_;have:=hRK.runs;omega)))
      (fun hge => .rt g.2 ⟨by unfold cX;rw[if_pos h,hJ.2];congr 1;have:=hRK.runs;omega,hRK.ok hY aA,trivial⟩))) aC
theorem sY {y:Yard} {id:Int} (h:¬ aE y id<0):∃ r,y.runs[(aE y id).toNat]? = some r:=by
 unfold aE at h ⊢
 cases hk:bO y id with
 | none=>rw[hk] at h;simp[ixI] at h
 | some k=>
  have:=yI hk
  exact ⟨_,by simp only[ixI,Int.toNat_natCast];exact getElem?_eq_getElem this⟩
theorem aT1 {r:Run} (h:r.ok):(jC r).ok:=by
 unfold jC
 split
 ·exact ⟨h.1,h.2.1,by show I64 4;unfold I64;omega⟩
 exact h
noncomputable def bF1 (y:Yard) (k:Nat) (r:Run):Yard:=⟨y.now,y.seq,y.shelf,y.runs.set k (jC r)⟩
noncomputable def bJ (y:Yard) (id:Int):Yard×Int:=
 if aK y=false then (y,8) else match y.runs[(aE y id).toNat]? with
  | some r=>if aE y id<0 then (y,10) else if r.state≠1 then (y,12) else (bF1 y (aE y id).toNat r,0)
  | none=>(y,10)
theorem tR {y:Yard} {id:Int} (h0:aK y=true) (h:aE y id<0):bJ y id=(y,10):=by
 unfold bJ
 rw[if_neg (by rw[h0];decide)]
 cases y.runs[(aE y id).toNat]? with
 | none=>rfl
 | some r=>simp only;rw[if_pos h]
theorem kY {y:Yard} {id:Int} {r:Run} (h0:aK y=true) (h:¬ aE y id<0) (hr:y.runs[(aE y id).toNat]? = some r):bJ y id=if r.state≠1 then (y,12) else (bF1 y (aE y id).toNat r,0):=by
 unfold bJ
 rw[if_neg (by rw[h0];decide),hr]
 simp only
 rw[if_neg h]

structure LtA (y out:Yard) (j k i:Nat) (id tr:Int) (r:Run) (t:Task):Prop where
 p:(bY y)[j]? = some (k,i)
 row:((bY y).map (eW y))[j]? = some [id,(i:Int),tr]
 ix:aE out id=(k:Int)
 hr:out.runs[k]? = some r
 is:RunIs r
 ht:r.tasks[i]? = some t
theorem lt_at {y out:Yard} {n j:Nat} (hY:YardIs y) (h:RI y out n) (hj:j<(bY y).length):∃ q:(Nat×Nat)×(Int×Int)×Run×Task,LtA y out j q.1.1 q.1.2 q.2.1.1 q.2.1.2 q.2.2.1 q.2.2.2:=by
 obtain ⟨k,i,r,t,hp,hr,ht,hrow⟩:=aS2 hj
 obtain ⟨r2,t2,h1,h2,h3,h4⟩:=h.holds hY hr ht
 exact ⟨((k,i),(r.id,t.try_),r2,t2),⟨hp,hrow,cI (h.ix hY hr),h1,h2,h3⟩⟩
theorem bN5 {y:Yard} (hY:YardIs y):(bY y).length≤96:=by have:=qB hY y.runs.length;have:=hY.runs;show (jB y y.runs.length).length≤96;omega
theorem aP4 {y:Yard} (h:aK y=false):(y,(8:Int))=dH y:=by unfold dH;rw[if_pos h]
theorem aP5 {y:Yard} (h0:aK y=true) (h:999999980<y.now+1):(y,(7:Int))=dH y:=by unfold dH;rw[if_neg (by rw[h0];simp),if_pos h]
theorem ticked_0 {y out:Yard} {j:Nat} (h0:aK y=true) (h:¬ 999999980<y.now+1) (hY:YardIs y) (ho:out=lF y ((bY y).take j)) (hj:¬ j<(bY y).length):((⟨out.now+1,out.seq,out.shelf,out.runs⟩:Yard),(0:Int))=dH y:=by
 unfold dH;rw[if_neg (by rw[h0];simp),if_neg h]
 unfold bJ2
 rw[aE2,← (RI.list hY wZ j).now,← ho,ho,take_of_length_le aA]
 rfl
theorem Tick_s (y:Yard) (hw:y.wt≤1048576):Ct1 prog 223 [.S y] [.S (dH y).1,.I (dH y).2]:=
 .one (dH y) (rk:=fun q=>[.S q.1,.I q.2])<|vc func223 (fun (hg:gin [Par.S y])=>let gy:=hg.1.1
  .c func184 (eG y hw) (hg:=⟨gy,trivial⟩) fun _ => .c func185 (iW y hw) (hg:=⟨gy,trivial⟩) fun _ => .v (aK y)
   (fun h => .rt (y,8) ⟨aP4 h,gy,trivial⟩)
   (fun h=>let hY:=gU h
    let hn:=hY.now
    .p y.now 1 (h:=by unfold I64;omega) <| .s (999999980<y.now+1)
     (fun h7 => .rt (y,7) ⟨aP5 h h7,gy,trivial⟩)
     (fun h7=>let hln:=bN5 hY
      let hml:((bY y).map (eW y)).length=(bY y).length:=length_map _
      .c func339 (LateOf_s y hY) (hg:=⟨gy,trivial⟩) fun _=>
      .l (Γ:=Nat×Yard) (fun g=>g.1≤(bY y).length∧g.2=lF y ((bY y).take g.1)) (fun g=>(bY y).length - g.1) [2,4,5] [3,7] [] (fun g=>[vI 6 g.1]) (fun g=>ryS g.2 6 4 5) (0,y) (h:=⟨Nat.zero_le _,(rF y _).symm⟩) fun g hJ tk=>
       let hRI:RI y g.2 200:=(by rw[hJ.2];exact (RI.list hY wZ g.1).mono aA)
       .s ((g.1:Int)<((bY y).map (eW y)).length)
        (fun hlt => .ex (lt_at hY hRI (show g.1<(bY y).length by omega)) fun q hq=>
         let r2:=q.2.2.1
         .y hq.row fun _ => .y (show [q.2.1.1,(q.1.2:Int),q.2.1.2][0]? = some q.2.1.1 from rfl) fun gi => .c func291 (jT g.2 q.2.1.1 (Nat.le_trans (hRI.wt hY aA) aA)) (hg:=⟨hRI.ok hY aA,trivial⟩) fun _=>
         .ye hq.hr (aE g.2 q.2.1.1) (he:=hq.ix) fun gr => .y hq.row fun _ => .y (show [q.2.1.1,(q.1.2:Int),q.2.1.2][1]? = some (q.1.2:Int) from rfl) fun _ => .y hq.ht fun _ => .s (q.2.2.2.state=3)
          (fun h3=>let hT:=aF6 hY hRI aA hq.hr hq.ht h3 hq.is
           .ye hq.hr (aE g.2 q.2.1.1) (he:=hq.ix) fun gr => .y hq.row fun _ => .y (show [q.2.1.1,(q.1.2:Int),q.2.1.2][1]? = some (q.1.2:Int) from rfl) fun _=>
           .c func338 (sH q.2.2.1 (q.1.2:Int) (zL hq.is).1 (zL hq.is).2) (hg:=⟨gr,trivial⟩) fun hf=>
           .cw _ func336 (aO2 g.2 (aE g.2 q.2.1.1) q.1.1 q.2.2.1 (bP q.2.2.1 (q.1.2:Int)) hq.ix hq.hr hT.1.1 hT.2.1 hT.1.2.1 hT.1.2.2 hf.1.1 hT.2.2.1) ⟨trivial,trivial⟩ fun _ _ hz=>
           .p g.1 1 (h:=by unfold I64;omega) <| .n tk (g.1+1,cS g.2 q.1.1 q.2.2.1 (bP q.2.2.1 (q.1.2:Int))) [(4,26),(5,27)] (h1:=⟨by show g.1+1≤_;omega,by show cS g.2 q.1.1 q.2.2.1 (bP q.2.2.1 (q.1.2:Int))=_;rw[hT.2.2.2,lE hq.p,hJ.2]⟩) (h2:=by show (bY y).length - (g.1+1)<_;omega))
          (fun h3 => .p g.1 1 (h:=by unfold I64;omega) <| .n tk (g.1+1,g.2) [] (h1:=⟨by show g.1+1≤_;omega,by show g.2=_;rw[lE hq.p,← hJ.2];exact (wN hq.hr hq.ht h3).symm⟩) (h2:=by show (bY y).length - (g.1+1)<_;omega)))
        (fun hge=>let hnow:=hRI.now
         .p g.2.now 1 (h:=by unfold I64;omega) <| .rt (⟨g.2.now+1,g.2.seq,g.2.shelf,g.2.runs⟩,0) ⟨ticked_0 h h7 hY hJ.2 aA,⟨by show I64 (g.2.now+1);unfold I64;omega,(show Yard.ok g.2 from hRI.ok hY aA).2⟩,trivial⟩)))) aC
theorem bD4 {r:Run} (h:dL r=false):r=jC r:=by unfold jC aH6;rw[h];rfl
theorem bD5 {r:Run} (h:¬ r.state=1):r=jC r:=by unfold jC aH6;rw[decide_eq_false h,Bool.and_false];rfl
theorem gone_1 {r:Run} (h0:dL r=true) (h:r.state=1):(⟨r.id,r.plan,4,cQ r.tasks⟩:Run)=jC r:=by
 rw[bD6 (by unfold aH6;rw[h0,decide_eq_true h];rfl),leave_all ((runIs.1 h0).no5 h)]
theorem RunLeft_s (r:Run) (hl:r.plan.edges.length≤1048576) (htl:r.tasks.length≤1048576):Ct1 prog 340 [.S r] [.S (jC r)]:=
 .one (jC r) (rk:=fun x=>[.S x])<|vc func340 (fun (hg:gin [Par.S r])=>let gr:=hg.1.1
  .c func288 (lD r hl htl) (hg:=⟨gr,trivial⟩) fun _ => .c func290 (aO3 r) (hg:=⟨gr,trivial⟩) fun _ => .v (dL r)
   (fun h => .rt r ⟨bD4 h,gr,trivial⟩)
   (fun h => .u (r.state=1)
    (fun h1 => .rt r ⟨bD5 h1,gr,trivial⟩)
    (fun h1 => .co _ func392 (bG5 r 4 (by unfold I64;omega) htl gr) trivial fun _ _ hq => .rt ⟨r.id,r.plan,4,cQ r.tasks⟩ ⟨gone_1 h h1,hq.1.1,trivial⟩))) aC
theorem bQ6 {y:Yard} {id:Int} (h:aK y=false):(y,(8:Int))=bJ y id:=by unfold bJ;rw[if_pos h]
theorem oY {y:Yard} {id:Int} (h:¬ aE y id<0):aE y id=((aE y id).toNat:Int):=by omega
theorem Cancel_s (y:Yard) (id:Int) (hw:y.wt≤1048576):Ct1 prog 224 [.S y,.I id] [.S (bJ y id).1,.I (bJ y id).2]:=
 .one (bJ y id) (rk:=fun q=>[.S q.1,.I q.2])<|vc func224 (fun (hg:gin [Par.S y,Par.I id])=>let gy:=hg.1.1
  .c func184 (eG y hw) (hg:=⟨gy,trivial⟩) fun _ => .c func291 (jT y id hw) (hg:=⟨gy,trivial⟩) fun _ => .c func185 (iW y hw) (hg:=⟨gy,trivial⟩) fun _ => .v (aK y)
   (fun h => .rt (y,8) ⟨bQ6 h,gy,trivial⟩)
   (fun h => .s (aE y id<0)
    (fun h2 => .rt (y,10) ⟨(tR h h2).symm,gy,trivial⟩)
    (fun h2 => .ex (sY h2) fun r hr => .ye hr (aE y id) (he:=oY h2) fun gr=>let hrl:=gQ hw hr
     .u (r.state=1)
      (fun h3 => .rt (y,12) ⟨by rw[kY h h2 hr,if_pos h3],gy,trivial⟩)
      (fun h3 => .d 5 hr fun _ => .ie (aE y id).toNat (aE y id) (he:=oY h2) <| .c func340 (RunLeft_s r hrl.2.2 hrl.2.1) (hg:=⟨gr,trivial⟩) fun _ => .ie (aE y id).toNat (aE y id) (he:=oY h2) <| .wt 41 <| .f 5 y.runs (jC r) (h:=aT1 gr) <|
       .rt (bF1 y (aE y id).toNat r,0) ⟨by rw[kY h h2 hr,if_neg (by simp[h3])],gy,trivial⟩)))) aC
def jQ (home:Int) (k:Nat):List Int:=[(home+1) % 4,(home+2) % 4,(home+3) % 4].take (k - 1)
theorem oth_to {home:Int} {k:Nat} (h:1≤k) (h2:k<4):jQ home (k+1)=jQ home k++[(home+(k:Int)) % 4]:=by
 rcases k with _ | _ | _ | _ | k
 ·omega
 ·rfl
 ·rfl
 ·rfl
 omega
theorem oth_4 (home:Int):jQ home 4=[(home+1) % 4,(home+2) % 4,(home+3) % 4]:=rfl
theorem oth_vict {home draw d:Int} (hd:d=max draw 0 % 3):([]++(jQ home 4).drop d.toNat)++(jQ home 4).take d.toNat=bH home draw:=by
 rw[oth_4]
 have h3:d=0∨d=1∨d=2:=by omega
 unfold bH mQ
 rw[← hd]
 rcases h3 with rfl | rfl | rfl
 ·simp only[Int.toNat_zero,drop_zero,take_zero,append_nil,nil_append,List.cons.injEq,and_true]
  omega
 ·show [(home+2) % 4,(home+3) % 4,(home+1) % 4]=_
  simp only[List.cons.injEq,and_true]
  omega
 show [(home+3) % 4,(home+1) % 4,(home+2) % 4]=_
 simp only[List.cons.injEq,and_true]
 omega

theorem sO {α:Type} (f:α→Nat) (m:Nat):∀ xs:List α,(∀ x∈xs,f x≤m)→(xs.map f).sum≤xs.length*m
 | [],_=>by simp
 | x::xs,h=>by
  have h1:=h x (by simp)
  have h2:=sO f m xs (fun z hz=>h z (by simp[hz]))
  simp only[map_cons,sum_cons,length_cons,Nat.succ_mul]
  omega
theorem aK3 {y:Yard} {s:List (List Entry)} {rr:List Run} {a b:Int} (h4:s.length=4) (he:∀ j,j<4→(s.getD j []).length≤80) (h8:rr.length≤8) (hr:∀ r∈rr,r.wt≤42):(⟨a,b,s,rr⟩:Yard).wt≤100000:=by
 have hs:=sO (fun z:List Entry=>z.length) 80 s (fun z hz=>by
  obtain ⟨j,hj,rfl⟩:=getElem_of_mem hz
  have:=he j aA
  rw[getD_eq_getElem?_getD,getElem?_eq_getElem hj] at this
  simpa using this)
 have hq:=sO (fun z:Run=>z.wt) 42 rr hr
 rw[h4] at hs
 have:rr.length*42≤8*42:=Nat.mul_le_mul_right _ h8
 unfold Yard.wt wtL
 simp only
 omega
theorem sW {y:Yard} (h:YardIs y):∀ r∈y.runs,r.wt≤42:=by
 intro r hr
 obtain ⟨j,hj,rfl⟩:=getElem_of_mem hr
 exact ((h.run j _ (getElem?_eq_getElem hj)).1).wt
theorem PI.wt {y out:Yard} {home:Nat} (hy:YardIs y) (h:PI y out home):out.wt≤100000:=
 aK3 (y:=y) h.len h.each (by rw[h.runs];exact hy.runs) (by rw[h.runs];exact sW hy)
theorem PI.wtS {y out:Yard} {home:Nat} (hy:YardIs y) (h:PI y out home) {l:List Entry} (hl:l.length≤80):(mU out home l).wt≤100000:=
 aK3 (y:=y) (by show (out.shelf.set _ _).length=4;rw[length_set];exact h.len) (lP h.each hl h.len) (by rw[h.runs];exact hy.runs) (by rw[h.runs];exact sW hy)
theorem PI.ok {y out:Yard} {home:Nat} (hy:YardIs y) (h:PI y out home):out.ok:=by
 have h1:=hy.now;have h2:=hy.seq
 unfold Yard.ok I64
 rw[h.now,h.seq];omega
theorem PI.sw {y out:Yard} {home:Nat} (h:PI y out home) {o:Int} (ho:0≤o∧o≤3):(aV out o).shelf.length=4∧∀ s,s<4→((aV out o).shelf.getD s []).length≤80:=by
 rw[uE ho h.len]
 exact ⟨by show (out.shelf.set _ _).length=4;rw[length_set];exact h.len,lP h.each (Nat.le_trans (length_filter_le _ _) (h.each _ aA)) h.len⟩
theorem RunIs.tries {r:Run} (h:RunIs r) {i:Nat} {t:Task} (ht:r.tasks[i]? = some t):(0≤t.try_∧t.try_≤5)∧1≤r.plan.wait∧r.plan.wait≤20:=by
 obtain ⟨hi,rfl⟩:=gsi_.1 ht
 have h1:=(h.task i hi hi).2.2.1
 have h2:=(qW h.plan).1
 unfold bE at h2
 omega
theorem runIx_runs {y y':Yard} (h:y'.runs=y.runs) (id:Int):bO y' id=bO y id:=by unfold bO;rw[h]
theorem bC1 {xs:List Entry} (h:¬ (xs.length:Int)=0):¬ xs=[]:=fun e=>h (by rw[e];rfl)
theorem nil0 {xs:List Entry} (h:(xs.length:Int)=0):xs=[]:=eq_nil_of_length_eq_zero aA
theorem flt_t {α:Type} {p:α→Bool} {l:List α} {k:Nat} {e:α} (h:l[k]? = some e) (hp:p e=true):(l.take k).filter p++[e]=(l.take (k+1)).filter p:=by
 rw[← cU h,filter_append,filter_cons_of_pos hp];rfl
theorem flt_f {α:Type} {p:α→Bool} {l:List α} {k:Nat} {e:α} (h:l[k]? = some e) (hp:p e=false):(l.take k).filter p=(l.take (k+1)).filter p:=by
 rw[← cU h,filter_append,filter_cons_of_neg (by rw[hp];simp)];simp
theorem flt_all {α:Type} {p:α→Bool} {l:List α} {k:Nat} (h:¬ (k:Int)<l.length):(l.take k).filter p=l.filter p:=by rw[take_of_length_le aA]
theorem flt_len {α:Type} {p:α→Bool} {l:List α} {k:Nat}:((l.take k).filter p).length≤l.length:=Nat.le_trans (length_filter_le _ _) (by rw[length_take];omega)
theorem sw_no {y:Yard} {sh:Int} (h:inB sh 0 ((y.shelf.length:Int) - 1)=false):y=aV y sh:=by unfold aV;rw[if_neg (by rw[h];simp)]
theorem sw_in {y:Yard} {sh:Int} {l:List Entry} (h:inB sh 0 ((y.shelf.length:Int) - 1)=true) (hl:y.shelf[sh.toNat]? = some l):(⟨y.now,y.seq,y.shelf.set sh.toNat (l.filter (fresh y)),y.runs⟩:Yard)=aV y sh:=by
 unfold aV;rw[if_pos h,getD_eq_getElem?_getD,hl];rfl
theorem bF8 (y:Yard) (sh:Int) (hw:y.wt≤1048576):Ct1 prog 329 [.S y,.I sh] [.S (aV y sh)]:=
 .one (aV y sh) (rk:=fun x=>[.S x])<|vc func329 (fun (hg:gin [Par.S y,Par.I sh])=>let gy:=hg.1.1
  let hsl:=dV y hw
  .c func184 (eG y hw) (hg:=⟨gy,trivial⟩) fun _ => .m (y.shelf.length:Int) 1 (h:=by unfold I64;omega) <| .c func138 (InV sh 0 ((y.shelf.length:Int) - 1)) fun _ => .v (inB sh 0 ((y.shelf.length:Int) - 1))
   (fun h => .rt y ⟨sw_no h,gy,trivial⟩)
   (fun h => .ex (rW h) fun l hl=>let hll:=jG hl hw
    .e Entry <| .l (Γ:=Nat) (fun k=>k≤l.length) (fun k=>l.length - k) [1,2,4,5] [2,3,4,5,6] [0,1] (fun k=>[vR 6 7,vI 7 k]) (fun k=>[oR 7 243 ((l.take k).filter (fresh y))]) 0 fun k hk tk=>
     let hfl:((l.take k).filter (fresh y)).length≤l.length:=flt_len
     .ye hl sh (he:=gT h) fun _ => .s ((k:Int)<l.length)
      (fun h2 => .ye hl sh (he:=gT h) fun _ => .x l k (h:=by omega) fun e he ge => .c func374 (bG7 y e hw) (hg:=⟨gy,ge,trivial⟩) fun _ => .sb (fresh y e)
       (fun h3 => .ye hl sh (he:=gT h) fun _ => .y he fun _ => .a ((l.take k).filter (fresh y)) e 32 (hy:=ge) (h63:=by unfold maxLen;omega) (hby:=by omega) <| .g 7 (flt_t he h3) <| .p k 1 (h:=by unfold I64;omega) <| .n tk (k+1) [])
       (fun h3 => .g 7 (flt_f he h3) <| .p k 1 (h:=by unfold I64;omega) <| .n tk (k+1) []))
      (fun h2 => .g 7 (flt_all (p:=fresh y) h2) <| .sh 7 <| .d 4 hl fun _ => .ie sh.toNat sh (he:=gT h) <| .wt 55 <| .f 4 y.shelf (l.filter (fresh y)) (h:=trivial) <|
       .rt ⟨y.now,y.seq,y.shelf.set sh.toNat (l.filter (fresh y)),y.runs⟩ ⟨sw_in h hl,gy,trivial⟩))) aC
theorem st_ok {r:Run} {t:Task} {now:Int} (g:t.ok) (h:I64 (t.try_+1)) (h2:I64 (now+r.plan.wait)):Task.ok ⟨3,t.need,t.try_+1,now+r.plan.wait⟩:=⟨by show I64 3;unfold I64;omega,g.2.1,h,h2⟩
theorem Started_s (r:Run) (task now:Int) (t:Task) (h0:0≤task) (ht:r.tasks[task.toNat]? = some t) (hn:0≤now∧now≤999999980) (hR:RunIs r):Ct1 prog 334 [.S r,.I task,.I now] [.S (gW r task.toNat t now)]:=
 vc func334 (fun (hg:gin [Par.S r,Par.I task,Par.I now])=>let gr:=hg.1.1
  let htr:=hR.tries ht
  let h1:I64 (t.try_+1):=(by unfold I64;omega)
  let h2:I64 (now+r.plan.wait):=(by unfold I64;omega)
  .c func288 (lD r (zL hR).1 (zL hR).2) (hg:=⟨gr,trivial⟩) fun _ => .ye ht task (he:=by omega) fun gt => .p t.try_ 1 (h:=h1) <| .p now r.plan.wait (h:=h2) <|
   .d 5 ht fun _ => .ie task.toNat task (he:=by omega) <| .wt 32 <| .f 5 r.tasks ⟨3,t.need,t.try_+1,now+r.plan.wait⟩ (h:=st_ok gt h1 h2) <| .rt () ⟨trivial,gr,trivial⟩) aC
def wK (home:Int):List Int:=[(home+1) % 4,(home+2) % 4,(home+3) % 4]
theorem oth_sp {home draw d:Int} (hd:d=max draw 0 % 3):(wK home).drop d.toNat++(wK home).take d.toNat=bH home draw:=oth_vict hd
theorem Victims_s (home draw:Int) (hh:0≤home∧home≤3) (hd:I64 draw):Ct1 prog 330 [.I home,.I draw] [.L (bH home draw)]:=
 .one (bH home draw) (rk:=fun l=>[.L l])<|vc func330 (fun hg=>
  let fin:∀ d:Int,d=max draw 0→D prog (fun l:List Int=>l=bH home draw∧rgd [Rk.L l]):=fun d he=>
   let h0:0≤d∧d≤9223372036854775807:=(by unfold I64 at hd;omega)
   let hl3:(wK home).length=3:=rfl
   .e Int <| .l (Γ:=Nat) (fun k=>1≤k∧k≤4) (fun k=>4 - k) [777777,12] [777777] [777777] (fun k=>[vI 6 k,vR 5 0]) (fun k=>[oR 0 3 (jQ home k)]) 1 (h:=⟨Nat.le_refl _,by omega⟩) fun k hk t=>
    let hol:(jQ home k).length≤3:=(by unfold jQ;rw[length_take];simp only[length_cons,length_nil];omega)
    .s ((k:Int)<4)
    (fun h => .p home (k:Int) (h:=by unfold I64;omega) <| .q (home+k) 4 (h:=by omega) <| .a (jQ home k) ((home+k) % 4) 8 (hy:=by show I64 _;unfold I64;omega) (h63:=by unfold maxLen;omega) (hby:=by omega) <| .g 0 (oth_to (home:=home) hk.1 aA).symm <| .p k 1 (h:=by unfold I64;omega) <| .n t (k+1) [] (h1:=⟨by omega,by omega⟩))
    (fun h => .sh 0 <| .g 0 (show jQ home k=wK home by rw[show k=4 by omega];rfl) <| .q d 3 (h:=by omega) <|
     .dp inferInstance (wK home) (d % 3).toNat aA (d % 3) aA <| .tk inferInstance (wK home) (d % 3).toNat aA (d % 3) aA <| .e Int <| .as (inferInstance:Shape Int) hQ [] ((wK home).drop (d % 3).toNat) 8 (by rw[length_drop,hl3];simp only[length_nil];unfold maxLen;omega) (by rw[length_drop,hl3];simp only[length_nil];omega) <| .re inferInstance 2 0 (wK home) (d % 3).toNat aA <| .as (inferInstance:Shape Int) hQ ((wK home).drop (d % 3).toNat) ((wK home).take (d % 3).toNat) 8 (by rw[length_drop,length_take,hl3];unfold maxLen;omega) (by rw[length_drop,length_take,hl3];omega) <|
     .rt ((wK home).drop (d % 3).toNat++(wK home).take (d % 3).toNat) ⟨oth_sp (by rw[he]),trivial⟩)
  .c func117 (BroughtSD home 0 3) fun _ => .rv 9 (I home) (y:=I (nE home 0 3)) (bR0 hh) <| .s (draw<0)
   (fun h=>fin 0 aA)
   (fun h=>fin draw aA)) aC
theorem aZ0 {xs:List Entry} (h:(bL xs).2.2=true):xs=(bL xs).1::(bL xs).2.1:=by
 cases xs with
 | nil=>cases h
 | cons e l=>rfl
theorem bJ1 {xs:List Entry} (h:(bL xs).2.2=false):xs=[]:=by
 cases xs with
 | nil=>rfl
 | cons e l=>cases h
theorem lN (worker:Int):worker % 4=(((worker % 4).toNat:Nat):Int):=by omega
theorem bB3 {y:Yard} (hY:YardIs y) (w draw:Int) (k:Nat):PI y (dS (w % 4).toNat (aV y (w % 4)) ((bH (w % 4) draw).take k)) (w % 4).toNat:=by
 have h:=PI.take hY (home:=(w % 4).toNat) aA (l:=bH (w % 4) draw) (fun o ho=>by have:=lX (home:=w % 4) aA o ho;omega) k
 rwa [← lN] at h
theorem wW {y out:Yard} {h:Nat} (hP:PI y out h) (hh:h<4):out.shelf[h]? = some (out.shelf.getD h []):=getD_some (by have:=hP.len;omega)
theorem pl_rob {y out:Yard} {h:Nat} {o:Int} (hP:PI y out h) (hh:h<4) (ho:0≤o∧o≤3∧o≠(h:Int)):∃ q:List Entry×List Entry,(aV out o).shelf[o.toNat]? = some q.1∧((aV out o).shelf.set o.toNat (q.1.drop (cE q.1)))[h]? = some q.2∧q.1.length≤80∧q.2.length≤80 ∧
  (⟨(aV out o).now,(aV out o).seq,((aV out o).shelf.set o.toNat (q.1.drop (cE q.1))).set h (dA q.2 (q.1.take (cE q.1))),(aV out o).runs⟩:Yard)=aL6 (aV out o) h o.toNat:=by
 have hs:=hP.sw (o:=o) aA
 have hne:h≠o.toNat:=by omega
 refine ⟨((aV out o).shelf.getD o.toNat [],(aV out o).shelf.getD h []),getD_some aA,?_,hs.2 _ aA,hs.2 _ hh,?_⟩
 ·rw[getElem?_set_ne (fun e=>hne e.symm)];exact getD_some aA
 rw[robY_comm hne];rfl
theorem pl_8 {y:Yard} {w d:Int} (h:aK y=false):(y,(⟨8,0,0,0⟩:Reply))=eY y w d:=by unfold eY;rw[if_pos (by rw[h];simp)]
theorem pl_5 {y:Yard} {w d:Int} (h0:aK y=true) (h:inB w 0 99=false):(y,(⟨5,0,0,0⟩:Reply))=eY y w d:=by unfold eY;rw[if_neg (by rw[h0];simp),if_pos (by rw[h];simp)]
theorem pl_0 {y out:Yard} {w d:Int} (h0:aK y=true) (h:inB w 0 99=true) (ho:out=dS (w % 4).toNat (aV y (w % 4)) (bH (w % 4) d)):pF out (w % 4).toNat=eY y w d:=by unfold eY;rw[if_neg (by rw[h0];simp),if_neg (by rw[h];simp),← ho]
structure PlA (y out:Yard) (home:Nat) (e:Entry) (k:Nat) (r:Run) (t:Task):Prop where
 ix:bO out e.run=some k
 hr:out.runs[k]? = some r
 h0:0≤e.task
 ht:r.tasks[e.task.toNat]? = some t
 is:RunIs r
theorem pl_at {y out:Yard} {h:Nat} {e:Entry} (hY:YardIs y) (hP:PI y out h) (he:e∈out.shelf.getD h []):∃ q:Nat×Run×Task,PlA y out h e q.1 q.2.1 q.2.2:=by
 obtain ⟨k,r,t,hix,hry,h0,hti,h2⟩:=fresh_at (hP.fresh e he)
 exact ⟨(k,r,t),⟨(runIx_runs hP.runs _).trans hix,by rw[hP.runs];exact hry,h0,hti,(hY.run k r hry).1⟩⟩
theorem aW2 {a b c d:Int} (ha:I64 a) (hb:I64 b) (hc:I64 c) (hd:I64 d):Reply.ok ⟨a,b,c,d⟩:=⟨ha,hb,hc,hd⟩
theorem aF7 (a:Int) (h:0≤a∧a≤100):Reply.ok ⟨a,0,0,0⟩:=aW2 (by unfold I64;omega) (by unfold I64;omega) (by unfold I64;omega) (by unfold I64;omega)
theorem Poll_s (y:Yard) (w d:Int) (hw:y.wt≤1048576) (hd:I64 d):Ct1 prog 220 [.S y,.I w,.I d] [.S (eY y w d).1,.S (eY y w d).2]:=
 .one (eY y w d) (rk:=fun q=>[.S q.1,.S q.2])<|vc func220 (fun (hg:gin [Par.S y,Par.I w,Par.I d])=>let gy:=hg.1.1
  .c func185 (iW y hw) (hg:=⟨gy,trivial⟩) fun _ => .v (aK y)
   (fun h => .c func184 (eG y hw) (hg:=⟨gy,trivial⟩) fun _ => .rt (y,⟨8,0,0,0⟩) ⟨pl_8 h,gy,aF7 8 aA,trivial⟩)
   (fun hy=>let hY:=gU hy
    .c func138 (InV w 0 99) fun _ => .v (inB w 0 99)
    (fun h => .c func184 (eG y hw) (hg:=⟨gy,trivial⟩) fun _ => .rt (y,⟨5,0,0,0⟩) ⟨pl_5 hy h,gy,aF7 5 aA,trivial⟩)
    (fun hin=>let hwk:=inB_iff.1 hin
     .q w 4 (h:=by omega) <| .c func329 (bF8 y (w % 4) hw) (hg:=⟨gy,trivial⟩) fun _ => .c func330 (Victims_s (w % 4) d aA hd) fun _=>
     let fin:∀ (m:Nat) (out:Yard),out=dS (w % 4).toNat (aV y (w % 4)) (bH (w % 4) d)→PI y out (w % 4).toNat→out.ok→D prog (fun q:Yard×Reply=>q=eY y w d∧rgd [Rk.S q.1,Rk.S q.2]):=fun m out ho hP go=>
      let hl:=wW hP (show (w % 4).toNat<4 by omega)
      let h80:=hP.each (w % 4).toNat aA
      .ye hl (w % 4) (he:=lN w) fun _ => .c func333 (TakeEntry_s (out.shelf.getD (w % 4).toNat []) aA) fun gt => .v (bL (out.shelf.getD (w % 4).toNat [])).2.2
       (fun hn => .rt (out,⟨9,0,0,0⟩) ⟨by rw[← pl_0 hy hin ho];exact (zV (bJ1 hn)).symm,go,aF7 9 aA,trivial⟩)
       (fun hn=>let hcs:=aZ0 hn
        .ex (pl_at hY hP (show (bL (out.shelf.getD (w % 4).toNat [])).1∈out.shelf.getD (w % 4).toNat [] by rw[hcs];exact mem_cons_self)) fun q hq=>
        let hnow:0≤out.now∧out.now≤999999980:=(by rw[hP.now];exact hY.now)
        let hrl:(bL (out.shelf.getD (w % 4).toNat [])).2.1.length≤80:=(by have h_:=h80;rw[hcs] at h_;simp only[length_cons] at h_;omega)
        .d 5 hl fun _ => .ie (w % 4).toNat (w % 4) (he:=lN w) <| .wt 109 <| .f 5 out.shelf (bL (out.shelf.getD (w % 4).toNat [])).2.1 (h:=trivial) <|
        .c func291 (jT ⟨out.now,out.seq,out.shelf.set (w % 4).toNat (bL (out.shelf.getD (w % 4).toNat [])).2.1,out.runs⟩ (bL (out.shelf.getD (w % 4).toNat [])).1.run (Nat.le_trans (hP.wtS hY hrl) aA)) (hg:=⟨go,trivial⟩) fun _=>
        .d 6 hq.hr fun gr => .ie q.1 (aE ⟨out.now,out.seq,out.shelf.set (w % 4).toNat (bL (out.shelf.getD (w % 4).toNat [])).2.1,out.runs⟩ (bL (out.shelf.getD (w % 4).toNat [])).1.run) (he:=cI hq.ix) <|
        .c func334 (Started_s q.2.1 (bL (out.shelf.getD (w % 4).toNat [])).1.task out.now q.2.2 hq.h0 hq.ht hnow hq.is) (hg:=⟨gr,trivial⟩) fun gs=>
        .ie q.1 (aE ⟨out.now,out.seq,out.shelf.set (w % 4).toNat (bL (out.shelf.getD (w % 4).toNat [])).2.1,out.runs⟩ (bL (out.shelf.getD (w % 4).toNat [])).1.run) (he:=cI hq.ix) <| .wt 126 <| .f 6 out.runs (gW q.2.1 (bL (out.shelf.getD (w % 4).toNat [])).1.task.toNat q.2.2 out.now) (h:=gs.1.1) <|
        let hr2:(out.runs.set q.1 (gW q.2.1 (bL (out.shelf.getD (w % 4).toNat [])).1.task.toNat q.2.2 out.now))[q.1]? = some (gW q.2.1 (bL (out.shelf.getD (w % 4).toNat [])).1.task.toNat q.2.2 out.now):=getElem?_set_self (gsi_.1 hq.hr).1
        let ht2:(gW q.2.1 (bL (out.shelf.getD (w % 4).toNat [])).1.task.toNat q.2.2 out.now).tasks[(bL (out.shelf.getD (w % 4).toNat [])).1.task.toNat]? = some ⟨3,q.2.2.need,q.2.2.try_+1,out.now+q.2.1.plan.wait⟩:=getElem?_set_self (gsi_.1 hq.ht).1
        .d 6 hr2 fun _ => .d m ht2 fun gu => .ie q.1 (aE ⟨out.now,out.seq,out.shelf.set (w % 4).toNat (bL (out.shelf.getD (w % 4).toNat [])).2.1,out.runs⟩ (bL (out.shelf.getD (w % 4).toNat [])).1.run) (he:=cI hq.ix) <| .ie (bL (out.shelf.getD (w % 4).toNat [])).1.task.toNat (bL (out.shelf.getD (w % 4).toNat [])).1.task (he:=by have:=hq.h0;omega) <|
        .f m (gW q.2.1 (bL (out.shelf.getD (w % 4).toNat [])).1.task.toNat q.2.2 out.now).tasks ⟨3,q.2.2.need,q.2.2.try_+1,out.now+q.2.1.plan.wait⟩ (h:=gu) <| .g m (sU ht2) <| .f 6 (out.runs.set q.1 (gW q.2.1 (bL (out.shelf.getD (w % 4).toNat [])).1.task.toNat q.2.2 out.now)) (gW q.2.1 (bL (out.shelf.getD (w % 4).toNat [])).1.task.toNat q.2.2 out.now) (h:=gs.1.1) <| .g 6 (sU hr2) <|
        .rt (⟨out.now,out.seq,out.shelf.set (w % 4).toNat (bL (out.shelf.getD (w % 4).toNat [])).2.1,out.runs.set q.1 (gW q.2.1 (bL (out.shelf.getD (w % 4).toNat [])).1.task.toNat q.2.2 out.now)⟩,⟨0,(bL (out.shelf.getD (w % 4).toNat [])).1.run,(bL (out.shelf.getD (w % 4).toNat [])).1.task,q.2.2.try_+1⟩)
         ⟨by rw[← pl_0 hy hin ho];exact (aH7 hcs hq.ix hq.hr hq.ht).symm,go,aW2 (by unfold I64;omega) gt.1.1.2.2.1 gt.1.1.2.2.2 (show Task.ok _ from gu).2.2.1,trivial⟩)
     .l (Γ:=Nat×Yard) (fun g=>g.1≤3∧g.2=dS (w % 4).toNat (aV y (w % 4)) ((bH (w % 4) d).take g.1)) (fun g=>3 - g.1) [6,7,8,9,10] [3,4,8] [] (fun g=>[vI 11 g.1]) (fun g=>ryS g.2 7 5 6) (0,aV y (w % 4)) (h:=⟨Nat.zero_le _,(vU _ _ _).symm⟩) fun g hJ tk=>
      let hP:PI y g.2 (w % 4).toNat:=(by rw[hJ.2];exact bB3 hY w d g.1)
      let hl:=wW hP (show (w % 4).toNat<4 by omega)
      let go:g.2.ok:=hP.ok hY
      .s ((g.1:Int)<(bH (w % 4) d).length)
       (fun hlt => .ye hl (w % 4) (he:=lN w) fun _ => .s (((g.2.shelf.getD (w % 4).toNat []).length:Int)=0)
        (fun hem => .ex (p:=fun o=>(bH (w % 4) d)[g.1]? = some o) ⟨_,getElem?_eq_getElem (show g.1<(bH (w % 4) d).length by omega)⟩ fun o hk=>
         let hor:=lX (home:=w % 4) (draw:=d) aA o (mem_of_getElem? hk)
         .ex (pl_rob hP (show (w % 4).toNat<4 by omega) (show 0≤o∧o≤3∧o≠(((w % 4).toNat:Nat):Int) by omega)) fun q hq=>
         .y hk fun _ => .c func329 (bF8 g.2 o (Nat.le_trans (hP.wt hY) aA)) (hg:=⟨go,trivial⟩) fun gs=>
         .y hk fun _ => .ye hq.1 o (he:=by omega) fun _ => .c func331 (HalfOf_s q.1 (by have:=hq.2.2.1;omega)) fun _=>
         .d 12 hq.1 fun _ => .y hk fun _ => .ie o.toNat o (he:=by omega) <| .wt 78 <| .f 12 (aV g.2 o).shelf (q.1.drop (cE q.1)) (h:=trivial) <|
         .d 12 hq.2.1 fun _ => .ie (w % 4).toNat (w % 4) (he:=lN w) <| .c func332 (Merged_s q.2 (q.1.take (cE q.1)) (by have:=hq.2.2.2.1;omega) (by have:=hq.2.2.1;rw[length_take];omega)) fun _ => .ie (w % 4).toNat (w % 4) (he:=lN w) <| .wt 51 <| .f 12 ((aV g.2 o).shelf.set o.toNat (q.1.drop (cE q.1))) (dA q.2 (q.1.take (cE q.1))) (h:=trivial) <|
         .p g.1 1 (h:=by unfold I64;omega) <| .n tk (g.1+1,⟨(aV g.2 o).now,(aV g.2 o).seq,((aV g.2 o).shelf.set o.toNat (q.1.drop (cE q.1))).set (w % 4).toNat (dA q.2 (q.1.take (cE q.1))),(aV g.2 o).runs⟩) [(5,12),(6,13)]
          (h1:=⟨by show g.1+1≤3;have:(bH (w % 4) d).length=3:=rfl;omega,by rw[aF4 hk (by rw[← hJ.2];exact nil0 hem),← hJ.2];exact hq.2.2.2.2⟩) (h2:=by show 3 - (g.1+1)<_;have:(bH (w % 4) d).length=3:=rfl;omega))
        (fun hem=>fin 24 g.2 (by rw[hJ.2];exact (yL (by rw[← hJ.2];exact bC1 hem)).symm) hP go))
       (fun hlt=>fin 22 g.2 (by rw[hJ.2];exact yM (by have:(bH (w % 4) d).length=3:=rfl;omega)) hP go)))) aC
def num (n:Int):Bool:=inB n 0 1000000000
def zP:Plan:=⟨0,0,0,0,[]⟩
def kL (d:Deed):Deed:=
 if d.kind=1 then ⟨d.kind,d.run,d.plan,0,0,0,0⟩
 else if d.kind=2 then ⟨d.kind,0,zP,0,0,d.worker,d.draw⟩
 else if d.kind=3∨d.kind=4 then ⟨d.kind,d.run,zP,d.task,d.try_,0,0⟩
 else if d.kind=6∨d.kind=7 then ⟨d.kind,d.run,zP,0,0,0,0⟩
 else ⟨d.kind,0,zP,0,0,0,0⟩
def cF (es:List Edge):List Int:=es.flatMap (fun e=>[e.from_,e.to_])
theorem edgeNums_s {es:List Edge} {k:Nat} (h:k<es.length):cF (es.take (k+1))=cF (es.take k)++[es[k].from_,es[k].to_]:=by
 unfold cF
 rw[take_succ_eq_append_getElem h,flatMap_append];rfl
theorem kX:∀ (es:List Edge),(cF es).length=2*es.length
 | []=>rfl
 | e::es=>by have:=kX es;unfold cF at *;simp only[flatMap_cons,length_append,length_cons,length_nil,this];omega
def aZ (d:Deed):List Int:=
 if d.kind=1 then [d.run,d.plan.prio,d.plan.most,d.plan.wait,d.plan.tasks,(d.plan.edges.length:Int)]++cF d.plan.edges
 else if d.kind=2 then [d.worker,d.draw]
 else if d.kind=3∨d.kind=4 then [d.run,d.task,d.try_]
 else if d.kind=6∨d.kind=7 then [d.run]
 else []
theorem oF (d:Deed):(aZ d).length≤6+2*d.plan.edges.length:=by
 unfold aZ
 have:=kX d.plan.edges
 split
 ·simp only[length_append,length_cons,length_nil,this];omega
 split
 ·simp;omega
 split
 ·simp;omega
 split <;> simp <;> omega
def aT (d:Deed):Bool:=inB d.kind 1 8 && decide (d.plan.edges.length≤31) && eqB d (kL d) && !((aZ d).any (fun n => !num n))
def eX (p:Plan):Bool:=num p.prio && num p.most && num p.wait && num p.tasks && decide (p.edges.length≤31) && !(p.edges.any (fun e:Edge => !(num e.from_ && num e.to_)))
def gZ (p:Plan):Bool:=decide (p.prio=0) && decide (p.most=0) && decide (p.wait=0) && decide (p.tasks=0) && decide (p.edges.length=0)
theorem nN {p:Plan}:gZ p=true↔p=zP:=by
 cases p
 simp[gZ,zP,length_eq_zero_iff,and_assoc]
theorem any_edges (es:List Edge):(cF es).any (fun n => !num n)=es.any (fun e:Edge => !(num e.from_ && num e.to_)):=by
 unfold cF
 rw[any_flatMap]
 congr 1
 funext e
 simp
theorem deedOk_0 {d:Deed} (h:inB d.kind 1 8=false):aT d=false:=by unfold aT;rw[h];rfl
theorem qN:num 0=true:=rfl
theorem num_len {n:Nat} (h:n≤31):num (n:Int)=true:=by unfold num;rw[inB_iff'];omega
theorem aU5 {d:Deed} (h:d.kind=1):aT d=(num d.run && decide (d.task=0) && decide (d.try_=0) && decide (d.worker=0) && decide (d.draw=0) && eX d.plan):=by
 obtain ⟨k,r,p,t,y,w,dr⟩:=d
 simp only at h
 subst h
 have h1:eqB (⟨1,r,p,t,y,w,dr⟩:Deed) (kL ⟨1,r,p,t,y,w,dr⟩)=(decide (t=0) && decide (y=0) && decide (w=0) && decide (dr=0)):=by
  rw[Bool.eq_iff_iff];simp[eqB,kL,and_assoc]
 have h2:inB (⟨1,r,p,t,y,w,dr⟩:Deed).kind 1 8=true:=rfl
 unfold aT eX
 rw[h1,h2]
 by_cases hl:p.edges.length≤31
 ·have hn:=num_len hl
  simp only[aZ,if_true,any_append,any_cons,any_nil,any_edges,hn,decide_eq_true hl,Bool.not_true,Bool.or_false,Bool.not_or,Bool.not_not,Bool.true_and,Bool.and_true]
  ac_rfl
 simp[hl]
theorem aU4 {d:Deed} (h:d.kind=2):aT d=(decide (d.run=0) && decide (d.task=0) && decide (d.try_=0) && num d.worker && num d.draw && gZ d.plan):=by
 obtain ⟨k,r,p,t,y,w,dr⟩:=d
 simp only at h
 subst h
 rw[Bool.eq_iff_iff]
 simp only[aT,kL,aZ,Bool.and_eq_true,nN,eqB,decide_eq_true_eq,Deed.mk.injEq]
 simp[inB]
 constructor
 ·rintro ⟨⟨h1,h2,h3,h4,h5⟩,h6⟩;simp_all
 rintro h;simp_all[zP]
theorem tN {d:Deed} (h:d.kind=3∨d.kind=4):aT d=(num d.run && num d.task && num d.try_ && decide (d.worker=0) && decide (d.draw=0) && gZ d.plan):=by
 obtain ⟨k,r,p,t,y,w,dr⟩:=d
 simp only at h
 rw[Bool.eq_iff_iff]
 have h1:¬ k=1:=by omega
 have h2:¬ k=2:=by omega
 have h8:inB k 1 8=true:=by rw[inB_iff'];omega
 simp only[aT,kL,aZ,Bool.and_eq_true,nN,eqB,decide_eq_true_eq,Deed.mk.injEq,if_neg h1,if_neg h2,if_pos h,h8]
 simp
 constructor
 ·rintro ⟨⟨h1,h2,h3,h4⟩,h6⟩;simp_all
 rintro h;simp_all[zP]
theorem tL {d:Deed} (h:d.kind=6∨d.kind=7):aT d=(num d.run && decide (d.task=0) && decide (d.try_=0) && decide (d.worker=0) && decide (d.draw=0) && gZ d.plan):=by
 obtain ⟨k,r,p,t,y,w,dr⟩:=d
 simp only at h
 rw[Bool.eq_iff_iff]
 have h1:¬ k=1:=by omega
 have h2:¬ k=2:=by omega
 have h3:¬ (k=3∨k=4):=by omega
 have h8:inB k 1 8=true:=by rw[inB_iff'];omega
 simp only[aT,kL,aZ,Bool.and_eq_true,nN,eqB,decide_eq_true_eq,Deed.mk.injEq,if_neg h1,if_neg h2,if_neg h3,if_pos h,h8]
 simp
 constructor
 ·rintro ⟨⟨h1,h2,h3,h4⟩,h6⟩;simp_all
 rintro h;simp_all[zP]
theorem tM {d:Deed} (h:d.kind=5∨d.kind=8):aT d=(decide (d.run=0) && decide (d.task=0) && decide (d.try_=0) && decide (d.worker=0) && decide (d.draw=0) && gZ d.plan):=by
 obtain ⟨k,r,p,t,y,w,dr⟩:=d
 simp only at h
 rw[Bool.eq_iff_iff]
 have h1:¬ k=1:=by omega
 have h2:¬ k=2:=by omega
 have h3:¬ (k=3∨k=4):=by omega
 have h4:¬ (k=6∨k=7):=by omega
 have h8:inB k 1 8=true:=by rw[inB_iff'];omega
 simp only[aT,kL,aZ,Bool.and_eq_true,nN,eqB,decide_eq_true_eq,Deed.mk.injEq,if_neg h1,if_neg h2,if_neg h3,if_neg h4,h8]
 simp
 constructor
 ·rintro ⟨h1,h2,h3,h4⟩;simp_all
 rintro h;simp_all[zP]

def oE (d:Deed):Bool:=((((((((!decide (d.kind=2)) && (!decide (d.kind=5))) && (!decide (d.kind=8))) && (!(num d.run))) || ((!(((!decide (d.kind=2)) && (!decide (d.kind=5))) && (!decide (d.kind=8)))) && (!decide (d.run=0)))) || (((decide (d.kind=3)) || (decide (d.kind=4))) && ((!(num d.task)) || (!(num d.try_))))) || ((!((decide (d.kind=3)) || (decide (d.kind=4)))) && ((!decide (d.task=0)) || (!decide (d.try_=0))))) || ((decide (d.kind=2)) && ((!(num d.worker)) || (!(num d.draw))))) || ((!decide (d.kind=2)) && ((!decide (d.worker=0)) || (!decide (d.draw=0))))
theorem deedS_f {d:Deed} (hi:1≤d.kind∧d.kind≤8) (he:oE d=true):aT d=false:=by
 unfold oE at he
 have hkk:d.kind=1∨d.kind=2∨d.kind=3∨d.kind=4∨d.kind=5∨d.kind=6∨d.kind=7∨d.kind=8:=by omega
 rcases hkk with hk | hk | hk | hk | hk | hk | hk | hk
 ·rw[aU5 hk];simp[hk] at he ⊢;first | done | grind | (simp_all[qN];done)
 ·rw[aU4 hk];simp[hk] at he ⊢;first | done | grind | (simp_all[qN];done)
 ·rw[tN (.inl hk)];simp[hk] at he ⊢;first | done | grind | (simp_all[qN];done)
 ·rw[tN (.inr hk)];simp[hk] at he ⊢;first | done | grind | (simp_all[qN];done)
 ·rw[tM (.inl hk)];simp[hk] at he ⊢;first | done | grind | (simp_all[qN];done)
 ·rw[tL (.inl hk)];simp[hk] at he ⊢;first | done | grind | (simp_all[qN];done)
 ·rw[tL (.inr hk)];simp[hk] at he ⊢;first | done | grind | (simp_all[qN];done)
 rw[tM (.inr hk)];simp[hk] at he ⊢;first | done | grind | (simp_all[qN];done)
theorem tq1_ {P:Prop} (h:P:=by
 unfold oE at he
 have hkk:d.kind=1∨d.kind=2∨d.kind=3∨d.kind=4∨d.kind=5∨d.kind=6∨d.kind=7∨d.kind=8:=by omega
 rcases hkk with hk | hk | hk | hk | hk | hk | hk | hk
 ·rw[aU5 hk];simp[hk] at he hx ⊢;first | done | grind | (simp_all[qN];done)
 ·rw[aU4 hk];simp[hk] at he hx ⊢;first | done | grind | (simp_all[qN];done)
 ·rw[tN (.inl hk)];simp[hk] at he hx ⊢;first | done | grind | (simp_all[qN];done)
 ·rw[tN (.inr hk)];simp[hk] at he hx ⊢;first | done | grind | (simp_all[qN];done)
 ·rw[tM (.inl hk)];simp[hk] at he hx ⊢;first | done | grind | (simp_all[qN];done)
 ·rw[tL (.inl hk)];simp[hk] at he hx ⊢;first | done | grind | (simp_all[qN];done)
 ·rw[tL (.inr hk)];simp[hk] at he hx ⊢;first | done | grind | (simp_all[qN];done)
 rw[tM (.inr hk)];simp[hk] at he hx ⊢;first | done | grind | (simp_all[qN];done)):P:=h
theorem deedS_1 {d:Deed} (hi:1≤d.kind∧d.kind≤8) (he:oE d=false) (hx:d.kind=1):aT d=eX d.plan:=by exact tq1_
theorem deedS_n {d:Deed} (hi:1≤d.kind∧d.kind≤8) (he:oE d=false) (hx:¬ d.kind=1):aT d=gZ d.plan:=by exact tq1_
theorem eqS_len {α:Type} [DecidableEq α] {xs ys:List α} (h:¬ (xs.length:Int)=ys.length):false=eqB xs ys:=(wI fun e=>h (by rw[e])).symm
theorem eqS_at {α:Type} [DecidableEq α] {xs ys:List α} {k:Nat} {x y:α} (hx:xs[k]? = some x) (hy:ys[k]? = some y) (h:eqB x y=false):false=eqB xs ys:=(wI fun e=>by rw[e,hy] at hx;cases hx;rw[jD rfl] at h;cases h).symm
theorem eqS_to {α:Type} [DecidableEq α] {xs ys:List α} {k:Nat} {x y:α} (h:xs.take k=ys.take k) (hx:xs[k]? = some x) (hy:ys[k]? = some y) (he:eqB x y=true):xs.take (k+1)=ys.take (k+1):=by
 rw[← cU hx,← cU hy,h,eqB_iff.1 he]
theorem eqS_all {α:Type} [DecidableEq α] {xs ys:List α} {k:Nat} (hl:(xs.length:Int)=ys.length) (h:xs.take k=ys.take k) (hk:¬ (k:Int)<xs.length):xs=ys:=by
 rw[take_of_length_le aA,take_of_length_le aA] at h;exact h
theorem eqS_yes {α:Type} [DecidableEq α] {xs ys:List α} {k:Nat} (hl:(xs.length:Int)=ys.length) (h:xs.take k=ys.take k) (hk:¬ (k:Int)<xs.length):true=eqB xs ys:=(jD (eqS_all hl h hk)).symm
theorem EqualEdge_i (xs ys:List Edge):Ct1 prog 403 [.L xs,.L ys] [.B (eqB xs ys)]:=
 .one (eqB xs ys) (rk:=fun b=>[.B b])<|vc func403 (fun (hg:gin [Par.L xs,Par.L ys])=>let h1:=hg.1
  .u ((xs.length:Int)=ys.length)
   (fun h => .rt false ⟨eqS_len h,trivial⟩)
   (fun h => .l (Γ:=Nat) (fun k=>k≤xs.length∧xs.take k=ys.take k) (fun k=>xs.length - k) [0,1,12] [] [0,1] (fun k=>[vI 13 k]) (fun k=>[]) 0 (h:=⟨Nat.zero_le _,rfl⟩) fun k hk t => .s ((k:Int)<xs.length)
    (fun h2 => .x xs k (h:=by omega) fun e he ge => .x ys k (h:=by omega) fun f hf gf => .qe (aL3 e f) aC <| .v (eqB e f)
     (fun h3 => .rt false ⟨eqS_at he hf h3,trivial⟩)
     (fun h3 => .p k 1 (h:=by unfold I64;omega) <| .n t (k+1) [] (h1:=⟨by omega,eqS_to hk.2 he hf h3⟩)))
    (fun h2 => .rt true ⟨eqS_yes h hk.2 h2,trivial⟩))) aC
theorem aR8 {α:Type} [DecidableEq α] {x y:α} {p:Prop} (h:¬ p) (k:x=y→p):false=eqB x y:=(wI fun e=>h (k e)).symm
theorem eq_of {α β:Type} [DecidableEq α] [DecidableEq β] {x y:α} {a b:β} (f:a=b→x=y) (g:x=y→a=b):eqB a b=eqB x y:=by unfold eqB;exact decide_eq_decide.2 ⟨f,g⟩
theorem SamePlan_i (x y:Plan):Ct1 prog 364 [.S x,.S y] [.B (eqB x y)]:=
 .one (eqB x y) (rk:=fun b=>[.B b])<|vc func364 (fun (hg:gin [Par.S x,Par.S y])=>
  .s (x.prio=y.prio) (fun h0 => .s (x.most=y.most) (fun h1 => .s (x.wait=y.wait) (fun h2 => .s (x.tasks=y.tasks)
   (fun h3 => .c func403 (EqualEdge_i x.edges y.edges) fun _ => .rt (eqB x.edges y.edges) ⟨eq_of (aV0 h0 h1 h2 h3) (fun e=>by rw[e]),trivial⟩)
   (fun h => .rt false ⟨aR8 h (fun e=>by rw[e]),trivial⟩)) (fun h => .rt false ⟨aR8 h (fun e=>by rw[e]),trivial⟩)) (fun h => .rt false ⟨aR8 h (fun e=>by rw[e]),trivial⟩)) (fun h => .rt false ⟨aR8 h (fun e=>by rw[e]),trivial⟩)) aC
theorem usedOf_1 (d:Deed) (h:d.kind=1):Cb prog 265 [.S d] inferInstance (⟨d.kind,d.run,d.plan,0,0,0,0⟩:Deed):=
 vcb func265 (fun (hg:gin [Par.S d]) => .kt (d.kind=1) h <| .rt () (show Deed.ok _ from by have g:d.ok:=hg.1.1;unfold Deed.ok Plan.ok I64 at *;simp only;omega)) aC
theorem usedOf_2 (d:Deed) (h:d.kind=2):Cb prog 265 [.S d] inferInstance (⟨d.kind,0,⟨0,0,0,0,[]⟩,0,0,d.worker,d.draw⟩:Deed):=
 vcb func265 (fun (hg:gin [Par.S d]) => .kf (d.kind=1) aA <| .kt (d.kind=2) h <| .rt () (show Deed.ok _ from by have g:d.ok:=hg.1.1;unfold Deed.ok Plan.ok I64 at *;simp only;omega)) aC
theorem usedOf_3 (d:Deed) (h:d.kind=3):Cb prog 265 [.S d] inferInstance (⟨d.kind,d.run,⟨0,0,0,0,[]⟩,d.task,d.try_,0,0⟩:Deed):=
 vcb func265 (fun (hg:gin [Par.S d]) => .kf (d.kind=1) aA <| .kf (d.kind=2) aA <| .kt (d.kind=3) h <| .rt () (show Deed.ok _ from by have g:d.ok:=hg.1.1;unfold Deed.ok Plan.ok I64 at *;simp only;omega)) aC
theorem usedOf_4 (d:Deed) (h:d.kind=4):Cb prog 265 [.S d] inferInstance (⟨d.kind,d.run,⟨0,0,0,0,[]⟩,d.task,d.try_,0,0⟩:Deed):=
 vcb func265 (fun (hg:gin [Par.S d]) => .kf (d.kind=1) aA <| .kf (d.kind=2) aA <| .kf (d.kind=3) aA <| .kt (d.kind=4) h <| .rt () (show Deed.ok _ from by have g:d.ok:=hg.1.1;unfold Deed.ok Plan.ok I64 at *;simp only;omega)) aC
theorem usedOf_6 (d:Deed) (h:d.kind=6):Cb prog 265 [.S d] inferInstance (⟨d.kind,d.run,⟨0,0,0,0,[]⟩,0,0,0,0⟩:Deed):=
 vcb func265 (fun (hg:gin [Par.S d]) => .kf (d.kind=1) aA <| .kf (d.kind=2) aA <| .kf (d.kind=3) aA <| .kf (d.kind=4) aA <| .kt (d.kind=6) h <| .rt () (show Deed.ok _ from by have g:d.ok:=hg.1.1;unfold Deed.ok Plan.ok I64 at *;simp only;omega)) aC
theorem usedOf_7 (d:Deed) (h:d.kind=7):Cb prog 265 [.S d] inferInstance (⟨d.kind,d.run,⟨0,0,0,0,[]⟩,0,0,0,0⟩:Deed):=
 vcb func265 (fun (hg:gin [Par.S d]) => .kf (d.kind=1) aA <| .kf (d.kind=2) aA <| .kf (d.kind=3) aA <| .kf (d.kind=4) aA <| .kf (d.kind=6) aA <| .kt (d.kind=7) h <| .rt () (show Deed.ok _ from by have g:d.ok:=hg.1.1;unfold Deed.ok Plan.ok I64 at *;simp only;omega)) aC
theorem usedOf_0 (d:Deed) (h:¬ (d.kind=1∨d.kind=2∨d.kind=3∨d.kind=4∨d.kind=6∨d.kind=7)):Cb prog 265 [.S d] inferInstance (⟨d.kind,0,⟨0,0,0,0,[]⟩,0,0,0,0⟩:Deed):=
 vcb func265 (fun (hg:gin [Par.S d]) => .kf (d.kind=1) aA <| .kf (d.kind=2) aA <| .kf (d.kind=3) aA <| .kf (d.kind=4) aA <| .kf (d.kind=6) aA <| .kf (d.kind=7) aA <| .rt () (show Deed.ok _ from by have g:d.ok:=hg.1.1;unfold Deed.ok Plan.ok I64 at *;simp only;omega)) aC
theorem UsedOf_i (d:Deed):Cb prog 265 [.S d] inferInstance (kL d):=by
 unfold kL
 split
 ·next h=>exact usedOf_1 d h
 split
 ·next h=>exact usedOf_2 d h
 split
 ·next h=>
  rcases h with h | h
  ·exact usedOf_3 d h
  exact usedOf_4 d h
 split
 ·next h=>
  rcases h with h | h
  ·exact usedOf_6 d h
  exact usedOf_7 d h
 next h1 h2 h3 h4=>exact usedOf_0 d aA
theorem SameDeed_i (x y:Deed):Ct1 prog 264 [.S x,.S y] [.B (eqB x y)]:=
 .one (eqB x y) (rk:=fun b=>[.B b])<|vc func264 (fun (hg:gin [Par.S x,Par.S y])=>
  let no:∀ {p:Prop},¬ p→(x=y→p)→D prog (fun b:Bool=>b=eqB x y∧rgd [Rk.B b]):=fun h k => .rt false ⟨aR8 h k,trivial⟩
  .s (x.kind=y.kind) (fun h0 => .s (x.run=y.run) (fun h1 => .c func364 (SamePlan_i x.plan y.plan) (hg:=⟨(show x.ok from hg.1.1).2.2.1,(show y.ok from hg.2.1.1).2.2.1,trivial⟩) fun _ => .sb (eqB x.plan y.plan) (fun h2 => .s (x.task=y.task) (fun h3 => .s (x.try_=y.try_) (fun h4 => .s (x.worker=y.worker)
   (fun h5 => .rt (decide (x.draw=y.draw)) ⟨by unfold eqB;exact decide_eq_decide.2 ⟨fun h6=>aV1 h0 h1 (eqB_iff.1 h2) h3 h4 h5 h6,fun e=>by rw[e]⟩,trivial⟩)
   (fun h=>no h (fun e=>by rw[e]))) (fun h=>no h (fun e=>by rw[e]))) (fun h=>no h (fun e=>by rw[e]))) (fun h=>no (p:=eqB x.plan y.plan=true) (by rw[h];simp) (fun e=>by rw[e];exact jD rfl))) (fun h=>no h (fun e=>by rw[e]))) (fun h=>no h (fun e=>by rw[e]))) aC
theorem bE5 {es:List Edge} {k:Nat} {e:Edge} (h:es[k]? = some e):cF (es.take k)++[e.from_,e.to_]=cF (es.take (k+1)):=by
 obtain ⟨hk,rfl⟩:=gsi_.1 h
 exact (edgeNums_s hk).symm
abbrev iN (d:Deed):List Int:=[d.run,d.plan.prio,d.plan.most,d.plan.wait,d.plan.tasks,(d.plan.edges.length:Int)]
theorem good6 {d:Deed} (g:d.ok) (hl:d.plan.edges.length≤1048576):∀ z∈iN d,Dsh.good z:=by
 intro z hz
 have g1:d.ok:=g
 unfold Deed.ok Plan.ok at g1
 simp only[iN,mem_cons,not_mem_nil,or_false] at hz
 rcases hz with rfl | rfl | rfl | rfl | rfl | rfl
 ·exact g1.2.1
 ·exact g1.2.2.1.1
 ·exact g1.2.2.1.2.1
 ·exact g1.2.2.1.2.2.1
 ·exact g1.2.2.1.2.2.2
 show I64 _;unfold I64;omega
theorem bM3 {d:Deed} (h1:¬ d.kind=1) (h2:¬ d.kind=2) (h3:¬ (d.kind=3∨d.kind=4)) (h4:¬ (d.kind=6∨d.kind=7)):[]=aZ d:=by unfold aZ;rw[if_neg h1,if_neg h2,if_neg h3,if_neg h4]
theorem bM4 {d:Deed} (h:d.kind=6∨d.kind=7):[d.run]=aZ d:=by unfold aZ;rw[if_neg aA,if_neg aA,if_neg aA,if_pos h]
theorem bM5 {d:Deed} (h:d.kind=3∨d.kind=4):[d.run,d.task,d.try_]=aZ d:=by unfold aZ;rw[if_neg aA,if_neg aA,if_pos h]
theorem bM6 {d:Deed} (h:d.kind=2):[d.worker,d.draw]=aZ d:=by unfold aZ;rw[if_neg aA,if_pos h]
theorem bM7 {d:Deed} (h:d.kind=1) {k:Nat} (hk:¬ (k:Int)<d.plan.edges.length):iN d++cF (d.plan.edges.take k)=aZ d:=by unfold aZ;rw[if_pos h,take_of_length_le aA]
theorem sI (d:Deed) (hl:d.plan.edges.length≤1048576):Ct1 prog 204 [.S d] [.L (aZ d)]:=
 .one (aZ d) (rk:=fun l=>[.L l])<|vc func204 (fun (hg:gin [Par.S d])=>let g:d.ok:=hg.1.1
  let gi:Dsh Int:=inferInstance
  .s (d.kind=1)
   (fun h => .lr gi hQ 28 (iN d) (by simp) (good6 g hl) <| .l (Γ:=Nat) (fun k=>k≤d.plan.edges.length) (fun k=>d.plan.edges.length - k) [777777,28] [777777] [777777] (fun k=>[vI 33 k,vR 3 2]) (fun k=>[oR 2 3 (iN d++cF (d.plan.edges.take k))]) 0 fun k hk t=>
    let hln:(iN d++cF (d.plan.edges.take k)).length≤2097158:=(by rw[length_append,kX,length_take];simp only[length_cons,length_nil];omega)
    .s ((k:Int)<d.plan.edges.length)
    (fun h2 => .x d.plan.edges k (h:=by omega) fun e he ge => .ap gi (iN d++cF (d.plan.edges.take k)) [e.from_,e.to_] (aX6 (show e.ok from ge).1 (show e.ok from ge).2) 8 (by simp only[length_cons,length_nil];unfold maxLen;omega) (by simp only[length_cons,length_nil];omega) <| .g 2 (show iN d++cF (d.plan.edges.take k)++[e.from_,e.to_]=iN d++cF (d.plan.edges.take (k+1)) by rw[append_assoc,bE5 he]) <| .p k 1 (h:=by unfold I64;omega) <| .n t (k+1) [])
    (fun h2 => .rt (iN d++cF (d.plan.edges.take k)) ⟨bM7 h h2,trivial⟩))
   (fun h1 => .s (d.kind=2)
    (fun h => .li gi 52 [d.worker,d.draw] (by simp) (by simp) (aX6 g.2.2.2.2.2.1 g.2.2.2.2.2.2) <| .rt [d.worker,d.draw] ⟨bM6 h,trivial⟩)
    (fun h2=>let three:d.kind=3∨d.kind=4→D prog (fun l:List Int=>l=aZ d∧rgd [Rk.L l]):=fun h => .li gi 62 [d.run,d.task,d.try_] (by simp) (by simp) (fun z hz=>(mem_cons.1 hz).elim (fun e=>by rw[e];exact g.2.1) (aX6 g.2.2.2.1 g.2.2.2.2.1 z)) <| .rt [d.run,d.task,d.try_] ⟨bM5 h,trivial⟩
     let one:d.kind=6∨d.kind=7→D prog (fun l:List Int=>l=aZ d∧rgd [Rk.L l]):=fun h => .li gi 68 [d.run] (by simp) (by simp) (all1 g.2.1) <| .rt [d.run] ⟨bM4 h,trivial⟩
     .s (d.kind=3) (fun h=>three (.inl h)) (fun h3 => .s (d.kind=4) (fun h=>three (.inr h)) (fun h4 => .s (d.kind=6) (fun h=>one (.inl h)) (fun h6 => .s (d.kind=7) (fun h=>one (.inr h)) (fun h7 => .rt [] ⟨bM3 h1 h2 aA aA,trivial⟩))))))) aC
theorem any_to {xs:List Int} {p:Int→Bool} {k:Nat} {n:Int} (h:xs[k]? = some n) (h0:(xs.take k).any p=false) (hn:p n=false):(xs.take (k+1)).any p=false:=by
 rw[← cU h,any_append,h0];simp[hn]
theorem any_hit {xs:List Int} {p:Int→Bool} {k:Nat} {n:Int} (h:xs[k]? = some n) (hn:p n=true):xs.any p=true:=any_eq_true.2 ⟨n,mem_of_getElem? h,hn⟩
theorem dok_a {d:Deed} (h:inB d.kind 1 8=false):false=aT d:=(deedOk_0 h).symm
theorem dok_b {d:Deed} (h:(31:Int)<d.plan.edges.length):false=aT d:=by unfold aT;rw[decide_eq_false (show ¬ d.plan.edges.length≤31 by omega)];simp
theorem dok_c {d:Deed} (h:eqB d (kL d)=false):false=aT d:=by unfold aT;rw[h];simp
theorem dok_d {d:Deed} (h:(aZ d).any (fun n => !num n)=true):false=aT d:=by unfold aT;rw[h];simp
theorem dok_e {d:Deed} (h1:inB d.kind 1 8=true) (h2:¬ (31:Int)<d.plan.edges.length) (h3:eqB d (kL d)=true) {k:Nat} (h4:((aZ d).take k).any (fun n => !num n)=false) (hk:¬ (k:Int)<(aZ d).length):true=aT d:=by
 rw[take_of_length_le aA] at h4
 unfold aT;rw[h1,h3,h4,decide_eq_true (show d.plan.edges.length≤31 by omega)];rfl
theorem aC7 (d:Deed):Ct1 prog 151 [.S d] [.B (aT d)]:=
 .one (aT d) (rk:=fun b=>[.B b])<|vc func151 (fun (hg:gin [Par.S d])=>let g:d.ok:=hg.1.1
  .c func92 (bN d.kind 1 8) fun _ => .v (inB d.kind 1 8) (fun h1 => .rt false ⟨dok_a h1,trivial⟩) (fun h1 => .s ((31:Int)<d.plan.edges.length) (fun h2 => .rt false ⟨dok_b h2,trivial⟩) (fun h2=>
   .cb inferInstance (kL d) _ func265 (UsedOf_i d) ⟨g,trivial⟩ fun gu => .c func264 (SameDeed_i d (kL d)) (hg:=⟨g,gu,trivial⟩) fun _ => .v (eqB d (kL d)) (fun h3 => .rt false ⟨dok_c h3,trivial⟩) (fun h3=>
   let hnl:=oF d
   .c func204 (sI d aA) (hg:=⟨g,trivial⟩) fun _ => .la (Γ:=Nat) (fun k=>k≤(aZ d).length∧((aZ d).take k).any (fun n => !num n)=false) (fun k=>(aZ d).length - k) (fun k=>[vI 26 k]) (fun k=>[]) 0 (h:=⟨Nat.zero_le _,rfl⟩) fun k hk t => .s ((k:Int)<(aZ d).length)
    (fun h4 => .x (aZ d) k (h:=by omega) fun n hn gn => .c func92 (bN n 0 1000000000) fun _ => .v (inB n 0 1000000000)
     (fun h5 => .rt false ⟨dok_d (any_hit hn (by show (!inB n 0 1000000000)=true;rw[h5];rfl)),trivial⟩)
     (fun h5 => .p k 1 (h:=by unfold I64;omega) <| .n t (k+1) [] (h1:=⟨by omega,any_to hn hk.2 (by show (!inB n 0 1000000000)=false;rw[h5];rfl)⟩)))
    (fun h4 => .rt true ⟨dok_e h1 h2 h3 hk.2 h4,trivial⟩))))) aC
theorem tY (n:Int):Ct1 prog 241 [.I n] [.B (num n)]:=
 vc func241 (fun hg => .c func138 (InV n 0 1000000000) fun _ => .rt () ⟨trivial,trivial⟩) aC
theorem NoPlan_s (p:Plan):Ct1 prog 324 [.S p] [.B (gZ p)]:=
 .one (gZ p) (rk:=fun b=>[.B b])<|vc func324 (fun hg => .s (p.prio=0) (fun h0 => .s (p.most=0) (fun h1 => .s (p.wait=0) (fun h2 => .s (p.tasks=0)
  (fun h3 => .rt (decide ((p.edges.length:Int)=0)) ⟨by unfold gZ;simp[h0,h1,h2,h3],trivial⟩)
  (fun h => .rt false ⟨by unfold gZ;simp[h],trivial⟩)) (fun h => .rt false ⟨by unfold gZ;simp[h],trivial⟩)) (fun h => .rt false ⟨by unfold gZ;simp[h],trivial⟩)) (fun h => .rt false ⟨by unfold gZ;simp[h],trivial⟩)) aC
theorem anyE_to {xs:List Edge} {p:Edge→Bool} {k:Nat} {n:Edge} (h:xs[k]? = some n) (h0:(xs.take k).any p=false) (hn:p n=false):(xs.take (k+1)).any p=false:=by
 rw[← cU h,any_append,h0];simp[hn]
theorem PlanNum_s (p:Plan):Ct1 prog 323 [.S p] [.B (eX p)]:=
 .one (eX p) (rk:=fun b=>[.B b])<|vc func323 (fun (hg:gin [Par.S p])=>let bad:eX p=false→D prog (fun b:Bool=>b=eX p∧rgd [Rk.B b]):=fun h => .rt false ⟨h.symm,trivial⟩
  .c func241 (tY p.prio) fun _ => .v (num p.prio) (fun h0=>bad (by unfold eX;simp[h0])) (fun h0=>
  .c func241 (tY p.most) fun _ => .v (num p.most) (fun h1=>bad (by unfold eX;simp[h1])) (fun h1=>
  .c func241 (tY p.wait) fun _ => .v (num p.wait) (fun h2=>bad (by unfold eX;simp[h2])) (fun h2=>
  .c func241 (tY p.tasks) fun _ => .v (num p.tasks) (fun h3=>bad (by unfold eX;simp[h3])) (fun h3 => .s ((31:Int)<p.edges.length) (fun h4=>bad (by unfold eX;rw[decide_eq_false (show ¬ p.edges.length≤31 by omega)];simp)) (fun h4=>
   .la (Γ:=Nat) (fun k=>k≤p.edges.length∧(p.edges.take k).any (fun e:Edge => !(num e.from_ && num e.to_))=false) (fun k=>p.edges.length - k) (fun k=>[vI 3 k]) (fun k=>[]) 0 (h:=⟨Nat.zero_le _,rfl⟩) fun k hk t => .s ((k:Int)<p.edges.length)
    (fun h5 => .x p.edges k (h:=by omega) fun e he ge => .c func241 (tY e.from_) fun _ => .v (num e.from_) (fun h6=>bad (by unfold eX;rw[any_eq_true.2 ⟨e,mem_of_getElem? he,by simp[h6]⟩];simp)) (fun h6 => .y he fun _ => .c func241 (tY e.to_) fun _ => .v (num e.to_) (fun h7=>bad (by unfold eX;rw[any_eq_true.2 ⟨e,mem_of_getElem? he,by simp[h7]⟩];simp)) (fun h7=>
     .p k 1 (h:=by unfold I64;omega) <| .n t (k+1) [] (h1:=⟨by omega,anyE_to he hk.2 (by simp[h6,h7])⟩))))
    (fun h5 => .rt true ⟨by have h9:=hk.2;rw[take_of_length_le aA] at h9;unfold eX;rw[h9,h0,h1,h2,h3,decide_eq_true (show p.edges.length≤31 by omega)];rfl,trivial⟩))))))) aC
theorem bA6 {d:Deed} {b3 b4 b5:Bool} (h3:decide (d.kind=2)=b3) (h4:(decide (d.kind=3) || decide (d.kind=4))=b4) (h5:(((!decide (d.kind=2)) && (!decide (d.kind=5))) && (!decide (d.kind=8)))=b5) :
  oE d=((((((b5 && (!(num d.run))) || ((!b5) && (!decide (d.run=0)))) || (b4 && ((!(num d.task)) || (!(num d.try_))))) || ((!b4) && ((!decide (d.task=0)) || (!decide (d.try_=0))))) || (b3 && ((!(num d.worker)) || (!(num d.draw))))) || ((!b3) && ((!decide (d.worker=0)) || (!decide (d.draw=0))))):=by
 unfold oE;rw[h5,h4,h3]
noncomputable def twoD {R:Bool→Prop} (b:Bool) (x y:Int) (bad:(b=true∧(num x=false∨num y=false)∨b=false∧(¬ x=0∨¬ y=0))→D prog R) (k:(b=true→num x=true∧num y=true)→(b=false→x=0∧y=0)→D prog R):D prog R:=
 match b,bad,k with
 | true,bad,k => .c func241 (tY x) fun _ => .v (num x) (fun h=>bad (.inl ⟨rfl,.inl h⟩)) (fun h => .c func241 (tY y) fun _ => .v (num y) (fun h2=>bad (.inl ⟨rfl,.inr h2⟩)) (fun h2=>k (fun _=>⟨h,h2⟩) (fun z=>by cases z)))
 | false,bad,k => .u (x=0) (fun h=>bad (.inr ⟨rfl,.inl h⟩)) (fun h => .u (y=0) (fun h2=>bad (.inr ⟨rfl,.inr h2⟩)) (fun h2=>k (fun z=>by cases z) (fun _=>⟨h,h2⟩)))
noncomputable def oneD {R:Bool→Prop} (b:Bool) (x:Int) (bad:(b=true∧num x=false∨b=false∧¬ x=0)→D prog R) (k:(b=true→num x=true)→(b=false→x=0)→D prog R):D prog R:=
 match b,bad,k with
 | true,bad,k => .c func241 (tY x) fun _ => .v (num x) (fun h=>bad (.inl ⟨rfl,h⟩)) (fun h=>k (fun _=>h) (fun z=>by cases z))
 | false,bad,k => .u (x=0) (fun h=>bad (.inr ⟨rfl,h⟩)) (fun h=>k (fun z=>by cases z) (fun _=>h))
theorem one_se {b:Bool} {x:Int} (h1:b=true→num x=true) (h2:b=false→x=0):(b && (!(num x)) || (!b) && (!decide (x=0)))=false:=by
 cases b with
 | true=>simp[h1 rfl]
 | false=>simp[h2 rfl]
theorem aK5 {b:Bool} {x y:Int} (h1:b=true→num x=true∧num y=true) (h2:b=false→x=0∧y=0):(b && ((!(num x)) || (!(num y))))=false∧((!b) && ((!decide (x=0)) || (!decide (y=0))))=false:=by
 cases b with
 | true=>simp[h1 rfl]
 | false=>simp[h2 rfl]
theorem one_bad {b:Bool} {x:Int} (h:b=true∧num x=false∨b=false∧¬ x=0):(b && (!(num x)) || (!b) && (!decide (x=0)))=true:=by
 rcases h with ⟨rfl,h⟩ | ⟨rfl,h⟩ <;> simp[h]
theorem aY3 {b:Bool} {x y:Int} (h:b=true∧(num x=false∨num y=false)∨b=false∧(¬ x=0∨¬ y=0)):(b && ((!(num x)) || (!(num y))))=true∨((!b) && ((!decide (x=0)) || (!decide (y=0))))=true:=by
 rcases h with ⟨rfl,h | h⟩ | ⟨rfl,h | h⟩ <;> simp[h]
noncomputable def dkD (d:Deed) (g:d.ok) (hi:1≤d.kind∧d.kind≤8) (b3 b4 b5:Bool) (h3:decide (d.kind=2)=b3) (h4:(decide (d.kind=3) || decide (d.kind=4))=b4) (h5:(((!decide (d.kind=2)) && (!decide (d.kind=5))) && (!decide (d.kind=8)))=b5):D prog (fun b:Bool=>b=aT d∧rgd [Rk.B b]):=
 let bad:oE d=true→D prog (fun b:Bool=>b=aT d∧rgd [Rk.B b]):=fun h => .rt false ⟨(deedS_f hi h).symm,trivial⟩
 oneD b5 d.run (fun h=>bad (by rw[bA6 h3 h4 h5,one_bad h];simp)) fun r1 r2=>
 twoD b4 d.task d.try_ (fun h=>bad (by rw[bA6 h3 h4 h5];rcases aY3 h with e | e <;> rw[e] <;> simp)) fun t1 t2=>
 twoD b3 d.worker d.draw (fun h=>bad (by rw[bA6 h3 h4 h5];rcases aY3 h with e | e <;> rw[e] <;> simp)) fun w1 w2=>
 let he:oE d=false:=(by rw[bA6 h3 h4 h5,one_se r1 r2,(aK5 t1 t2).1,(aK5 t1 t2).2,(aK5 w1 w2).1,(aK5 w1 w2).2];rfl)
 .s (d.kind=1)
  (fun h => .c func323 (PlanNum_s d.plan) (hg:=⟨g.2.2.1,trivial⟩) fun _ => .rt (eX d.plan) ⟨(deedS_1 hi he h).symm,trivial⟩)
  (fun h => .c func324 (NoPlan_s d.plan) (hg:=⟨g.2.2.1,trivial⟩) fun _ => .rt (gZ d.plan) ⟨(deedS_n hi he h).symm,trivial⟩)
theorem kind_8 {d:Deed} (h:1≤d.kind∧d.kind≤8):d.kind=1∨d.kind=2∨d.kind=3∨d.kind=4∨d.kind=5∨d.kind=6∨d.kind=7∨d.kind=8:=by omega
theorem aV2 (d:Deed):Ct1 prog 217 [.S d] [.B (aT d)]:=
 .one (aT d) (rk:=fun b=>[.B b])<|vc func217 (fun (hg:gin [Par.S d])=>let g:d.ok:=hg.1.1
  .c func138 (InV d.kind 1 8) fun _ => .v (inB d.kind 1 8) (fun h1 => .rt false ⟨dok_a h1,trivial⟩) (fun h1=>let hi:=inB_iff.1 h1
   (fun hk => .oc hk (fun h => .wt 3 <| .rv 3 (.bool false) (y := .bool (decide (d.kind=2))) (by rw[h];rfl) <| .kf (d.kind=3) aA <| .wt 4 <| .rv 4 (.bool false) (y := .bool (decide (d.kind=4))) (by rw[h];rfl) <| .ut (d.kind=5) aA <| .wt 5 <| .rv 5 (.bool true) (y := .bool (!decide (d.kind=8))) (by rw[h];rfl)<|dkD d g hi false false true (by rw[h];rfl) (by rw[h];rfl) (by rw[h];rfl)) (fun hk => .oc hk (fun h => .wt 3 <| .rv 3 (.bool true) (y := .bool (decide (d.kind=2))) (by rw[h];rfl) <| .kf (d.kind=3) aA <| .wt 4 <| .rv 4 (.bool false) (y := .bool (decide (d.kind=4))) (by rw[h];rfl)<|dkD d g hi true false false (by rw[h];rfl) (by rw[h];rfl) (by rw[h];rfl)) (fun hk => .oc hk (fun h => .wt 3 <| .rv 3 (.bool false) (y := .bool (decide (d.kind=2))) (by rw[h];rfl) <| .kt (d.kind=3) h <| .ut (d.kind=5) aA <| .wt 5 <| .rv 5 (.bool true) (y := .bool (!decide (d.kind=8))) (by rw[h];rfl)<|dkD d g hi false true true (by rw[h];rfl) (by rw[h];rfl) (by rw[h];rfl)) (fun hk => .oc hk (fun h => .wt 3 <| .rv 3 (.bool false) (y := .bool (decide (d.kind=2))) (by rw[h];rfl) <| .kf (d.kind=3) aA <| .wt 4 <| .rv 4 (.bool true) (y := .bool (decide (d.kind=4))) (by rw[h];rfl) <| .ut (d.kind=5) aA <| .wt 5 <| .rv 5 (.bool true) (y := .bool (!decide (d.kind=8))) (by rw[h];rfl)<|dkD d g hi false true true (by rw[h];rfl) (by rw[h];rfl) (by rw[h];rfl)) (fun hk => .oc hk (fun h => .wt 3 <| .rv 3 (.bool false) (y := .bool (decide (d.kind=2))) (by rw[h];rfl) <| .kf (d.kind=3) aA <| .wt 4 <| .rv 4 (.bool false) (y := .bool (decide (d.kind=4))) (by rw[h];rfl) <| .uf (d.kind=5) h<|dkD d g hi false false false (by rw[h];rfl) (by rw[h];rfl) (by rw[h];rfl)) (fun hk => .oc hk (fun h => .wt 3 <| .rv 3 (.bool false) (y := .bool (decide (d.kind=2))) (by rw[h];rfl) <| .kf (d.kind=3) aA <| .wt 4 <| .rv 4 (.bool false) (y := .bool (decide (d.kind=4))) (by rw[h];rfl) <| .ut (d.kind=5) aA <| .wt 5 <| .rv 5 (.bool true) (y := .bool (!decide (d.kind=8))) (by rw[h];rfl)<|dkD d g hi false false true (by rw[h];rfl) (by rw[h];rfl) (by rw[h];rfl)) (fun hk => .oc hk (fun h => .wt 3 <| .rv 3 (.bool false) (y := .bool (decide (d.kind=2))) (by rw[h];rfl) <| .kf (d.kind=3) aA <| .wt 4 <| .rv 4 (.bool false) (y := .bool (decide (d.kind=4))) (by rw[h];rfl) <| .ut (d.kind=5) aA <| .wt 5 <| .rv 5 (.bool true) (y := .bool (!decide (d.kind=8))) (by rw[h];rfl)<|dkD d g hi false false true (by rw[h];rfl) (by rw[h];rfl) (by rw[h];rfl)) (fun h => .wt 3 <| .rv 3 (.bool false) (y := .bool (decide (d.kind=2))) (by rw[h];rfl) <| .kf (d.kind=3) aA <| .wt 4 <| .rv 4 (.bool false) (y := .bool (decide (d.kind=4))) (by rw[h];rfl) <| .ut (d.kind=5) aA <| .wt 5 <| .rv 5 (.bool false) (y := .bool (!decide (d.kind=8))) (by rw[h];rfl)<|dkD d g hi false false false (by rw[h];rfl) (by rw[h];rfl) (by rw[h];rfl))))))))) (kind_8 hi))) aC
noncomputable def bJ9 (y:Yard) (id:Int) (p:Plan):Yard:=⟨y.now,y.seq+((aM (bK id p).tasks 2).length:Int),fM (aU id).toNat p.prio id (aM (bK id p).tasks 2) y.shelf y.seq,y.runs++[bK id p]⟩
noncomputable def bA (y:Yard) (id:Int) (p:Plan):Yard×Int:=
 if aK y=false then (y,8) else if inB id 1 9999=false then (y,5) else if 0≤aE y id then (y,6) else if aG p≠0 then (y,aG p) else if gN y p=false then (y,7) else (bJ9 y id p,0)


theorem fresh_zero (r:Run):dX zRun r=aM r.tasks 2:=by
 unfold dX;rw[filter_eq_self];intro a _;simp[zRun,aM,dK]

def flE (id:Int) (l:List Entry):List Entry:=l.filter (fun e => !decide (e.run=id))
theorem flE_t {id:Int} {l:List Entry} {k:Nat} {e:Entry} (he:l[k]? = some e) (h:¬ e.run=id):flE id (l.take (k+1))=flE id (l.take k)++[e]:=by
 obtain ⟨hk,rfl⟩:=gsi_.1 he
 unfold flE;rw[take_succ_eq_append_getElem hk,filter_append];simp[h]
theorem flE_f {id:Int} {l:List Entry} {k:Nat} {e:Entry} (he:l[k]? = some e) (h:e.run=id):flE id (l.take (k+1))=flE id (l.take k):=by
 obtain ⟨hk,rfl⟩:=gsi_.1 he
 unfold flE;rw[take_succ_eq_append_getElem hk,filter_append];simp[h]
theorem aN3 (id:Int) (l:List Entry):(flE id l).length≤l.length:=length_filter_le _ _
def nY (id:Int) (xss:List (List Entry)) (i:Nat):List (List Entry):=(xss.take i).map (flE id)++xss.drop i
theorem uQ (id:Int) (xss:List (List Entry)):nY id xss 0=xss:=by simp[nY]
theorem aT9 (id:Int) (xss:List (List Entry)) (i:Nat):(nY id xss i).length=xss.length:=by simp[nY];omega
theorem aN4 {id:Int} {xss:List (List Entry)} {i:Nat} {l:List Entry} (h:xss[i]? = some l):(nY id xss i)[i]? = some l:=by
 have hl:=(gsi_.1 h).1
 unfold nY
 rw[getElem?_append_right (by simp;omega)]
 simp only[length_map,length_take,getElem?_drop]
 rw[← h];congr 1;omega
theorem aA2 {id:Int} {xss:List (List Entry)} {i:Nat} {l:List Entry} (h:xss[i]? = some l):(nY id xss i).set i (flE id l)=nY id xss (i+1):=by
 obtain ⟨hl,rfl⟩:=gsi_.1 h
 unfold nY
 have e1:((xss.take i).map (flE id)).length=i:=by simp;omega
 rw[set_append_right _ _ aA,e1,Nat.sub_self,take_succ_eq_append_getElem hl,map_append,append_assoc]
 congr 1
 exact (congrArg (fun z=>z.set 0 (flE id xss[i])) (drop_eq_getElem_cons hl)).trans rfl
theorem aA3 {id:Int} {xss:List (List Entry)} {i:Nat} (h:i=xss.length):nY id xss i=xss.map (flE id):=by subst h;simp[nY]
def aA1 (y:Yard) (id:Int) (k:Nat):Yard:=⟨y.now,y.seq,y.shelf.map (flE id),y.runs.eraseIdx k⟩
noncomputable def aX (y:Yard) (id:Int):Yard×Int:=
 if aK y=false then (y,8) else match y.runs[(aE y id).toNat]? with
  | some r=>if aE y id<0 then (y,10) else if r.state=1 then (y,13) else (aA1 y id (aE y id).toNat,0)
  | none=>(y,10)
theorem tH {y:Yard} {id:Int} (h0:aK y=true) (h:aE y id<0):aX y id=(y,10):=by
 unfold aX
 rw[if_neg (by rw[h0];decide)]
 cases y.runs[(aE y id).toNat]? with
 | none=>rfl
 | some r=>simp only;rw[if_pos h]
theorem iU {y:Yard} {id:Int} {r:Run} (h0:aK y=true) (h:¬ aE y id<0) (hr:y.runs[(aE y id).toNat]? = some r):aX y id=if r.state=1 then (y,13) else (aA1 y id (aE y id).toNat,0):=by
 unfold aX
 rw[if_neg (by rw[h0];decide),hr]
 simp only
 rw[if_neg h]
section
variable {P:Program} {n:Nat} {f:Nat→Value} {w0 W:World} {rs:List Res} {Q:Exit→Act→World→Prop} {d:Option Tmp} {ty:TypeId} {pos:String} {af:Array Go.Edge} {g:Option (Nat×Bool)} {K:Value→World→Prop} {α:Type} [Shape α]
theorem jO {t e e':TypeId} {bytes:Nat} {s x:Operand} {v:Value} {xs ys:List α} {fe fy:List Nat} {ad:Addr} {c m b o:Nat} {C cells:List Value} (hT:ApOk P t e α bytes) (hs:ev n f s=v) (hx:ev n f x = .slice (some ad) m c) (hm:ys.length=m) (had:0<m→ad=⟨b,o,none⟩) (hcl:cells=(C.drop o).take (m*Shape.size α))
  (hst:St w0 W (Res.row e v xs fe::Res.es cells ys fy::Res.bx b C e'::rs)) (h63:xs.length+m≤maxLen) (hby:(xs.length+m)*bytes≤140737488355328)
  (k:∀ v' W',St w0 W' (Res.row e v' (xs++ys) (fe++fy)::Res.bx b C e'::rs)→K v' W') :
  Stp P n ⟨d,.call { callee := .builtin .append,args := #[s,x],argTypes := #[t,t] },ty,pos,af,g⟩ f W Q K:=by
 have hE:=hst.get 1 rfl
 have hB:W.heap[b]? = some (.cells C.toArray e' (0,0)):=hst.get 2 rfl
 have hn:=hst.nodup
 have h2:=hst.f1
 have hn2:=h2.nodup
 rw[flatMap_cons,nodup_append] at hn2
 refine lG hT hs hx hm hst.d1 hE.1 ?_ hE.2 hn2.1 ?_ h63 hby k
 ·intro j u hj
  have hj2:=(gsi_.1 hj).1
  rw[hE.1.len,hm] at hj2
  have hm0:0<m:=Nat.pos_of_ne_zero (fun h0=>by rw[h0] at hj2;simp at hj2)
  rw[had hm0,Addr.add_mid]
  rw[hcl] at hj
  have:=bG hB (o+j) u (zI hj)
  simpa using this
 intro a ha
 refine ⟨fun h=>hn2.2.2 a ha a ?_ rfl,fun h=>hn2.2.2 a ha a ?_ rfl,h2.fresh (Res.es cells ys fy) (by simp) a ha⟩
 ·rw[flatMap_cons];exact mem_append_left _ h
 rw[flatMap_cons];exact mem_append_right _ h
theorem bE3 {C:List Value} {o N k s:Nat} (h:k≤N):((C.drop o).take (N*s)).drop (k*s)=(C.drop (o+k*s)).take ((N - k)*s):=by
 rw[drop_take,drop_drop,Nat.sub_mul]
theorem St.es_split {w0 W:World} {rs:List Res} {cells:List Value} {xs:List α} {fe:List Nat} (h:St w0 W (Res.es cells xs fe::rs)) {k:Nat} (hk:k<xs.length) :
  ∃ f1 f3,St w0 W (Res.es (cells.take (k*Shape.size α)) (xs.take k) f1::Res.es (cells.drop ((k+1)*Shape.size α)) (xs.drop (k+1)) f3::rs):=by
 have hh:=h.get 0 rfl
 obtain ⟨f1,g,rfl,h1,h2⟩:=hh.1.parts' k aA
 obtain ⟨f2,f3,rfl,h3,h4⟩:=h2.parts' 1 (by rw[length_drop];omega)
 rw[drop_drop,drop_drop,show k*Shape.size α+1*Shape.size α=(k+1)*Shape.size α by rw[Nat.add_mul]] at h4
 refine ⟨f1,f3,St.trade (rs1:=[Res.es cells xs (f1++(f2++f3))]) (rs2:=[Res.es (cells.take (k*Shape.size α)) (xs.take k) f1,Res.es (cells.drop ((k+1)*Shape.size α)) (xs.drop (k+1)) f3]) h ?_ ?_ ?_⟩
 ·have:=h.nodup
  rw[flatMap_cons,nodup_append] at this
  have h5:(f1++(f2++f3)).Nodup:=this.1
  have h6:(f1++f3).Sublist (f1++(f2++f3)):=(List.Sublist.refl _).append (sublist_append_right _ _)
  simpa [Res.es] using h6.nodup h5
 ·intro c hc;simp[Res.es] at hc ⊢;rcases hc with hc | hc <;> simp[hc]
 intro r hr
 rcases mem_cons.1 hr with rfl | hr
 ·exact ⟨h1,fun c hc=>hh.2 c (by simp[hc])⟩
 rw[mem_singleton] at hr;subst hr
 exact ⟨h4,fun c hc=>hh.2 c (by simp[hc])⟩
end

theorem ForgetS (w:World) {y:Yard} {cs:List Value} {fp:List Nat} (hc:Shape.C w cs y fp) (id:Int) (hid:I64 id) (hw:y.wt≤1048576) :
  Calls prog 225 #[.agg cs.toArray,I id] w fun e w'=>∃ (cs':List Value) (fp':List Nat),e = .returned (.tuple #[.agg cs'.toArray,I (aX y id).2])∧St w w' [Res.own (.agg cs'.toArray) (aX y id).1 fp']:=by
 have hyok:y.ok:=by obtain ⟨v0,v1,g0,g1,rfl,hok,h0,h1,rfl⟩:=hc;exact hok
 have hy1:I64 y.now:=hyok.1
 have hysl:y.shelf.length≤y.wt:=by unfold Yard.wt wtL;omega
 refine bP3 func225 rfl ntmps225 eS (wp_seq (aD (sg (lZ (cs:=cs) rfl (St.start w) ?_))));intro b1 W2 hb3 st4
 refine sg (pV aX9 st4 ?_);intro b6 W7 hb8 st9
 refine sg (fO (aI (wp_seq (aD (sg (kS fG rfl rfl (st9.get 1 rfl) (Shape.len hc) (sg (stp_call1 func184 rfl rfl ((CopyYardT W7 (oI hc st9.below) aA).mono ?_)))))))));rintro _ W17 ⟨cs15,fp15,rfl,hk18⟩;refine ⟨_,rfl,?_⟩
 have st19:=St.call st9 hk18
 refine sg (pV aX9 st19 ?_);intro b21 W22 hb23 st24
 refine sgn (gL (cs:=cs15) fG (oN (st24.get 1 rfl) rfl) rfl rfl st24 rfl ?_);intro W26 st27
 refine aI (wp_seq (aD (rc st27 4 Ag.nil.put.put.put.put.put.put.put.put [] [(7,I (aE y id))] [qw 3 rfl (Shape.len hc),qc func291 rfl (fun W s b=>RunAtS W (oI hc s.below) id aA)] aC fun f29 W30 h29_ st31 hb32=>(aI (wp_seq (wp_block (wp_seq (aD (rc st31 4 h29_ [] [(16,.bool (!(aK y)))] [qw 3 rfl (Shape.len hc),qc func185 rfl (fun W s b=>YardOkT W (oI hc s.below) aA),.o] aC fun f34 W35 h34_ st36 hb37=>(aI (xZ (h34_.at 16) (fun h38 => ?_) (fun h38 => ?_))))))))))))
 ·refine wp_seq (aD (sg (kS fG rfl (h34_.at 6) (st36.get 0 rfl) (Shape.len (oN (st36.get 1 rfl) rfl)) (sgn (gL (cs:=cs15) fG (oN (st36.f2.get 2 rfl) rfl) (h34_.at 4) rfl st36.f2 rfl ?_)))));intro W42 st43
  refine sg (fO (aI (wr (aQ4 fG rfl results225 (h34_.at 4) (st43.get 0 rfl) (Shape.len (oN (st43.get 2 rfl) rfl)) rfl ?_))))
  have hfe:aX y id=(y,8):=by unfold aX;rw[if_pos (bnot_t h38)]
  rw[hfe]
  exact ⟨_,_,rfl,st43.f2.d1.d1.d1⟩
 refine wp_seq (aD (rn st36 3 h34_ [] [(21,.bool (decide ((aE y id)<0)))] [.o] aC fun f51 h51_=>(aI (iK (h51_.at 21) (fun h52p => ?_) (fun h52p => ?_)))))
 ·refine wp_seq (aD (sg (kS fG rfl (h51_.at 6) (st36.get 0 rfl) (Shape.len (oN (st36.get 1 rfl) rfl)) (sgn (gL (cs:=cs15) fG (oN (st36.f2.get 2 rfl) rfl) (h51_.at 4) rfl st36.f2 rfl ?_)))));intro W56 st57
  refine sg (fO (aI (wr (aQ4 fG rfl results225 (h51_.at 4) (st57.get 0 rfl) (Shape.len (oN (st57.get 2 rfl) rfl)) rfl ?_))))
  have hfe:aX y id=(y,10):=tH (aC1 h38) h52p
  rw[hfe]
  exact ⟨_,_,rfl,st57.f2.d1.d1.d1⟩
 refine wp_seq ?_
 have hY:=gU (aC1 h38)
 have hra:=h52p
 obtain ⟨r,hr⟩:=sY hra
 have hrk:(aE y id).toNat<y.runs.length:=(gsi_.1 hr).1
 have hr8:=hY.runs
 have hs4:=hY.shelf
 have hk8:aE y id=(((aE y id).toNat:Nat):Int):=by omega
 refine aD ?_
 have hk65:=hc
 obtain ⟨v65_0,v65_1,g65_0,g65_1,rfl,hok65,h65_0,h65_1,rfl⟩:=hk65
 have hi9ceb2:(aE y id).toNat<y.runs.length:=(gsi_.1 hr).1
 obtain ⟨b66,o66,cs66,f66,hp66,hr66,hc66,hm66⟩:=idxq h65_1 (i:=(aE y id).toNat) hr
 have hk67:=hc66
 obtain ⟨v67_0,v67_1,g67_0,g67_1,rfl,hok67,h67_0,h67_1,rfl⟩:=hk67
 refine rn st36 8 h51_ [] [(25,.bool (decide (r.state=1)))] [qb 3 rfl 3,qxe hp66 (e:=aE y id) aA,qr hr66 6,.o] aC fun f68 h68_=>(aI (iK (h68_.at 25) (fun h69p => ?_) (fun h69p => ?_)))
 ·refine wp_seq (aD (sg (kS fG rfl (h68_.at 6) (st36.get 0 rfl) (Shape.len (oN (st36.get 1 rfl) rfl)) (sgn (gL (cs:=cs15) fG (oN (st36.f2.get 2 rfl) rfl) (h68_.at 4) rfl st36.f2 rfl ?_)))));intro W73 st74
  refine sg (fO (aI (wr (aQ4 fG rfl results225 (h68_.at 4) (st74.get 0 rfl) (Shape.len (oN (st74.get 2 rfl) rfl)) rfl ?_))))
  have hfe:aX y id=(y,13):=by rw[iU (aC1 h38) hra hr,if_pos aA]
  rw[hfe]
  exact ⟨_,_,rfl,st74.f2.d1.d1.d1⟩
 refine wp_skip (wp_seq ?_)
 obtain ⟨v82_0,v82_1,g82_0,g82_1,he82,hok82,st83⟩:=open_Yard st36.f1
 subst he82
 have hq_:=St.ownOpen' st83.f1 eS aA
 obtain ⟨bD,oD,cD,CD,eD,feD,hvD,hcD,hmD,hlD,st87⟩:=hq_
 obtain ⟨fE0,fE1,st88⟩:=st87.f1.es_split hrk
 subst hvD
 rcases nem ((aE y id).toNat+1<cD) with h139p | h139p
 ·refine nI 11 [(none,some 5,.is (Res.es (((CD.drop oD).take (y.runs.length*8)).take ((aE y id).toNat*8)) (y.runs.take (aE y id).toNat) fE0)),(some 0,some 5,.of (ι:=Nat) [34] (fun b170=>[(.slice (some ⟨b170,0,none⟩) 0 0)]) (fun b170=>Res.row (α:=Run) 55 (.slice (some ⟨b170,0,none⟩) 0 0) [] [])),(some 5,none,.of (ι:=Value) [39] (fun v179=>[v179]) (fun v179=>Res.row (α:=Run) 55 v179 ([]++(y.runs.take (aE y id).toNat)) ([]++fE0)))] [(false,.ex (fun (b170:Nat)=>(.slice (some ⟨b170,0,none⟩) 0 0))),(true,.is (.pointer (some ⟨b21,0+3,none⟩))),(true,.is (.slice (some ⟨bD,oD,none⟩) y.runs.length cD)),(true,.is (I (aE y id))),(true,.is (.slice (some ⟨bD,oD,none⟩) (aE y id).toNat cD)),(false,.ex (fun (v179:Value)=>v179)),(true,.is (.pointer (some ⟨b21,0+3,none⟩))),(true,.is (.slice (some ⟨bD,oD,none⟩) y.runs.length cD)),(true,.is (I (aE y id))),(true,.is (I ((aE y id)+1))),(true,.is (.slice (some ⟨bD,oD,none⟩) 0 0))] mix aC aC aC aC (rs0:=[Res.es (((CD.drop oD).take (y.runs.length*8)).take ((aE y id).toNat*8)) (y.runs.take (aE y id).toNat) fE0]) ⟨_,_,rfl,rfl,rfl⟩ st88 st88.below ⟨?_,(fq_ lA (h68_.at 6)),(fun f W hst hbl hd hf=>fB wY rfl (hd 1 35 rfl rfl) (hst.get 3 rfl) (i:=3) rfl rfl brq),(mq_ (h68_.at 7)),(fun f W hst hbl hd hf=>uG (h:=(aE y id).toNat) gE (hd 2 36 rfl rfl) (hd 3 37 rfl rfl) aA aA aA brq),?_,(fq_ lA (h68_.at 6)),(fun f W hst hbl hd hf=>fB wY rfl (hd 6 40 rfl rfl) (hst.get 3 rfl) (i:=3) rfl rfl brq),(mq_ (h68_.at 7)),(fun f W hst hbl hd hf=>mA (hd 8 42 rfl rfl) rfl bI1 brq),(fun f W hst hbl hd hf=>bK0 (l:=(aE y id).toNat+1) gE (hd 7 41 rfl rfl) (hd 9 43 rfl rfl) aA aA aA brq),trivial⟩ ?_
  ·intro f W ru oth hu hst hbl hd hf
   have hn_:ru=[]:=hu
   subst hn_
   try simp only[cap_,zA] at hst
   refine (cJ (cs:=[]) (e:=55) bH6 (gR qI _) hst ?_);intro b170 W171 hb172 st173
   have st173:=st173.row_empty (α:=Run)
   exact ⟨⟨b170,rfl⟩,⟨_,⟨_,_,rfl,⟨b170,(ce rfl rfl),rfl⟩,rfl⟩,st173⟩,st173.below⟩
  ·intro f W ru oth hu hst hbl hd hf
   obtain ⟨_,_,rfl,rfl,_,_,rfl,⟨b170,he175,rfl⟩,hn_⟩:=hu
   have hn_:_=[]:=hn_
   subst hn_
   have hu175_34:f 34=(.slice (some ⟨b170,0,none⟩) 0 0):=congrArg (fun l=>l.getD 0 undef) he175
   try simp only[cap_,zA] at hst
   have st176:=hst.f3
   refine (jO (α:=Run) (m:=(aE y id).toNat) (o:=oD) qI hu175_34 (hd 4 38 rfl rfl) (by rw[length_take];omega) (fun _=>rfl) (by rw[take_take];congr 1;have hz:(aE y id).toNat*8≤y.runs.length*8:=Nat.mul_le_mul_right _ aA;exact (Nat.min_eq_left hz).symm▸rfl) st176.f1.f2 (by simp only[length_append,length_take,length_nil];unfold maxLen;omega) (by simp only[length_append,length_take,length_nil];omega) ?_);intro v179 W180 st181
   exact ⟨⟨v179,rfl⟩,⟨_,⟨_,_,rfl,⟨v179,(ce rfl rfl),rfl⟩,rfl⟩,st181.f6.f6.f6.f6.f5.f6.f6⟩,st181.f6.f6.f6.f6.f5.f6.f6.below⟩
  intro f189 W190 rs_ hAL_ st193 hbl194 hv191 hf192
  obtain ⟨_,_,rfl,⟨v179,he195,rfl⟩,hn_⟩:=hAL_
  have hn_:_=[]:=hn_
  subst hn_
  have hu195_39:f189 39=v179:=congrArg (fun l=>l.getD 0 undef) he195
  try simp only[cap_,zA] at st193
  have st197:=st193.f2
  refine sg (jO (α:=Run) (m:=y.runs.length - ((aE y id).toNat+1)) (o:=oD+((aE y id).toNat+1)*8) qI hu195_39 (Eq.trans (hv191 10 44 eS rfl) (by rw[show y.runs.length - ((aE y id).toNat+1)=0 by omega])) (by rw[length_drop]) (fun hz=>by omega) (bE3 aA) st197.f2.f2 (by simp only[length_append,length_take,length_nil];unfold maxLen;omega) (by simp only[length_append,length_take,length_nil];omega) ?_);intro v200 W201 st202
  refine sg (fL lA ((hf192 6 rfl).trans (h68_.at 6)) (sgn (mS (v:=v200) aC rfl rfl (Sl.cells (gI (st202.f3.get 1 rfl))) (Sl.one (gI (st202.f3.get 1 rfl))) st202.f3 bH8 rfl ?_)));intro W206 st207
  refine aI (wp_seq (wp_seq (aD (sg (fO (aI (wp_block (kQ (fun (m:Nat) (f:Nat→Value) (W:World)=>∃ (i:Nat) (fo210:List Nat),i≤y.shelf.length∧m=y.shelf.length - i∧Ag [(1,I id),(4,pt_ b6),(6,pt_ b21),(8,I (i:Int))] f∧St w W ([Res.bx b21 [I y.now,I y.seq,v82_0,v200] 27,Res.row (α:=Run) 55 v200 (([]++(y.runs.take (aE y id).toNat))++(y.runs.drop ((aE y id).toNat+1))) (([]++fE0)++fE1),Res.bx bD CD eD,Res.own (α:=List (List Entry)) v82_0 (nY id y.shelf i) fo210,Res.bx b6 [I 0,I 0,.slice none 0 0,.slice none 0 0] 27,Res.bx b1 [I y.now,I y.seq,v65_0,v65_1] 27])) (y.shelf.length - 0) ?_ ?_))))))))
  ·exact ⟨0,g82_0,Nat.zero_le _,rfl,(Ag.cons ((hf192 1 rfl).trans (h68_.at 1)) (Ag.cons ((hf192 4 rfl).trans (h68_.at 4)) (Ag.cons ((hf192 6 rfl).trans (h68_.at 6)) (Ag.cons rfl Ag.nil)))),(by rw[uQ];exact st207)⟩
  intro m211 f212 W213 hJ214
  obtain ⟨i,fo210,hil,rfl,hA216,st215⟩:=hJ214
  have hfl:=aT9 id y.shelf i
  refine wp_seq (wp_seq (aD (rn st215 5 hA216 [] [(51,.bool (decide ((i:Int)<((nY id y.shelf i).length:Int))))] [qb 0 rfl 2,ql (cN (st215.get 3 rfl)),.o] aC fun f218 h218_=>(aI (iK (h218_.at 51) (fun h219p => ?_) (fun h219p => ?_))))))
  ·refine wp_skip (wp_seq (wp_block (wp_seq ?_)))
   have hq_:=pX (xs:=y.shelf) (i:=i) aA
   obtain ⟨l,hl⟩:=hq_
   have hla:=aN4 (id:=id) hl
   have hl80:=mB (hY.each l (mem_of_getElem? hl))
   have hq_:=St.lendx (α:=List Entry) eS st215.f3 (x:=l) hla
   obtain ⟨b221,e221,pre221,cs221,post221,fi221,fr221,hPA221,hC221,st222⟩:=hq_
   have hq_:=st222.f1.uncs1
   obtain ⟨v221,he221,st227⟩:=hq_;subst he221
   refine aD (sg (cJ (cs:=[]) (e:=243) bH6 (gR iA _) st227 ?_));intro b228 W229 hb230 st231
   have st231:=st231.row_empty (α:=Entry)
   refine sg (bI (v:=(.slice (some ⟨b228,0,none⟩) 0 0)) rfl (aI (wp_seq (wp_seq (aD (sg (fO (aI (wp_block (kQ (fun (m:Nat) (f:Nat→Value) (W:World)=>∃ (j:Nat) (v237:Value),j≤l.length∧m=l.length - j∧Ag [(1,I id),(4,pt_ b6),(6,pt_ b21),(8,I (i:Int)),(9,v237),(10,I (j:Int))] f∧St w W ([Res.row (α:=Entry) 243 v237 (flE id (l.take j)) [],Res.own (α:=List Entry) v221 l fi221,Res.bx b221 (pre221++[v221]++post221) e221,Res.rest (α:=(List Entry)) v82_0 b221 pre221 post221 (nY id y.shelf i) i fr221,Res.bx b21 [I y.now,I y.seq,v82_0,v200] 27,Res.row (α:=Run) 55 v200 (([]++(y.runs.take (aE y id).toNat))++(y.runs.drop ((aE y id).toNat+1))) (([]++fE0)++fE1),Res.bx bD CD eD,Res.bx b6 [I 0,I 0,.slice none 0 0,.slice none 0 0] 27,Res.bx b1 [I y.now,I y.seq,v65_0,v65_1] 27])) (l.length - 0) ?_ ?_))))))))))
   ·exact ⟨0,(.slice (some ⟨b228,0,none⟩) 0 0),Nat.zero_le _,rfl,(h218_.put.put.put.to aC),st231⟩
   intro m238 f239 W240 hJ241
   obtain ⟨j,v237,hjl,rfl,hA243,st242⟩:=hJ241
   have hfn:=aN3 id (l.take j)
   have htl:=length_take_le j l
   refine wp_seq (wp_seq (aD (rn st242 8 hA243 [] [(62,.bool (decide ((j:Int)<(l.length:Int))))] [qb 4 rfl 2,qx hPA221,qp 2 rfl 0,ql (cN (st242.get 1 rfl)),.o] aC fun f245 h245_=>(aI (iK (h245_.at 62) (fun h246p => ?_) (fun h246p => ?_))))))
   ·refine wp_skip (wp_seq (wp_block (wp_seq ?_)))
    have hq_:=pX (xs:=l) (i:=j) aA
    obtain ⟨e,he⟩:=hq_
    refine aD ?_
    have hi1fd33:j<l.length:=(gsi_.1 he).1
    obtain ⟨b248,o248,cs248,f248,hp248,hr248,hc248,hm248⟩:=idxq (cN (st242.get 1 rfl)) (i:=j) he
    have hk249:=hc248
    obtain ⟨he249,rfl,hok249⟩:=hk249
    have he249:_=[I e.prio,I e.seq,I e.run,I e.task]:=he249
    subst he249
    refine rn st242 11 h245_ [] [(75,.bool (!decide (e.run=id)))] [qb 4 rfl 2,qx hPA221,qp 2 rfl 0,qx hp248,qn hr248 2,.o] aC fun f250 h250_=>(aI (bJ5 (h250_.at 75) (fun h251p => ?_) (fun h251p => ?_)))
    ·refine aD (rn st242 9 h250_ [] [(76,v237),(84,.agg #[I e.prio,I e.seq,I e.run,I e.task])] [qb 4 rfl 2,qx hPA221,qp 2 rfl 0,qx hp248,qn hr248 0] aC fun f253 h253_ => ?_)
     have hoke:e.ok:=(hc248).2.2
     refine sg (cJ (cs:=[I e.prio,I e.seq,I e.run,I e.task]) (e:=243) (pcons (h253_.at 84) bH6) (oJ iA _ _ rfl rfl eS) st242 ?_);intro b254 W255 hb256 st257
     refine sg (mT (ys:=[(⟨e.prio,e.seq,e.run,e.task⟩:Entry)]) iA (h253_.at 76) rfl rfl st257.f1 (Elems.one1 (show Shape.C _ [I e.prio,I e.seq,I e.run,I e.task] e [] from ⟨rfl,rfl,hoke⟩)) (by unfold maxLen;omega) aA ?_);intro v260 W261 st262
     refine sg (bI (v:=v260) rfl (aI (aD (rn st262 3 h253_.put.put.put [10] [(10,I ((j:Int)+1))] [qad (j:Int) 1] aC fun f266 h266_=>(aI ?_)))))
     exact ⟨_,l.length - (j+1),aA,rfl,j+1,v260,aA,rfl,(h266_.to aC),(by rw[flE_t he aA];exact st262)⟩
    refine wp_skip (aD (rn st242 3 h250_ [10] [(10,I ((j:Int)+1))] [qad (j:Int) 1] aC fun f268 h268_=>(aI ?_)))
    exact ⟨_,l.length - (j+1),aA,rfl,j+1,v237,aA,rfl,(h268_.to aC),(by rw[flE_f he aA];exact st242)⟩
   refine wp_exit ?_
   have hje:j=l.length:=by omega
   rw[hje,take_length] at st242
   obtain ⟨fp269,st270⟩:=st242.shut
   refine aD (rn st270 5 h245_ [] [(90,v237),(91,.pointer (some ⟨b221,pre221.length,none⟩))] [qb 4 rfl 2,qx hPA221] aC fun f272 h272_=>(sgn (kR (i:=0) (v:=v237) aC (h272_.at 91) (h272_.at 90) (Sl.cells (cN (st270.f2.get 1 rfl))) (Sl.one (cN (st270.f2.get 1 rfl))) st270.f2 rfl bH8 rfl ?_)));intro W274 st275
   refine aI (aD (rn st275 3 h272_ [8] [(8,I ((i:Int)+1))] [qad (i:Int) 1] aC fun f277 h277_=>(aI ?_)))
   have st279:=st275.f1.cs1
   obtain ⟨fp283,st284⟩:=St.give (α:=List Entry) st279.f3.f1.f2
   exact ⟨_,y.shelf.length - (i+1),aA,rfl,i+1,fp283,aA,rfl,(h277_.to aC),(by rw[← aA2 hl];exact st284.f6.f6.f2.f6.f6.f6.d6)⟩
  refine wp_exit (wp_seq (aD (sg (nK (cs:=[I y.now,I y.seq,v82_0,v200]) fG rfl (h218_.at 6) (st215.get 0 rfl) rfl rfl (sgn (jM aC (h218_.at 4) rfl (kA rfl (kA rfl (kA (Sl.one (cN (st215.f4.get 4 rfl))) (kA (Sl.one (gI (st215.f4.get 2 rfl))) bB6)))) st215.f4 bH8 rfl ?_))))));intro W295 st296
  refine sg (fO (aI (wr (aQ4 fG rfl results225 (h218_.at 4) (st296.get 0 rfl) rfl rfl ?_))))
  have hie:i=y.shelf.length:=by omega
  rw[aA3 hie] at st296
  have hera:([]++(y.runs.take (aE y id).toNat))++(y.runs.drop ((aE y id).toNat+1))=y.runs.eraseIdx (aE y id).toNat:=by rw[nil_append,eraseIdx_eq_take_drop_succ]
  rw[hera] at st296
  have st299:=st296.f2
  obtain ⟨fp301,st300⟩:=st299.shut
  have st303:=aF2 (x:=(aA1 y id (aE y id).toNat)) st300.f4 hyok
  have hfe:aX y id=((aA1 y id (aE y id).toNat),0):=by rw[iU (aC1 h38) hra hr,if_neg aA]
  rw[hfe]
  exact ⟨_,_,rfl,st303.d1.d1.d1.d1⟩
 refine nI 11 [(none,some 5,.is (Res.es (((CD.drop oD).take (y.runs.length*8)).take ((aE y id).toNat*8)) (y.runs.take (aE y id).toNat) fE0)),(some 0,some 5,.of (ι:=Nat) [34] (fun b339=>[(.slice (some ⟨b339,0,none⟩) 0 0)]) (fun b339=>Res.row (α:=Run) 55 (.slice (some ⟨b339,0,none⟩) 0 0) [] [])),(some 5,none,.of (ι:=Value) [39] (fun v348=>[v348]) (fun v348=>Res.row (α:=Run) 55 v348 ([]++(y.runs.take (aE y id).toNat)) ([]++fE0)))] [(false,.ex (fun (b339:Nat)=>(.slice (some ⟨b339,0,none⟩) 0 0))),(true,.is (.pointer (some ⟨b21,0+3,none⟩))),(true,.is (.slice (some ⟨bD,oD,none⟩) y.runs.length cD)),(true,.is (I (aE y id))),(true,.is (.slice (some ⟨bD,oD,none⟩) (aE y id).toNat cD)),(false,.ex (fun (v348:Value)=>v348)),(true,.is (.pointer (some ⟨b21,0+3,none⟩))),(true,.is (.slice (some ⟨bD,oD,none⟩) y.runs.length cD)),(true,.is (I (aE y id))),(true,.is (I ((aE y id)+1))),(true,.is (.slice (some ⟨bD,oD+((aE y id).toNat+1)*8,none⟩) (y.runs.length - ((aE y id).toNat+1)) (cD - ((aE y id).toNat+1))))] mix aC aC aC aC (rs0:=[Res.es (((CD.drop oD).take (y.runs.length*8)).take ((aE y id).toNat*8)) (y.runs.take (aE y id).toNat) fE0]) ⟨_,_,rfl,rfl,rfl⟩ st88 st88.below ⟨?_,(fq_ lA (h68_.at 6)),(fun f W hst hbl hd hf=>fB wY rfl (hd 1 35 rfl rfl) (hst.get 3 rfl) (i:=3) rfl rfl brq),(mq_ (h68_.at 7)),(fun f W hst hbl hd hf=>uG (h:=(aE y id).toNat) gE (hd 2 36 rfl rfl) (hd 3 37 rfl rfl) aA aA aA brq),?_,(fq_ lA (h68_.at 6)),(fun f W hst hbl hd hf=>fB wY rfl (hd 6 40 rfl rfl) (hst.get 3 rfl) (i:=3) rfl rfl brq),(mq_ (h68_.at 7)),(fun f W hst hbl hd hf=>mA (hd 8 42 rfl rfl) rfl bI1 brq),(fun f W hst hbl hd hf=>nJ (l:=(aE y id).toNat+1) gE (hd 7 41 rfl rfl) (hd 9 43 rfl rfl) aA aA aA brq),trivial⟩ ?_
 ·intro f W ru oth hu hst hbl hd hf
  have hn_:ru=[]:=hu
  subst hn_
  try simp only[cap_,zA] at hst
  refine (cJ (cs:=[]) (e:=55) bH6 (gR qI _) hst ?_);intro b339 W340 hb341 st342
  have st342:=st342.row_empty (α:=Run)
  exact ⟨⟨b339,rfl⟩,⟨_,⟨_,_,rfl,⟨b339,(ce rfl rfl),rfl⟩,rfl⟩,st342⟩,st342.below⟩
 ·intro f W ru oth hu hst hbl hd hf
  obtain ⟨_,_,rfl,rfl,_,_,rfl,⟨b339,he344,rfl⟩,hn_⟩:=hu
  have hn_:_=[]:=hn_
  subst hn_
  have hu344_34:f 34=(.slice (some ⟨b339,0,none⟩) 0 0):=congrArg (fun l=>l.getD 0 undef) he344
  try simp only[cap_,zA] at hst
  have st345:=hst.f3
  refine (jO (α:=Run) (m:=(aE y id).toNat) (o:=oD) qI hu344_34 (hd 4 38 rfl rfl) (by rw[length_take];omega) (fun _=>rfl) (by rw[take_take];congr 1;have hz:(aE y id).toNat*8≤y.runs.length*8:=Nat.mul_le_mul_right _ aA;exact (Nat.min_eq_left hz).symm▸rfl) st345.f1.f2 (by simp only[length_append,length_take,length_nil];unfold maxLen;omega) (by simp only[length_append,length_take,length_nil];omega) ?_);intro v348 W349 st350
  exact ⟨⟨v348,rfl⟩,⟨_,⟨_,_,rfl,⟨v348,(ce rfl rfl),rfl⟩,rfl⟩,st350.f6.f6.f6.f6.f5.f6.f6⟩,st350.f6.f6.f6.f6.f5.f6.f6.below⟩
 intro f358 W359 rs_ hAL_ st362 hbl363 hv360 hf361
 obtain ⟨_,_,rfl,⟨v348,he364,rfl⟩,hn_⟩:=hAL_
 have hn_:_=[]:=hn_
 subst hn_
 have hu364_39:f358 39=v348:=congrArg (fun l=>l.getD 0 undef) he364
 try simp only[cap_,zA] at st362
 have st366:=st362.f2
 refine sg (jO (α:=Run) (m:=y.runs.length - ((aE y id).toNat+1)) (o:=oD+((aE y id).toNat+1)*8) qI hu364_39 (hv360 10 44 eS rfl) (by rw[length_drop]) (fun _=>rfl) (bE3 aA) st366.f2.f2 (by simp only[length_append,length_take,length_nil];unfold maxLen;omega) (by simp only[length_append,length_take,length_nil];omega) ?_);intro v369 W370 st371
 refine sg (fL lA ((hf361 6 rfl).trans (h68_.at 6)) (sgn (mS (v:=v369) aC rfl rfl (Sl.cells (gI (st371.f3.get 1 rfl))) (Sl.one (gI (st371.f3.get 1 rfl))) st371.f3 bH8 rfl ?_)));intro W375 st376
 refine aI (wp_seq (wp_seq (aD (sg (fO (aI (wp_block (kQ (fun (m:Nat) (f:Nat→Value) (W:World)=>∃ (i:Nat) (fo379:List Nat),i≤y.shelf.length∧m=y.shelf.length - i∧Ag [(1,I id),(4,pt_ b6),(6,pt_ b21),(8,I (i:Int))] f∧St w W ([Res.bx b21 [I y.now,I y.seq,v82_0,v369] 27,Res.row (α:=Run) 55 v369 (([]++(y.runs.take (aE y id).toNat))++(y.runs.drop ((aE y id).toNat+1))) (([]++fE0)++fE1),Res.bx bD CD eD,Res.own (α:=List (List Entry)) v82_0 (nY id y.shelf i) fo379,Res.bx b6 [I 0,I 0,.slice none 0 0,.slice none 0 0] 27,Res.bx b1 [I y.now,I y.seq,v65_0,v65_1] 27])) (y.shelf.length - 0) ?_ ?_))))))))
 ·exact ⟨0,g82_0,Nat.zero_le _,rfl,(Ag.cons ((hf361 1 rfl).trans (h68_.at 1)) (Ag.cons ((hf361 4 rfl).trans (h68_.at 4)) (Ag.cons ((hf361 6 rfl).trans (h68_.at 6)) (Ag.cons rfl Ag.nil)))),(by rw[uQ];exact st376)⟩
 intro m380 f381 W382 hJ383
 obtain ⟨i,fo379,hil,rfl,hA385,st384⟩:=hJ383
 have hfl:=aT9 id y.shelf i
 refine wp_seq (wp_seq (aD (rn st384 5 hA385 [] [(51,.bool (decide ((i:Int)<((nY id y.shelf i).length:Int))))] [qb 0 rfl 2,ql (cN (st384.get 3 rfl)),.o] aC fun f387 h387_=>(aI (iK (h387_.at 51) (fun h388p => ?_) (fun h388p => ?_))))))
 ·refine wp_skip (wp_seq (wp_block (wp_seq ?_)))
  have hq_:=pX (xs:=y.shelf) (i:=i) aA
  obtain ⟨l,hl⟩:=hq_
  have hla:=aN4 (id:=id) hl
  have hl80:=mB (hY.each l (mem_of_getElem? hl))
  have hq_:=St.lendx (α:=List Entry) eS st384.f3 (x:=l) hla
  obtain ⟨b390,e390,pre390,cs390,post390,fi390,fr390,hPA390,hC390,st391⟩:=hq_
  have hq_:=st391.f1.uncs1
  obtain ⟨v390,he390,st396⟩:=hq_;subst he390
  refine aD (sg (cJ (cs:=[]) (e:=243) bH6 (gR iA _) st396 ?_));intro b397 W398 hb399 st400
  have st400:=st400.row_empty (α:=Entry)
  refine sg (bI (v:=(.slice (some ⟨b397,0,none⟩) 0 0)) rfl (aI (wp_seq (wp_seq (aD (sg (fO (aI (wp_block (kQ (fun (m:Nat) (f:Nat→Value) (W:World)=>∃ (j:Nat) (v406:Value),j≤l.length∧m=l.length - j∧Ag [(1,I id),(4,pt_ b6),(6,pt_ b21),(8,I (i:Int)),(9,v406),(10,I (j:Int))] f∧St w W ([Res.row (α:=Entry) 243 v406 (flE id (l.take j)) [],Res.own (α:=List Entry) v390 l fi390,Res.bx b390 (pre390++[v390]++post390) e390,Res.rest (α:=(List Entry)) v82_0 b390 pre390 post390 (nY id y.shelf i) i fr390,Res.bx b21 [I y.now,I y.seq,v82_0,v369] 27,Res.row (α:=Run) 55 v369 (([]++(y.runs.take (aE y id).toNat))++(y.runs.drop ((aE y id).toNat+1))) (([]++fE0)++fE1),Res.bx bD CD eD,Res.bx b6 [I 0,I 0,.slice none 0 0,.slice none 0 0] 27,Res.bx b1 [I y.now,I y.seq,v65_0,v65_1] 27])) (l.length - 0) ?_ ?_))))))))))
  ·exact ⟨0,(.slice (some ⟨b397,0,none⟩) 0 0),Nat.zero_le _,rfl,(h387_.put.put.put.to aC),st400⟩
  intro m407 f408 W409 hJ410
  obtain ⟨j,v406,hjl,rfl,hA412,st411⟩:=hJ410
  have hfn:=aN3 id (l.take j)
  have htl:=length_take_le j l
  refine wp_seq (wp_seq (aD (rn st411 8 hA412 [] [(62,.bool (decide ((j:Int)<(l.length:Int))))] [qb 4 rfl 2,qx hPA390,qp 2 rfl 0,ql (cN (st411.get 1 rfl)),.o] aC fun f414 h414_=>(aI (iK (h414_.at 62) (fun h415p => ?_) (fun h415p => ?_))))))
  ·refine wp_skip (wp_seq (wp_block (wp_seq ?_)))
   have hq_:=pX (xs:=l) (i:=j) aA
   obtain ⟨e,he⟩:=hq_
   refine aD ?_
   have hi1fd33:j<l.length:=(gsi_.1 he).1
   obtain ⟨b417,o417,cs417,f417,hp417,hr417,hc417,hm417⟩:=idxq (cN (st411.get 1 rfl)) (i:=j) he
   have hk418:=hc417
   obtain ⟨he418,rfl,hok418⟩:=hk418
   have he418:_=[I e.prio,I e.seq,I e.run,I e.task]:=he418
   subst he418
   refine rn st411 11 h414_ [] [(75,.bool (!decide (e.run=id)))] [qb 4 rfl 2,qx hPA390,qp 2 rfl 0,qx hp417,qn hr417 2,.o] aC fun f419 h419_=>(aI (bJ5 (h419_.at 75) (fun h420p => ?_) (fun h420p => ?_)))
   ·refine aD (rn st411 9 h419_ [] [(76,v406),(84,.agg #[I e.prio,I e.seq,I e.run,I e.task])] [qb 4 rfl 2,qx hPA390,qp 2 rfl 0,qx hp417,qn hr417 0] aC fun f422 h422_ => ?_)
    have hoke:e.ok:=(hc417).2.2
    refine sg (cJ (cs:=[I e.prio,I e.seq,I e.run,I e.task]) (e:=243) (pcons (h422_.at 84) bH6) (oJ iA _ _ rfl rfl eS) st411 ?_);intro b423 W424 hb425 st426
    refine sg (mT (ys:=[(⟨e.prio,e.seq,e.run,e.task⟩:Entry)]) iA (h422_.at 76) rfl rfl st426.f1 (Elems.one1 (show Shape.C _ [I e.prio,I e.seq,I e.run,I e.task] e [] from ⟨rfl,rfl,hoke⟩)) (by unfold maxLen;omega) aA ?_);intro v429 W430 st431
    refine sg (bI (v:=v429) rfl (aI (aD (rn st431 3 h422_.put.put.put [10] [(10,I ((j:Int)+1))] [qad (j:Int) 1] aC fun f435 h435_=>(aI ?_)))))
    exact ⟨_,l.length - (j+1),aA,rfl,j+1,v429,aA,rfl,(h435_.to aC),(by rw[flE_t he aA];exact st431)⟩
   refine wp_skip (aD (rn st411 3 h419_ [10] [(10,I ((j:Int)+1))] [qad (j:Int) 1] aC fun f437 h437_=>(aI ?_)))
   exact ⟨_,l.length - (j+1),aA,rfl,j+1,v406,aA,rfl,(h437_.to aC),(by rw[flE_f he aA];exact st411)⟩
  refine wp_exit ?_
  have hje:j=l.length:=by omega
  rw[hje,take_length] at st411
  obtain ⟨fp438,st439⟩:=st411.shut
  refine aD (rn st439 5 h414_ [] [(90,v406),(91,.pointer (some ⟨b390,pre390.length,none⟩))] [qb 4 rfl 2,qx hPA390] aC fun f441 h441_=>(sgn (kR (i:=0) (v:=v406) aC (h441_.at 91) (h441_.at 90) (Sl.cells (cN (st439.f2.get 1 rfl))) (Sl.one (cN (st439.f2.get 1 rfl))) st439.f2 rfl bH8 rfl ?_)));intro W443 st444
  refine aI (aD (rn st444 3 h441_ [8] [(8,I ((i:Int)+1))] [qad (i:Int) 1] aC fun f446 h446_=>(aI ?_)))
  have st448:=st444.f1.cs1
  obtain ⟨fp452,st453⟩:=St.give (α:=List Entry) st448.f3.f1.f2
  exact ⟨_,y.shelf.length - (i+1),aA,rfl,i+1,fp452,aA,rfl,(h446_.to aC),(by rw[← aA2 hl];exact st453.f6.f6.f2.f6.f6.f6.d6)⟩
 refine wp_exit (wp_seq (aD (sg (nK (cs:=[I y.now,I y.seq,v82_0,v369]) fG rfl (h387_.at 6) (st384.get 0 rfl) rfl rfl (sgn (jM aC (h387_.at 4) rfl (kA rfl (kA rfl (kA (Sl.one (cN (st384.f4.get 4 rfl))) (kA (Sl.one (gI (st384.f4.get 2 rfl))) bB6)))) st384.f4 bH8 rfl ?_))))));intro W464 st465
 refine sg (fO (aI (wr (aQ4 fG rfl results225 (h387_.at 4) (st465.get 0 rfl) rfl rfl ?_))))
 have hie:i=y.shelf.length:=by omega
 rw[aA3 hie] at st465
 have hera:([]++(y.runs.take (aE y id).toNat))++(y.runs.drop ((aE y id).toNat+1))=y.runs.eraseIdx (aE y id).toNat:=by rw[nil_append,eraseIdx_eq_take_drop_succ]
 rw[hera] at st465
 have st468:=st465.f2
 obtain ⟨fp470,st469⟩:=st468.shut
 have st472:=aF2 (x:=(aA1 y id (aE y id).toNat)) st469.f4 hyok
 have hfe:aX y id=((aA1 y id (aE y id).toNat),0):=by rw[iU (aC1 h38) hra hr,if_neg aA]
 rw[hfe]
 exact ⟨_,_,rfl,st472.d1.d1.d1.d1⟩
def dF (c:Int):Reply:=⟨c,0,0,0⟩
noncomputable def doD (y:Yard) (d:Deed):Yard×Reply:=
 if aT d=false then (y,dF 5) else if d.kind=1 then ((bA y d.run d.plan).1,dF (bA y d.run d.plan).2) else if d.kind=2 then eY y d.worker d.draw else if d.kind=3 then (dZ y d.run d.task d.try_,dF (dB y d.run d.task d.try_))
 else if d.kind=4 then (mK y d.run d.task d.try_,dF (dB y d.run d.task d.try_)) else if d.kind=5 then ((dH y).1,dF (dH y).2) else if d.kind=6 then ((bJ y d.run).1,dF (bJ y d.run).2)
 else if d.kind=7 then ((aX y d.run).1,dF (aX y d.run).2) else (cX y,dF (if aK y=true then 0 else 8))
theorem eC {c:Int} (h : -100≤c∧c≤100):(dF c).ok:=by simp only[dF,Reply.ok,I64];omega
theorem deedOk_edges {d:Deed} (h:aT d=true):d.plan.edges.length≤31:=by
 unfold aT at h
 simp only[Bool.and_eq_true,decide_eq_true_eq] at h
 exact h.1.1.2
theorem qT (y:Yard) (id:Int) (p:Plan) : -100≤(bA y id p).2∧(bA y id p).2≤100:=by
 have:=pf_rng p
 unfold bA
 repeat' split
 all_goals first | (simp only;omega) | (show -100≤aG p∧aG p≤100;omega)
theorem xV (y:Yard) : -100≤(dH y).2∧(dH y).2≤100:=by
 unfold dH
 repeat' split
 all_goals (simp only;omega)
theorem rC (y:Yard) (id:Int) : -100≤(bJ y id).2∧(bJ y id).2≤100:=by
 unfold bJ
 repeat' split
 all_goals (simp only;omega)
theorem qZ (y:Yard) (id:Int) : -100≤(aX y id).2∧(aX y id).2≤100:=by
 unfold aX
 repeat' split
 all_goals (simp only;omega)

theorem own_yi {w W:World} {e:Ending} {x:Yard} {n:Int} (h:∃ (cs':List Value) (fp':List Nat),e = .returned (.tuple #[.agg cs'.toArray,I n])∧St w W [Res.own (.agg cs'.toArray) x fp']):∃ (a:Unit) (vs:List Value) (rs:List Res),True∧e = .returned (uI vs)∧Rks vs [Rk.S x,Rk.I n] rs∧St w W rs:=by
 obtain ⟨cs,fp,he,st⟩:=h
 exact ⟨(),[.agg cs.toArray,I n],[Res.cs cs x fp],trivial,he,⟨[Res.cs cs x fp],[],⟨cs,fp,rfl,rfl⟩,⟨[],[],⟨rfl,rfl⟩,rfl,rfl⟩,rfl⟩,st.cs rfl⟩
structure SubJ (y:Yard) (id:Int) (p:Plan):Prop where
 ss:4≤y.shelf.length
 sq:0≤y.seq∧y.seq≤4000000000
 tl:(bK id p).tasks.length≤12
 tk:(aM (bK id p).tasks 2).length≤12
 ln:(y.shelf.getD (aU (bK id p).id).toNat []).length≤80
 r8:y.runs.length<8
 nw:kD id p=true
 ok:(bJ9 y id p).ok
theorem sub_j {y:Yard} {id:Int} {p:Plan} (gp:p.ok) (h0:aK y=true) (h1:inB id 1 9999=true) (h3:aG p=0) (h4:gN y p=true):SubJ y id p:=by
 have hY:=gU h0
 have hplr:=aR1 h3
 have hrq:y.seq≤999999000 - p.tasks∧y.runs.length<8:=by unfold gN at h4;simp at h4;omega
 have hsq:=hY.seq
 have hss:=hY.shelf
 have htl:(bK id p).tasks.length=p.tasks.toNat:=iI p _
 have htk:(aM (bK id p).tasks 2).length≤(bK id p).tasks.length:=fT _ _ _
 have hsh:=fU id
 have hnow:=hY.now
 refine ⟨by omega,by omega,by omega,by omega,Nat.le_trans (jS hY _ (by have:aU (bK id p).id=aU id:=rfl;omega)) eS,hrq.2,by unfold kD;simp[h1,h3],?_⟩
 show I64 _∧I64 _
 simp only[bJ9,I64];omega
theorem sub_8 {y:Yard} {id:Int} {p:Plan} (h0:aK y=false):(y,(8:Int))=bA y id p:=by unfold bA;rw[if_pos h0]
theorem sub_5 {y:Yard} {id:Int} {p:Plan} (h0:aK y=true) (h1:inB id 1 9999=false):(y,(5:Int))=bA y id p:=by unfold bA;rw[if_neg (by rw[h0];decide),if_pos h1]
theorem sub_6 {y:Yard} {id:Int} {p:Plan} (h0:aK y=true) (h1:inB id 1 9999=true) (h2:0≤aE y id):(y,(6:Int))=bA y id p:=by unfold bA;rw[if_neg (by rw[h0];decide),if_neg (by rw[h1];decide),if_pos h2]
theorem sub_p {y:Yard} {id:Int} {p:Plan} (h0:aK y=true) (h1:inB id 1 9999=true) (h2:¬ 0≤aE y id) (h3:¬ aG p=0):(y,aG p)=bA y id p:=by unfold bA;rw[if_neg (by rw[h0];decide),if_neg (by rw[h1];decide),if_neg h2,if_pos h3]
theorem sub_7 {y:Yard} {id:Int} {p:Plan} (h0:aK y=true) (h1:inB id 1 9999=true) (h2:¬ 0≤aE y id) (h3:aG p=0) (h4:gN y p=false):(y,(7:Int))=bA y id p:=by unfold bA;rw[if_neg (by rw[h0];decide),if_neg (by rw[h1];decide),if_neg h2,if_neg (by simp[h3]),if_pos h4]
theorem sub_0 {y:Yard} {id:Int} {p:Plan} {q:Int×List (List Entry)} (h0:aK y=true) (h1:inB id 1 9999=true) (h2:¬ 0≤aE y id) (h3:aG p=0) (h4:gN y p=true) (hq:sG (bK id p) (aM (bK id p).tasks 2) y.seq y.shelf q):((⟨y.now,q.1,q.2,y.runs++[bK id p]⟩:Yard),(0:Int))=bA y id p:=by
 unfold bA;rw[if_neg (by rw[h0];decide),if_neg (by rw[h1];decide),if_neg h2,if_neg (by simp[h3]),if_neg (by rw[h4];decide)]
 have hq:q=_:=hq
 rw[hq];rfl
theorem sub_g {y:Yard} {id:Int} {p:Plan} {q:Int×List (List Entry)} (hj:SubJ y id p) (hq:sG (bK id p) (aM (bK id p).tasks 2) y.seq y.shelf q):(⟨y.now,q.1,q.2,y.runs++[bK id p]⟩:Yard).ok:=by
 have hq:q=_:=hq
 rw[hq];exact hj.ok
theorem new_t {P:Program} {F:FuncId} {id:Int} {p:Plan} {ps:List Par} (h:kD id p=true) (C:Ct1 P F ps [.S (yX id p),.B (kD id p)]):Ct1 P F ps [.S (bK id p),.B true]:=by rw[bN1 h,h] at C;exact C
theorem Submit_s (y:Yard) (id:Int) (p:Plan) (hw:y.wt≤1048576) (hp:p.wt≤1048576):Ct1 prog 219 [.S y,.I id,.S p] [.S (bA y id p).1,.I (bA y id p).2]:=
 .one (bA y id p) (rk:=fun q=>[.S q.1,.I q.2])<|vc func219 (fun (hg:gin [Par.S y,Par.I id,Par.S p])=>let gy:=hg.1.1
  let gp:p.ok:=hg.2.1.1
  .c func184 (CopyYardR_s y hw) (hg:=⟨gy,trivial⟩) fun _ => .c func185 (iW y hw) (hg:=⟨gy,trivial⟩) fun _ => .v (aK y) (fun h0 => .rt (y,8) ⟨sub_8 h0,gy,trivial⟩) (fun h0=>
  .c func138 (InV id 1 9999) fun _ => .v (inB id 1 9999) (fun h1 => .rt (y,5) ⟨sub_5 h0 h1,gy,trivial⟩) (fun h1=>
  .c func291 (jT y id hw) (hg:=⟨gy,trivial⟩) fun _ => .s ((0:Int)≤aE y id) (fun h2 => .rt (y,6) ⟨sub_6 h0 h1 h2,gy,trivial⟩) (fun h2=>
  .c func325 (mO p) (hg:=⟨gp,trivial⟩) fun _ => .u (aG p=0) (fun h3 => .c func325 (mO p) (hg:=⟨gp,trivial⟩) fun _ => .rt (y,aG p) ⟨sub_p h0 h1 h2 h3,gy,trivial⟩) (fun h3=>
  .c func326 (RoomFor_s y p hw) (hg:=⟨gy,gp,trivial⟩) fun _ => .v (gN y p) (fun h4 => .rt (y,7) ⟨sub_7 h0 h1 h2 h3 h4,gy,trivial⟩) (fun h4=>let hj:=sub_j gp h0 h1 h3 h4
  .c func327 (new_t hj.nw (RunNew_s id p)) (hg:=⟨gp,trivial⟩) fun hz=>let gr:(bK id p).ok:=hz.1.1
  .az inferInstance y.runs (bK id p) gr 96 (by have:=hj.r8;unfold maxLen;omega) (by have:=hj.r8;omega) <| .in_ func328 (layD true 13 6 7 y.now y.seq y.shelf zRun (bK id p) hj.ss (Nat.le_trans hj.ln aA) (by have:=hj.tl;omega) hj.sq gr (fun _=>rfl)) fun q hq0=>let hq:sG (bK id p) (aM (bK id p).tasks 2) y.seq y.shelf q:=(by rw[← fresh_zero];exact hq0)
      .zr 7 <| .rt (⟨y.now,q.1,q.2,y.runs++[bK id p]⟩,0) ⟨sub_0 h0 h1 h2 h3 h4 hq,sub_g hj hq,trivial⟩)))))) aC
theorem Forget_s (y:Yard) (id:Int) (hid:I64 id) (hw:y.wt≤1048576):Ct1 prog 225 [.S y,.I id] [.S (aX y id).1,.I (aX y id).2]:=⟨fun w us _ hps=>by
 match us,hps with
 | [_,_],⟨⟨cs,fp,rfl,hc⟩,rfl,_⟩=>exact (ForgetS w hc id hid hw).mono fun e w' h=>own_yi h⟩
theorem dd_wt {d:Deed} (h:aT d=true):d.plan.wt≤1048576:=by have:=deedOk_edges h;unfold Plan.wt;omega
theorem bE8 {d:Deed} (h:aT d=true):1≤d.kind∧d.kind≤8:=by
 unfold aT at h
 simp only[Bool.and_eq_true] at h
 exact inB_iff.1 h.1.1.1
theorem do_0 {y:Yard} {d:Deed} (h:aT d=false):(y,dF 5)=doD y d:=by unfold doD;rw[if_pos h]
theorem do_1 {y:Yard} {d:Deed} (h:aT d=true) (hk:d.kind=1):((bA y d.run d.plan).1,dF (bA y d.run d.plan).2)=doD y d:=by unfold doD;rw[if_neg (by rw[h];simp),if_pos hk]
theorem do_2 {y:Yard} {d:Deed} (h:aT d=true) (hk:d.kind=2):eY y d.worker d.draw=doD y d:=by unfold doD;rw[if_neg (by rw[h];simp),if_neg aA,if_pos hk]
theorem do_3 {y:Yard} {d:Deed} (h:aT d=true) (hk:d.kind=3):(dZ y d.run d.task d.try_,dF (dB y d.run d.task d.try_))=doD y d:=by unfold doD;rw[if_neg (by rw[h];simp),if_neg aA,if_neg aA,if_pos hk]
theorem do_4 {y:Yard} {d:Deed} (h:aT d=true) (hk:d.kind=4):(mK y d.run d.task d.try_,dF (dB y d.run d.task d.try_))=doD y d:=by unfold doD;rw[if_neg (by rw[h];simp),if_neg aA,if_neg aA,if_neg aA,if_pos hk]
theorem do_5 {y:Yard} {d:Deed} (h:aT d=true) (hk:d.kind=5):((dH y).1,dF (dH y).2)=doD y d:=by unfold doD;rw[if_neg (by rw[h];simp),if_neg aA,if_neg aA,if_neg aA,if_neg aA,if_pos hk]
theorem do_6 {y:Yard} {d:Deed} (h:aT d=true) (hk:d.kind=6):((bJ y d.run).1,dF (bJ y d.run).2)=doD y d:=by unfold doD;rw[if_neg (by rw[h];simp),if_neg aA,if_neg aA,if_neg aA,if_neg aA,if_neg aA,if_pos hk]
theorem do_7 {y:Yard} {d:Deed} (h:aT d=true) (hk:d.kind=7):((aX y d.run).1,dF (aX y d.run).2)=doD y d:=by unfold doD;rw[if_neg (by rw[h];simp),if_neg aA,if_neg aA,if_neg aA,if_neg aA,if_neg aA,if_neg aA,if_pos hk]
theorem do_8 {y:Yard} {d:Deed} (h:aT d=true) (hk:d.kind=8) (c:Int) (hc:(if aK y=true then 0 else 8)=c):(cX y,dF c)=doD y d:=by unfold doD;rw[if_neg (by rw[h];simp),if_neg aA,if_neg aA,if_neg aA,if_neg aA,if_neg aA,if_neg aA,if_neg aA,← hc]
theorem aO1 (y:Yard) (a b c:Int):(dF (dB y a b c)).ok:=eC (by have:=askF_rng y a b c;omega)
theorem Do_s (y:Yard) (d:Deed) (hw:y.wt≤1048576):Ct1 prog 115 [.S y,.S d] [.S (doD y d).1,.S (doD y d).2]:=
 .one (doD y d) (rk:=fun q=>[.S q.1,.S q.2])<|vc func115 (fun (hg:gin [Par.S y,Par.S d])=>let gy:=hg.1.1
  let gd:d.ok:=hg.2.1.1
  .c func217 (aV2 d) (hg:=⟨gd,trivial⟩) fun _ => .v (aT d)
   (fun h => .c func184 (eG y hw) (hg:=⟨gy,trivial⟩) fun _ => .rt (y,dF 5) ⟨do_0 h,gy,eC aA,trivial⟩)
   (fun h=>let hk:=bE8 h
    .s (d.kind=1)
    (fun h1 => .c func219 (Submit_s y d.run d.plan hw (dd_wt h)) (hg:=⟨gy,gd.2.2.1,trivial⟩) fun hz => .rt ((bA y d.run d.plan).1,dF (bA y d.run d.plan).2) ⟨do_1 h h1,hz.1.1,eC (qT y d.run d.plan),trivial⟩)
    (fun h1 => .s (d.kind=2)
    (fun h2 => .c func220 (Poll_s y d.worker d.draw hw gd.2.2.2.2.2.2) (hg:=⟨gy,trivial⟩) fun hz => .rt (eY y d.worker d.draw) ⟨do_2 h h2,hz.1.1,hz.2.1.1,trivial⟩)
    (fun h2 => .s (d.kind=3)
    (fun h3 => .c func221 (Complete_s y d.run d.task d.try_ hw) (hg:=⟨gy,trivial⟩) fun hz => .rt (dZ y d.run d.task d.try_,dF (dB y d.run d.task d.try_)) ⟨do_3 h h3,hz.1.1,aO1 _ _ _ _,trivial⟩)
    (fun h3 => .s (d.kind=4)
    (fun h4 => .c func222 (Fail_s y d.run d.task d.try_ hw) (hg:=⟨gy,trivial⟩) fun hz => .rt (mK y d.run d.task d.try_,dF (dB y d.run d.task d.try_)) ⟨do_4 h h4,hz.1.1,aO1 _ _ _ _,trivial⟩)
    (fun h4 => .s (d.kind=5)
    (fun h5 => .c func223 (Tick_s y hw) (hg:=⟨gy,trivial⟩) fun hz => .rt ((dH y).1,dF (dH y).2) ⟨do_5 h h5,hz.1.1,eC (xV y),trivial⟩)
    (fun h5 => .s (d.kind=6)
    (fun h6 => .c func224 (Cancel_s y d.run hw) (hg:=⟨gy,trivial⟩) fun hz => .rt ((bJ y d.run).1,dF (bJ y d.run).2) ⟨do_6 h h6,hz.1.1,eC (rC y d.run),trivial⟩)
    (fun h6 => .s (d.kind=7)
    (fun h7 => .c func225 (Forget_s y d.run gd.2.1 hw) (hg:=⟨gy,trivial⟩) fun hz => .rt ((aX y d.run).1,dF (aX y d.run).2) ⟨do_7 h h7,hz.1.1,eC (qZ y d.run),trivial⟩)
    (fun h7 => .c func226 (Restart_s y hw) (hg:=⟨gy,trivial⟩) fun hz => .c func185 (iW y hw) (hg:=⟨gy,trivial⟩) fun _ => .v (aK y)
     (fun h9 => .rt (cX y,dF 8) ⟨do_8 h aA 8 (by rw[h9];rfl),hz.1.1,eC aA,trivial⟩)
     (fun h9 => .rt (cX y,dF 0) ⟨do_8 h aA 0 (by rw[h9];rfl),hz.1.1,eC aA,trivial⟩)))))))))) aC
section
variable {p q:Entry→Bool} {xs:List Entry} {k m c:Nat} {e:Entry} {g:Nat×Nat×List Entry}
theorem bE7 (hpq:∀ e,q e = !p e) (h:xs.any p=false):xs=xs.filter q:=by
 symm;rw[filter_eq_self];intro x hx;rw[hpq,Bool.not_eq_true'];simpa using any_eq_false.1 h x hx
theorem dl_some (hpq:∀ e,q e = !p e) (hk:xs[k]? = some e) (h:(xs.take k).any p=false) (hp:p e=true):xs.take k=(xs.take (k+1)).filter q:=by
 rw[← cU hk,filter_append,← bE7 hpq h];simp[hpq,hp]
theorem dl_any (h:xs[k]? = some e) (h0:(xs.take k).any p=false) (hp:¬ p e=true):(xs.take (k+1)).any p=false:=by
 rw[← cU h,any_append,h0];simp[hp]
def DlF (q:Entry→Bool) (xs:List Entry):Option Nat→Prop
 | none=>xs=xs.filter q
 | some k=>k<xs.length∧xs.take k=(xs.take (k+1)).filter q
structure DlJ (q:Entry→Bool) (xs:List Entry) (g:Nat×Nat×List Entry):Prop where
 lt:g.2.1<g.1
 le:g.1≤xs.length
 len:g.2.2.length=xs.length
 tk:g.2.2.take g.2.1=(xs.take g.1).filter q
 dr:g.2.2.drop g.1=xs.drop g.1
theorem DlJ.at_ (h:DlJ q xs g) (he:g.2.2[g.1]? = some e):xs[g.1]? = some e:=by
 have h1:(g.2.2.drop g.1)[0]? = some e:=by simpa using he
 rw[h.dr] at h1;simpa using h1
theorem DlJ.dr1 (h:DlJ q xs g):g.2.2.drop (g.1+1)=xs.drop (g.1+1):=by
 have:=congrArg (fun l=>l.drop 1) h.dr
 simpa [drop_drop,Nat.add_comm] using this
theorem DlJ.skip (h:DlJ q xs g) (he:g.2.2[g.1]? = some e) (hq:q e=false):DlJ q xs (g.1+1,g.2.1,g.2.2):=by
 have h1:=h.at_ he
 have h2:=(gsi_.1 h1).1
 have h3:=h.lt
 exact ⟨by show g.2.1<g.1+1;omega,h2,h.len,by show g.2.2.take g.2.1=(xs.take (g.1+1)).filter q;rw[← cU h1,filter_append,h.tk];simp[hq],h.dr1⟩
theorem DlJ.keep (h:DlJ q xs g) (he:g.2.2[g.1]? = some e) (hq:q e=true):DlJ q xs (g.1+1,g.2.1+1,g.2.2.set g.2.1 e):=by
 have h1:=h.at_ he
 have h2:=(gsi_.1 h1).1
 have h3:=h.lt
 have h4:=h.len
 refine ⟨by show g.2.1+1<g.1+1;omega,h2,by show (g.2.2.set g.2.1 e).length=_;rw[length_set,h4],?_,?_⟩
 ·show (g.2.2.set g.2.1 e).take (g.2.1+1)=(xs.take (g.1+1)).filter q
  rw[← cU h1,filter_append,← h.tk,← cU (getElem?_set_self (show g.2.1<g.2.2.length by omega)),take_set_of_le (Nat.le_refl _)];simp[hq]
 show (g.2.2.set g.2.1 e).drop (g.1+1)=xs.drop (g.1+1)
 rw[drop_set_of_lt aA];exact h.dr1
theorem DlJ.all (h:DlJ q xs g) (hn:¬ (g.1:Int)<g.2.2.length):g.2.2.take g.2.1=xs.filter q:=by
 have h4:=h.len
 rw[h.tk,take_of_length_le aA]
end
noncomputable def delD (j:Nat) (xs:List Entry) (hl:xs.length≤1048576) (p q:Entry→Bool) (hpq:∀ e,q e = !p e) (call:∀ {A:Type} {R:A→Prop} (e:Entry),Dsh.good e→D prog R→D prog R):D prog (fun _:Unit=>True):=
 .in_ (R':=DlF q xs) func382 (
  .la (Γ:=Nat) (fun k=>k≤xs.length∧(xs.take k).any p=false) (fun k=>xs.length - k) (fun k=>[vI 8 k]) (fun _=>[]) 0 (h:=⟨Nat.zero_le _,rfl⟩) fun k hk t=>
   .s ((k:Int)<xs.length)
    (fun h => .x xs k (h:=by omega) fun e he ge=>call e ge <| .sb (p e)
     (fun hp => .rt (some k) ⟨by omega,dl_some hpq he hk.2 hp⟩)
     (fun hp => .p k 1 (h:=by unfold I64;omega) <| .n t (k+1) [] (h1:=⟨by omega,dl_any he hk.2 (by rw[hp];simp)⟩)))
    (fun h => .rt none (bE7 hpq (by have:=hk.2;rwa [take_of_length_le aA] at this)))) fun o=>match o with
 | none=>fun ho => .kt ((-1:Int) = -1) rfl <| .g j ho <| .rt () trivial
 | some k=>fun ho=>let hk:k<xs.length:=ho.1
  .kf ((k:Int) = -1) aA <| .p k 1 (h:=by unfold I64;omega) <| .la (Γ:=Nat×Nat×List Entry) (DlJ q xs) (fun g=>xs.length - g.1) (fun g=>[vI 6 g.1,vI 5 g.2.1]) (fun g=>[oO j g.2.2]) (k+1,k,xs) (h:=⟨Nat.lt_succ_self k,hk,rfl,ho.2,rfl⟩) fun g hJ t=>
   let h1:=hJ.lt
   let h2:=hJ.le
   let h3:=hJ.len
   .s ((g.1:Int)<g.2.2.length)
    (fun h => .x g.2.2 g.1 (h:=by omega) fun e he ge=>call e ge <| .v (p e)
     (fun hp => .ex (p:=fun x=>g.2.2[g.2.1]? = some x) ⟨g.2.2[g.2.1]'(by omega),getElem?_eq_getElem _⟩ fun x hx => .d j hx fun _ => .i g.2.1 <| .wt 34 <| .f j g.2.2 e (h:=ge) <| .p g.2.1 1 (h:=by unfold I64;omega) <| .p g.1 1 (h:=by unfold I64;omega) <| .n t (g.1+1,g.2.1+1,g.2.2.set g.2.1 e) [] (h1:=hJ.keep he (by rw[hpq,hp];rfl)) (h2:=by show xs.length - (g.1+1)<_;omega))
     (fun hp => .p g.1 1 (h:=by unfold I64;omega) <| .n t (g.1+1,g.2.1,g.2.2) [] (h1:=hJ.skip he (by rw[hpq,hp];rfl)) (h2:=by show xs.length - (g.1+1)<_;omega)))
    (fun h => .dp inferInstance g.2.2 g.2.1 aA g.2.1 rfl <| .cz inferInstance j g.2.2 g.2.1 aA <| .dz <| .g j (hJ.all h) <| .rt () trivial)
theorem bF9 (y:Yard) (sh:Int) (hw:y.wt≤1048576):Ct1 prog 305 [.S y,.I sh] [.S (aV y sh)]:=
 .one (aV y sh) (rk:=fun x=>[.S x])<|vc func305 (fun (hg:gin [Par.S y,Par.I sh])=>let gy:=hg.1.1
  let hsl:=dV y hw
  .c func119 (eH y hw) (hg:=⟨gy,trivial⟩) fun _ => .m (y.shelf.length:Int) 1 (h:=by unfold I64;omega) <| .c func92 (bN sh 0 ((y.shelf.length:Int) - 1)) fun _ => .v (inB sh 0 ((y.shelf.length:Int) - 1))
   (fun h => .rt y ⟨sw_no h,gy,trivial⟩)
   (fun h => .ex (rW h) fun l hl=>let hll:=jG hl hw
    .d 4 hl fun _ => .ie sh.toNat sh (he:=gT h) <| .in_ func318 (delD 8 l aA (fun e => !fresh y e) (fresh y) (fun e=>(Bool.not_not _).symm)
     (fun e ge d => .in_ (R':=fun _:Unit=>True) func380 (.c func346 (bG8 y e hw) (hg:=⟨gy,ge,trivial⟩) fun _ => .rt () trivial) fun _ _=>d)) fun _ _=>
    .ie sh.toNat sh (he:=gT h) <| .wt 26 <| .f 4 y.shelf (l.filter (fresh y)) (h:=trivial) <|
     .rt ⟨y.now,y.seq,y.shelf.set sh.toNat (l.filter (fresh y)),y.runs⟩ ⟨sw_in h hl,gy,trivial⟩)) aC
noncomputable def delRunInc (xs:List Run) (k:Nat) (hk:k<xs.length) (hxl:xs.length≤1048576) (e1 e2:Int) (h1:e1=k) (h2:e2=(k:Int)+1):Inc prog 317 (fun _:Unit=>True) where
 T:=fun s us K=>match us with
  | [.on (.ce (.rf j h)),.on (.ce (.vl v1)),.on (.ce (.vl v2))]=>match lku s.O j with
   | some (.own i h' xs' _) => .e0 h h' <| .e1 (⟨i,xs'⟩:Dat) ⟨instShapeRun,xs⟩ <| .e0 v1 (I e1) <| .e0 v2 (I e2) <| .fn fun r:Hd×List Nat=>K () (.on (.ce (.rf j r.1))) ⟨s.E,(j,.own instShapeRun r.1 (xs.eraseIdx k) r.2)::bZ s.O j,lasting s.B,s.nx⟩
   | _ => .no
  | _ => .no
 ok:=by
  intro w0 W s us K h st fa
  split at h
  ·next j hd v1 v2=>
   split at h
   ·next i h' xs' fp hj=>
    obtain ⟨rfl,h2',h3,h4,h5⟩:=h
    subst h1 h2
    simp only[Dat.mk.injEq] at h2'
    obtain ⟨rfl,h6,h7⟩:=h2'
    obtain ⟨rfl,rfl⟩:=And.intro (eq_of_heq h6) (eq_of_heq h7)
    subst h3 h4
    have st2:=St.take (rs:=[]) (by simpa [Or,S.rs] using st) hj
    rw[append_nil] at st2
    refine (DeleteRun st2 hk hxl).mono ?_
    rintro e W' ⟨v',fp',rfl,st'⟩
    obtain ⟨hd,rfl,_⟩:=Sl.hd (cN (st'.get 0 rfl))
    exact ⟨(),.on (.ce (.rf j hd)),_,trivial,h5 (hd,fp'),rfl,st',fa.lasting⟩
   exact h.elim
  exact h.elim
theorem fg_8 {y:Yard} {id:Int} (h:aK y=false):(y,(8:Int))=aX y id:=by unfold aX;rw[if_pos h]
theorem Forget_i (y:Yard) (id:Int) (hid:I64 id) (hw:y.wt≤1048576):Ct1 prog 211 [.S y,.I id] [.S (aX y id).1,.I (aX y id).2]:=
 .one (aX y id) (rk:=fun q=>[.S q.1,.I q.2])<|vc func211 (fun (hg:gin [Par.S y,Par.I id])=>let gy:=hg.1.1
  let hsl:=dV y hw
  .c func119 (eH y hw) (hg:=⟨gy,trivial⟩) fun _ => .c func232 (iY y id hw) (hg:=⟨gy,trivial⟩) fun _ => .c func118 (iX y hw) (hg:=⟨gy,trivial⟩) fun _ => .v (aK y)
   (fun h => .rt (y,8) ⟨fg_8 h,gy,trivial⟩)
   (fun h => .s (aE y id<0)
    (fun h2 => .rt (y,10) ⟨(tH h h2).symm,gy,trivial⟩)
    (fun h2 => .ex (sY h2) fun r hr=>let hrl:(aE y id).toNat<y.runs.length:=(gsi_.1 hr).1
     .ye hr (aE y id) (he:=oY h2) fun gr => .s (r.state=1)
      (fun h3 => .rt (y,13) ⟨by rw[iU h h2 hr,if_pos h3],gy,trivial⟩)
      (fun h3 => .p (aE y id) 1 (h:=by unfold I64;omega) <| .iv _ func317 (delRunInc y.runs (aE y id).toNat hrl aA (aE y id) (aE y id+1) (oY h2) aA) fun _ _=>
       .g 5 (uQ id y.shelf).symm <| .la (Γ:=Nat) (fun k=>k≤y.shelf.length) (fun k=>y.shelf.length - k) (fun k=>[vI 42 k]) (fun k=>[oO 5 (nY id y.shelf k)]) 0 fun k hk t=>
        .s ((k:Int)<y.shelf.length)
         (fun h4 => .ex (p:=fun l=>y.shelf[k]? = some l) ⟨y.shelf[k]'(by omega),getElem?_eq_getElem _⟩ fun l hl=>let hll:=jG hl hw
          .d 5 (aN4 (id:=id) hl) fun _ => .i k <| .in_ func318 (delD 12 l hll (fun e=>decide (e.run=id)) (fun e => !decide (e.run=id)) (fun _=>rfl)
           (fun e ge d => .in_ (R':=fun _:Unit=>True) func319 (.rt () trivial) fun _ _=>d)) fun _ _=>
          .i k <| .wt 55 <| .f 5 (nY id y.shelf k) (flE id l) (h:=trivial) <| .g 5 (aA2 (id:=id) hl) <| .p k 1 (h:=by unfold I64;omega) <| .n t (k+1) [])
         (fun h4 => .g 5 (aA3 (id:=id) (xss:=y.shelf) (show k=y.shelf.length by omega)) <| .rt (aA1 y id (aE y id).toNat,0) ⟨by rw[iU h h2 hr,if_neg h3],gy,trivial⟩)))) ) aC
theorem RunLeft_i (r:Run) (hl:r.plan.edges.length≤1048576) (htl:r.tasks.length≤1048576):Ct1 prog 316 [.S r] [.S (jC r)]:=
 .one (jC r) (rk:=fun x=>[.S x])<|vc func316 (fun (hg:gin [Par.S r])=>let gr:=hg.1.1
  .c func236 (vD r hl htl) (hg:=⟨gr,trivial⟩) fun _ => .c func231 (bG3 r) (hg:=⟨gr,trivial⟩) fun _ => .sb (dL r)
   (fun h => .s (r.state=1)
    (fun h1 => .cm _ func238 (bG6 r (-1) htl) trivial fun _ _ _ _ => .rt ⟨r.id,r.plan,4,fE r.tasks (-1)⟩ ⟨(bD6 (by unfold aH6;rw[h,decide_eq_true h1];rfl)).symm,⟨gr.1,gr.2.1,by show I64 4;unfold I64;omega⟩,trivial⟩)
    (fun h1 => .rt r ⟨bD5 h1,gr,trivial⟩))
   (fun h => .rt r ⟨bD4 h,gr,trivial⟩)) aC
theorem Cancel_i (y:Yard) (id:Int) (hw:y.wt≤1048576):Ct1 prog 210 [.S y,.I id] [.S (bJ y id).1,.I (bJ y id).2]:=
 .one (bJ y id) (rk:=fun q=>[.S q.1,.I q.2])<|vc func210 (fun (hg:gin [Par.S y,Par.I id])=>let gy:=hg.1.1
  .c func119 (eH y hw) (hg:=⟨gy,trivial⟩) fun _ => .c func232 (iY y id hw) (hg:=⟨gy,trivial⟩) fun _ => .c func118 (iX y hw) (hg:=⟨gy,trivial⟩) fun _ => .v (aK y)
   (fun h => .rt (y,8) ⟨bQ6 h,gy,trivial⟩)
   (fun h => .s (aE y id<0)
    (fun h2 => .rt (y,10) ⟨(tR h h2).symm,gy,trivial⟩)
    (fun h2 => .ex (sY h2) fun r hr => .ye hr (aE y id) (he:=oY h2) fun gr=>let hrl:=gQ hw hr
     .u (r.state=1)
      (fun h3 => .rt (y,12) ⟨by rw[kY h h2 hr,if_pos h3],gy,trivial⟩)
      (fun h3 => .d 5 hr fun _ => .ye hr (aE y id) (he:=oY h2) fun _ => .c func316 (RunLeft_i r hrl.2.2 hrl.2.1) (hg:=⟨gr,trivial⟩) fun _ => .ie (aE y id).toNat (aE y id) (he:=oY h2) <| .wt 41 <| .f 5 y.runs (jC r) (h:=aT1 gr) <|
       .rt (bF1 y (aE y id).toNat r,0) ⟨by rw[kY h h2 hr,if_neg (by simp[h3])],gy,trivial⟩)))) aC
theorem Submit_i (y:Yard) (id:Int) (p:Plan) (hw:y.wt≤1048576) (hp:p.wt≤1048576):Ct1 prog 205 [.S y,.I id,.S p] [.S (bA y id p).1,.I (bA y id p).2]:=
 .one (bA y id p) (rk:=fun q=>[.S q.1,.I q.2])<|vc func205 (fun (hg:gin [Par.S y,Par.I id,Par.S p])=>let gy:=hg.1.1
  let gp:p.ok:=hg.2.1.1
  .c func119 (CopyYardR_i y hw) (hg:=⟨gy,trivial⟩) fun _ => .c func118 (iX y hw) (hg:=⟨gy,trivial⟩) fun _ => .v (aK y) (fun h0 => .rt (y,8) ⟨sub_8 h0,gy,trivial⟩) (fun h0=>
  .c func92 (bN id 1 9999) fun _ => .v (inB id 1 9999) (fun h1 => .rt (y,5) ⟨sub_5 h0 h1,gy,trivial⟩) (fun h1=>
  .c func232 (iY y id hw) (hg:=⟨gy,trivial⟩) fun _ => .s ((0:Int)≤aE y id) (fun h2 => .rt (y,6) ⟨sub_6 h0 h1 h2,gy,trivial⟩) (fun h2=>
  .c func302 (iB p) (hg:=⟨gp,trivial⟩) fun _ => .u (aG p=0) (fun h3 => .c func302 (iB p) (hg:=⟨gp,trivial⟩) fun _ => .rt (y,aG p) ⟨sub_p h0 h1 h2 h3,gy,trivial⟩) (fun h3=>
  .c func303 (RoomFor_i y p hw) (hg:=⟨gy,gp,trivial⟩) fun _ => .v (gN y p) (fun h4 => .rt (y,7) ⟨sub_7 h0 h1 h2 h3 h4,gy,trivial⟩) (fun h4=>let hj:=sub_j gp h0 h1 h3 h4
  .c func304 (new_t hj.nw (RunNew_i id p)) (hg:=⟨gp,trivial⟩) fun hz=>let gr:(bK id p).ok:=hz.1.1
  .az inferInstance y.runs (bK id p) gr 96 (by have:=hj.r8;unfold maxLen;omega) (by have:=hj.r8;omega) <| .c func30 (jL (bK id p) 2 (by have:=hj.tl;omega)) (hg:=⟨gr,trivial⟩) fun _ => .in_ func237 (bK2 8 6 7 y.now y.seq y.shelf (bK id p) (aM (bK id p).tasks 2) hj.ss (by have:=hj.ln;have:=hj.tk;omega) hj.sq gr) fun q hq => .zr 7 <| .rt (⟨y.now,q.1,q.2,y.runs++[bK id p]⟩,0) ⟨sub_0 h0 h1 h2 h3 h4 hq,sub_g hj hq,trivial⟩)))))) aC
theorem bQ5 {y out:Yard} {n k i:Nat} {r:Run} {t:Task} (hY:YardIs y) (h:RI y out n) (hn:n≤900) (hr:out.runs[k]? = some r) (ht:r.tasks[i]? = some t) (h3:t.state=3) (hR:RunIs r):(r.ok∧r.tasks.length≤12)∧(4≤out.shelf.length∧(out.shelf.getD (aU (bR r i).id).toNat []).length≤1000000∧(0≤out.seq∧out.seq≤4000000000))∧(bR r i).tasks.length≤1000∧(bR r i).ok∧cS out k r (bR r i)=jA out k i:=by
 have h1:=hR.small
 have h2:=(hR.fails ht h3).small
 exact ⟨⟨h1.1,h1.2.1⟩,h.chg hY aA _,by omega,h2.1,(aY4 hr ht h3).symm⟩
structure LtI (y out:Yard) (j k i:Nat) (id tr:Int) (r:Run) (t:Task):Prop where
 p:(bY y)[j]? = some (k,i)
 row:((bY y).map (eW y))[j]? = some [id,(i:Int),tr]
 ix:aE out id=(k:Int)
 hr:out.runs[k]? = some r
 is:RunIs r
 ht:r.tasks[i]? = some t
 ho:eB out id (i:Int) tr=decide (t.state=3)
theorem li_at {y out:Yard} {n j:Nat} {m:Int} (hY:YardIs y) (hm:0≤m∧m≤999999980) (h:RI (mN m y) out n) (hj:j<(bY y).length):∃ q:(Nat×Nat)×(Int×Int)×Run×Task,LtI y out j q.1.1 q.1.2 q.2.1.1 q.2.1.2 q.2.2.1 q.2.2.2:=by
 obtain ⟨k,i,r,t,hp,hr,ht,hrow⟩:=aS2 hj
 obtain ⟨r2,t2,h1,h2,h3,h4⟩:=h.holds (hY.at hm) hr ht
 exact ⟨((k,i),(r.id,t.try_),r2,t2),⟨hp,hrow,cI (h.ix (hY.at hm) hr),h1,h2,h3,h4⟩⟩
theorem tick_e {y out:Yard} {j:Nat} (h0:aK y=true) (h:¬ 999999980<y.now+1) (ho:out=lF (mN (y.now+1) y) ((bY y).take j)) (hj:¬ j<(bY y).length):(out,(0:Int))=dH y:=by
 unfold dH;rw[if_neg (by rw[h0];simp),if_neg h]
 unfold bJ2
 rw[ho,take_of_length_le aA]
theorem Tick_i (y:Yard) (hw:y.wt≤1048576):Ct1 prog 209 [.S y] [.S (dH y).1,.I (dH y).2]:=
 .one (dH y) (rk:=fun q=>[.S q.1,.I q.2])<|vc func209 (fun (hg:gin [Par.S y])=>let gy:=hg.1.1
  .c func119 (eH y hw) (hg:=⟨gy,trivial⟩) fun _ => .c func118 (iX y hw) (hg:=⟨gy,trivial⟩) fun _ => .v (aK y)
   (fun h => .rt (y,8) ⟨aP4 h,gy,trivial⟩)
   (fun h=>let hY:=gU h
    let hn:=hY.now
    .p y.now 1 (h:=by unfold I64;omega) <| .s (999999980<y.now+1)
     (fun h7 => .rt (y,7) ⟨aP5 h h7,gy,trivial⟩)
     (fun h7=>let hln:=bN5 hY
      let hml:((bY y).map (eW y)).length=(bY y).length:=length_map _
      let hm:0≤y.now+1∧y.now+1≤999999980:=aA
      .p y.now 1 (h:=by unfold I64;omega) <| .c func314 (LateOf_i y hY) (hg:=⟨gy,trivial⟩) fun _=>
      .la (Γ:=Nat×Yard) (fun g=>g.1≤(bY y).length∧g.2=lF (mN (y.now+1) y) ((bY y).take g.1)) (fun g=>(bY y).length - g.1) (fun g=>[vI 27 g.1]) (fun g=>oO 7 ((bY y).map (eW y))::ryS g.2 6 4 5) (0,mN (y.now+1) y) (h:=⟨Nat.zero_le _,(rF _ _).symm⟩) fun g hJ tk=>
       let hRI:RI (mN (y.now+1) y) g.2 200:=(by rw[hJ.2];exact (RI.list (hY.at hm) (l:=bY y) (fun p hp=>wZ (y:=y) p hp) g.1).mono aA)
       .s ((g.1:Int)<((bY y).map (eW y)).length)
        (fun hlt => .ex (li_at hY hm hRI (show g.1<(bY y).length by omega)) fun q hq=>
         let row:=[q.2.1.1,(q.1.2:Int),q.2.1.2]
         let i0:row[0]? = some q.2.1.1:=rfl
         let i1:row[1]? = some (q.1.2:Int):=rfl
         let i2:row[2]? = some q.2.1.2:=rfl
         .d 7 hq.row fun _ => .i g.1 <| .y i0 fun _ => .y i1 fun _ => .y i2 fun _ => .c func120 (aO4 g.2 q.2.1.1 (q.1.2:Int) q.2.1.2 (Nat.le_trans (hRI.wt (hY.at hm) aA) aA)) (hg:=⟨hRI.ok (hY.at hm) aA,trivial⟩) fun _ => .sb (eB g.2 q.2.1.1 (q.1.2:Int) q.2.1.2)
          (fun hh=>let h3:q.2.2.2.state=3:=of_decide_eq_true (hq.ho.symm.trans hh)
           let hT:=bQ5 (hY.at hm) hRI aA hq.hr hq.ht h3 hq.is
           .y i0 fun _ => .c func232 (iY g.2 q.2.1.1 (Nat.le_trans (hRI.wt (hY.at hm) aA) aA)) (hg:=⟨hRI.ok (hY.at hm) aA,trivial⟩) fun _=>
           .in_ func121 (xF 6 4 5 22 g.2.now g.2.seq g.2.shelf g.2.runs q.1.1 (aE g.2 q.2.1.1) hq.ix q.2.2.1 (bR q.2.2.1 q.1.2) hq.hr aA hT.2.2.1 hT.1.1 hT.2.2.2.1 hT.2.1.1 hT.2.1.2.1 hT.2.1.2.2
            (fun d => .in_ (R':=fun _:Unit=>True) func315 (.y i1 fun _ => .cm _ func123 (aO5 q.2.2.1 (q.1.2:Int) q.2.2.2 aA hq.ht aA) trivial fun _ _ _ _ => .rt () trivial) fun _ _=>d)) fun z hz=>
           .f 7 ((bY y).map (eW y)) row (h:=trivial) <| .g 7 (sU hq.row) <| .p g.1 1 (h:=by unfold I64;omega) <| .n tk (g.1+1,⟨g.2.now,z.1,z.2,g.2.runs.set q.1.1 (bR q.2.2.1 q.1.2)⟩) [] (h1:=⟨by show g.1+1≤_;omega,by show (⟨g.2.now,z.1,z.2,_⟩:Yard)=_;rw[aK6 hz,hT.2.2.2.2,lE hq.p,← hJ.2]⟩) (h2:=by show (bY y).length - (g.1+1)<_;omega))
          (fun hh=>let h3:¬ q.2.2.2.state=3:=of_decide_eq_false (hq.ho.symm.trans hh)
           .f 7 ((bY y).map (eW y)) row (h:=trivial) <| .g 7 (sU hq.row) <| .p g.1 1 (h:=by unfold I64;omega) <| .n tk (g.1+1,g.2) [] (h1:=⟨by show g.1+1≤_;omega,by show g.2=_;rw[lE hq.p,← hJ.2];exact (wN hq.hr hq.ht h3).symm⟩) (h2:=by show (bY y).length - (g.1+1)<_;omega)))
        (fun hge => .rt (g.2,0) ⟨tick_e (j:=g.1) h h7 hJ.2 aA,hRI.ok (hY.at hm) aA,trivial⟩)))) aC
theorem Restart_i (y:Yard) (hw:y.wt≤1048576):Ct1 prog 32 [.S y] [.S (cX y)]:=
 .one (cX y) (rk:=fun x=>[.S x])<|vc func32 (fun (hg:gin [Par.S y])=>let gy:=hg.1.1
  .c func119 (eH y hw) (hg:=⟨gy,trivial⟩) fun _ => .c func118 (iX y hw) (hg:=⟨gy,trivial⟩) fun _ => .v (aK y)
   (fun h => .rt y ⟨by unfold cX;rw[if_neg (by rw[h];simp)],gy,trivial⟩)
   (fun h=>let hY:=gU h
    let h8:=hY.runs
    .la (Γ:=Nat×Yard) (fun g=>g.1≤y.runs.length∧g.2=kO y g.1) (fun g=>y.runs.length - g.1) (fun g=>[vI 17 g.1]) (fun g=>ryS g.2 6 4 5) (0,y) (h:=⟨Nat.zero_le _,rfl⟩) fun g hJ tk=>
     let hRK:RI y g.2 96:=(by rw[hJ.2];exact aQ5 hY hJ.1)
     .s ((g.1:Int)<y.runs.length)
      (fun hlt => .x y.runs g.1 (h:=by omega) fun r1 hr1 gr1=>
       let hl12:=(hY.run g.1 r1 hr1).1.small.2.1
       .la (Γ:=Nat×Yard) (fun q=>q.1≤r1.tasks.length∧q.2=oK (kO y g.1) g.1 q.1) (fun q=>r1.tasks.length - q.1) (fun q=>[vI 25 q.1]) (fun q=>ryS q.2 6 4 5) (0,g.2) (h:=⟨Nat.zero_le _,hJ.2⟩) fun q hq tq=>
        let hRI:RI y q.2 200:=(by rw[hq.2];exact bA9 hY hr1 hq.1)
        .s ((q.1:Int)<r1.tasks.length)
         (fun hl2 => .x r1.tasks q.1 (h:=by omega) fun t1 ht1 gt1 => .ex (p:=fun z:Run×Task=>q.2.runs[g.1]? = some z.1∧RunIs z.1∧z.1.tasks[q.1]? = some z.2∧eB q.2 r1.id (q.1:Int) t1.try_=decide (z.2.state=3)) (by obtain ⟨r2,t2,h1,h2,h3,h4⟩:=hRI.holds hY hr1 ht1;exact ⟨(r2,t2),h1,h2,h3,h4⟩) fun z hz=>
          .c func120 (aO4 q.2 r1.id (q.1:Int) t1.try_ (Nat.le_trans (hRI.wt hY aA) aA)) (hg:=⟨hRI.ok hY aA,trivial⟩) fun _ => .sb (eB q.2 r1.id (q.1:Int) t1.try_)
          (fun hh=>let h3:z.2.state=3:=of_decide_eq_true (hz.2.2.2.symm.trans hh)
           let hT:=bQ5 hY hRI aA hz.1 hz.2.2.1 h3 hz.2.1
           .in_ func121 (xF 6 4 5 20 q.2.now q.2.seq q.2.shelf q.2.runs g.1 (g.1:Int) rfl z.1 (bR z.1 q.1) hz.1 aA hT.2.2.1 hT.1.1 hT.2.2.2.1 hT.2.1.1 hT.2.1.2.1 hT.2.1.2.2
            (fun d => .in_ (R':=fun _:Unit=>True) func122 (.cm _ func123 (aO5 z.1 (q.1:Int) z.2 aA hz.2.2.1 aA) trivial fun _ _ _ _ => .rt () trivial) fun _ _=>d)) fun u hu=>
           .p q.1 1 (h:=by unfold I64;omega) <| .n tq (q.1+1,⟨q.2.now,u.1,u.2,q.2.runs.set g.1 (bR z.1 q.1)⟩) [] (h1:=⟨by show q.1+1≤_;omega,by show (⟨q.2.now,u.1,u.2,_⟩:Yard)=_;rw[aK6 hu,hT.2.2.2.2,hq.2];rfl⟩) (h2:=by show r1.tasks.length - (q.1+1)<_;omega))
          (fun hh=>let h3:¬ z.2.state=3:=of_decide_eq_false (hz.2.2.2.symm.trans hh)
           .p q.1 1 (h:=by unfold I64;omega) <| .n tq (q.1+1,q.2) [] (h1:=⟨by show q.1+1≤_;omega,by show q.2=jA (oK (kO y g.1) g.1 q.1) g.1 q.1;rw[← hq.2];exact (wN hz.1 hz.2.2.1 h3).symm⟩) (h2:=by show r1.tasks.length - (q.1+1)<_;omega)))
         (fun hl2 => .p g.1 1 (h:=by unfold I64;omega) <| .n tk (g.1+1,q.2) [] (h1:=⟨by show g.1+1≤_;omega,by show q.2=_;rw[hq.2];exact aQ6 hr1 aA⟩) (h2:=by show y.runs.length - (g.1+1)<_;omega)))
      (fun hge => .rt g.2 ⟨by unfold cX;rw[if_pos h,hJ.2];congr 1;omega,hRK.ok hY aA,trivial⟩))) aC
theorem xQ {g:Run→Nat→Run} {y:Yard} {id task try_:Int} {k:Nat} {r:Run} {q:Int×List (List Entry)} (h:dB y id task try_=0) (hk:bO y id=some k) (hr:y.runs[k]? = some r) (hq:sG (g r task.toNat) (dX r (g r task.toNat)) y.seq y.shelf q):((⟨y.now,q.1,q.2,y.runs.set k (g r task.toNat)⟩,dB y id task try_):Yard×Int)=(vG g y id task try_,dB y id task try_):=by
 have hq:q=_:=hq
 subst hq
 rw[mX h hk hr]
 rfl
theorem aY7 {g:Run→Nat→Run} {y:Yard} {id task try_:Int} {k:Nat} {r:Run} {q:Int×List (List Entry)} (hY:YardIs y) (h:dB y id task try_=0) (hk:bO y id=some k) (hr:y.runs[k]? = some r) (hl:(g r task.toNat).tasks.length≤1000) (hq:sG (g r task.toNat) (dX r (g r task.toNat)) y.seq y.shelf q):(⟨y.now,q.1,q.2,y.runs.set k (g r task.toNat)⟩:Yard).ok:=by
 have:=congrArg Prod.fst (xQ h hk hr hq)
 simp only at this
 rw[this,mX h hk hr]
 exact sC hY hl
theorem aY6 {g:Run→Nat→Run} {y:Yard} {id task try_:Int} (h:¬ dB y id task try_=0):(y,dB y id task try_)=(vG g y id task try_,dB y id task try_):=by rw[mW h]
structure AskJ (y:Yard) (id task:Int) (q:Nat×Run×Task):Prop where
 Y:YardIs y
 ix:bO y id=some q.1
 at_:y.runs[q.1]? = some q.2.1
 R:RunIs q.2.1
 pos:0≤task
 tk:q.2.1.tasks[task.toNat]? = some q.2.2
 run:q.2.2.state=3
theorem bR3 {y:Yard} {id task try_:Int} (h:dB y id task try_=0):∃ q,AskJ y id task q:=by
 obtain ⟨hY,k,r,t,h1,h2,h3,h4,h5,h6⟩:=aC4 h
 exact ⟨(k,r,t),hY,h1,h2,h3,h4,h5,h6⟩
theorem AskJ.small {y:Yard} {id task:Int} {q:Nat×Run×Task} (h:AskJ y id task q):q.2.1.ok∧q.2.1.tasks.length≤12∧4≤y.shelf.length∧(y.shelf.getD (aU q.2.1.id).toNat []).length≤1000000∧(0≤y.seq∧y.seq≤4000000000):=by
 have h1:=h.R.small
 have h2:=(RI.start h.Y).chg h.Y (Nat.zero_le _) q.2.1.id
 exact ⟨h1.1,h1.2.1,h2⟩
theorem Complete_i (y:Yard) (id task try_:Int) (hw:y.wt≤1048576):Ct1 prog 207 [.S y,.I id,.I task,.I try_] [.S (dZ y id task try_),.I (dB y id task try_)]:=
 .one (dZ y id task try_,dB y id task try_) (rk:=fun q=>[.S q.1,.I q.2])<|vc func207 (fun (hg:gin [Par.S y,Par.I id,Par.I task,Par.I try_])=>let gy:=hg.1.1
  .c func119 (eH y hw) (hg:=⟨gy,trivial⟩) fun _ => .c func310 (bR8 y id task try_ hw) (hg:=⟨gy,trivial⟩) fun _ => .s (dB y id task try_=0)
   (fun h => .ex (bR3 h) fun z hz=>let hs:=hz.small
    let hk:=mL z.2.1 task.toNat
    .c func232 (iY y id hw) (hg:=⟨gy,trivial⟩) fun _ => .in_ func121 (xF 7 5 6 14 y.now y.seq y.shelf y.runs z.1 (aE y id) (cI hz.ix) z.2.1 (gP z.2.1 task.toNat) hz.at_ aA (by rw[hk.2.2.1];omega) hs.1 (doneR_ok hs.1 _) hs.2.2.1 (by rw[hk.1];exact hs.2.2.2.1) hs.2.2.2.2
     (fun d => .in_ (R':=fun _:Unit=>True) func311 (.cm _ func312 (Done_p z.2.1 task z.2.2 hz.pos hz.tk hz.R) trivial fun _ _ _ _ => .rt () trivial) fun _ _=>d)) fun q hq=>
      .rt (⟨y.now,q.1,q.2,y.runs.set z.1 (gP z.2.1 task.toNat)⟩,dB y id task try_) ⟨xQ h hz.ix hz.at_ hq,aY7 hz.Y h hz.ix hz.at_ (by rw[hk.2.2.1];omega) hq,trivial⟩)
   (fun h => .rt (y,dB y id task try_) ⟨aY6 h,gy,trivial⟩)) aC
theorem Fail_i (y:Yard) (id task try_:Int) (hw:y.wt≤1048576):Ct1 prog 208 [.S y,.I id,.I task,.I try_] [.S (mK y id task try_),.I (dB y id task try_)]:=
 .one (mK y id task try_,dB y id task try_) (rk:=fun q=>[.S q.1,.I q.2])<|vc func208 (fun (hg:gin [Par.S y,Par.I id,Par.I task,Par.I try_])=>let gy:=hg.1.1
  .c func119 (eH y hw) (hg:=⟨gy,trivial⟩) fun _ => .c func310 (bR8 y id task try_ hw) (hg:=⟨gy,trivial⟩) fun _ => .s (dB y id task try_=0)
   (fun h => .ex (bR3 h) fun z hz=>let hs:=hz.small
    let hk:=oA z.2.1 task.toNat
    .c func232 (iY y id hw) (hg:=⟨gy,trivial⟩) fun _ => .in_ func121 (xF 7 5 6 14 y.now y.seq y.shelf y.runs z.1 (aE y id) (cI hz.ix) z.2.1 (bR z.2.1 task.toNat) hz.at_ aA (by rw[hk.2.2.1];omega) hs.1 (failsR_ok hs.1 _) hs.2.2.1 (by rw[hk.1];exact hs.2.2.2.1) hs.2.2.2.2
     (fun d => .in_ (R':=fun _:Unit=>True) func313 (.cm _ func123 (aO5 z.2.1 task z.2.2 hz.pos hz.tk aA) trivial fun _ _ _ _ => .rt () trivial) fun _ _=>d)) fun q hq=>
      .rt (⟨y.now,q.1,q.2,y.runs.set z.1 (bR z.2.1 task.toNat)⟩,dB y id task try_) ⟨xQ h hz.ix hz.at_ hq,aY7 hz.Y h hz.ix hz.at_ (by rw[hk.2.2.1];omega) hq,trivial⟩)
   (fun h => .rt (y,dB y id task try_) ⟨aY6 h,gy,trivial⟩)) aC
theorem pl_robI {y out:Yard} {h:Nat} {o:Int} (hP:PI y out h) (hh:h<4) (ho:0≤o∧o≤3∧o≠(h:Int)):∃ q:List Entry×List Entry,(aV out o).shelf[o.toNat]? = some q.1∧(aV out o).shelf[h]? = some q.2∧((aV out o).shelf.set h (dA q.2 (q.1.take (cE q.1))))[o.toNat]? = some q.1∧q.1.length≤80∧q.2.length≤80 ∧
  (⟨(aV out o).now,(aV out o).seq,((aV out o).shelf.set h (dA q.2 (q.1.take (cE q.1)))).set o.toNat (q.1.drop (cE q.1)),(aV out o).runs⟩:Yard)=aL6 (aV out o) h o.toNat:=by
 have hs:=hP.sw (o:=o) aA
 have hne:h≠o.toNat:=by omega
 exact ⟨((aV out o).shelf.getD o.toNat [],(aV out o).shelf.getD h []),getD_some aA,getD_some aA,by rw[getElem?_set_ne hne];exact getD_some aA,hs.2 _ aA,hs.2 _ hh,rfl⟩
theorem Poll_i (y:Yard) (w d:Int) (hw:y.wt≤1048576) (hd:I64 d):Ct1 prog 206 [.S y,.I w,.I d] [.S (eY y w d).1,.S (eY y w d).2]:=
 .one (eY y w d) (rk:=fun q=>[.S q.1,.S q.2])<|vc func206 (fun (hg:gin [Par.S y,Par.I w,Par.I d])=>let gy:=hg.1.1
  .c func118 (iX y hw) (hg:=⟨gy,trivial⟩) fun _ => .v (aK y)
   (fun h => .c func119 (eH y hw) (hg:=⟨gy,trivial⟩) fun _ => .rt (y,⟨8,0,0,0⟩) ⟨pl_8 h,gy,aF7 8 aA,trivial⟩)
   (fun hy=>let hY:=gU hy
    .c func92 (bN w 0 99) fun _ => .v (inB w 0 99)
    (fun h => .c func119 (eH y hw) (hg:=⟨gy,trivial⟩) fun _ => .rt (y,⟨5,0,0,0⟩) ⟨pl_5 hy h,gy,aF7 5 aA,trivial⟩)
    (fun hin=>let hwk:=inB_iff.1 hin
     .q w 4 (h:=by omega) <| .c func305 (bF9 y (w % 4) hw) (hg:=⟨gy,trivial⟩) fun _ => .c func306 (Victims_i (w % 4) d aA hd) fun _=>
     let fin:∀ (m:Nat) (out:Yard),out=dS (w % 4).toNat (aV y (w % 4)) (bH (w % 4) d)→PI y out (w % 4).toNat→out.ok→D prog (fun q:Yard×Reply=>q=eY y w d∧rgd [Rk.S q.1,Rk.S q.2]):=fun m out ho hP go=>
      let hl:=wW hP (show (w % 4).toNat<4 by omega)
      let h80:=hP.each (w % 4).toNat aA
      .ye hl (w % 4) (he:=lN w) fun _ => .c func309 (TakeEntry_i (out.shelf.getD (w % 4).toNat []) aA) fun gt => .v (bL (out.shelf.getD (w % 4).toNat [])).2.2
       (fun hn => .rt (out,⟨9,0,0,0⟩) ⟨by rw[← pl_0 hy hin ho];exact (zV (bJ1 hn)).symm,go,aF7 9 aA,trivial⟩)
       (fun hn=>let hcs:=aZ0 hn
        .ex (pl_at hY hP (show (bL (out.shelf.getD (w % 4).toNat [])).1∈(out.shelf.getD (w % 4).toNat []) by rw[hcs];exact mem_cons_self)) fun q hq=>
        let hnow:0≤out.now∧out.now≤999999980:=(by rw[hP.now];exact hY.now)
        let hrl:(bL (out.shelf.getD (w % 4).toNat [])).2.1.length≤80:=(by have h_:=h80;rw[hcs] at h_;simp only[length_cons] at h_;omega)
        let htr:=hq.is.tries hq.ht
        let h1:I64 (q.2.2.try_+1):=(by unfold I64;omega)
        let h2:I64 (out.now+q.2.1.plan.wait):=(by unfold I64;omega)
        .d 5 hl fun _ => .ie (w % 4).toNat (w % 4) (he:=lN w) <| .w1 <| .f 5 out.shelf (bL (out.shelf.getD (w % 4).toNat [])).2.1 (h:=trivial) <|
        .c func232 (iY ⟨out.now,out.seq,out.shelf.set (w % 4).toNat (bL (out.shelf.getD (w % 4).toNat [])).2.1,out.runs⟩ (bL (out.shelf.getD (w % 4).toNat [])).1.run (Nat.le_trans (hP.wtS hY hrl) aA)) (hg:=⟨go,trivial⟩) fun _=>
        .ye hq.hr (aE ⟨out.now,out.seq,out.shelf.set (w % 4).toNat (bL (out.shelf.getD (w % 4).toNat [])).2.1,out.runs⟩ (bL (out.shelf.getD (w % 4).toNat [])).1.run) (he:=cI hq.ix) fun _ => .d 6 hq.hr fun gr => .lq 17 6 <| .d (m+11) hq.ht fun gu => .ie (bL (out.shelf.getD (w % 4).toNat [])).1.task.toNat (bL (out.shelf.getD (w % 4).toNat [])).1.task (he:=by have:=hq.h0;omega) <|
        .p q.2.2.try_ 1 (h:=h1) <| .p out.now q.2.1.plan.wait (h:=h2) <| .wt 999 <| .f (m+11) q.2.1.tasks ⟨3,q.2.2.need,q.2.2.try_+1,out.now+q.2.1.plan.wait⟩ (h:=st_ok gu h1 h2) <| .f 6 out.runs (gW q.2.1 (bL (out.shelf.getD (w % 4).toNat [])).1.task.toNat q.2.2 out.now) (h:=gr) <|
        .rt (⟨out.now,out.seq,out.shelf.set (w % 4).toNat (bL (out.shelf.getD (w % 4).toNat [])).2.1,out.runs.set q.1 (gW q.2.1 (bL (out.shelf.getD (w % 4).toNat [])).1.task.toNat q.2.2 out.now)⟩,⟨0,(bL (out.shelf.getD (w % 4).toNat [])).1.run,(bL (out.shelf.getD (w % 4).toNat [])).1.task,q.2.2.try_+1⟩)
         ⟨by rw[← pl_0 hy hin ho];exact (aH7 hcs hq.ix hq.hr hq.ht).symm,go,aW2 (by unfold I64;omega) gt.1.1.2.2.1 gt.1.1.2.2.2 h1,trivial⟩)
     .la (Γ:=Nat×Yard) (fun g=>g.1≤3∧g.2=dS (w % 4).toNat (aV y (w % 4)) ((bH (w % 4) d).take g.1)) (fun g=>3 - g.1) (fun g=>[vI 42 g.1]) (fun g=>ryS g.2 7 5 6) (0,aV y (w % 4)) (h:=⟨Nat.zero_le _,(vU _ _ _).symm⟩) fun g hJ tk=>
      let hP:PI y g.2 (w % 4).toNat:=(by rw[hJ.2];exact bB3 hY w d g.1)
      let hl:=wW hP (show (w % 4).toNat<4 by omega)
      let go:g.2.ok:=hP.ok hY
      .s ((g.1:Int)<(bH (w % 4) d).length)
       (fun hlt => .ex (p:=fun o=>(bH (w % 4) d)[g.1]? = some o) ⟨_,getElem?_eq_getElem (show g.1<(bH (w % 4) d).length by omega)⟩ fun o hk=>
        let hor:=lX (home:=w % 4) (draw:=d) aA o (mem_of_getElem? hk)
        .ex (pl_robI hP (show (w % 4).toNat<4 by omega) (show 0≤o∧o≤3∧o≠(((w % 4).toNat:Nat):Int) by omega)) fun q hq=>
        .y hk fun _ => .ye hl (w % 4) (he:=lN w) fun _ => .s ((0:Int)<((g.2.shelf.getD (w % 4).toNat []).length:Int))
        (fun hem=>fin 12 g.2 (by rw[hJ.2];exact (yL (by rw[← hJ.2];exact bC1 aA)).symm) hP go)
        (fun hem => .c func305 (bF9 g.2 o (Nat.le_trans (hP.wt hY) aA)) (hg:=⟨go,trivial⟩) fun gs=>
         .ye hq.1 o (he:=by omega) fun _ => .c func307 (HalfOf_i q.1 (by have:=hq.2.2.2.1;omega)) fun _=>
         .d 12 hq.2.1 fun _ => .ie (w % 4).toNat (w % 4) (he:=lN w) <| .c func308 (Merged_i q.2 (q.1.take (cE q.1)) (by have:=hq.2.2.2.2.1;omega) (by have:=hq.2.2.2.1;rw[length_take];omega)) fun _ => .ie (w % 4).toNat (w % 4) (he:=lN w) <| .wt 75 <| .f 12 (aV g.2 o).shelf (dA q.2 (q.1.take (cE q.1))) (h:=trivial) <|
         .d 12 hq.2.2.1 fun _ => .ie o.toNat o (he:=by omega) <| .w1 <| .f 12 ((aV g.2 o).shelf.set (w % 4).toNat (dA q.2 (q.1.take (cE q.1)))) (q.1.drop (cE q.1)) (h:=trivial) <|
         .p g.1 1 (h:=by unfold I64;omega) <| .n tk (g.1+1,⟨(aV g.2 o).now,(aV g.2 o).seq,((aV g.2 o).shelf.set (w % 4).toNat (dA q.2 (q.1.take (cE q.1)))).set o.toNat (q.1.drop (cE q.1)),(aV g.2 o).runs⟩) [(5,12),(6,13)]
          (h1:=⟨by show g.1+1≤3;have:(bH (w % 4) d).length=3:=rfl;omega,by rw[aF4 hk (by rw[← hJ.2];exact nil0 aA),← hJ.2];exact hq.2.2.2.2.2⟩) (h2:=by show 3 - (g.1+1)<_;have:(bH (w % 4) d).length=3:=rfl;omega)))
       (fun hlt=>fin 9 g.2 (by rw[hJ.2];exact yM (by have:(bH (w % 4) d).length=3:=rfl;omega)) hP go)))) aC
theorem Do_i (y:Yard) (d:Deed) (hw:y.wt≤1048576):Ct1 prog 106 [.S y,.S d] [.S (doD y d).1,.S (doD y d).2]:=
 .one (doD y d) (rk:=fun q=>[.S q.1,.S q.2])<|vc func106 (fun (hg:gin [Par.S y,Par.S d])=>let gy:=hg.1.1
  let gd:d.ok:=hg.2.1.1
  .c func151 (aC7 d) (hg:=⟨gd,trivial⟩) fun _ => .v (aT d)
   (fun h => .c func119 (eH y hw) (hg:=⟨gy,trivial⟩) fun _ => .rt (y,dF 5) ⟨do_0 h,gy,eC aA,trivial⟩)
   (fun h=>let hk:=bE8 h
    .s (d.kind=1)
    (fun h1 => .c func205 (Submit_i y d.run d.plan hw (dd_wt h)) (hg:=⟨gy,gd.2.2.1,trivial⟩) fun hz => .rt ((bA y d.run d.plan).1,dF (bA y d.run d.plan).2) ⟨do_1 h h1,hz.1.1,eC (qT y d.run d.plan),trivial⟩)
    (fun h1 => .s (d.kind=2)
    (fun h2 => .c func206 (Poll_i y d.worker d.draw hw gd.2.2.2.2.2.2) (hg:=⟨gy,trivial⟩) fun hz => .rt (eY y d.worker d.draw) ⟨do_2 h h2,hz.1.1,hz.2.1.1,trivial⟩)
    (fun h2 => .s (d.kind=3)
    (fun h3 => .c func207 (Complete_i y d.run d.task d.try_ hw) (hg:=⟨gy,trivial⟩) fun hz => .rt (dZ y d.run d.task d.try_,dF (dB y d.run d.task d.try_)) ⟨do_3 h h3,hz.1.1,aO1 _ _ _ _,trivial⟩)
    (fun h3 => .s (d.kind=4)
    (fun h4 => .c func208 (Fail_i y d.run d.task d.try_ hw) (hg:=⟨gy,trivial⟩) fun hz => .rt (mK y d.run d.task d.try_,dF (dB y d.run d.task d.try_)) ⟨do_4 h h4,hz.1.1,aO1 _ _ _ _,trivial⟩)
    (fun h4 => .s (d.kind=5)
    (fun h5 => .c func209 (Tick_i y hw) (hg:=⟨gy,trivial⟩) fun hz => .rt ((dH y).1,dF (dH y).2) ⟨do_5 h h5,hz.1.1,eC (xV y),trivial⟩)
    (fun h5 => .s (d.kind=6)
    (fun h6 => .c func210 (Cancel_i y d.run hw) (hg:=⟨gy,trivial⟩) fun hz => .rt ((bJ y d.run).1,dF (bJ y d.run).2) ⟨do_6 h h6,hz.1.1,eC (rC y d.run),trivial⟩)
    (fun h6 => .s (d.kind=7)
    (fun h7 => .c func211 (Forget_i y d.run gd.2.1 hw) (hg:=⟨gy,trivial⟩) fun hz => .rt ((aX y d.run).1,dF (aX y d.run).2) ⟨do_7 h h7,hz.1.1,eC (qZ y d.run),trivial⟩)
    (fun h7 => .c func32 (Restart_i y hw) (hg:=⟨gy,trivial⟩) fun hz => .c func118 (iX y hw) (hg:=⟨gy,trivial⟩) fun _ => .v (aK y)
     (fun h9 => .rt (cX y,dF 8) ⟨do_8 h aA 8 (by rw[h9];rfl),hz.1.1,eC aA,trivial⟩)
     (fun h9 => .rt (cX y,dF 0) ⟨do_8 h aA 0 (by rw[h9];rfl),hz.1.1,eC aA,trivial⟩)))))))))) aC
section
variable {P:Program} {n:Nat} {f:Nat→Value} {W w0:World} {rs:List Res} {Q:Exit→Act→World→Prop} {K:Value→World→Prop}
 {d:Option Tmp} {ty:TypeId} {pos:String} {af:Array Go.Edge} {g:Option (Nat×Bool)} {α:Type} [Shape α]
theorem Elems.reps {W:World} {zs:List Value} {z:α} (h:Shape.C W zs z []):∀ m,Elems W ((List.range (m*zs.length)).map (fun j=>zs.toArray[j % zs.toArray.size]!)) (List.replicate m z) []
 | 0=>by rw[Nat.zero_mul];exact ⟨rfl,rfl⟩
 | m+1=>by
  have ih:=Elems.reps h m
  have e:(List.range ((m+1)*zs.length)).map (fun j=>zs.toArray[j % zs.toArray.size]!)=(List.range (m*zs.length)).map (fun j=>zs.toArray[j % zs.toArray.size]!)++zs:=by
   rw[Nat.succ_mul,range_add,map_append,map_map]
   congr 1
   apply ext_getElem
   ·simp
   intro j h1 h2
   simp only[getElem_map,getElem_range,Function.comp,size_toArray]
   rw[Nat.mul_comm,Nat.mul_add_mod,Nat.mod_eq_of_lt h2]
   simp[h2]
  rw[e,replicate_succ']
  exact ih.append (Elems.single h)
end
theorem restartY_wt {y:Yard} (h:aK y=true):(cX y).wt≤100000:=by
 have hY:=gU h
 unfold cX
 rw[h,if_pos rfl]
 exact (RI.outer hY _ (Nat.le_refl _)).wt hY (by have:=hY.runs;omega)
theorem sK {y:Yard} {s:List (List Entry)} {rr:List Run} {a b:Int} (h4:s.length=4) (he:∀ j,j<4→(s.getD j []).length≤1000) (h8:rr.length≤8) (hr:∀ r∈rr,r.wt≤42):(⟨a,b,s,rr⟩:Yard).wt≤100000:=by
 have hs:=sO (fun z:List Entry=>z.length) 1000 s (fun z hz=>by
  obtain ⟨j,hj,rfl⟩:=getElem_of_mem hz
  have:=he j aA
  rw[getD_eq_getElem?_getD,getElem?_eq_getElem hj] at this
  simpa using this)
 have hq:=sO (fun z:Run=>z.wt) 42 rr hr
 rw[h4] at hs
 have:rr.length*42≤8*42:=Nat.mul_le_mul_right _ h8
 unfold Yard.wt wtL
 simp only
 omega
theorem aB4 {y:Yard} (hY:YardIs y) {k:Nat} {r r':Run} (hr:y.runs[k]? = some r) (hl:r'.tasks.length≤12) (hw:r'.wt≤42):(cS y k r r').wt≤100000:=by
 have h4:=hY.shelf
 have hsr:=fU r'.id
 have hfl:=mI r r'
 refine sK (y:=y) ?_ ?_ ?_ ?_
 ·rw[lH];exact h4
 ·intro j hj
  by_cases e:j=(aU r'.id).toNat
  ·subst e
   rw[lI _ _ _ _ _ _ aA]
   have:=jS hY (aU r'.id).toNat aA
   omega
  rw[kT _ _ _ j e]
  have:=jS hY j hj
  omega
 ·rw[length_set];exact hY.runs
 intro q hq
 rcases mem_or_eq_of_mem_set hq with h | rfl
 ·exact sW hY q h
 exact hw
theorem doneR_wt {r:Run} (h:RunIs r) (i:Nat):(gP r i).tasks.length≤12∧(gP r i).wt≤42:=by
 obtain ⟨h1,h2,h3,h4⟩:=mL r i
 have hs:=h.small
 have hw:=h.wt
 unfold Run.wt at hw ⊢
 rw[h2,h3]
 omega
theorem completeY_wt {y:Yard} (id task try_:Int) {B:Nat} (hB:100000≤B) (hw:y.wt≤B):(dZ y id task try_).wt≤B:=by
 unfold dZ
 by_cases h:dB y id task try_=0
 ·obtain ⟨hY,k,r,t,hk,hr,hR,h0,ht,h3⟩:=aC4 h
  rw[mX h hk hr]
  obtain ⟨h1,h2⟩:=doneR_wt hR task.toNat
  have:=aB4 hY hr h1 h2
  omega
 rw[mW h];exact hw
theorem startT_wt {r:Run} (i:Nat) (t:Task) (now:Int):(gW r i t now).wt=r.wt:=by unfold gW Run.wt;simp
theorem given_wt {y out:Yard} {home:Nat} (hY:YardIs y) (h:PI y out home):(pF out home).1.wt≤100000:=by
 have hb:=h.wt hY
 unfold pF
 split
 ·exact hb
 next e rest he=>
 split
 ·exact hb
 next k hk=>
 split
 ·exact hb
 next r hr=>
 split
 ·exact hb
 next t ht=>
 have hrest:rest.length≤80:=by
  by_cases hh:home<4
  ·have:=h.each home hh;rw[he] at this;simp only[length_cons] at this;omega
  rw[getD_eq_getElem?_getD,getElem?_eq_none (by have:=h.len;omega)] at he;cases he
 refine aK3 (y:=y) (by rw[length_set];exact h.len) (lP h.each hrest h.len) (by rw[length_set,h.runs];exact hY.runs) ?_
 intro q hq
 rcases mem_or_eq_of_mem_set hq with h1 | rfl
 ·rw[h.runs] at h1;exact sW hY q h1
 rw[startT_wt]
 rw[h.runs] at hr
 exact sW hY r (mem_of_getElem? hr)
theorem polled_wt {y:Yard} (worker draw:Int) {B:Nat} (hB:100000≤B) (hw:y.wt≤B):(eY y worker draw).1.wt≤B:=by
 unfold eY
 split
 ·exact hw
 next h1=>
 split
 ·exact hw
 next h2=>
 have hY:=gU (y:=y) (by simpa using h1)
 have hi:=inB_iff'.1 (show inB worker 0 99=true by simpa using h2)
 have hh:(((worker % 4).toNat:Nat):Int)=worker % 4:=by omega
 have hPI:=PI.all hY (home:=(worker % 4).toNat) aA (l:=bH (worker % 4) draw) (by rw[hh];exact lX aA) (PI.start hY aA)
 rw[hh] at hPI
 have:=given_wt hY hPI
 omega
theorem failsR_wt {r:Run} (h:RunIs r) {i:Nat} {t:Task} (ht:r.tasks[i]? = some t) (h3:t.state=3):(bR r i).tasks.length≤12∧(bR r i).wt≤42:=by
 have hR:=h.fails ht h3
 exact ⟨hR.small.2.1,hR.wt⟩
theorem failY_wt {y:Yard} (id task try_:Int) {B:Nat} (hB:100000≤B) (hw:y.wt≤B):(mK y id task try_).wt≤B:=by
 by_cases hA0:dB y id task try_=0
 ·obtain ⟨hY,k,r,t,hix,hr,hRI,h0,hti,h3⟩:=aC4 hA0
  have hd:=failsR_wt hRI hti h3
  have e:mK y id task try_=cS y k r (bR r task.toNat):=mX hA0 hix hr
  rw[e]
  exact Nat.le_trans (aB4 hY hr hd.1 hd.2) hB
 have e:mK y id task try_=y:=mW hA0
 rw[e];exact hw
theorem submitted_wt {y:Yard} (id:Int) (p:Plan) {B:Nat} (hB:100000≤B) (hw:y.wt≤B):(bA y id p).1.wt≤B:=by
 unfold bA
 split
 ·exact hw
 next h1=>
 split
 ·exact hw
 split
 ·exact hw
 split
 ·exact hw
 next h4=>
 split
 ·exact hw
 next h5=>
 have hY:=gU (by simpa using h1)
 have hpf:aG p=0:=by simpa using h4
 have hpr:=aR1 hpf
 have hroom:gN y p=true:=by simpa using h5
 have hr8:y.runs.length<8:=by unfold gN at hroom;simp at hroom;omega
 refine Nat.le_trans (sK (y:=y) ?_ ?_ ?_ ?_) hB
 ·rw[lH];exact hY.shelf
 ·intro j hj
  by_cases e:j=(aU id).toNat
  ·subst e
   rw[lI _ _ _ _ _ _ (by have:=hY.shelf;omega)]
   have h7:(aM (bK id p).tasks 2).length≤(bK id p).tasks.length:=fT _ _ _
   have h8:(bK id p).tasks.length=p.tasks.toNat:=iI p _
   have h9:=jS hY (aU id).toNat hj
   omega
  rw[kT _ _ _ j e]
  have:=jS hY j hj
  omega
 ·rw[length_append,length_singleton];omega
 intro r hr
 rcases mem_append.1 hr with hr | hr
 ·obtain ⟨j,hj⟩:=mem_iff_getElem?.1 hr
  exact (hY.run j r hj).1.wt
 rw[mem_singleton] at hr;subst hr
 have h8:(bK id p).tasks.length=p.tasks.toNat:=iI p _
 show (bK id p).plan.wt+(bK id p).tasks.length≤42
 have:(bK id p).plan.wt=p.edges.length:=rfl
 omega
theorem ticked_wt {y:Yard} {B:Nat} (hB:100000≤B) (hw:y.wt≤B):(dH y).1.wt≤B:=by
 unfold dH
 split
 ·exact hw
 next h1=>
 split
 ·exact hw
 have hY:=gU (by simpa using h1)
 have hn:=hY.now
 have hr:=hY.runs
 have hl:=qB hY y.runs.length
 have hY1:YardIs (mN (y.now+1) y):=hY.at aA
 have h2:=RI.list hY1 (l:=bY y) wZ (bY y).length
 rw[take_length] at h2
 exact Nat.le_trans (h2.wt hY1 (by show (jB y y.runs.length).length≤1000;omega)) hB
theorem goneR_wt (r:Run):(jC r).wt=r.wt:=by
 unfold jC
 split
 ·show r.plan.wt+(fE r.tasks (-1)).length=_
  rw[zO];rfl
 rfl
theorem cancelled_wt {y:Yard} (id:Int) {B:Nat} (hB:100000≤B) (hw:y.wt≤B):(bJ y id).1.wt≤B:=by
 unfold bJ
 split
 ·exact hw
 next h1=>
 split
 ·next r hr=>
  split
  ·exact hw
  split
  ·exact hw
  have hY:=gU (by simpa using h1)
  refine Nat.le_trans (sK (y:=y) hY.shelf (fun j hj=>by have:=jS hY j hj;omega) (by rw[length_set];exact hY.runs) ?_) hB
  intro q hq
  rcases mem_or_eq_of_mem_set hq with hq | hq
  ·obtain ⟨j,hj⟩:=mem_iff_getElem?.1 hq
   exact (hY.run j q hj).1.wt
  subst hq
  rw[goneR_wt]
  exact (hY.run _ r hr).1.wt
 exact hw
theorem forgotten_wt {y:Yard} (id:Int) {B:Nat} (hB:100000≤B) (hw:y.wt≤B):(aX y id).1.wt≤B:=by
 unfold aX
 split
 ·exact hw
 next h1=>
 split
 ·next r hr=>
  split
  ·exact hw
  split
  ·exact hw
  have hY:=gU (by simpa using h1)
  refine Nat.le_trans (sK (y:=y) (by rw[length_map];exact hY.shelf) (fun j hj => ?_) ?_ ?_) hB
  ·have h2:=jS hY j hj
   have h4:=hY.shelf
   rw[getD_eq_getElem?_getD,getElem?_map]
   rw[getD_eq_getElem?_getD] at h2
   cases hq:y.shelf[j]? with
   | none=>simp
   | some l=>
    rw[hq] at h2
    have:=aN3 id l
    simp at h2 ⊢;omega
  ·have:=length_eraseIdx_le y.runs (aE y id).toNat
   have:=hY.runs
   omega
  intro q hq
  obtain ⟨j,hj⟩:=mem_iff_getElem?.1 (mem_of_mem_eraseIdx hq)
  exact (hY.run j q hj).1.wt
 exact hw
theorem bQ0 {y:Yard} (d:Deed) {B:Nat} (hB:100000≤B) (hw:y.wt≤B):(doD y d).1.wt≤B:=by
 unfold doD
 split
 ·exact hw
 split
 ·exact submitted_wt _ _ hB hw
 split
 ·exact polled_wt _ _ hB hw
 split
 ·exact completeY_wt _ _ _ hB hw
 split
 ·exact failY_wt _ _ _ hB hw
 split
 ·exact ticked_wt hB hw
 split
 ·exact cancelled_wt _ hB hw
 split
 ·exact forgotten_wt _ hB hw
 show (cX y).wt≤B
 cases h:aK y with
 | true=>exact Nat.le_trans (restartY_wt h) hB
 | false=>
  have:cX y=y:=by unfold cX;rw[h];rfl
  rw[this];exact hw
noncomputable def doSt (a:Yard×List Reply) (d:Deed):Yard×List Reply:=((doD a.1 d).1,a.2++[(doD a.1 d).2])
noncomputable def doL (y:Yard) (ds:List Deed):Yard×List Reply:=ds.foldl doSt (y,[])
theorem doL_to {y:Yard} {ds:List Deed} {k:Nat} {d:Deed} (h:ds[k]? = some d):doL y (ds.take (k+1))=doSt (doL y (ds.take k)) d:=by
 unfold doL;rw[← cU h,foldl_append];rfl
theorem doF_wt (ds:List Deed):∀ a:Yard×List Reply,a.1.wt≤1048576→(ds.foldl doSt a).1.wt≤1048576:=by
 induction ds with
 | nil=>exact fun a h=>h
 | cons d ds ih=>exact fun a h=>ih _ (bQ0 d aA h)
theorem doL_wt {y:Yard} (ds:List Deed) (h:y.wt≤1048576):(doL y ds).1.wt≤1048576:=doF_wt ds (y,[]) h
theorem doF_len (ds:List Deed):∀ a:Yard×List Reply,(ds.foldl doSt a).2.length=a.2.length+ds.length:=by
 induction ds with
 | nil=>exact fun a=>rfl
 | cons d ds ih=>intro a;rw[foldl_cons,ih];simp only[doSt,length_append,length_cons,length_nil];omega
theorem doL_len (y:Yard) (ds:List Deed):(doL y ds).2.length=ds.length:=by unfold doL;rw[doF_len];simp
structure DaJ (y:Yard) (ds:List Deed) (g:Nat×Yard×List Reply):Prop where
 le:g.1≤ds.length
 eq:g.2=doL y (ds.take g.1)
 ok:g.2.1.ok
theorem DaJ.wt {y:Yard} {ds:List Deed} {g:Nat×Yard×List Reply} (h:DaJ y ds g) (hw:y.wt≤1048576):g.2.1.wt≤1048576:=by rw[h.eq];exact doL_wt _ hw
theorem DaJ.len {y:Yard} {ds:List Deed} {g:Nat×Yard×List Reply} (h:DaJ y ds g):g.2.2.length≤ds.length:=by rw[h.eq,doL_len,length_take];omega
theorem DaJ.next {y:Yard} {ds:List Deed} {g:Nat×Yard×List Reply} {d:Deed} (h:DaJ y ds g) (hd:ds[g.1]? = some d) (ho:(doD g.2.1 d).1.ok):DaJ y ds (g.1+1,(doD g.2.1 d).1,g.2.2++[(doD g.2.1 d).2]):=
 ⟨(gsi_.1 hd).1,by show _=doL y (ds.take (g.1+1));rw[doL_to hd,← h.eq];rfl,ho⟩
noncomputable def fQ (s:ByteArray) (a:Nat):ByteArray×Int:=
 if (vAt s a).2<0∨¬ (1≤(vAt s a).1∧(vAt s a).1≤400)∨(s.size:Int) - (vAt s a).2 - 4<(vAt s a).1 then (⟨#[]⟩,-1)
 else if eJ (s.extract ((vAt s a).2+4).toNat ((vAt s a).2+4+(vAt s a).1).toNat)=(fourR s (vAt s a).2.toNat).1 then (s.extract ((vAt s a).2+4).toNat ((vAt s a).2+4+(vAt s a).1).toNat,(vAt s a).2+4+(vAt s a).1) else (⟨#[]⟩,-1)
def eI (t:ByteArray):ByteArray:=if inB t.size 1 400 then aY t.size++eZ (eJ t)++t else ⟨#[]⟩
theorem qF (n:Int):(eZ n).size≤4:=by unfold eZ;split <;> simp[ByteArray.size,qY]
theorem bO7 {t:ByteArray} (h:inB (t.size:Int) 1 400=false):(⟨#[]⟩:ByteArray)=eI t:=by unfold eI;rw[h];rfl
theorem bO6 {t:ByteArray} (h:inB (t.size:Int) 1 400=true):aY t.size++eZ (eJ t)++t=eI t:=by unfold eI;rw[h];rfl
theorem FrameOf_i (t:ByteArray) (ht:t.size≤1048576):Ct1 prog 104 [.T t] [.T (eI t)]:=
 .one (eI t) (rk:=fun a=>[.T a])<|vc func104 (fun hg => .c func92 (bN (t.size:Int) 1 400) fun _ => .v (inB (t.size:Int) 1 400)
  (fun h => .rt ⟨#[]⟩ ⟨bO7 h,trivial⟩)
  (fun h=>let hv:=dJ (t.size:Int)
   let hf:=qF (eJ t)
   .c func202 (vC (t.size:Int)) fun _ => .c func197 (bG1 t ht) fun _ => .c func196 (FourOfI (eJ t)) fun _ => .pb .add (iT (aY t.size) (eZ (eJ t)) aA) <| .pb .add (iT (aY t.size++eZ (eJ t)) t (by rw[ByteArray.size_append];omega)) <|
   .rt (aY t.size++eZ (eJ t)++t) ⟨bO6 h,trivial⟩)) aC
theorem fo_e {t:ByteArray} (h:t=⟨#[]⟩):(⟨#[]⟩:ByteArray)=eI t:=bO7 (by subst h;rfl)
theorem fo_l {t:ByteArray} (h:(400:Int)<t.size):(⟨#[]⟩:ByteArray)=eI t:=bO7 (by unfold inB;simp;omega)
theorem fo_in {t:ByteArray} (h:¬ t=⟨#[]⟩) (h2:¬ (400:Int)<t.size):inB (t.size:Int) 1 400=true:=by
 refine inB_iff'.2 ⟨?_,by omega⟩
 have:t.size≠0:=fun e=>h (by
  cases t with
  | mk a=>congr 1;exact Array.eq_empty_of_size_eq_zero e)
 omega
theorem FrameOf_s (t:ByteArray) (ht:t.size≤1048576):Ct1 prog 113 [.T t] [.T (eI t)]:=
 .one (eI t) (rk:=fun a=>[.T a])<|vc func113 (fun hg => .s (t=⟨#[]⟩)
  (fun h => .rt ⟨#[]⟩ ⟨fo_e h,trivial⟩)
  (fun h => .s ((400:Int)<t.size)
   (fun h2 => .rt ⟨#[]⟩ ⟨fo_l h2,trivial⟩)
   (fun h2=>let hv:=dJ (t.size:Int)
    let hf:=qF (eJ t)
    .c func214 (vB (t.size:Int)) fun _ => .c func216 (bG0 t ht) fun _ => .c func215 (FourOfS (eJ t)) fun _ => .pb .add (iT (aY t.size) (eZ (eJ t)) aA) <| .pb .add (iT (aY t.size++eZ (eJ t)) t (by rw[ByteArray.size_append];omega)) <|
    .rt (aY t.size++eZ (eJ t)++t) ⟨bO6 (fo_in h h2),trivial⟩))) aC
theorem vAt_rng {s:ByteArray} {a:Nat} (ha:a≤s.size) (h:¬ (vAt s a).2<0):∃ n j:Nat,vAt s a=((n:Int),(j:Int))∧a≤j∧j≤s.size:=by
 cases hv:fD (s.data.toList.drop a) with
 | none=>rw[← aP1 hv] at h;exact absurd eS h
 | some q=>
  obtain ⟨n,k⟩:=q
  obtain ⟨_,hp,hk⟩:=iG hv
  have hl:=hp.length_le
  rw[pI,← hk] at hl
  exact ⟨n,a+k,by rw[← xN hv];simp,by omega,by omega⟩
def cP (n:Note):List Int:=n.seq::n.deed.kind::aZ n.deed
def aD6 (l:List Int):ByteArray:=⟨(fS l).toArray⟩
noncomputable def iQ (n:Note):ByteArray:=if aT n.deed=true∧inB n.seq 1 1000000000=true∧(aD6 (cP n)).size≤400 then aD6 (cP n) else ⟨#[]⟩
theorem kC {n:Note} (h:¬ (aT n.deed=true∧inB n.seq 1 1000000000=true∧(aD6 (cP n)).size≤400)):(⟨#[]⟩:ByteArray)=iQ n:=by unfold iQ;rw[if_neg h]
theorem uM {n:Note} (h:aT n.deed=true∧inB n.seq 1 1000000000=true∧(aD6 (cP n)).size≤400):aD6 (cP n)=iQ n:=by unfold iQ;rw[if_pos h]
theorem yV (n:Note):(iQ n).size≤400:=by
 unfold iQ
 split
 ·next h=>exact h.2.2
 exact Nat.zero_le _
def note0:Note:=⟨0,⟨0,0,zP,0,0,0,0⟩⟩
theorem z64:I64 0:=by unfold I64;omega
theorem aO8:zP.ok:=⟨z64,z64,z64,z64⟩
theorem note0_ok:note0.ok:=⟨z64,z64,z64,aO8,z64,z64,z64,z64⟩
def lK {σ:Type} (r:Rdr σ) (x:σ):σ×Note:=
 let a:=r.next x
 let k:=r.next a.1
 let u:=r.next k.1
 let v:=r.next u.1
 let w:=r.next v.1
 if k.2=1 then ((vZ r u.1).1,⟨a.2,⟨k.2,u.2,(vZ r u.1).2,0,0,0,0⟩⟩)
 else if k.2=2 then (v.1,⟨a.2,⟨k.2,0,zP,0,0,u.2,v.2⟩⟩)
 else if k.2=3∨k.2=4 then (w.1,⟨a.2,⟨k.2,u.2,zP,v.2,w.2,0,0⟩⟩)
 else if k.2=6∨k.2=7 then (u.1,⟨a.2,⟨k.2,u.2,zP,0,0,0,0⟩⟩)
 else (k.1,⟨a.2,⟨k.2,0,zP,0,0,0,0⟩⟩)
section
variable {σ:Type} {r:Rdr σ} {x:σ}
theorem noteG_1 (h:(r.next (r.next x).1).2=1):lK r x=((vZ r (r.next (r.next (r.next x).1).1).1).1,⟨(r.next x).2,⟨(r.next (r.next x).1).2,(r.next (r.next (r.next x).1).1).2,(vZ r (r.next (r.next (r.next x).1).1).1).2,0,0,0,0⟩⟩):=by unfold lK;simp only;rw[if_pos h]
theorem noteG_2 (h:(r.next (r.next x).1).2=2):lK r x=((r.next (r.next (r.next (r.next x).1).1).1).1,⟨(r.next x).2,⟨(r.next (r.next x).1).2,0,zP,0,0,(r.next (r.next (r.next x).1).1).2,(r.next (r.next (r.next (r.next x).1).1).1).2⟩⟩):=by unfold lK;simp only;rw[if_neg aA,if_pos h]
theorem noteG_3 (h:(r.next (r.next x).1).2=3∨(r.next (r.next x).1).2=4):lK r x=((r.next (r.next (r.next (r.next (r.next x).1).1).1).1).1,⟨(r.next x).2,⟨(r.next (r.next x).1).2,(r.next (r.next (r.next x).1).1).2,zP,(r.next (r.next (r.next (r.next x).1).1).1).2,(r.next (r.next (r.next (r.next (r.next x).1).1).1).1).2,0,0⟩⟩):=by unfold lK;simp only;rw[if_neg aA,if_neg aA,if_pos h]
theorem noteG_6 (h:(r.next (r.next x).1).2=6∨(r.next (r.next x).1).2=7):lK r x=((r.next (r.next (r.next x).1).1).1,⟨(r.next x).2,⟨(r.next (r.next x).1).2,(r.next (r.next (r.next x).1).1).2,zP,0,0,0,0⟩⟩):=by unfold lK;simp only;rw[if_neg aA,if_neg aA,if_neg aA,if_pos h]
theorem noteG_0 (h1:¬ (r.next (r.next x).1).2=1) (h2:¬ (r.next (r.next x).1).2=2) (h3:¬ (r.next (r.next x).1).2=3) (h4:¬ (r.next (r.next x).1).2=4) (h6:¬ (r.next (r.next x).1).2=6) (h7:¬ (r.next (r.next x).1).2=7):lK r x=((r.next (r.next x).1).1,⟨(r.next x).2,⟨(r.next (r.next x).1).2,0,zP,0,0,0,0⟩⟩):=by unfold lK;simp only;rw[if_neg h1,if_neg h2,if_neg aA,if_neg aA]
theorem lQ {d:Deed} (h:aT d=true):inB d.kind 1 8=true∧d.plan.edges.length≤31∧d=kL d∧∀ n∈aZ d,num n=true:=by
 unfold aT at h
 simp only[Bool.and_eq_true,decide_eq_true_eq,Bool.not_eq_true'] at h
 obtain ⟨⟨⟨h1,h2⟩,h3⟩,h4⟩:=h
 refine ⟨h1,h2,eqB_iff.1 h3,fun n hn => ?_⟩
 cases hq:num n with
 | true=>rfl
 | false=>rw[any_eq_true.2 ⟨n,hn,by simp[hq]⟩] at h4;cases h4
variable {Rd:σ→List Int→Prop} (F:Fwd r Rd)
include F
theorem note_fwd {n:Note} {ns:List Int} (hd:aT n.deed=true) (h:Rd x (cP n++ns)):(lK r x).2=n∧Rd (lK r x).1 ns:=by
 obtain ⟨s,d⟩:=n
 obtain ⟨_,hl,hu,_⟩:=lQ hd
 simp only at hl hu hd
 unfold cP at h
 obtain ⟨a1,h⟩:=F.next (ns:=(d.kind::aZ d)++ns) h
 obtain ⟨a2,h⟩:=F.next (ns:=aZ d++ns) h
 unfold aZ at h
 unfold kL at hu
 split at hu
 ·next hk=>
  rw[if_pos hk] at h
  have h:Rd (r.next (r.next x).1).1 (d.run::((d.plan.prio::d.plan.most::d.plan.wait::d.plan.tasks::(d.plan.edges.length:Int)::d.plan.edges.flatMap aN8)++ns)):=h
  rw[← aR2] at h
  obtain ⟨a3,h⟩:=F.next h
  obtain ⟨a4,h⟩:=plan_fwd F hl h
  rw[noteG_1 (by rw[a2];exact hk)]
  refine ⟨?_,h⟩
  simp only[a1,a2,a3,a4]
  rw[← hu]
 next h1=>
 rw[if_neg h1] at h
 split at hu
 ·next hk=>
  rw[if_pos hk] at h
  obtain ⟨a3,h⟩:=F.next (ns:=d.draw::ns) h
  obtain ⟨a4,h⟩:=F.next h
  rw[noteG_2 (by rw[a2];exact hk)]
  refine ⟨?_,h⟩
  simp only[a1,a2,a3,a4]
  rw[← hu]
 next h2=>
 rw[if_neg h2] at h
 split at hu
 ·next hk=>
  rw[if_pos hk] at h
  obtain ⟨a3,h⟩:=F.next (ns:=d.task::d.try_::ns) h
  obtain ⟨a4,h⟩:=F.next h
  obtain ⟨a5,h⟩:=F.next h
  rw[noteG_3 (by rw[a2];exact hk)]
  refine ⟨?_,h⟩
  simp only[a1,a2,a3,a4,a5]
  rw[← hu]
 next h3=>
 rw[if_neg h3] at h
 split at hu
 ·next hk=>
  rw[if_pos hk] at h
  obtain ⟨a3,h⟩:=F.next (ns:=ns) h
  rw[noteG_6 (by rw[a2];exact hk)]
  refine ⟨?_,h⟩
  simp only[a1,a2,a3]
  rw[← hu]
 next h4=>
 rw[if_neg h4] at h
 rw[noteG_0 (by rw[a2];omega) (by rw[a2];omega) (by rw[a2];omega) (by rw[a2];omega) (by rw[a2];omega) (by rw[a2];omega)]
 refine ⟨?_,h⟩
 simp only[a1,a2]
 rw[← hu]
end
section
variable {σ:Type} {r:Rdr σ} {x:σ} {In:σ→Prop} {Cs:σ→σ→List Int→Prop} (B:Bwd r In Cs)
include B
theorem note_ok (h:In x):(lK r x).2.ok:=by
 have i1:=(B.inn h).1
 have i2:=(B.inn i1).1
 have i3:=(B.inn i2).1
 have i4:=(B.inn i3).1
 unfold lK
 simp only
 split
 ·exact ⟨n64 B h,n64 B i1,n64 B i2,plan_ok B _ i3,z64,z64,z64,z64⟩
 split
 ·exact ⟨n64 B h,n64 B i1,z64,aO8,z64,z64,n64 B i2,n64 B i3⟩
 split
 ·exact ⟨n64 B h,n64 B i1,n64 B i2,aO8,n64 B i3,n64 B i4,z64,z64⟩
 split
 ·exact ⟨n64 B h,n64 B i1,n64 B i2,aO8,z64,z64,z64,z64⟩
 exact ⟨n64 B h,n64 B i1,z64,aO8,z64,z64,z64,z64⟩
end
noncomputable def notL (s:ByteArray):LIn×Note:=lK linR ⟨s,0,false⟩
def NTx (n:Note) (s:ByteArray):Prop:=¬ s=⟨#[]⟩∧iQ n=s
noncomputable instance (n:Note) (s:ByteArray):Decidable (NTx n s):=Classical.propDecidable _
noncomputable def gY (s:ByteArray):Note×Bool:=if s.size≤400∧(notL s).1.bad=false∧NTx (notL s).2 s then ((notL s).2,true) else (note0,false)
theorem ntx_p {n:Note} {s:ByteArray} (h:NTx n s):aT n.deed=true∧inB n.seq 1 1000000000=true∧s.size≤400∧∃ ns,iL ns∧cP n=tQ ns∧dI ns=s.data.toList:=by
 obtain ⟨h0,h⟩:=h
 by_cases hc:aT n.deed=true∧inB n.seq 1 1000000000=true∧(aD6 (cP n)).size≤400
 ·rw[← uM hc] at h
  have hn:∀ z∈cP n,0≤z∧z≤1000000000:=by
   intro z hz
   unfold cP at hz
   have h8:=inB_iff.1 (lQ hc.1).1
   have h9:=inB_iff.1 hc.2.1
   rcases mem_cons.1 hz with rfl | hz
   ·omega
   rcases mem_cons.1 hz with rfl | hz
   ·omega
   have:=(lQ hc.1).2.2.2 z hz
   unfold num at this
   exact inB_iff.1 this
  have e:cP n=tQ ((cP n).map Int.toNat):=by
   unfold tQ
   rw[map_map]
   conv=>lhs;rw[← map_id (cP n)]
   exact map_congr_left fun z hz=>by have:=hn z hz;simp only[id_eq,Function.comp_apply];omega
  have hs:iL ((cP n).map Int.toNat):=fun m hm=>by
   obtain ⟨z,hz,rfl⟩:=mem_map.1 hm
   have:=hn z hz
   omega
  refine ⟨hc.1,hc.2.1,by rw[← h];exact hc.2.2,_,hs,e,?_⟩
  rw[← vJ hs,← e,← h]
  rfl
 rw[← kC hc] at h
 exact absurd h.symm h0
theorem readNS_iff {s:ByteArray} {n:Note}:gY s=(n,true)↔NTx n s:=by
 constructor
 ·intro h
  unfold gY at h
  split at h
  ·next hc=>
   simp only[Prod.mk.injEq,and_true] at h
   rw[← h];exact hc.2.2
  cases h
 intro hx
 obtain ⟨hd,_,hz,ns,h1,h2,h3⟩:=ntx_p hx
 have hf:=note_fwd linF hd (x:=⟨s,0,false⟩) (ns:=[]) ⟨rfl,ns,h1,by rw[h2,append_nil],by rw[h3];rfl⟩
 have e1:(notL s).2=n:=hf.1
 have e2:(notL s).1.bad=false:=hf.2.1
 unfold gY
 rw[if_pos ⟨hz,e2,by rw[e1];exact hx⟩,e1]
theorem readNS_ok (s:ByteArray) (hs:s.size≤1048576):(gY s).1.ok:=by
 unfold gY
 split
 ·exact note_ok linB (x:=⟨s,0,false⟩) ⟨hs,Nat.zero_le _⟩
 exact note0_ok
theorem readNS_rng {s:ByteArray} (h:(gY s).2=true):1≤(gY s).1.seq∧(gY s).1.seq≤1000000000∧(gY s).1.deed.plan.edges.length≤31∧s.size≤400:=by
 have hx:NTx (gY s).1 s:=readNS_iff.1 (by rw[← h])
 obtain ⟨h1,h2,h3,_⟩:=ntx_p hx
 have:=inB_iff.1 h2
 exact ⟨this.1,this.2,(lQ h1).2.1,h3⟩
/-! ### All frames of a text -/
noncomputable def iM (s:ByteArray):Nat→List ByteArray×Int
 | 0=>([],0)
 | k+1=>if (fQ s (iM s k).2.toNat).2<0 then iM s k else ((iM s k).1++[(fQ s (iM s k).2.toNat).1],(fQ s (iM s k).2.toNat).2)
noncomputable def scanR (s:ByteArray):List ByteArray×Int:=if (60000:Int)<s.size then ([],0) else iM s s.size
theorem frameAt_rng {s:ByteArray} {a:Nat} (ha:a≤s.size) (h:¬ (fQ s a).2<0):∃ b:Nat,(fQ s a).2=(b:Int)∧a+1≤b∧b≤s.size∧(fQ s a).1.size≤400:=by
 unfold fQ at h ⊢
 split at h
 ·exact absurd eS h
 next hc=>
 split at h
 ·next hs=>
  rw[if_neg hc,if_pos hs]
  have hn:¬ (vAt s a).2<0:=fun h=>hc (.inl h)
  obtain ⟨n,j,e,h1,h2⟩:=vAt_rng ha hn
  rw[e] at hc ⊢
  simp only[not_or,Decidable.not_not] at hc
  refine ⟨j+4+n,by simp,by omega,by omega,?_⟩
  rw[ByteArray.size_extract]
  simp only
  omega
 exact absurd eS h
structure ScJ (s:ByteArray) (g:List ByteArray×Nat):Prop where
 ex:∃ k:Nat,k≤g.2∧(g.1,(g.2:Int))=iM s k
 le:g.2≤s.size
 len:g.1.length≤g.2
theorem ScJ.start (s:ByteArray):ScJ s ([],0):=⟨⟨0,Nat.le_refl _,rfl⟩,Nat.zero_le _,Nat.le_refl _⟩
theorem scan_stop {s:ByteArray} {k:Nat} (h:(fQ s (iM s k).2.toNat).2<0):∀ j,k≤j→iM s j=iM s k:=by
 intro j hj
 induction j with
 | zero=>rw[show k=0 by omega]
 | succ j ih=>
  rcases Nat.lt_or_ge k (j+1) with h1 | h1
  ·have e:=ih aA
   show (if (fQ s (iM s j).2.toNat).2<0 then iM s j else _)=_
   rw[e,if_pos h]
  rw[show k=j+1 by omega]
theorem ScJ.done {s:ByteArray} {g:List ByteArray×Nat} (h:ScJ s g) (h6:¬ (60000:Int)<s.size) (hf:(fQ s g.2).2<0):(g.1,(g.2:Int))=scanR s:=by
 obtain ⟨k,hk,e⟩:=h.ex
 unfold scanR
 rw[if_neg h6,scan_stop (k:=k) (by rw[← e];simpa using hf) _ (by have:=h.le;omega),e]
theorem ScJ.next {s:ByteArray} {g:List ByteArray×Nat} (h:ScJ s g) (hf:¬ (fQ s g.2).2<0):∃ b:Nat,(fQ s g.2).2=(b:Int)∧g.2+1≤b∧ScJ s (g.1++[(fQ s g.2).1],b):=by
 obtain ⟨b,e1,e2,e3,_⟩:=frameAt_rng h.le hf
 obtain ⟨k,hk,e⟩:=h.ex
 refine ⟨b,e1,e2,⟨k+1,by show k+1≤b;omega,?_⟩,e3,by have:=h.len;simp only[length_append,length_singleton];omega⟩
 show _=(if (fQ s (iM s k).2.toNat).2<0 then iM s k else _)
 rw[← e]
 simp only[Int.toNat_natCast]
 rw[if_neg hf,e1]
/-! ### Notes one behind the other -/
def aM4 (a:List Note×Int) (b:ByteArray):Prop:=(gY b).2=true∧(a.1=[]∨(gY b).1.seq=(a.1.getLastD note0).seq+1)
noncomputable instance (a:List Note×Int) (b:ByteArray):Decidable (aM4 a b):=Classical.propDecidable _
noncomputable def uL:List Note×Int→List ByteArray→List Note×Int
 | a,[]=>a
 | a,b::bs=>if aM4 a b then uL (a.1++[(gY b).1],a.2+(eI b).size) bs else a
theorem notesF_cons (a:List Note×Int) (b:ByteArray) (bs:List ByteArray):uL a (b::bs)=if aM4 a b then uL (a.1++[(gY b).1],a.2+(eI b).size) bs else a:=rfl
structure NsJ (bs:List ByteArray) (g:Nat×List Note×Int):Prop where
 eq:uL g.2 (bs.drop g.1)=uL ([],0) bs
 le:g.1≤bs.length
 len:g.2.1.length=g.1
 rng:∀ n∈g.2.1,n.ok∧1≤n.seq∧n.seq≤1000000000
 sz:0≤g.2.2∧g.2.2≤1000*(g.1:Int)
theorem NsJ.start (bs:List ByteArray):NsJ bs (0,[],0):=⟨rfl,Nat.zero_le _,rfl,fun n hn=>(by cases hn),by simp⟩
theorem NsJ.all {bs:List ByteArray} {g:Nat×List Note×Int} (h:NsJ bs g) (hk:¬ (g.1:Int)<bs.length):g.2=uL ([],0) bs:=by
 have:=h.eq
 rw[drop_eq_nil_of_le aA] at this
 exact this
theorem frameOf_sz {b:ByteArray} (hb:b.size≤400):(eI b).size≤1000:=by
 unfold eI
 split
 ·have h1:=dJ (b.size:Int)
  have h2:=qF (eJ b)
  rw[ByteArray.size_append,ByteArray.size_append]
  omega
 exact Nat.zero_le _
theorem NsJ.next {bs:List ByteArray} {g:Nat×List Note×Int} {b:ByteArray} (h:NsJ bs g) (hb:bs[g.1]? = some b) (hz:b.size≤400) (hn:aM4 g.2 b):NsJ bs (g.1+1,g.2.1++[(gY b).1],g.2.2+(eI b).size):=by
 obtain ⟨hk,rfl⟩:=gsi_.1 hb
 have hr:=readNS_rng hn.1
 have hf:=frameOf_sz hz
 have:=h.eq
 rw[drop_eq_getElem_cons hk,notesF_cons] at this
 rw[if_pos hn] at this
 refine ⟨this,hk,by simp[h.len],fun n hm => ?_,by have:=h.sz;simp only;omega⟩
 rcases mem_append.1 hm with hm | hm
 ·exact h.rng n hm
 simp only[mem_singleton] at hm
 rw[hm]
 exact ⟨readNS_ok _ aA,hr.1,hr.2.1⟩
/-! ### Notes behind a mark -/
def oX:List Note×Int→List Note→List Note
 | a,[]=>a.1
 | a,n::ns=>if n.seq≤a.2 then oX a ns else if ¬ n.seq - 1=a.2 then a.1 else oX (a.1++[n],n.seq) ns
theorem vP (a:List Note×Int) (n:Note) (ns:List Note):oX a (n::ns)=if n.seq≤a.2 then oX a ns else if ¬ n.seq - 1=a.2 then a.1 else oX (a.1++[n],n.seq) ns:=rfl
structure SiJ (ns:List Note) (q:Int) (g:Nat×List Note×Int):Prop where
 eq:oX g.2 (ns.drop g.1)=oX ([],q) ns
 le:g.1≤ns.length
 len:g.2.1.length≤g.1
 i64:I64 g.2.2
theorem SiJ.start {ns:List Note} {q:Int} (h:I64 q):SiJ ns q (0,[],q):=⟨rfl,Nat.zero_le _,Nat.le_refl _,h⟩
section
variable {ns:List Note} {q:Int} {g:Nat×List Note×Int} {n:Note} (h:SiJ ns q g)
include h
theorem SiJ.all (hk:¬ (g.1:Int)<ns.length):g.2.1=oX ([],q) ns:=by
 have:=h.eq
 rw[drop_eq_nil_of_le aA] at this
 exact this
theorem SiJ.skip (hb:ns[g.1]? = some n) (hn:n.seq≤g.2.2):SiJ ns q (g.1+1,g.2):=by
 obtain ⟨hk,rfl⟩:=gsi_.1 hb
 have:=h.eq
 rw[drop_eq_getElem_cons hk,vP] at this
 rw[if_pos hn] at this
 exact ⟨this,hk,by have:=h.len;show g.2.1.length≤g.1+1;omega,h.i64⟩
theorem SiJ.next (hb:ns[g.1]? = some n) (hn:¬ n.seq≤g.2.2) (h2:n.seq - 1=g.2.2) (h6:I64 n.seq):SiJ ns q (g.1+1,g.2.1++[n],n.seq):=by
 obtain ⟨hk,rfl⟩:=gsi_.1 hb
 have:=h.eq
 rw[drop_eq_getElem_cons hk,vP] at this
 rw[if_neg hn,if_neg (by simpa using h2)] at this
 exact ⟨this,hk,by have:=h.len;simp only[length_append,length_singleton];omega,h6⟩
end
end Go.Proofs.YtanpcpoogkdlaaaGreat
