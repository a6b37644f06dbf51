/-
  Runs of which a task fails, yards that are turned, of the reference.
  A task that is done: what becomes of a right run. Theory alone.
  Runs that are changed where they lie, of the program; told to the reader, and as calls.
  Yards that are started again, of both.
  What is submitted, of both.
  A task that is done, of both.
  What is told of a task, of both.
  A task that failed, of both.
  Shelves that are halved, merged, taken from, of both.
  Shelves that are swept, of both.
  What a worker is given, of both.
  Tasks that are late, yards whose time goes on. Theory alone.
  Late tasks of the program; told to the reader.
  Tasks that are late, time that goes on, of both.
  A run that is left, of both.
  Runs that are given up, of both.
  Runs that are forgotten, of both.
  A deed that is done, of both.
  Every deed leaves a good yard good: the invariant of the yards that come from the new yard by deeds. Plain theory.
  Deeds that are drawn for a yard. Told to the reader.
  What deeds are well made, of both; told to the reader.
  A number's text, the shelf of an id, of both; told to the reader.
  Frames of the log, of both; told to the reader.
  Notes as texts, and read out of texts; notes in a text of frames. Plain theory.
  Frames of a text, and notes as texts, of both; told to the reader.
  Plans and runs read out of a text, of the reference.
  What a change of a run lays on the shelves, of both: read where it is called.
  Runs that are done, or fail, or are left; what is told of work; starting anew; of the reference; told to the reader.
  Runs that are done; starting anew; of the reference; told to the reader.
-/
import Derived.Test.YtpdgdnpajmcaeaaGreatQ01
import Derived.Test.YtpdgdnpajmcaeaaGreatQ02
import Derived.Test.YtpdgdnpajmcaeaaGreatQ03
import Derived.Test.YtpdgdnpajmcaeaaGreatQ04
import Derived.Test.YtpdgdnpajmcaeaaGreatQ05
set_option linter.unusedSimpArgs false
set_option linter.unusedVariables false
namespace Go.Proofs.YtpdgdnpajmcaeaaGreat
set_option maxRecDepth 100000
set_option maxHeartbeats 2000000
open Go.RowKit Go.Proofs.Tryz List
def eC (ts:List Task) (k:Nat):List Task:=ts.mapIdx (fun j t=>if j<k then eA t else t)
theorem leaveSTo_zero (ts:List Task):eC ts 0=ts:=by
 apply ext_getElem?;intro i;simp[eC,getElem?_mapIdx]
theorem leaveSTo_len (ts:List Task) (k:Nat):(eC ts k).length=ts.length:=by simp[eC]
theorem yG {ts:List Task}{k:Nat}{t:Task}(h:ts[k]? = some t):(eC ts k)[k]? = some t:=by simp[eC,getElem?_mapIdx,h]
theorem leaveSTo_set {ts:List Task}{k:Nat}{t y:Task}(h:ts[k]? = some t) (hy:eA t=y):(eC ts k).set k y=eC ts (k+1):=by
 apply ext_getElem?;intro i;obtain⟨hl,rfl⟩:=gsi_.1 h;simp only[eC,getElem?_set,getElem?_mapIdx,length_mapIdx];by_cases e:k=i
 ·subst e;simp[hl,hy]
 rw[if_neg e];cases hi:ts[i]? with
 | none=>rfl
 | some u=>
  have:(i<k)↔(i<k+1):=by omega
  simp[this]
theorem leaveSTo_all (ts:List Task):eC ts ts.length=cU ts:=by
 apply ext_getElem?;intro i;simp only[eC,cU,getElem?_mapIdx,getElem?_map];cases hi:ts[i]? with
 | none=>rfl
 | some u=>have:=(gsi_.1 hi).1;simp[this]
theorem leaveS1_t {t:Task}(h:¬t.state=4) (h2:¬t.state=5):eA t=dI t:=by unfold eA;rw[if_neg (by simp[h,h2])]
theorem leaveS1_4 {t:Task}(h:t.state=4):eA t=t:=by unfold eA;rw[if_pos (.inl h)]
theorem leaveS1_5 {t:Task}(h:t.state=5):eA t=t:=by unfold eA;rw[if_pos (.inr h)]
noncomputable def gD (r:Run) (task:Int):Bool:=dP r && (inB task 0 ((r.tasks.length:Int)-1) && (match r.tasks[task.toNat]? with | some t=>decide (t.state=3) | none=>false))
theorem aB8 {r:Run}{task:Int}(h:gD r task=true):RunIs r/\∃t,0<=task/\r.tasks[task.toNat]? = some t/\t.state=3:=by
 unfold gD at h;simp only[Bool.and_eq_true]at h;obtain⟨h1,h2,h3⟩:=h;refine⟨runIs.1 h1,?_⟩;cases hq:r.tasks[task.toNat]? with
 | none=>rw[hq]at h3;cases h3
 | some t=>rw[hq]at h3;exact⟨t,(inB_iff'.1 h2).1,rfl,by simpa using h3⟩
noncomputable def bV (r:Run) (task:Int):Run:=if gD r task then aG8 r task.toNat else r

def cB (r r':Run) (k:Nat):List Int:=(cH r'.tasks 2 k).filter (fun t=> !decide (t∈aH r.tasks 2))
theorem freshTo_zero (r r':Run):cB r r' 0=[]:=rfl
theorem freshTo_len (r r':Run) (k:Nat):(cB r r' k).length<=k:=Nat.le_trans (length_filter_le _ _) (eP _ _ _)
theorem tin_mem {ts:List Task}{s:Int}{k:Nat}:(k:Int)∈aH ts s↔∃h:k<ts.length,ts[k].state=s:=by
 unfold aH cH;rw[mem_filterMap];constructor
 ·rintro⟨a,ha,h⟩;rw[mem_range]at ha;split at h
  ·next e=>
   simp only[Option.some.injEq]at h;have:a=k:=by omega
   subst this;rw[getElem?_eq_getElem ha]at e;exact⟨ha,by simpa using e⟩
  cases h
 rintro⟨h,e⟩;exact⟨k,by simpa using h,by rw[if_pos (by rw[getElem?_eq_getElem h];simpa using e)]⟩
theorem aG2 {r r':Run}{k:Nat}(h:k<r'.tasks.length) (hs:¬r'.tasks[k].state=2):cB r r' (k+1)=cB r r' k:=by unfold cB;rw[vW h hs]
theorem freshTo_f2 {r r':Run}{k:Nat}(h:k<r'.tasks.length) (h2:k<r.tasks.length) (hs:r.tasks[k].state=2):cB r r' (k+1)=cB r r' k:=by
 by_cases hq:r'.tasks[k].state=2
 ·unfold cB;rw[qM h hq,filter_append];have:(k:Int)∈aH r.tasks 2:=tin_mem.2 ⟨h2,hs⟩;simp[this]
 exact aG2 h hq
theorem aO3 {r r':Run}{k:Nat}(h:k<r'.tasks.length) (hs:r'.tasks[k].state=2) (hn:r.tasks.length<=k∨∃h2:k<r.tasks.length,¬r.tasks[k].state=2):cB r r' (k+1)=cB r r' k++[(k:Int)]:=by
 unfold cB;rw[qM h hs,filter_append];have:¬(k:Int)∈aH r.tasks 2:=fun hm=>by
  obtain⟨h2,e⟩:=tin_mem.1 hm;rcases hn with hn | ⟨_,hn⟩
  ·omega
  exact hn e
 simp[this]
def gX (t:Task):Task:=⟨if t.need-1=0 then 2 else t.state,t.need-1,t.try_,t.until_⟩
def mQ (ts:List Task) (k:Int):List Task:=match ts[k.toNat]? with | some t=>ts.set k.toNat (gX t) | none=>ts
def mZ (ts:List Task) (l:List Int):List Task:=l.foldl mQ ts
theorem aQ2 (ts:List Task) (l:List Int):mZ ts (l.take 0)=ts:=rfl
theorem behSt_at {ts:List Task}{k:Int}{t:Task}(h:ts[k.toNat]? = some t):mQ ts k=ts.set k.toNat (gX t):=by unfold mQ;rw[h]
theorem bS0 {ts:List Task}{l:List Int}{j:Nat}{k:Int}{t u:Task}(hl:l[j]? = some k) (h:(mZ ts (l.take j))[k.toNat]? = some t) (hu:gX t=u):mZ ts (l.take (j+1))=(mZ ts (l.take j)).set k.toNat u:=by
 obtain⟨hj,rfl⟩:=gsi_.1 hl;rw[take_succ_eq_append_getElem hj];unfold mZ at h ⊢;rw[foldl_append,foldl_cons,foldl_nil,behSt_at h,hu]
theorem bP0 {t:Task}(h:t.need-1=0):gX t=⟨2,t.need-1,t.try_,t.until_⟩:=by unfold gX;rw[if_pos h]
theorem bO9 {t:Task}(h:¬t.need-1=0):gX t=⟨t.state,t.need-1,t.try_,t.until_⟩:=by unfold gX;rw[if_neg h]
theorem behSt_len (ts:List Task) (k:Int):(mQ ts k).length=ts.length:=by unfold mQ;split<;>simp
theorem aI1 (ts:List Task):∀l:List Int,(mZ ts l).length=ts.length
 | []=>rfl
 | k::l=>by
  show (mZ (mQ ts k) l).length=_;rw[aI1 _ l,behSt_len]
theorem behSt_all {P:Task->Prop}{ts:List Task}(h:∀t∈ts,P t) (hs:∀t,P t->P (gX t)) (k:Int):∀t∈mQ ts k,P t:=by
 intro t ht;unfold mQ at ht;split at ht
 ·next u hu=>
  rcases mem_or_eq_of_mem_set ht with h1 | rfl
  ·exact h t h1
  exact hs u (h u (mem_of_getElem? hu))
 exact h t ht
theorem aI2 {P:Task->Prop}(hs:∀t,P t->P (gX t)):∀(l:List Int) {ts:List Task},(∀t∈ts,P t)->∀t∈mZ ts l,P t
 | [],ts,h=>h
 | k::l,ts,h=>aI2 hs l (behSt_all h hs k)
theorem behSt_need {ts:List Task}{a b:Int}(h:∀t∈ts,a<=t.need/\t.need<=b) (k:Int):∀t∈mQ ts k,a-1<=t.need/\t.need<=b:=by
 intro t ht;unfold mQ at ht;split at ht
 ·next u hu=>
  rcases mem_or_eq_of_mem_set ht with h1 | rfl
  ·have:=h t h1;omega
  have:=h u (mem_of_getElem? hu);simp only[gX];omega
 have:=h t ht;omega
theorem aQ3:∀(l:List Int) {ts:List Task}{a b:Int},(∀t∈ts,a<=t.need/\t.need<=b)->∀t∈mZ ts l,a-l.length<=t.need/\t.need<=b
 | [],ts,a,b,h=>fun t ht=>by have:=h t ht;simp;omega
 | k::l,ts,a,b,h=>fun t ht=>by
  have:=aQ3 l (behSt_need h k) t ht;simp only[length_cons];omega
noncomputable def bF (r:Run) (i:Nat) (t:Task):List Task:=mZ (r.tasks.set i ⟨4,t.need,t.try_,0⟩) (aO r.plan (i:Int))
noncomputable def sH (r:Run) (i:Nat) (t:Task):Run:=⟨r.id,r.plan,if aL (bF r i t) 4=((bF r i t).length:Int) then 2 else r.state,bF r i t⟩
noncomputable def fW (r:Run) (i:Nat):Run:=match r.tasks[i]? with | some t=>sH r i t | none=>r
theorem vF {r:Run}{i:Nat}{t:Task}(h:r.tasks[i]? = some t):fW r i=sH r i t:=by unfold fW;rw[h]
theorem oN (r:Run) (i:Nat) (t:Task):(bF r i t).length=r.tasks.length:=by unfold bF;rw[aI1,length_set]
theorem kT (r:Run) (i:Nat):(fW r i).id=r.id/\(fW r i).plan=r.plan/\(fW r i).tasks.length=r.tasks.length/\((fW r i).state=r.state∨(fW r i).state=2):=by
 unfold fW;split
 ·next t h=>
  refine⟨rfl,rfl,oN r i t,?_⟩;show (if _ then (2:Int) else r.state)=_∨(if _ then (2:Int) else r.state)=_;split
  ·exact .inr rfl
  exact .inl rfl
 exact⟨rfl,rfl,rfl,.inl rfl⟩
theorem doneR_ok {r:Run}(h:r.ok) (i:Nat):(fW r i).ok:=by
 obtain⟨h1,h2,h3,h4⟩:=kT r i;unfold Run.ok at h ⊢;rw[h1,h2];refine⟨h.1,h.2.1,?_⟩;rcases h4 with h4 | h4
 ·rw[h4];exact h.2.2
 rw[h4];unfold I64;omega
theorem yK {r:Run}(h:RunIs r) {i:Nat}{t:Task}(ht:r.tasks[i]? = some t) (h3:t.state=3):bG (bF r i t)=(if aL (bF r i t) 4=((bF r i t).length:Int) then 2 else r.state):=by
 have hm:=mem_of_getElem? ht;have hl:=h.live hm h3;have h56:∀u∈bF r i t,¬u.state=5/\¬u.state=6:=by
  unfold bF;refine aI2 (P:=fun u=>¬u.state=5/\¬u.state=6) (fun u hu=>?_) _ (fun u hu=>?_)
  ·unfold gX;simp only;split
   ·omega
   exact hu
  rcases mem_or_eq_of_mem_set hu with h1 | rfl
  ·exact h.none5 hm h3 u h1
  exact⟨by show ¬(4:Int)=5;omega,by show ¬(4:Int)=6;omega⟩
 have c5:=nS (s:=5) (fun u hu=>(h56 u hu).1);have c6:=nS (s:=6) (fun u hu=>(h56 u hu).2);unfold bG;by_cases c4:aL (bF r i t) 4=((bF r i t).length:Int)
 ·rw[if_pos c4,if_pos c4]
 rw[if_neg c4,if_neg c4,if_neg aA,if_neg aA,if_pos ⟨c5,c6⟩,hl.1]
theorem doneTs_st {r:Run}(h:RunIs r) {i:Nat}{t:Task}(ht:r.tasks[i]? = some t):∀u∈bF r i t,1<=u.state/\u.state<=6:=by
 unfold bF;refine aI2 (P:=fun u=>1<=u.state/\u.state<=6) (fun u hu=>?_) _ (fun u hu=>?_)
 ·unfold gX;simp only;split
  ·omega
  exact hu
 rcases mem_or_eq_of_mem_set hu with h1 | rfl
 ·obtain⟨k,hk,rfl⟩:=getElem_of_mem h1;exact(h.task k hk hk).1
 exact⟨by show (1:Int)<=4;omega,by show (4:Int)<=6;omega⟩
theorem RunIs.need {r:Run}(h:RunIs r):∀t∈r.tasks,0<=t.need/\t.need<=30:=by
 intro t ht;obtain⟨k,hk,rfl⟩:=getElem_of_mem ht;have h2:=(h.task k hk hk).2.1;have h3:=aE1 r (aJ r.plan (k:Int));have h4:=kC r.plan (k:Int);rw[h2];unfold cO;omega
theorem done_need {r:Run}(h:RunIs r) {i:Nat}{t:Task}(ht:r.tasks[i]? = some t) (l:List Int) (hl:l.length<=30):∀u∈mZ (r.tasks.set i ⟨4,t.need,t.try_,0⟩) l,-30<=u.need/\u.need<=30:=by
 intro u hu;have:=aQ3 l (a:=0) (b:=30) (fun u hu=>by
  rcases mem_or_eq_of_mem_set hu with h1 | rfl
  ·exact h.need u h1
  exact h.need t (mem_of_getElem? ht)) u hu
 omega
theorem bK3 {i:Int}(h:0<=i):((i.toNat:Nat):Int)=i:=Int.toNat_of_nonneg h
theorem aK9 {t:Task}{a:Int}(g:t.ok) (ha:0<=a/\a<=100):Task.ok ⟨a,t.need,t.try_,0⟩:=⟨by show I64 a;unfold I64;omega,g.2.1,g.2.2.1,by show I64 0;unfold I64;omega⟩
theorem aE9 {r:Run}(h:RunIs r):r.plan.edges.length<=1048576/\r.tasks.length<=1048576:=by have:=h.small;omega
theorem rd_ts {r:Run}{task:Int}{t:Task}{k:Nat}(h0:0<=task) (hk:k=(aO r.plan task).length):mZ (r.tasks.set task.toNat ⟨4,t.need,t.try_,0⟩) ((aO r.plan task).take k)=bF r task.toNat t:=by
 unfold bF;rw[bK3 h0,hk,take_length]
theorem rd_in {r:Run}{task:Int}{t:Task}(hR:RunIs r) (ht:r.tasks[task.toNat]? = some t) (k:Nat) (hk:k<(aO r.plan task).length):∃q:Int×Task,(aO r.plan task)[k]? = some q.1/\(mZ (r.tasks.set task.toNat ⟨4,t.need,t.try_,0⟩) ((aO r.plan task).take k))[q.1.toNat]? = some q.2/\0<=q.1/\(-30<=q.2.need/\q.2.need<=30):=by
 have hb:=aI0 r.plan task _ (getElem_mem hk);have hl:=aI1 (r.tasks.set task.toNat ⟨4,t.need,t.try_,0⟩) ((aO r.plan task).take k);rw[length_set]at hl;have hil:=hR.len;have hx:(aO r.plan task)[k].toNat<(mZ (r.tasks.set task.toNat ⟨4,t.need,t.try_,0⟩) ((aO r.plan task).take k)).length:=by omega
 exact⟨((aO r.plan task)[k],_),getElem?_eq_getElem hk,getElem?_eq_getElem hx,hb.1,done_need hR ht _ (by rw[length_take];have:=tK r.plan task;omega) _ (getElem_mem hx)⟩
theorem yY {u:Task}(g:u.ok) (h : -30<=u.need/\u.need<=30) (s:Int) (hs:I64 s):Task.ok ⟨s,u.need-1,u.try_,u.until_⟩:=⟨hs,by show I64 (u.need-1);unfold I64;omega,g.2.2.1,g.2.2.2⟩
abbrev runB (r:Run) (ts:List Task) (b e t:Nat):List (Nat×To):=[oB b [.v (I r.id),.v (I r.plan.prio),.v (I r.plan.most),.v (I r.plan.wait),.v (I r.plan.tasks),.r e,.v (I r.state),.r t],oO t ts]
theorem leaveTo_end {ts:List Task}{b:Int}{k:Nat}(hk:k<=ts.length) (h:¬(k:Int)<ts.length):gZ ts b k=dQ ts b:=by rw[show k=ts.length by omega,leaveTo_all]
theorem leaveOne_ok {u:Task}(g:u.ok):(dI u).ok:=⟨by show I64 6;unfold I64;omega,g.2.1,g.2.2.1,by show I64 0;unfold I64;omega⟩
theorem bT4 (r:Run) (b:Int) (hl:r.tasks.length<=1048576):Cm prog 193 [.I b] inferInstance r (fun _:Unit=>True) (fun _=>leaveR r b) (fun _=>[]):=
 vcm func193 (fun hg hn=>.wt 11<|.g 2 (leaveTo_zero r.tasks b).symm<|.l (Γ:=Nat) (fun k=>k<=r.tasks.length) (fun k=>r.tasks.length-k) [0,1,10] [1,1000000] [] (fun k=>[vI 11 k]) (fun k=>runB r (gZ r.tasks b k) 0 1 2) 0 fun k hk t=>
  .s ((k:Int)<r.tasks.length)
   (fun h=>.ex (p:=fun u=>r.tasks[k]? = some u) ⟨_,getElem?_eq_getElem (show k<r.tasks.length by omega)⟩ fun u hu=>.d 2 (leaveTo_at (but:=b) hu) fun gu=>
    let fin:∀v:Task,eK b k u=v->Task.ok v->D prog (fun _:Unit=>True/\rgd []):=fun v hv gv=>.p k 1<|.wt 36<|.f 2 (gZ r.tasks b k) v (h:=gv)<|.g 2 (leaveTo_set hu hv)<|.n t (k+1) []
    .i k<|.u ((k:Int)=b)
     (fun h1=>.u (u.state=4) (fun h2=>fin (dI u) (leaveIf_t h1 h2) (leaveOne_ok gu)) (fun h2=>fin u (leaveIf_d h2) gu))
     (fun h1=>fin u (leaveIf_b h1) gu))
   (fun h=>.g 2 (leaveTo_end (b:=b) hk h)<|.rt () ⟨trivial,trivial⟩)) aB
theorem fl_a {r:Run}{i:Int}{t:Task}(ht:r.tasks[i.toNat]? = some t) (h:t.try_<r.plan.most):(⟨r.id,r.plan,r.state,r.tasks.set i.toNat ⟨2,t.need,t.try_,0⟩⟩:Run)=bJ r i.toNat:=by rw[nO ht];unfold mB;rw[if_pos h]
theorem fl_b {r:Run}{i:Int}{t:Task}(h0:0<=i) (ht:r.tasks[i.toNat]? = some t) (h:¬t.try_<r.plan.most):(⟨r.id,r.plan,3,dQ (r.tasks.set i.toNat ⟨5,t.need,t.try_,0⟩) i⟩:Run)=bJ r i.toNat:=by rw[nO ht];unfold mB;rw[if_neg h,bK3 h0]
theorem aW7 (r:Run) (i:Int) (t:Task) (h0:0<=i) (ht:r.tasks[i.toNat]? = some t) (hl:r.tasks.length<=1048576):Cm prog 147 [.I i] inferInstance r (fun _:Unit=>True) (fun _=>bJ r i.toNat) (fun _=>[]):=
 Cm.one (bJ r i.toNat) (y:=fun a=>a) (rk:=fun _=>[])<|vcm func147 (fun hg hn=>.d 2 ht fun gt=>.ie i.toNat i (he:=by omega)<|.s (t.try_<r.plan.most)
  (fun h=>.wt 999<|.f 2 r.tasks ⟨2,t.need,t.try_,0⟩ (h:=aK9 gt aA)<|.rt ⟨r.id,r.plan,r.state,r.tasks.set i.toNat ⟨2,t.need,t.try_,0⟩⟩ ⟨fl_a ht h,trivial⟩)
  (fun h=>.wt 30<|.f 2 r.tasks ⟨5,t.need,t.try_,0⟩ (h:=aK9 gt aA)<|.cm _ func193 (bT4 ⟨r.id,r.plan,r.state,r.tasks.set i.toNat ⟨5,t.need,t.try_,0⟩⟩ i (by show (r.tasks.set _ _).length<=_;rw[length_set];exact hl)) trivial fun _ _ _ _=>
   .rt ⟨r.id,r.plan,3,dQ (r.tasks.set i.toNat ⟨5,t.need,t.try_,0⟩) i⟩ ⟨fl_b h0 ht h,trivial⟩)) aB
theorem dn_a {r:Run}{i:Int}{t:Task}(ht:r.tasks[i.toNat]? = some t) (h:((aH (bF r i.toNat t) 4).length:Int)=((bF r i.toNat t).length:Int)):(⟨r.id,r.plan,2,bF r i.toNat t⟩:Run)=fW r i.toNat:=by
 rw[vF ht];unfold sH;rw[if_pos (by rw[<- iH];exact h)]
theorem dn_b {r:Run}{i:Int}{t:Task}(ht:r.tasks[i.toNat]? = some t) (h:¬((aH (bF r i.toNat t) 4).length:Int)=((bF r i.toNat t).length:Int)):(⟨r.id,r.plan,r.state,bF r i.toNat t⟩:Run)=fW r i.toNat:=by
 rw[vF ht];unfold sH;rw[if_neg (by rw[<- iH];exact h)]
theorem Done_p (r:Run) (i:Int) (t:Task) (h0:0<=i) (ht:r.tasks[i.toNat]? = some t) (hR:RunIs r):Cm prog 145 [.I i] inferInstance r (fun _:Unit=>True) (fun _=>fW r i.toNat) (fun _=>[]):=
 Cm.one (fW r i.toNat) (y:=fun a=>a) (rk:=fun _=>[])<|vcm func145 (fun hg hn=>let gr:=hR.small.1
  let hl:=(aE9 hR).2
  .d 2 ht fun gt=>.ie i.toNat i (he:=by omega)<|.ie i.toNat i (he:=by omega)<|.wt 21<|.f 2 r.tasks ⟨4,t.need,t.try_,0⟩ (h:=aK9 gt aA) <|
  .c func192 (BehindOf_i r.plan i) (hg:=⟨gr.2.1,trivial⟩) fun _=>.g 2 (aQ2 (r.tasks.set i.toNat ⟨4,t.need,t.try_,0⟩) (aO r.plan i)).symm <|
  .l (Γ:=Nat) (fun k=>k<=(aO r.plan i).length) (fun k=>(aO r.plan i).length-k) [0,26,27] [1,4,1000000] [] (fun k=>[vI 28 k]) (fun k=>runB r (mZ (r.tasks.set i.toNat ⟨4,t.need,t.try_,0⟩) ((aO r.plan i).take k)) 0 1 2) 0 fun k hk tk=>
   .s ((k:Int)<(aO r.plan i).length)
    (fun hlt=>.ex (rd_in hR ht k aA) fun q hq=>
     .y hq.1 fun _=>.d 2 hq.2.1 fun gu=>
     let fin:∀v:Task,gX q.2=v->Task.ok v->D prog (fun x:Run=>x=fW r i.toNat/\rgd []):=fun v hv gv=>.p k 1 (h:=by have:=tK r.plan i;unfold I64;omega)<|.wt 53<|.f 2 (mZ (r.tasks.set i.toNat ⟨4,t.need,t.try_,0⟩) ((aO r.plan i).take k)) v (h:=gv)<|.g 2 (bS0 hq.1 hq.2.1 hv).symm<|.n tk (k+1) []
     .ie q.1.toNat q.1 (he:=by omega)<|.m q.2.need 1<|.s (q.2.need-1=0)
      (fun h2=>fin ⟨2,q.2.need-1,q.2.try_,q.2.until_⟩ (bP0 h2) (yY gu hq.2.2.2 2 (by unfold I64;omega)))
      (fun h2=>fin ⟨q.2.state,q.2.need-1,q.2.try_,q.2.until_⟩ (bO9 h2) (yY gu hq.2.2.2 _ gu.1)))
    (fun hge=>.g 2 (rd_ts (t:=t) h0 (show k=(aO r.plan i).length by omega))<|.c func136 (kD ⟨r.id,r.plan,r.state,bF r i.toNat t⟩ 4 (by show (bF r i.toNat t).length<=_;rw[oN];exact hl)) (hg:=⟨gr,trivial⟩) fun _=>
     .s (((aH (bF r i.toNat t) 4).length:Int)=((bF r i.toNat t).length:Int))
      (fun h2=>.rt ⟨r.id,r.plan,2,bF r i.toNat t⟩ ⟨dn_a ht h2,trivial⟩)
      (fun h2=>.rt ⟨r.id,r.plan,r.state,bF r i.toNat t⟩ ⟨dn_b ht h2,trivial⟩))) aB
theorem xW {r:Run}(h:RunIs r) {i:Nat}{t:Task}(ht:r.tasks[i]? = some t) (h3:t.state=3):bV r (i:Int)=bJ r i:=by
 have hl:=(gsi_.1 ht).1;have hb:gD r (i:Int)=true:=by
  unfold gD;rw[runIs.2 h,inB_iff'.2 (show 0<=(i:Int)/\(i:Int)<=(r.tasks.length:Int)-1 by omega),Int.toNat_natCast,ht];simp[h3]
 unfold bV;rw[if_pos hb,Int.toNat_natCast,failsS_eq h ht h3]
theorem aZ0 {y:Yard}{k i:Nat}{r:Run}(hr:y.runs[k]? = some r) (hi:i=r.tasks.length):nH (kO y k) k i=kO y (k+1):=by
 show _=nH (kO y k) k (nW y k);rw[vX hr,hi]
theorem RI.ok {y out:Yard}{n:Nat}(hy:YardIs y) (h:RI y out n) (hn:n<=1000):out.ok:=by
 have h1:=h.now;have h2:=h.seq;have h3:=hy.now;have h4:=hy.seq;exact⟨by unfold I64;omega,by unfold I64;omega⟩
theorem bG7 {α:Type}(f:α->Nat) (m:Nat):∀xs:List α,(∀x∈xs,f x<=m)->(xs.map f).sum<=xs.length*m
 | [],_=>by simp
 | x::xs,h=>by
  have h1:=h x (by simp);have h2:=bG7 f m xs (fun z hz=>h z (by simp[hz]));simp only[map_cons,sum_cons,length_cons,Nat.succ_mul];omega
theorem RunIs.wt {r:Run}(h:RunIs r):r.wt<=42:=by
 have:=h.small;unfold Run.wt Plan.wt;omega
theorem RI.wt {y out:Yard}{n:Nat}(hy:YardIs y) (h:RI y out n) (hn:n<=1000):out.wt<=100000:=by
 have h1:=h.shelf;have h2:=hy.shelf;have h3:=h.runs;have h4:=hy.runs;have hs:=bG7 (fun z:List Entry=>z.length) 20000 out.shelf (fun z hz=>by
  obtain⟨s,hs,rfl⟩:=getElem_of_mem hz;have:=h.each s aA;rw[getD_eq_getElem?_getD,getElem?_eq_getElem hs]at this;simp only[Option.getD_some]at this;omega)
 have hr:=bG7 (fun z:Run=>z.wt) 42 out.runs (fun z hz=>by
  obtain⟨s,hs,rfl⟩:=getElem_of_mem hz;obtain⟨r2,e,hR,_⟩:=h.run s _ (getElem?_eq_getElem (show s<y.runs.length by omega));rw[getElem?_eq_getElem hs]at e;rw[Option.some.inj e];exact hR.wt)
 rw[h1,h2]at hs;have hr2:out.runs.length*42<=8*42:=Nat.mul_le_mul_right _ aA;unfold Yard.wt wtL;omega
theorem RI.chg {y out:Yard}{n:Nat}(hy:YardIs y) (h:RI y out n) (hn:n<=1000) (id:Int):4<=out.shelf.length/\(out.shelf.getD (aU id).toNat []).length<=1000000/\(0<=out.seq/\out.seq<=4000000000):=by
 have h1:=h.shelf;have h2:=hy.shelf;have h3:=eQ id;have h4:=h.each (aU id).toNat aA;have h5:=h.seq;have h6:=hy.seq;refine⟨by omega,by omega,by omega⟩

noncomputable def bW6 (y:Yard) (id:Int) (p:Plan):Yard:=⟨y.now,y.seq+((aH (aX id p).tasks 2).length:Int),dZ (aU id).toNat p.prio id (aH (aX id p).tasks 2) y.shelf y.seq,y.runs++[aX id p]⟩
noncomputable def aV (y:Yard) (id:Int) (p:Plan):Yard×Int:=
 if aG y=false then (y,8) else if inB id 1 9999=false then (y,5) else if 0<=aF y id then (y,6) else if aC p≠0 then (y,aC p) else if gE y p=false then (y,7) else (bW6 y id p,0)


theorem fresh_zero (r:Run):cQ zRun r=aH r.tasks 2:=by
 unfold cQ;rw[filter_eq_self];intro a _;simp[zRun,aH,cH]

theorem toNat_cast {i:Int}(h:0<=i):((i.toNat:Nat):Int)=i:=by omega
noncomputable def fU (r:Run) (task:Int):Run:=if gD r task then fW r task.toNat else r
theorem aC4 {r:Run}(h:RunIs r) {task:Int}{t:Task}(h0:0<=task) (ht:r.tasks[task.toNat]? = some t) (h3:t.state=3):fU r task=fW r task.toNat:=by
 have hl:=(gsi_.1 ht).1;have hb:gD r task=true:=by
  unfold gD;rw[runIs.2 h,inB_iff'.2 (show 0<=task/\task<=(r.tasks.length:Int)-1 by omega),ht];simp[h3]
 unfold fU;rw[if_pos hb]

noncomputable def dD (y:Yard) (id task try_:Int):Int:=if aG y=false then 8 else if aF y id<0 then 10 else if eE y id task try_=false then 11 else 0
noncomputable def rU (g:Run->Nat->Run) (y:Yard) (id task try_:Int):Yard:=if dD y id task try_=0 then (match bS y id with | some k=>(match y.runs[k]? with | some r=>cR y k r (g r task.toNat) | none=>y) | none=>y) else y
noncomputable def dV (y:Yard) (id task try_:Int):Yard:=rU fW y id task try_
theorem askF_rng (y:Yard) (id task try_:Int):0<=dD y id task try_/\dD y id task try_<=11:=by
 unfold dD;split
 ·omega
 split
 ·omega
 split<;>omega
theorem xC {y:Yard}{id task try_:Int}(h:dD y id task try_=0):YardIs y/\∃k r t,bS y id=some k/\y.runs[k]? = some r/\RunIs r/\0<=task/\r.tasks[task.toNat]? = some t/\t.state=3:=by
 unfold dD at h;split at h
 ·omega
 next h1=>
 have hY:=iA (by simpa using h1);split at h
 ·omega
 split at h
 ·omega
 next h3=>
 refine⟨hY,?_⟩;have h4:eE y id task try_=true:=by simpa using h3
 unfold eE at h4;cases hk:bS y id with
 | none=>rw[hk]at h4;cases h4
 | some k=>
  rw[hk]at h4;simp only at h4;cases hr:y.runs[k]? with
  | none=>rw[hr]at h4;cases h4
  | some r=>
   rw[hr]at h4;simp only[Bool.and_eq_true]at h4;obtain⟨h5,h6⟩:=h4;cases ht:r.tasks[task.toNat]? with
   | none=>rw[ht]at h6;cases h6
   | some t=>rw[ht]at h6;simp only[Bool.and_eq_true,decide_eq_true_eq]at h6;exact⟨k,r,t,rfl,hr,(hY.run k r hr).1,(inB_iff'.1 h5).1,ht,h6.1⟩
theorem nC {g:Run->Nat->Run}{y:Yard}{id task try_:Int}{k:Nat}{r:Run}(h:dD y id task try_=0) (hk:bS y id=some k) (hr:y.runs[k]? = some r):rU g y id task try_=cR y k r (g r task.toNat):=by unfold rU;rw[if_pos h,hk];simp only[hr]
theorem nB {g:Run->Nat->Run}{y:Yard}{id task try_:Int}(h:¬dD y id task try_=0):rU g y id task try_=y:=by unfold rU;rw[if_neg h]
theorem tH {y:Yard}(hY:YardIs y) {k:Nat}{r r':Run}(hl:r'.tasks.length<=1000):(cR y k r r').ok:=by
 have h1:=hY.now;have h2:=hY.seq;have h3:=kS r r';unfold cR;exact⟨by simp only[I64];omega,by simp only[I64];omega⟩

noncomputable def mC (y:Yard) (id task try_:Int):Yard:=rU bJ y id task try_
theorem xV {r:Run}(h:RunIs r) {task:Int}{t:Task}(h0:0<=task) (ht:r.tasks[task.toNat]? = some t) (h3:t.state=3):bV r task=bJ r task.toNat:=by
 have:=xW h ht h3
 rwa [toNat_cast h0]at this
theorem failsR_ok {r:Run}(h:r.ok) (i:Nat):(bJ r i).ok:=by
 unfold bJ;cases r.tasks[i]? with
 | none=>exact h
 | some t=>
  show (mB r i t).ok;unfold mB;split
  ·exact h
  exact⟨h.1,h.2.1,by show I64 3;unfold I64;omega⟩
def kH (home:Int) (k:Nat):List Int:=[(home+1) % 4,(home+2) % 4,(home+3) % 4].take (k-1)
theorem oth_to {home:Int}{k:Nat}(h:1<=k) (h2:k<4):kH home (k+1)=kH home k++[(home+(k:Int)) % 4]:=by
 rcases k with _ | _ | _ | _ | k
 ·omega
 ·rfl
 ·rfl
 ·rfl
 omega
theorem oth_4 (home:Int):kH home 4=[(home+1) % 4,(home+2) % 4,(home+3) % 4]:=rfl
theorem oth_vict {home draw d:Int}(hd:d=max draw 0 % 3):([]++(kH home 4).drop d.toNat)++(kH home 4).take d.toNat=bL home draw:=by
 rw[oth_4];have h3:d=0∨d=1∨d=2:=by omega
 unfold bL mU;rw[<- hd];rcases h3 with rfl | rfl | rfl
 ·simp only[Int.toNat_zero,drop_zero,take_zero,append_nil,nil_append,List.cons.injEq,and_true];omega
 ·show [(home+2) % 4,(home+3) % 4,(home+1) % 4]=_;simp only[List.cons.injEq,and_true];omega
 show [(home+3) % 4,(home+1) % 4,(home+2) % 4]=_;simp only[List.cons.injEq,and_true];omega

theorem bC8 {α:Type}{p:α->Bool}:∀{xs:List α}{k:Nat},iR p xs=some k->(xs.take k).any p=false
 | [],k,h=>by simp[iR]at h
 | x::xs,k,h=>by
  unfold iR at h;cases hp:p x with
  | true=>simp[hp]at h;subst h;rfl
  | false=>
   simp only[hp,Bool.false_eq_true,if_false]at h;cases hq:iR p xs with
   | none=>simp[hq]at h
   | some m=>
    simp[hq]at h;subst h;simp[hp];have:=bC8 hq;simpa using this
section
variable {p:Entry->Bool}{xs cur:List Entry}{i j k:Nat}{e:Entry}
end

theorem tV {α:Type}(f:α->Nat) (m:Nat):∀xs:List α,(∀x∈xs,f x<=m)->(xs.map f).sum<=xs.length*m
 | [],_=>by simp
 | x::xs,h=>by
  have h1:=h x (by simp);have h2:=tV f m xs (fun z hz=>h z (by simp[hz]));simp only[map_cons,sum_cons,length_cons,Nat.succ_mul];omega
theorem aR4 {y:Yard}{s:List (List Entry)}{rr:List Run}{a b:Int}(h4:s.length=4) (he:∀j,j<4->(s.getD j []).length<=80) (h8:rr.length<=8) (hr:∀r∈rr,r.wt<=42):(⟨a,b,s,rr⟩:Yard).wt<=100000:=by
 have hs:=tV (fun z:List Entry=>z.length) 80 s (fun z hz=>by
  obtain⟨j,hj,rfl⟩:=getElem_of_mem hz;have:=he j aA;rw[getD_eq_getElem?_getD,getElem?_eq_getElem hj]at this;simpa using this)
 have hq:=tV (fun z:Run=>z.wt) 42 rr hr;rw[h4]at hs;have:rr.length*42<=8*42:=Nat.mul_le_mul_right _ h8;unfold Yard.wt wtL;simp only;omega
theorem uF {y:Yard}(h:YardIs y):∀r∈y.runs,r.wt<=42:=by
 intro r hr;obtain⟨j,hj,rfl⟩:=getElem_of_mem hr;exact((h.run j _ (getElem?_eq_getElem hj)).1).wt
theorem PI.wt {y out:Yard}{home:Nat}(hy:YardIs y) (h:PI y out home):out.wt<=100000:=
 aR4 (y:=y) h.len h.each (by rw[h.runs];exact hy.runs) (by rw[h.runs];exact uF hy)
theorem PI.wtS {y out:Yard}{home:Nat}(hy:YardIs y) (h:PI y out home) {l:List Entry}(hl:l.length<=80):(kV out home l).wt<=100000:=
 aR4 (y:=y) (by show (out.shelf.set _ _).length=4;rw[length_set];exact h.len) (mD h.each hl h.len) (by rw[h.runs];exact hy.runs) (by rw[h.runs];exact uF hy)
theorem PI.ok {y out:Yard}{home:Nat}(hy:YardIs y) (h:PI y out home):out.ok:=by
 have h1:=hy.now;have h2:=hy.seq;unfold Yard.ok I64;rw[h.now,h.seq];omega
theorem PI.sw {y out:Yard}{home:Nat}(h:PI y out home) {o:Int}(ho:0<=o/\o<=3):(aT out o).shelf.length=4/\∀s,s<4->((aT out o).shelf.getD s []).length<=80:=by
 rw[qO ho h.len];exact⟨by show (out.shelf.set _ _).length=4;rw[length_set];exact h.len,mD h.each (Nat.le_trans (length_filter_le _ _) (h.each _ aA)) h.len⟩
theorem RunIs.tries {r:Run}(h:RunIs r) {i:Nat}{t:Task}(ht:r.tasks[i]? = some t):(0<=t.try_/\t.try_<=5)/\1<=r.plan.wait/\r.plan.wait<=20:=by
 obtain⟨hi,rfl⟩:=gsi_.1 ht;have h1:=(h.task i hi hi).2.2.1;have h2:=(gV h.plan).1;unfold aN at h2;omega
theorem runIx_runs {y y':Yard}(h:y'.runs=y.runs) (id:Int):bS y' id=bS y id:=by unfold bS;rw[h]
theorem bO5 {xs:List Entry}(h:¬(xs.length:Int)=0):¬xs=[]:=fun e=>h (by rw[e];rfl)
theorem nil0 {xs:List Entry}(h:(xs.length:Int)=0):xs=[]:=eq_nil_of_length_eq_zero aA
def nJ (n:Int) (t:Task):Bool:=decide (t.state=3) && decide (t.until_<=n+1)
def uS (n:Int) (r:Run) (m:Nat):List Nat:=(List.range m).filter (fun i=>match r.tasks[i]? with | some t=>nJ n t | none=>false)
def gN (y:Yard):Nat->List (Nat×Nat)
 | 0=>[]
 | k+1=>gN y k++(match y.runs[k]? with | some r=>(uS y.now r r.tasks.length).map (fun i=>(k,i)) | none=>[])
def fB (y:Yard) (p:Nat×Nat):List Int:=match y.runs[p.1]? with | some r=>(match r.tasks[p.2]? with | some t=>[r.id,p.2,t.try_] | none=>[]) | none=>[]
def gR (y:Yard) (k:Nat) (r:Run) (i:Nat):List (List Int):=(gN y k++(uS y.now r i).map (fun j=>(k,j))).map (fB y)
def bX (y:Yard):List (Nat×Nat):=gN y y.runs.length
theorem yH (y:Yard) (k:Nat) (r:Run):gR y k r 0=(gN y k).map (fB y):=by simp[gR,uS]
theorem bC5 {y:Yard}{k:Nat}{r:Run}{i:Nat}{t:Task}(hr:y.runs[k]? = some r) (ht:r.tasks[i]? = some t) (h:nJ y.now t=true):gR y k r (i+1)=gR y k r i++[[r.id,(i:Int),t.try_]]:=by
 unfold gR uS;rw[range_succ,filter_append];simp[ht,h,fB,hr]
theorem bC6 {y:Yard}{k:Nat}{r:Run}{i:Nat}{t:Task}(ht:r.tasks[i]? = some t) (h:nJ y.now t=false):gR y k r (i+1)=gR y k r i:=by
 unfold gR uS;rw[range_succ,filter_append];simp[ht,h]
theorem aF5 {y:Yard}{k:Nat}{r:Run}(hr:y.runs[k]? = some r) {i:Nat}(hi:i=r.tasks.length):gR y k r i=(gN y (k+1)).map (fB y):=by
 subst hi;unfold gR;simp[gN,hr]
theorem wM (n:Int) (r:Run) (m:Nat):(uS n r m).length<=m:=by
 unfold uS;exact Nat.le_trans (length_filter_le _ _) (by simp)
theorem qX {y:Yard}(hy:YardIs y):∀k,(gN y k).length<=12*k
 | 0=>by simp[gN]
 | k+1=>by
  have ih:=qX hy k;simp only[gN,length_append];cases hr:y.runs[k]? with
  | none=>simp;omega
  | some r=>
   have h1:=wM y.now r r.tasks.length;have h2:=(hy.run k r hr).1.small;simp only[length_map];omega
theorem aF4 {y:Yard}(hy:YardIs y) (k:Nat) (r:Run) (i:Nat):(gR y k r i).length<=12*k+i:=by
 have h1:=qX hy k;have h2:=wM y.now r i;unfold gR;simp only[length_map,length_append];omega
theorem wN {y:Yard}{p:Nat×Nat}:∀{k},p∈gN y k->∃r t,y.runs[p.1]? = some r/\r.tasks[p.2]? = some t/\fB y p=[r.id,(p.2:Int),t.try_]
 | 0,h=>by simp[gN]at h
 | k+1,h=>by
  simp only[gN,mem_append]at h;rcases h with h | h
  ·exact wN h
  ·cases hr:y.runs[k]? with
   | none=>rw[hr]at h;simp at h
   | some r=>
    rw[hr]at h;simp only[mem_map]at h;obtain⟨i,hi,rfl⟩:=h;unfold uS at hi;rw[mem_filter]at hi;cases ht:r.tasks[i]? with
    | none=>rw[ht]at hi;simp at hi
    | some t=>exact⟨r,t,hr,ht,by simp[fB,hr,ht]⟩
def lE (n:Int) (y:Yard):Yard:=⟨n,y.seq,y.shelf,y.runs⟩
def jR (y:Yard) (l:List (Nat×Nat)):Yard:=l.foldl (fun o p=>iG o p.1 p.2) y
theorem turnF_now (n:Int) (y:Yard) (k i:Nat):iG (lE n y) k i=lE n (iG y k i):=by
 unfold iG;show (match y.runs[k]? with | none=>_ | some r=>_)=_;cases y.runs[k]? with
 | none=>rfl
 | some r=>
  simp only;cases r.tasks[i]? with
  | none=>rfl
  | some t=>simp only;split<;>rfl
theorem aK7 (n:Int):∀(l:List (Nat×Nat)) (y:Yard),jR (lE n y) l=lE n (jR y l)
 | [],y=>rfl
 | p::l,y=>by
  show jR (iG (lE n y) p.1 p.2) l=lE n (jR (iG y p.1 p.2) l);rw[turnF_now,aK7 n l]
theorem lU {y:Yard}{l:List (Nat×Nat)}{j:Nat}{p:Nat×Nat}(h:l[j]? = some p):jR y (l.take (j+1))=iG (jR y (l.take j)) p.1 p.2:=by
 unfold jR;rw[take_add_one,h];simp[foldl_append]
theorem sL (y:Yard) (l:List (Nat×Nat)):jR y (l.take 0)=y:=by simp[jR]
theorem YardIs.at {y:Yard}(hy:YardIs y) {n:Int}(h:0<=n/\n<=999999980):YardIs (lE n y):=⟨h,hy.seq,hy.shelf,hy.runs,hy.each,hy.run⟩
theorem RI.list {y:Yard}(hy:YardIs y) {l:List (Nat×Nat)}(hl:∀p∈l,p.1<y.runs.length):∀j,RI y (jR y (l.take j)) j
 | 0=>by rw[sL];exact RI.start hy
 | j+1=>by
  have ih:=RI.list hy hl j;cases hp:l[j]? with
  | none=>
   have h1:=List.getElem?_eq_none_iff.1 hp;rw[take_of_length_le (show l.length<=j+1 by omega)];rw[take_of_length_le h1]at ih;exact ih.mono aA
  | some p=>rw[lU hp];exact ih.turn hy (hl p (mem_of_getElem? hp))
theorem zK {y:Yard}:∀p∈bX y,p.1<y.runs.length:=fun p hp=>by
 obtain⟨r,t,h1,_⟩:=wN hp;exact(gsi_.1 h1).1
noncomputable def aX6 (y:Yard):Yard:=jR (lE (y.now+1) y) (bX y)
noncomputable def dA (y:Yard):Yard×Int:=if aG y=false then (y,8) else if 999999980<y.now+1 then (y,7) else (aX6 y,0)
theorem bC3 {y:Yard}{j:Nat}(hj:j<(bX y).length):∃k i r t,(bX y)[j]? = some (k,i)/\y.runs[k]? = some r/\r.tasks[i]? = some t/\((bX y).map (fB y))[j]? = some [r.id,(i:Int),t.try_]:=by
 obtain⟨⟨k,i⟩,hp⟩:∃p,(bX y)[j]? = some p:=⟨_,getElem?_eq_getElem hj⟩;obtain⟨r,t,h1,h2,h3⟩:=wN (mem_of_getElem? hp);exact⟨k,i,r,t,hp,h1,h2,by rw[getElem?_map,hp,Option.map_some,h3]⟩
theorem RunIs.tk {r:Run}(h:RunIs r) {i:Nat}{t:Task}(ht:r.tasks[i]? = some t):(0<=t.try_/\t.try_<=1000000)/\(0<=t.until_/\t.until_<=1000000000):=by
 obtain⟨hl,rfl⟩:=gsi_.1 ht;obtain⟨_,_,h3,h4,h5,_⟩:=h.task i hl hl;have hp:=(gV h.plan).1;unfold aN at hp;by_cases e:r.tasks[i].state=3
 ·have:=h4 e;omega
 have:=h5 e;omega
theorem zL {n:Int}{t:Task}(h3:t.state=3) (h:t.until_<=n+1):nJ n t=true:=by unfold nJ;simp[h3,h]
theorem zM {n:Int}{t:Task}(h:¬(t.state=3/\t.until_<=n+1)):nJ n t=false:=by
 unfold nJ;cases h1:decide (t.state=3) with
 | false=>rfl
 | true=>cases h2:decide (t.until_<=n+1) with
  | false=>rfl
  | true=>exact absurd ⟨of_decide_eq_true h1,of_decide_eq_true h2⟩ h

theorem bM9 {r:Run}{i:Nat}{t:Task}(g:r.ok) (hi:i<=1000) (gt:t.ok):∀z∈[r.id,(i:Int),t.try_],Dsh.good z:=by
 intro z hz;simp only[mem_cons,not_mem_nil,or_false]at hz;rcases hz with rfl | rfl | rfl
 ·exact g.1
 ·show I64 _;unfold I64;omega
 exact gt.2.2.1
theorem aY6 {y:Yard}(hY:YardIs y) {k:Nat}{r:Run}(hr:y.runs[k]? = some r):r.tasks.length<=12/\r.ok:=⟨(hY.run k r hr).1.small.2.1,(hY.run k r hr).1.small.1⟩
theorem LateOf_i (y:Yard) (hY:YardIs y):Ct1 prog 148 [.S y] [.L ((bX y).map (fB y))]:=
 vc func148 (fun (hg:gin [Par.S y])=>let h8:=hY.runs
  .w (List Int) 39 3<|.l (Γ:=Nat) (fun k=>k<=y.runs.length) (fun k=>y.runs.length-k) [1,9,10] [2] [0,1] (fun k=>[vR 3 3,vI 11 k]) (fun k=>[oR 3 39 ((gN y k).map (fB y))]) 0 fun k hk tk=>
   .s ((k:Int)<y.runs.length)
    (fun h=>.x y.runs k (h:=by omega) fun r hr gr=>let hlk:=aY6 hY hr
     .g 3 (yH y k r).symm<|.l (Γ:=Nat) (fun i=>i<=r.tasks.length) (fun i=>r.tasks.length-i) [1,5,9,10,11,16,17] [2,7] [0,1,5,6] (fun i=>[vR 3 3,vI 18 i]) (fun i=>[oR 3 39 (gR y k r i)]) 0 fun i hi ti=>let hln:=aF4 hY k r i
      .s ((i:Int)<r.tasks.length)
       (fun h2=>.x r.tasks i (h:=by omega) fun t ht gt=>let htk:=(hY.run k r hr).1.tk ht
        let no:nJ y.now t=false->D prog (fun _:Unit=>True/\rgd [Rk.L ((bX y).map (fB y))]):=fun hb=>.g 3 (bC6 (y:=y) (k:=k) ht hb).symm<|.p i 1<|.n ti (i+1) []
        let yes:nJ y.now t=true->D prog (fun _:Unit=>True/\rgd [Rk.L ((bX y).map (fB y))]):=fun hb=>.li inferInstance 47 [r.id,(i:Int),t.try_] (by simp) (by simp) (bM9 gr aA gt)<|.a (gR y k r i) [r.id,(i:Int),t.try_] 24 (hy:=trivial) (hby:=by omega)<|.g 3 (bC5 hr ht hb).symm<|.p i 1<|.n ti (i+1) []
        .s (t.state=3)
         (fun h3=>.s (t.until_<=y.now)
          (fun h4=>yes (zL h3 aA))
          (fun h4=>.m t.until_ 1<|.s (t.until_-1=y.now)
           (fun h5=>yes (zL h3 aA))
           (fun h5=>no (zM aA))))
         (fun h3=>no (zM aA)))
       (fun h2=>.g 3 (aF5 hr (show i=r.tasks.length by omega))<|.p k 1<|.n tk (k+1) []))
    (fun h=>.g 3 (show (gN y k).map (fB y)=(bX y).map (fB y) by rw[show k=y.runs.length by omega];rfl)<|.rt () ⟨trivial,trivial⟩)) aB
theorem LateOf_s (y:Yard) (hY:YardIs y):Ct1 prog 217 [.S y] [.L ((bX y).map (fB y))]:=
 vc func217 (fun (hg:gin [Par.S y])=>let h8:=hY.runs
  .e (List Int)<|.l (Γ:=Nat) (fun k=>k<=y.runs.length) (fun k=>y.runs.length-k) [777777,7] [777777] [777777] (fun k=>[vR 3 3,vI 4 k]) (fun k=>[oR 3 39 ((gN y k).map (fB y))]) 0 fun k hk tk=>
   .s ((k:Int)<y.runs.length)
    (fun h=>.ex (p:=fun r=>y.runs[k]? = some r) ⟨y.runs[k]'(by omega),getElem?_eq_getElem _⟩ fun r hr=>let hlk:=aY6 hY hr
     let gr:=hlk.2
     .g 3 (yH y k r).symm<|.l (Γ:=Nat) (fun i=>i<=r.tasks.length) (fun i=>r.tasks.length-i) [777777] [777777] [777777] (fun i=>[vR 3 3,vI 5 i]) (fun i=>[oR 3 39 (gR y k r i)]) 0 fun i hi ti=>let hln:=aF4 hY k r i
      .y hr fun _=>.s ((i:Int)<r.tasks.length)
       (fun h2=>.y hr fun _=>.x r.tasks i (h:=by omega) fun t ht gt=>let htk:=(hY.run k r hr).1.tk ht
        let no:nJ y.now t=false->D prog (fun _:Unit=>True/\rgd [Rk.L ((bX y).map (fB y))]):=fun hb=>.g 3 (bC6 (y:=y) (k:=k) ht hb).symm<|.p i 1<|.n ti (i+1) []
        let yes:nJ y.now t=true->D prog (fun _:Unit=>True/\rgd [Rk.L ((bX y).map (fB y))]):=fun hb=>.y hr fun _=>.lo inferInstance [r.id,(i:Int),t.try_] (by simp) (by simp) (bM9 gr aA gt)<|.a (gR y k r i) [r.id,(i:Int),t.try_] 24 (hy:=trivial) (hby:=by omega)<|.g 3 (bC5 hr ht hb).symm<|.p i 1<|.n ti (i+1) []
        .s (t.state=3)
         (fun h3=>.s (t.until_<=y.now)
          (fun h4=>yes (zL h3 aA))
          (fun h4=>.m t.until_ 1<|.s (t.until_-1<=y.now)
           (fun h5=>yes (zL h3 aA))
           (fun h5=>no (zM aA))))
         (fun h3=>no (zM aA)))
       (fun h2=>.g 3 (aF5 hr (show i=r.tasks.length by omega))<|.p k 1<|.n tk (k+1) []))
    (fun h=>.g 3 (show (gN y k).map (fB y)=(bX y).map (fB y) by rw[show k=y.runs.length by omega];rfl)<|.rt () ⟨trivial,trivial⟩)) aB
theorem uB {α:Type}{xs:List α}{k:Nat}{x:α}(h:xs[k]? = some x):xs.set k x=xs:=by
 obtain⟨hl,rfl⟩:=gsi_.1 h;exact set_getElem_self hl
noncomputable def pV (r:Run):Bool:=dP r && decide (r.state=1)
noncomputable def fQ (r:Run):Run:=if pV r=true then ⟨r.id,r.plan,4,dQ r.tasks (-1)⟩ else r
theorem zN {r:Run}(h:pV r=true):fQ r=⟨r.id,r.plan,4,dQ r.tasks (-1)⟩:=by unfold fQ;rw[if_pos h]
theorem RunIs.no5 {r:Run}(h:RunIs r) (h1:r.state=1):∀u∈r.tasks,¬u.state=5:=by
 intro u hu h5;have c5:=vL hu h5;have hs:=h.state;rw[h1]at hs;unfold bG at hs;have p6:=dG r.tasks 6
 repeat' split at hs
 all_goals omega
theorem leave_all {ts:List Task}(h:∀u∈ts,¬u.state=5):cU ts=dQ ts (-1):=by
 apply ext_getElem?;intro k;unfold dQ cU;rw[getElem?_mapIdx,getElem?_map];cases hk:ts[k]? with
 | none=>rfl
 | some u=>
  have h5:=h u (mem_of_getElem? hk);have e':¬(k:Int) = -1:=by omega
  simp[eK,eA,h5,e']

theorem uH {y:Yard}{id:Int}(h:¬aF y id<0):∃r,y.runs[(aF y id).toNat]? = some r:=by
 unfold aF at h ⊢;cases hk:bS y id with
 | none=>rw[hk]at h;simp[ixI]at h
 | some k=>
  have:=aC2 hk;exact⟨_,by simp only[ixI,Int.toNat_natCast];exact getElem?_eq_getElem this⟩
theorem bD6 {r:Run}(h:r.ok):(fQ r).ok:=by
 unfold fQ;split
 ·exact⟨h.1,h.2.1,by show I64 4;unfold I64;omega⟩
 exact h
noncomputable def bR7 (y:Yard) (k:Nat) (r:Run):Yard:=⟨y.now,y.seq,y.shelf,y.runs.set k (fQ r)⟩
noncomputable def bK (y:Yard) (id:Int):Yard×Int:=
 if aG y=false then (y,8) else match y.runs[(aF y id).toNat]? with
  | some r=>if aF y id<0 then (y,10) else if r.state≠1 then (y,12) else (bR7 y (aF y id).toNat r,0)
  | none=>(y,10)
theorem vN {y:Yard}{id:Int}(h0:aG y=true) (h:aF y id<0):bK y id=(y,10):=by
 unfold bK;rw[if_neg (by rw[h0];decide)];cases y.runs[(aF y id).toNat]? with
 | none=>rfl
 | some r=>simp only;rw[if_pos h]
theorem lM {y:Yard}{id:Int}{r:Run}(h0:aG y=true) (h:¬aF y id<0) (hr:y.runs[(aF y id).toNat]? = some r):bK y id=if r.state≠1 then (y,12) else (bR7 y (aF y id).toNat r,0):=by
 unfold bK;rw[if_neg (by rw[h0];decide),hr];simp only;rw[if_neg h]

def flE (id:Int) (l:List Entry):List Entry:=l.filter (fun e=> !decide (e.run=id))
theorem flE_t {id:Int}{l:List Entry}{k:Nat}{e:Entry}(he:l[k]? = some e) (h:¬e.run=id):flE id (l.take (k+1))=flE id (l.take k)++[e]:=by
 obtain⟨hk,rfl⟩:=gsi_.1 he;unfold flE;rw[take_succ_eq_append_getElem hk,filter_append];simp[h]
theorem flE_f {id:Int}{l:List Entry}{k:Nat}{e:Entry}(he:l[k]? = some e) (h:e.run=id):flE id (l.take (k+1))=flE id (l.take k):=by
 obtain⟨hk,rfl⟩:=gsi_.1 he;unfold flE;rw[take_succ_eq_append_getElem hk,filter_append];simp[h]
theorem bQ4 (id:Int) (l:List Entry):(flE id l).length<=l.length:=length_filter_le _ _
def rN (id:Int) (xss:List (List Entry)) (i:Nat):List (List Entry):=(xss.take i).map (flE id)++xss.drop i
theorem fgTo_zero (id:Int) (xss:List (List Entry)):rN id xss 0=xss:=by simp[rN]
theorem fgTo_len (id:Int) (xss:List (List Entry)) (i:Nat):(rN id xss i).length=xss.length:=by simp[rN];omega
theorem uY {id:Int}{xss:List (List Entry)}{i:Nat}{l:List Entry}(h:xss[i]? = some l):(rN id xss i)[i]? = some l:=by
 have hl:=(gsi_.1 h).1;unfold rN;rw[getElem?_append_right (by simp;omega)];simp only[length_map,length_take,getElem?_drop];rw[<- h];congr 1;omega
theorem bE5 {id:Int}{xss:List (List Entry)}{i:Nat}{l:List Entry}(h:xss[i]? = some l):(rN id xss i).set i (flE id l)=rN id xss (i+1):=by
 obtain⟨hl,rfl⟩:=gsi_.1 h;unfold rN;have e1:((xss.take i).map (flE id)).length=i:=by simp;omega
 rw[set_append_right _ _ aA,e1,Nat.sub_self,take_succ_eq_append_getElem hl,map_append,append_assoc];congr 1;exact(congrArg (fun z=>z.set 0 (flE id xss[i])) (drop_eq_getElem_cons hl)).trans rfl
theorem bE6 {id:Int}{xss:List (List Entry)}{i:Nat}(h:i=xss.length):rN id xss i=xss.map (flE id):=by subst h;simp[rN]
def bE2 (y:Yard) (id:Int) (k:Nat):Yard:=⟨y.now,y.seq,y.shelf.map (flE id),y.runs.eraseIdx k⟩
noncomputable def aZ (y:Yard) (id:Int):Yard×Int:=
 if aG y=false then (y,8) else match y.runs[(aF y id).toNat]? with
  | some r=>if aF y id<0 then (y,10) else if r.state=1 then (y,13) else (bE2 y id (aF y id).toNat,0)
  | none=>(y,10)
theorem uV {y:Yard}{id:Int}(h0:aG y=true) (h:aF y id<0):aZ y id=(y,10):=by
 unfold aZ;rw[if_neg (by rw[h0];decide)];cases y.runs[(aF y id).toNat]? with
 | none=>rfl
 | some r=>simp only;rw[if_pos h]
theorem lJ {y:Yard}{id:Int}{r:Run}(h0:aG y=true) (h:¬aF y id<0) (hr:y.runs[(aF y id).toNat]? = some r):aZ y id=if r.state=1 then (y,13) else (bE2 y id (aF y id).toNat,0):=by
 unfold aZ;rw[if_neg (by rw[h0];decide),hr];simp only;rw[if_neg h]
section
variable {P:Program}{n:Nat}{f:Nat->Value}{w0 W:World}{rs:List Res}{Q:Exit->Act->World->Prop}{d:Option Tmp}{ty:TypeId}{pos:String}{af:Array Go.Edge}{g:Option (Nat×Bool)}{K:Value->World->Prop}{α:Type}[Shape α]
theorem rZ {t e e':TypeId}{bytes:Nat}{s x:Operand}{v:Value}{xs ys:List α}{fe fy:List Nat}{ad:Addr}{c m b o:Nat}{C cells:List Value}(hT:ApOk P t e α bytes) (hs:ev n f s=v) (hx:ev n f x = .slice (some ad) m c) (hm:ys.length=m) (had:0<m->ad=⟨b,o,none⟩) (hcl:cells=(C.drop o).take (m*Shape.size α))
  (hst:St w0 W (Res.row e v xs fe::Res.es cells ys fy::Res.bx b C e'::rs)) (h63:xs.length+m<=maxLen) (hby:(xs.length+m)*bytes<=140737488355328)
  (k:∀v' W',St w0 W' (Res.row e v' (xs++ys) (fe++fy)::Res.bx b C e'::rs)->K v' W') :
  Stp P n ⟨d,.call { callee := .builtin .append,args := #[s,x],argTypes := #[t,t] },ty,pos,af,g⟩ f W Q K:=by
 have hE:=hst.get 1 rfl;have hB:W.heap[b]? = some (.cells C.toArray e' (0,0)):=hst.get 2 rfl;have hn:=hst.nodup;have h2:=hst.f1;have hn2:=h2.nodup;rw[flatMap_cons,nodup_append]at hn2;refine jX hT hs hx hm hst.d1 hE.1 ?_ hE.2 hn2.1 ?_ h63 hby k
 ·intro j u hj;have hj2:=(gsi_.1 hj).1;rw[hE.1.len,hm]at hj2;have hm0:0<m:=Nat.pos_of_ne_zero (fun h0=>by rw[h0]at hj2;simp at hj2);rw[had hm0,Addr.add_mid];rw[hcl]at hj;have:=bE hB (o+j) u (aE5 hj);simpa using this
 intro a ha;refine⟨fun h=>hn2.2.2 a ha a ?_ rfl,fun h=>hn2.2.2 a ha a ?_ rfl,h2.fresh (Res.es cells ys fy) (by simp) a ha⟩
 ·rw[flatMap_cons];exact mem_append_left _ h
 rw[flatMap_cons];exact mem_append_right _ h
theorem es_tail {C:List Value}{o N k s:Nat}(h:k<=N):((C.drop o).take (N*s)).drop (k*s)=(C.drop (o+k*s)).take ((N-k)*s):=by
 rw[drop_take,drop_drop,Nat.sub_mul]
theorem St.es_split {w0 W:World}{rs:List Res}{cells:List Value}{xs:List α}{fe:List Nat}(h:St w0 W (Res.es cells xs fe::rs)) {k:Nat}(hk:k<xs.length) :
  ∃f1 f3,St w0 W (Res.es (cells.take (k*Shape.size α)) (xs.take k) f1::Res.es (cells.drop ((k+1)*Shape.size α)) (xs.drop (k+1)) f3::rs):=by
 have hh:=h.get 0 rfl;obtain⟨f1,g,rfl,h1,h2⟩:=hh.1.parts' k aA;obtain⟨f2,f3,rfl,h3,h4⟩:=h2.parts' 1 (by rw[length_drop];omega);rw[drop_drop,drop_drop,show k*Shape.size α+1*Shape.size α=(k+1)*Shape.size α by rw[Nat.add_mul]]at h4;refine⟨f1,f3,St.trade (rs1:=[Res.es cells xs (f1++(f2++f3))]) (rs2:=[Res.es (cells.take (k*Shape.size α)) (xs.take k) f1,Res.es (cells.drop ((k+1)*Shape.size α)) (xs.drop (k+1)) f3]) h ?_ ?_ ?_⟩
 ·have:=h.nodup;rw[flatMap_cons,nodup_append]at this;have h5:(f1++(f2++f3)).Nodup:=this.1;have h6:(f1++f3).Sublist (f1++(f2++f3)):=(List.Sublist.refl _).append (sublist_append_right _ _);simpa [Res.es] using h6.nodup h5
 ·intro c hc;simp[Res.es]at hc ⊢;rcases hc with hc | hc<;>simp[hc]
 intro r hr;rcases mem_cons.1 hr with rfl | hr
 ·exact⟨h1,fun c hc=>hh.2 c (by simp[hc])⟩
 rw[mem_singleton]at hr;subst hr;exact⟨h4,fun c hc=>hh.2 c (by simp[hc])⟩
end

def dK (c:Int):Reply:=⟨c,0,0,0⟩
noncomputable def doD (y:Yard) (d:Deed):Yard×Reply:=
 if aQ d=false then (y,dK 5) else if d.kind=1 then ((aV y d.run d.plan).1,dK (aV y d.run d.plan).2) else if d.kind=2 then eL y d.worker d.draw else if d.kind=3 then (dV y d.run d.task d.try_,dK (dD y d.run d.task d.try_))
 else if d.kind=4 then (mC y d.run d.task d.try_,dK (dD y d.run d.task d.try_)) else if d.kind=5 then ((dA y).1,dK (dA y).2) else if d.kind=6 then ((bK y d.run).1,dK (bK y d.run).2)
 else if d.kind=7 then ((aZ y d.run).1,dK (aZ y d.run).2) else (cM y,dK (if aG y=true then 0 else 8))
theorem eF {c:Int}(h : -100<=c/\c<=100):(dK c).ok:=by simp only[dK,Reply.ok,I64];omega
theorem deedOk_edges {d:Deed}(h:aQ d=true):d.plan.edges.length<=31:=by
 unfold aQ at h;simp only[Bool.and_eq_true,decide_eq_true_eq]at h;exact h.1.1.2
theorem rV (y:Yard) (id:Int) (p:Plan) : -100<=(aV y id p).2/\(aV y id p).2<=100:=by
 have:=pf_rng p;unfold aV
 repeat' split
 all_goals first | (simp only;omega) | (show -100<=aC p/\aC p<=100;omega)
theorem aA5 (y:Yard) : -100<=(dA y).2/\(dA y).2<=100:=by
 unfold dA
 repeat' split
 all_goals (simp only;omega)
theorem sI (y:Yard) (id:Int) : -100<=(bK y id).2/\(bK y id).2<=100:=by
 unfold bK
 repeat' split
 all_goals (simp only;omega)
theorem sD (y:Yard) (id:Int) : -100<=(aZ y id).2/\(aZ y id).2<=100:=by
 unfold aZ
 repeat' split
 all_goals (simp only;omega)

def Srt (l:List Entry):Prop:=l.Pairwise fun a b=>bU a b=true
theorem aQ7 {a b:Entry}:bU a b=true↔b.prio<a.prio∨(a.prio=b.prio/\a.seq<b.seq):=by
 unfold bU;simp
theorem yN {a b c:Entry}(h1:bU a b=true) (h2:bU b c=true):bU a c=true:=by
 rw[aQ7]at *;omega
theorem ahead_or {a b:Entry}(h:¬bU a b=true) (h2:¬a.seq=b.seq):bU b a=true:=by
 rw[aQ7]at *;omega
theorem srt_ok {l:List Entry}(h:Srt l) (h8:l.length<=80):cJ l=true:=by
 unfold cJ;refine pQ ⟨h8,fun i _ hi=>?_⟩;exact pairwise_iff_getElem.1 h i (i+1) aA hi aA
theorem aF6 {α:Type}{p:α->Bool}:∀{xs:List α},iR p xs=none->∀x∈xs,p x=false
 | [],_,x,h=>by cases h
 | y::xs,h,x,hx=>by
  unfold iR at h;by_cases hy:p y=true
  ·rw[if_pos hy]at h;cases h
  rw[if_neg hy]at h;have h2:iR p xs=none:=by
   cases hq:iR p xs with
   | none=>rfl
   | some j=>rw[hq]at h;cases h
  rcases mem_cons.1 hx with rfl | hx
  ·simpa using hy
  exact aF6 h2 x hx
theorem qU (xs:List Entry) (e:Entry):(eX xs e).Perm (e::xs):=by
 unfold eX;refine perm_middle.trans ?_;rw[take_append_drop]
theorem aZ4 {xs:List Entry}{e:Entry}(h:Srt xs) (hs:∀x∈xs,¬x.seq=e.seq):Srt (eX xs e):=by
 have hpre:∀x∈xs.take (lC xs e),bU x e=true:=by
  intro x hx;unfold lC at hx;cases hq:iR (fun x=> !bU x e) xs with
  | none=>
   have:=aF6 hq x (mem_of_mem_take hx);simpa using this
  | some k=>
   rw[hq]at hx;have:=any_eq_false.1 (bC8 hq) x hx;simpa using this
 have hpost:∀x∈xs.drop (lC xs e),bU e x=true:=by
  intro x hx;unfold lC at hx;cases hq:iR (fun x=> !bU x e) xs with
  | none=>rw[hq]at hx;simp at hx
  | some k=>
   rw[hq]at hx;simp only[Option.getD_some]at hx;obtain⟨hk,hp⟩:=uT hq;have hk1:bU e xs[k]=true:=ahead_or (by simpa using hp) (hs _ (getElem_mem hk));rw[drop_eq_getElem_cons hk]at hx;rcases mem_cons.1 hx with rfl | hx
   ·exact hk1
   have hd:(xs.drop k).Pairwise fun a b=>bU a b=true:=h.sublist (drop_sublist _ _)
   rw[drop_eq_getElem_cons hk]at hd;exact yN hk1 ((pairwise_cons.1 hd).1 x hx)
 unfold eX Srt;rw[pairwise_append];refine⟨h.sublist (take_sublist _ _),pairwise_cons.2 ⟨hpost,h.sublist (drop_sublist _ _)⟩,fun a ha b hb=>?_⟩;rcases mem_cons.1 hb with rfl | hb
 ·exact hpre a ha
 exact yN (hpre a ha) (hpost b hb)
def lL (es:List Entry) (id:Int):Nat:=(es.filter fun e=>decide (e.run=id)).length
def wR (es:List Entry) (r:Run):Nat:=if r.state=1 then r.tasks.length else lL es r.id
def mJ (es:List Entry) (rs:List Run):Nat:=(rs.map (wR es)).sum
theorem aB0 {α:Type}{f:α->Nat}:∀{l:List α},(∀x∈l,f x=0)->(l.map f).sum=0
 | [],_=>rfl
 | x::l,h=>by
  rw[map_cons,sum_cons,h x mem_cons_self,aB0 fun y hy=>h y (mem_cons_of_mem _ hy)]
theorem aS1 {α:Type}{f g:α->Nat}:∀l:List α,(l.map fun x=>f x+g x).sum=(l.map f).sum+(l.map g).sum
 | []=>rfl
 | x::l=>by
  have:=aS1 (f:=f) (g:=g) l;simp only[map_cons,sum_cons,this];omega
theorem aB1 {α:Type}{f g:α->Nat}:∀{l:List α},(∀x∈l,f x=g x)->(l.map f).sum=(l.map g).sum
 | [],_=>rfl
 | x::l,h=>by
  rw[map_cons,map_cons,sum_cons,sum_cons,h x mem_cons_self,aB1 fun y hy=>h y (mem_cons_of_mem _ hy)]
theorem tW {α:Type}{f g:α->Nat}:∀{l:List α},(∀x∈l,f x<=g x)->(l.map f).sum<=(l.map g).sum
 | [],_=>Nat.le_refl _
 | x::l,h=>by
  rw[map_cons,map_cons,sum_cons,sum_cons];have:=h x mem_cons_self;have:=tW (f:=f) (g:=g) fun y hy=>h y (mem_cons_of_mem _ hy)
  omega
theorem bL1 {f:Run->Nat}:∀{rs:List Run}{r:Run},(rs.map (·.id)).Nodup->r∈rs->(rs.map fun q=>if r.id=q.id then f q else 0).sum=f r
 | [],r,_,h=>by cases h
 | q::rs,r,hn,h=>by
  rw[map_cons,nodup_cons]at hn;rw[map_cons,sum_cons];rcases mem_cons.1 h with rfl | h
  ·rw[if_pos rfl,aB0]
   ·rfl
   ·intro x hx;rw[if_neg];intro e;exact hn.1 (mem_map.2 ⟨x,hx,e.symm⟩)
  ·rw[if_neg,bL1 hn.2 h,Nat.zero_add];intro e;exact hn.1 (mem_map.2 ⟨r,h,e⟩)
theorem cntR_cons (e:Entry) (es:List Entry) (id:Int):lL (e::es) id=(if e.run=id then 1 else 0)+lL es id:=by
 unfold lL;rw[filter_cons];by_cases h:e.run=id
 ·simp[h];omega
 simp[h]
theorem bG8 {rs:List Run}(hn:(rs.map (·.id)).Nodup) {f:Run->Nat}{g:Entry->Nat}:∀{es:List Entry},(∀e∈es,∃r∈rs,r.id=e.run/\g e=f r)->(es.map g).sum=(rs.map fun r=>f r*lL es r.id).sum
 | [],_=>by
  rw[aB0 (l:=rs)]
  ·rfl
  ·intro r _;simp[lL]
 | e::es,h=>by
  have ih:=bG8 hn (f:=f) (g:=g) (es:=es) fun x hx=>h x (mem_cons_of_mem _ hx)
  obtain⟨r,hr,hi,hg⟩:=h e mem_cons_self;rw[map_cons,sum_cons,ih];have e1:(rs.map fun q=>f q*lL (e::es) q.id).sum=(rs.map fun q=>(if r.id=q.id then f q else 0)+f q*lL es q.id).sum:=aB1 fun q _=>by
   rw[cntR_cons,hi,Nat.mul_add];split<;>simp
  rw[e1,aS1,bL1 hn hr,hg]
theorem aG6 {α:Type}(p:α->Bool):∀l:List α,(l.filter p).length=(l.map fun x=>if p x=true then 1 else 0).sum
 | []=>rfl
 | x::l=>by
  rw[filter_cons,map_cons,sum_cons,<- aG6 p l];split
  ·simp;omega
  ·simp
theorem bP1 {α:Type}:∀l:List α,l.length=(l.map fun _=>1).sum
 | []=>rfl
 | x::l=>by rw[map_cons,sum_cons,<- bP1 l,length_cons];omega
theorem cntR_perm {es es':List Entry}(h:es.Perm es') (id:Int):lL es id=lL es' id:=(h.filter _).length_eq
theorem qC (a b:List Entry) (id:Int):lL (a++b) id=lL a id+lL b id:=by unfold lL;rw[filter_append,length_append]
theorem cntR_le {es:List Entry}{id:Int}{n:Nat}(hk:(es.map fun e=>(e.run,e.task)).Nodup) (hr:∀e∈es,e.run=id->0<=e.task/\e.task.toNat<n):lL es id<=n:=by
 unfold lL;have hn:((es.filter fun e=>decide (e.run=id)).map fun e=>e.task.toNat).Nodup:=by
  have h1:((es.filter fun e=>decide (e.run=id)).map fun e=>(e.run,e.task)).Nodup:=hk.sublist (filter_sublist.map _);unfold List.Nodup at h1 ⊢;rw[pairwise_map]at h1 ⊢;refine List.Pairwise.imp_of_mem (fun {a b} ha hb hab=>?_) h1;have ha':=mem_filter.1 ha;have hb':=mem_filter.1 hb;have ha2:a.run=id:=by simpa using ha'.2
  have hb2:b.run=id:=by simpa using hb'.2
  have:=(hr a ha'.1 ha2).1;have:=(hr b hb'.1 hb2).1;intro e;apply hab;rw[ha2,hb2];congr 1;omega
 have hs:∀x∈((es.filter fun e=>decide (e.run=id)).map fun e=>e.task.toNat),x∈List.range n:=by
  intro x hx;obtain⟨e,he,rfl⟩:=mem_map.1 hx;have he':=mem_filter.1 he;exact mem_range.2 (hr e he'.1 (by simpa using he'.2)).2
 have:=hn.length_le_of_subset hs;simpa using this
structure EntIn (rs:List Run) (e:Entry) (r:Run):Prop where
 mem:r∈rs
 id:r.id=e.run
 lo:0<=e.task
 task:∃t,r.tasks[e.task.toNat]? = some t/\(r.state=1->t.state=2)
 prio:e.prio=r.plan.prio
def RG (r:Run):Prop:=RunIs r/\∀t∈r.tasks,t.state=1->t.try_=0
structure CG (now seq:Int) (es:List Entry) (rs:List Run):Prop where
 seq1:1<=seq
 seqs:∀e∈es,1<=e.seq/\e.seq<seq
 nodup:(es.map (·.seq)).Nodup
 eight:rs.length<=8
 runs:∀r∈rs,RG r
 ids:(rs.map (·.id)).Nodup
 ent:∀e∈es,∃r,EntIn rs e r
 keys:(es.map fun e=>(e.run,e.task)).Nodup
 has:∀r∈rs,∀(k:Nat) (t:Task),r.tasks[k]? = some t->t.state=2->∃e∈es,e.run=r.id/\e.task=(k:Int)
 til:∀r∈rs,∀t∈r.tasks,t.state=3->t.until_<=now+r.plan.wait
 slots:mJ es rs<=40
theorem CG.perm {now seq:Int}{es es':List Entry}{rs:List Run}(h:CG now seq es rs) (hp:es.Perm es'):CG now seq es' rs where
 seq1:=h.seq1
 seqs:=fun e he=>h.seqs e (hp.mem_iff.2 he)
 nodup:=(hp.map _).nodup_iff.1 h.nodup
 eight:=h.eight
 runs:=h.runs
 ids:=h.ids
 ent:=fun e he=>h.ent e (hp.mem_iff.2 he)
 keys:=(hp.map _).nodup_iff.1 h.keys
 has:=fun r hr k t ht h2=>by
  obtain⟨e,he,h3⟩:=h.has r hr k t ht h2;exact⟨e,hp.mem_iff.1 he,h3⟩
 til:=h.til
 slots:=by
  have:mJ es' rs=mJ es rs:=aB1 fun r _=>by unfold wR;rw[cntR_perm hp]
  rw[this];exact h.slots
section
variable {now seq:Int}{es:List Entry}{rs:List Run}(h:CG now seq es rs)
include h
theorem CG.one {r q:Run}(hr:r∈rs) (hq:q∈rs) (e:r.id=q.id):r=q:=by
 obtain⟨i,hi,rfl⟩:=getElem_of_mem hr;obtain⟨j,hj,rfl⟩:=getElem_of_mem hq;have:i=j:=(getElem?_inj (l:=rs.map (·.id)) (by simpa using hi) h.ids).1 (by simp[hi,hj,e]);subst this;rfl
theorem CG.cnt_le {r:Run}(hr:r∈rs):lL es r.id<=r.tasks.length:=
 cntR_le h.keys fun e he hi=>by
  obtain⟨q,hq⟩:=h.ent e he;have:q=r:=h.one hq.mem hr (by rw[hq.id,hi]);subst this;obtain⟨t,ht,_⟩:=hq.task;exact⟨hq.lo,(gsi_.1 ht).1⟩
theorem CG.len:es.length<=40:=by
 have h1:es.length=(rs.map fun r=>1*lL es r.id).sum:=by
  rw[bP1 es];exact bG8 h.ids fun e he=>by
   obtain⟨r,hr⟩:=h.ent e he;exact⟨r,hr.mem,hr.id,rfl⟩
 have h2:(rs.map fun r=>1*lL es r.id).sum<=mJ es rs:=tW fun r hr=>by
  unfold wR;have:=h.cnt_le hr;split<;>omega
 have:=h.slots;omega
end
theorem uO {r:Run}(h:RunIs r) (h1:¬r.state=1) {k:Nat}{t:Task}(ht:r.tasks[k]? = some t):¬t.state=2:=by
 intro h2;have hm:=mem_of_getElem? ht;have hp:=vL hm h2;have h4:=zO (s:=4) hm aA;have hs:=h.state;have hn:=h.ne;have n1:=dG r.tasks 1;have n3:=dG r.tasks 3;unfold bG at hs;rw[if_neg h4,if_neg aA,if_neg aA]at hs;split at hs<;>omega
def yT (p id:Int):List Int->Int->List Entry
 | [],_=>[]
 | t::ts,q=>⟨p,q,id,t⟩::yT p id ts (q+1)
theorem fG {p id:Int}:∀{ts:List Int}{q:Int}{e:Entry},e∈yT p id ts q->e.prio=p/\e.run=id/\e.task∈ts/\q<=e.seq/\e.seq<q+ts.length
 | [],q,e,h=>by cases h
 | t::ts,q,e,h=>by
  rcases mem_cons.1 h with rfl | h
  ·exact⟨rfl,rfl,mem_cons_self,Int.le_refl _,by simp only[length_cons];omega⟩
  ·obtain⟨h1,h2,h3,h4,h5⟩:=fG h;exact⟨h1,h2,mem_cons_of_mem _ h3,by omega,by simp only[length_cons];omega⟩
theorem aT7 {p id:Int}:∀{ts:List Int}{q:Int}{i:Int},i∈ts->∃e∈yT p id ts q,e.run=id/\e.task=i
 | [],q,i,h=>by cases h
 | t::ts,q,i,h=>by
  rcases mem_cons.1 h with rfl | h
  ·exact⟨_,mem_cons_self,rfl,rfl⟩
  ·obtain⟨e,he,h2⟩:=aT7 (q:=q+1) h;exact⟨e,mem_cons_of_mem _ he,h2⟩
theorem wJ {p id:Int}:∀(ts:List Int) (q:Int),((yT p id ts q).map (·.seq)).Nodup
 | [],q=>nodup_nil
 | t::ts,q=>by
  unfold yT;rw[map_cons,nodup_cons];refine⟨fun h=>?_,wJ ts (q+1)⟩;obtain⟨e,he,h2⟩:=mem_map.1 h;have:=(fG he).2.2.2.1;simp only at h2;omega
theorem wK {p id:Int}:∀{ts:List Int}(q:Int),ts.Nodup->((yT p id ts q).map fun e=>(e.run,e.task)).Nodup
 | [],q,_=>nodup_nil
 | t::ts,q,h=>by
  unfold yT;rw[nodup_cons]at h;rw[map_cons,nodup_cons];refine⟨fun hm=>?_,wK (q+1) h.2⟩;obtain⟨e,he,h2⟩:=mem_map.1 hm;have:=(fG he).2.2.1;simp only[Prod.mk.injEq]at h2;rw[h2.2]at this;exact h.1 this
theorem bL0 {α:Type}{f g:α->Nat}:∀{l:List α}{k:Nat}{r r':α},l[k]? = some r->f r'<=g r->(∀j q,j≠k->l[j]? = some q->f q<=g q)->((l.set k r').map f).sum<=(l.map g).sum
 | [],k,r,r',h,_,_=>by cases h
 | x::l,0,r,r',h,h1,h2=>by
  simp only[getElem?_cons_zero,Option.some.injEq]at h;subst h;rw[set_cons_zero,map_cons,map_cons,sum_cons,sum_cons];have:=tW (f:=f) (g:=g) (l:=l) fun q hq=>by
   obtain⟨j,hj,rfl⟩:=getElem_of_mem hq;exact h2 (j+1) _ aA (by simp[hj])
  omega
 | x::l,k+1,r,r',h,h1,h2=>by
  rw[set_cons_succ,map_cons,map_cons,sum_cons,sum_cons];have a:=h2 0 x aA rfl;have b:=bL0 (f:=f) (g:=g) (l:=l) (k:=k) (r:=r) (r':=r') (by simpa using h) h1 fun j q hj hq=>h2 (j+1) q aA (by simpa using hq)
  omega
theorem mem_set_of {α:Type}{l:List α}{k:Nat}{r r' q:α}(hr:l[k]? = some r) (hq:q∈l) (hn:¬q=r):q∈l.set k r':=by
 obtain⟨j,hj,rfl⟩:=getElem_of_mem hq;have hjk:¬k=j:=by
  intro e;subst e;rw[getElem?_eq_getElem hj]at hr;exact hn (Option.some.inj hr)
 exact mem_of_getElem? (i:=j) (by rw[getElem?_set,if_neg hjk,getElem?_eq_getElem hj])
theorem ids_set {rs:List Run}{k:Nat}{r r':Run}(hr:rs[k]? = some r) (hid:r'.id=r.id):(rs.set k r').map (·.id)=rs.map (·.id):=by
 apply ext_getElem?;intro j;rw[getElem?_map,getElem?_map,getElem?_set];by_cases e:k=j
 ·subst e;rw[if_pos rfl,if_pos (gsi_.1 hr).1,hr];simp[hid]
 rw[if_neg e]
theorem aP4 {es:List Entry}{id:Int}(h:∀e∈es,¬e.run=id):lL es id=0:=by
 unfold lL;rw[filter_eq_nil_iff.2 fun e he=>by simpa using h e he];rfl
theorem CG.upd {now seq:Int}{X O:List Entry}{rs:List Run}{k:Nat}{r r':Run}{ts:List Int}(h:CG now seq (X++O) rs) (hr:rs[k]? = some r) (hr1:r.state=1) (hR:RG r') (hid:r'.id=r.id) (hpl:r'.plan=r.plan) (hlen:r'.tasks.length=r.tasks.length) (hts:ts.Nodup)
  (hnew:∀i∈ts,0<=i/\(∃t,r'.tasks[i.toNat]? = some t/\t.state=2)/\∀e∈O,e.run=r.id->¬e.task=i)
  (hold:r'.state=1->∀e∈O,e.run=r.id->∃t,r'.tasks[e.task.toNat]? = some t/\t.state=2)
  (hhas:∀(j:Nat) (t:Task),r'.tasks[j]? = some t->t.state=2->(j:Int)∈ts∨∃e∈O,e.run=r.id/\e.task=(j:Int))
  (hX:∀e∈X,e.run=r.id) (htil:∀t∈r'.tasks,t.state=3->t.until_<=now+r'.plan.wait) :
  CG now (seq+ts.length) (yT r'.plan.prio r'.id ts seq++O) (rs.set k r'):=by
 have hm:r∈rs:=mem_of_getElem? hr;have hset:rs.set k r'=rs.set k r':=rfl;have hmem:r'∈rs.set k r':=mem_of_getElem? (i:=k) (set_self hr r');have hO:∀e∈O,e∈X++O:=fun e he=>mem_append_right _ he
 have hts0:¬r'.state=1->ts=[]:=fun h1=>eq_nil_iff_forall_not_mem.2 fun i hi=>by
  obtain⟨_,⟨t,ht,h2⟩,_⟩:=hnew i hi;exact uO hR.1 h1 ht h2
 have hcnt:=h.cnt_le hm;refine⟨by have:=h.seq1;omega,?_,?_,by rw[length_set];exact h.eight,?_,by rw[ids_set hr hid];exact h.ids,?_,?_,?_,?_,?_⟩
 ·intro e he;rcases mem_append.1 he with he | he
  ·have:=fG he;have:=h.seq1;omega
  have:=h.seqs e (hO e he);omega
 ·rw[map_append,nodup_append];refine⟨wJ _ _,?_,?_⟩
  ·have:=h.nodup;rw[map_append,nodup_append]at this;exact this.2.1
  intro a ha b hb;obtain⟨e,he,rfl⟩:=mem_map.1 ha;obtain⟨g,hg,rfl⟩:=mem_map.1 hb;have:=(fG he).2.2.2.1;have:=(h.seqs g (hO g hg)).2;omega
 ·intro q hq;rcases mem_or_eq_of_mem_set hq with h1 | rfl
  ·exact h.runs q h1
  exact hR
 ·intro e he;rcases mem_append.1 he with he | he
  ·obtain⟨h1,h2,h3,_⟩:=fG he;obtain⟨h4,⟨t,ht,h5⟩,_⟩:=hnew _ h3;exact⟨r',hmem,h2.symm,h4,⟨t,ht,fun _=>h5⟩,h1⟩
  obtain⟨q,hq⟩:=h.ent e (hO e he);by_cases e1:q=r
  ·subst e1;obtain⟨t,ht,h5⟩:=hq.task;have hlt:=(gsi_.1 ht).1;refine⟨r',hmem,by rw[hid];exact hq.id,hq.lo,?_,by rw[hpl];exact hq.prio⟩;refine⟨r'.tasks[e.task.toNat]'(by omega),getElem?_eq_getElem _,fun h1=>?_⟩;obtain⟨t',ht',h6⟩:=hold h1 e he hq.id.symm;rw[getElem?_eq_getElem aA]at ht';rw[Option.some.inj ht'];exact h6
  exact⟨q,mem_set_of hr hq.mem e1,hq.id,hq.lo,hq.task,hq.prio⟩
 ·rw[map_append,nodup_append];refine⟨wK _ hts,?_,?_⟩
  ·have:=h.keys;rw[map_append,nodup_append]at this;exact this.2.1
  intro a ha b hb;obtain⟨e,he,rfl⟩:=mem_map.1 ha;obtain⟨g,hg,rfl⟩:=mem_map.1 hb;obtain⟨_,h2,h3,_⟩:=fG he;intro e2;simp only[Prod.mk.injEq]at e2;exact(hnew _ h3).2.2 g hg (by rw[<- e2.1,h2,hid]) e2.2.symm
 ·intro q hq j t ht h2;by_cases e1:q.id=r.id
  ·have e2:q=r':=by
    rcases mem_or_eq_of_mem_set hq with h1 | h1
    ·have h3:q=r:=h.one h1 hm e1;subst h3;obtain⟨i,hi,e3⟩:=getElem_of_mem hq;by_cases hik:k=i
     ·subst hik;rw[getElem_set_self]at e3;exact e3.symm
     rw[getElem_set_ne hik]at e3;have:i=k:=(getElem?_inj (l:=rs.map (·.id)) (by simpa using hi) h.ids).1 (by
      have hi2:i<rs.length:=by simpa using hi
      rw[getElem?_map,getElem?_map,hr,getElem?_eq_getElem hi2,e3])
     exact absurd this.symm hik
    exact h1
   subst e2;rcases hhas j t ht h2 with h3 | ⟨e,he,h3,h4⟩
   ·obtain⟨e,he,h4,h5⟩:=aT7 (p:=q.plan.prio) (id:=q.id) (q:=seq) h3;exact⟨e,mem_append_left _ he,h4,h5⟩
   exact⟨e,mem_append_right _ he,by rw[h3,hid],h4⟩
  have hq2:q∈rs:=by
   rcases mem_or_eq_of_mem_set hq with h1 | h1
   ·exact h1
   exact absurd (by rw[h1,hid]) e1
  obtain⟨e,he,h3,h4⟩:=h.has q hq2 j t ht h2;rcases mem_append.1 he with he | he
  ·exact absurd (by rw[<- h3,hX e he]) e1
  exact⟨e,mem_append_right _ he,h3,h4⟩
 ·intro q hq;rcases mem_or_eq_of_mem_set hq with h1 | rfl
  ·exact h.til q h1
  exact htil
 refine Nat.le_trans ?_ h.slots;unfold mJ;refine bL0 hr ?_ fun j q hj hq=>?_
 ·unfold wR;rw[if_pos hr1];split
  ·omega
  next h1=>
  rw[hts0 h1];show lL O r'.id<=_;rw[qC]at hcnt;rw[hid];omega
 have hne:¬r'.id=q.id:=by
  intro e;have:k=j:=(getElem?_inj (l:=rs.map (·.id)) (by have:=(gsi_.1 hr).1;simpa using this) h.ids).1 (by
   rw[getElem?_map,getElem?_map,hr,hq];simp[<- e,hid])
  exact hj this.symm
 unfold wR;split
 ·exact Nat.le_refl _
 rw[qC,qC,aP4 (fun e he=>by rw[(fG he).2.1];exact hne)];omega
theorem CG.drop {now seq:Int}{X O:List Entry}{rs:List Run}(h:CG now seq (X++O) rs) (hX:∀e∈X,∀r∈rs,r.id=e.run->¬r.state=1):CG now seq O rs:=by
 have hO:∀e∈O,e∈X++O:=fun e he=>mem_append_right _ he
 refine⟨h.seq1,fun e he=>h.seqs e (hO e he),?_,h.eight,h.runs,h.ids,fun e he=>h.ent e (hO e he),?_,?_,h.til,?_⟩
 ·have:=h.nodup;rw[map_append,nodup_append]at this;exact this.2.1
 ·have:=h.keys;rw[map_append,nodup_append]at this;exact this.2.1
 ·intro r hr k t ht h2;obtain⟨e,he,h3,h4⟩:=h.has r hr k t ht h2;rcases mem_append.1 he with he | he
  ·exact absurd h2 (uO (h.runs r hr).1 (hX e he r hr h3.symm) ht)
  exact⟨e,he,h3,h4⟩
 refine Nat.le_trans ?_ h.slots;refine tW fun r _=>?_
 unfold wR;rw[qC];split<;>omega
theorem CG.later {now now' seq:Int}{es:List Entry}{rs:List Run}(h:CG now seq es rs) (hn:now<=now'):CG now' seq es rs:=
 ⟨h.seq1,h.seqs,h.nodup,h.eight,h.runs,h.ids,h.ent,h.keys,h.has,fun r hr t ht h3=>by have:=h.til r hr t ht h3;omega,h.slots⟩
structure YG (y:Yard):Prop where
 now:0<=y.now/\y.now<=999999980
 four:y.shelf.length=4
 srt:∀l∈y.shelf,Srt l
 core:CG y.now y.seq y.shelf.flatten y.runs
def InTime (y:Yard):Prop:=∀r∈y.runs,∀t∈r.tasks,t.state=3->y.now+1<=t.until_
theorem ixOf_id {rs:List Run}(hn:(rs.map (·.id)).Nodup) {k:Nat}{r:Run}(hr:rs[k]? = some r):iR (fun q:Run=>decide (q.id=r.id)) rs=some k:=by
 obtain⟨hk,rfl⟩:=gsi_.1 hr;refine nK hk (any_eq_false.2 fun q hq=>?_) (by simp);obtain⟨j,hj,rfl⟩:=getElem_of_mem hq;rw[length_take]at hj;simp only[getElem_take,decide_eq_true_eq];intro e;have:j=k:=(getElem?_inj (l:=rs.map (·.id)) (by simp;omega) hn).1 (by
  rw[getElem?_map,getElem?_map,getElem?_eq_getElem hk,getElem?_eq_getElem aA];simp[e])
 omega
theorem aC3 {y:Yard}(h8:y.runs.length<=8) (hn:(y.runs.map (·.id)).Nodup) {k:Nat}{r:Run}(hr:y.runs[k]? = some r):bS y r.id=some k:=by
 unfold bS;rw[if_pos h8];exact ixOf_id hn hr
theorem wP {now seq:Int}{es:List Entry}{y:Yard}(h:CG now seq es y.runs) {e:Entry}{r:Run}(he:EntIn y.runs e r):fresh y e=decide (r.state=1):=by
 obtain⟨k,hk,e1⟩:=getElem_of_mem he.mem;have hr:y.runs[k]? = some r:=by rw[getElem?_eq_getElem hk,e1]
 obtain⟨t,ht,h2⟩:=he.task;have hlt:=(gsi_.1 ht).1;have hlo:=he.lo;unfold fresh;rw[<- he.id,aC3 h.eight h.ids hr];simp only[hr,ht];rw[inB_iff.2 ⟨hlo,by omega⟩,Bool.true_and];by_cases h1:r.state=1
 ·rw[decide_eq_true h1,decide_eq_true (h2 h1)]
 rw[decide_eq_false h1,decide_eq_false (uO (h.runs r he.mem).1 h1 ht)]
theorem aY4 {y:Yard}(h:CG y.now y.seq y.shelf.flatten y.runs):cI y=(mJ y.shelf.flatten y.runs:Nat):=by
 have h1:dY y y.shelf.flatten=(y.runs.map fun r=>(if r.state=1 then 0 else 1)*lL y.shelf.flatten r.id).sum:=by
  unfold dY;rw[aG6];exact bG8 h.ids fun e he=>by
   obtain⟨r,hr⟩:=h.ent e he;refine⟨r,hr.mem,hr.id,?_⟩;rw[wP h hr];by_cases h1:r.state=1<;>simp[h1]
 have h2:mJ y.shelf.flatten y.runs=(y.runs.map iZ).sum+dY y y.shelf.flatten:=by
  rw[h1,<- aS1];refine aB1 fun r _=>?_
  unfold wR iZ;split<;>simp
 unfold cI;rw[h2];omega
theorem gd_fresh_out {y:Yard}(h:CG y.now y.seq y.shelf.flatten y.runs):∀e∈y.shelf.flatten,fresh y e=false->∀r∈y.runs,r.id=e.run->¬r.state=1:=by
 intro e he hf r hr hi;obtain⟨q,hq⟩:=h.ent e he;have:q=r:=h.one hq.mem hr (by rw[hq.id,hi]);subst this;rw[wP h hq]at hf;simpa using hf
theorem YG.ok {y:Yard}(h:YG y) (ht:InTime y) (hs:y.seq<=1000000000):aG y=true:=by
 have hc:=h.core;unfold aG;refine pQ ⟨h.now,⟨hc.seq1,hs⟩,h.four,hc.eight,fun l hl=>srt_ok (h.srt l hl) ?_,fun e he=>?_,hc.nodup,fun j hj hj2=>⟨runIs.2 (hc.runs _ (getElem_mem hj2)).1,?_,?_⟩,?_⟩
 ·have h1:=hc.len;obtain⟨i,hi,rfl⟩:=getElem_of_mem hl;have h2:(y.shelf[i]).Sublist y.shelf.flatten:=sublist_flatten_of_mem (getElem_mem hi);have:=h2.length_le;omega
 ·have:=hc.seqs e he;omega
 ·unfold aF;rw[aC3 hc.eight hc.ids (getElem?_eq_getElem hj2)];rfl
 ·have hm:=getElem_mem hj2;have hR:=(hc.runs _ hm).1;refine pQ fun k hk=>⟨fun hk2 e he ho h2=>?_,fun hk2=>⟨fun h2=>?_,fun h3=>⟨ht _ hm _ (getElem_mem hk2) h3,hc.til _ hm _ (getElem_mem hk2) h3⟩⟩⟩
  ·unfold oZ at ho;simp only[Bool.and_eq_true,decide_eq_true_eq]at ho;obtain⟨q,hq⟩:=hc.ent e he;have:q=y.runs[j]:=hc.one hq.mem hm (by rw[hq.id,ho.1]);rw[<- this];exact hq.prio
  obtain⟨e,he,h3,h4⟩:=hc.has _ hm k _ (getElem?_eq_getElem hk2) h2;have h1:1<=wU y.runs[j].id (k:Int) y.shelf.flatten:=by
   unfold wU;exact length_pos_of_mem (mem_filter.2 ⟨he,by unfold oZ;simp[h3,h4]⟩)
  have h5:wU y.runs[j].id (k:Int) y.shelf.flatten<=1:=by
   unfold wU;have hn:((y.shelf.flatten.filter (oZ y.runs[j].id (k:Int))).map fun e=>(e.run,e.task)).Nodup:=hc.keys.sublist (filter_sublist.map _);have hsub:((y.shelf.flatten.filter (oZ y.runs[j].id (k:Int))).map fun e=>(e.run,e.task)) ⊆ [(y.runs[j].id,(k:Int))]:=by
    intro x hx;obtain⟨g,hg,rfl⟩:=mem_map.1 hx;have:=(mem_filter.1 hg).2;unfold oZ at this;simp only[Bool.and_eq_true,decide_eq_true_eq]at this;rw[this.1,this.2];exact mem_singleton_self _
   have:=hn.length_le_of_subset hsub;rw[length_map]at this;exact this
  omega
 have h1:=aY4 hc;have h2:=hc.slots;omega
theorem nG {xss:List (List Entry)}{s:Nat}(h:s<xss.length) (l:List Entry):(xss.set s l).flatten.Perm (l++(xss.eraseIdx s).flatten):=by
 induction xss generalizing s with
 | nil=>simp at h
 | cons x xss ih=>
  cases s with
  | zero=>simp
  | succ s=>
   rw[set_cons_succ,flatten_cons,eraseIdx_cons_succ,flatten_cons];refine(List.Perm.append_left x (ih (by simpa using h))).trans ?_;rw[<- append_assoc,<- append_assoc];exact List.Perm.append_right _ perm_append_comm
theorem rC {xss:List (List Entry)}{s:Nat}(h:s<xss.length):xss.flatten.Perm (xss.getD s []++(xss.eraseIdx s).flatten):=by
 have:=nG h (xss.getD s []);have e:xss.set s (xss.getD s [])=xss:=by
  rw[getD_eq_getElem?_getD,getElem?_eq_getElem h];exact set_getElem_self h
 rwa [e]at this
theorem sQ {sh:Nat}{p id:Int}:∀(ts:List Int) (xss:List (List Entry)) (q:Int),sh<xss.length->(dZ sh p id ts xss q).flatten.Perm (yT p id ts q++xss.flatten)
 | [],xss,q,_=>List.Perm.refl _
 | t::ts,xss,q,h=>by
  unfold dZ yT;refine(sQ ts _ (q+1) (by simpa using h)).trans ((List.Perm.append_left _ (nG h _)).trans ((List.Perm.append_left _ (List.Perm.append_right _ (qU _ _))).trans ((List.Perm.append_left _ (List.Perm.cons _ (rC h).symm)).trans ?_)));exact perm_middle
theorem wB {sh:Nat}{p id:Int}:∀(ts:List Int) (xss:List (List Entry)) (q:Int),(∀l∈xss,Srt l)->(∀e∈xss.flatten,e.seq<q)->∀l∈dZ sh p id ts xss q,Srt l
 | [],xss,q,h,_=>h
 | t::ts,xss,q,h,hq=>by
  unfold dZ;have hg:∀e∈xss.getD sh [],e∈xss.flatten:=by
   intro e he;rw[getD_eq_getElem?_getD]at he;cases hx:xss[sh]? with
   | none=>rw[hx]at he;cases he
   | some l=>rw[hx]at he;exact mem_flatten.2 ⟨l,mem_of_getElem? hx,he⟩
  refine wB ts _ (q+1) (fun l hl=>?_) (fun e he=>?_)
  ·rcases mem_or_eq_of_mem_set hl with h1 | rfl
   ·exact h l h1
   refine aZ4 ?_ fun x hx=>?_
   ·rw[getD_eq_getElem?_getD];cases hx:xss[sh]? with
    | none=>exact List.Pairwise.nil
    | some l=>exact h l (mem_of_getElem? hx)
   have:=hq x (hg x hx);show ¬x.seq=q;omega
  obtain⟨l,hl,he⟩:=mem_flatten.1 he;rcases mem_or_eq_of_mem_set hl with h1 | rfl
  ·have:=hq e (mem_flatten.2 ⟨l,h1,he⟩);omega
  rcases mem_cons.1 ((qU _ _).mem_iff.1 he) with rfl | h1
  ·show q<q+1;omega
  have:=hq e (hg e h1);omega
theorem tasksIn_iff {ts:List Task}{s i:Int}:i∈aH ts s↔0<=i/\∃t,ts[i.toNat]? = some t/\t.state=s:=by
 unfold aH cH;rw[mem_filterMap];constructor
 ·rintro⟨a,ha,h⟩;split at h
  ·next hs=>
   simp only[Option.some.injEq]at h;subst h;refine⟨by omega,?_⟩;rw[Int.toNat_natCast];cases hq:ts[a]? with
   | none=>rw[hq]at hs;cases hs
   | some t=>rw[hq]at hs;exact⟨t,rfl,by simpa using hs⟩
  cases h
 rintro⟨h0,t,ht,hs⟩;refine⟨i.toNat,mem_range.2 (gsi_.1 ht).1,?_⟩;rw[ht];simp only[Option.map_some,hs,if_true,Option.some.injEq];omega
theorem mW (ts:List Task) (s:Int):(aH ts s).Nodup:=by
 unfold aH cH List.Nodup;rw[pairwise_filterMap];refine List.Pairwise.imp (fun {a b} hab=>?_) (nodup_range (n:=ts.length));intro x hx y hy;split at hx
 ·split at hy
  ·simp only[Option.some.injEq]at hx hy;omega
  cases hy
 cases hx
theorem freshOf_iff {r r':Run}{i:Int}:i∈cQ r r'↔(0<=i/\∃t,r'.tasks[i.toNat]? = some t/\t.state=2)/\¬∃t,r.tasks[i.toNat]? = some t/\t.state=2:=by
 unfold cQ;rw[mem_filter,tasksIn_iff];simp only[Bool.not_eq_true',decide_eq_false_iff_not,tasksIn_iff];constructor
 ·rintro⟨h1,h2⟩;exact⟨h1,fun h3=>h2 ⟨h1.1,h3⟩⟩
 rintro⟨h1,h2⟩;exact⟨h1,fun h3=>h2 h3.2⟩
theorem YG.change {y:Yard}{k:Nat}{r r':Run}(h:YG y) (hr:y.runs[k]? = some r) (hr1:r.state=1) (hR:RG r') (hid:r'.id=r.id) (hpl:r'.plan=r.plan) (hlen:r'.tasks.length=r.tasks.length)
  (hkeep:r'.state=1->∀(j:Nat) t,r.tasks[j]? = some t->t.state=2->∃t',r'.tasks[j]? = some t'/\t'.state=2)
  (htil:∀t∈r'.tasks,t.state=3->t.until_<=y.now+r'.plan.wait):YG (cR y k r r'):=by
 have hc:=h.core;have hsr:=eQ r'.id;refine⟨h.now,?_,?_,?_⟩
 ·show (dZ _ _ _ _ _ _).length=4;rw[iB];exact h.four
 ·exact wB _ _ _ h.srt fun e he=>(hc.seqs e he).2
 have h1:=hc.upd (X:=[]) (O:=y.shelf.flatten) (ts:=cQ r r') hr hr1 hR hid hpl hlen ((mW _ _).sublist filter_sublist) (fun i hi=>?_) (fun h1 e he hi=>?_) (fun j t ht h2=>?_) (fun e he=>by cases he) htil
 ·exact h1.perm (sQ _ _ _ (by rw[h.four];omega)).symm
 ·obtain⟨⟨a,b⟩,c⟩:=freshOf_iff.1 hi;refine⟨a,b,fun e he hi2 he2=>c ?_⟩;obtain⟨q,hq⟩:=hc.ent e he;have:q=r:=hc.one hq.mem (mem_of_getElem? hr) (by rw[hq.id,hi2]);subst this;obtain⟨t,ht,h3⟩:=hq.task;exact⟨t,by rw[<- he2];exact ht,h3 hr1⟩
 ·obtain⟨q,hq⟩:=hc.ent e he;have:q=r:=hc.one hq.mem (mem_of_getElem? hr) (by rw[hq.id,hi]);subst this;obtain⟨t,ht,h3⟩:=hq.task;exact hkeep h1 _ t ht (h3 hr1)
 by_cases h3:∃t,r.tasks[j]? = some t/\t.state=2
 ·obtain⟨u,hu,h4⟩:=h3;obtain⟨e,he,h5,h6⟩:=hc.has r (mem_of_getElem? hr) j u hu h4;exact .inr ⟨e,he,h5,h6⟩
 exact .inl (freshOf_iff.2 ⟨⟨by omega,t,by rw[Int.toNat_natCast];exact ht,h2⟩,by rw[Int.toNat_natCast];exact h3⟩)
theorem bM1 {r:Run}(h:RunIs r) (h1:r.state=1):¬aL r.tasks 4=r.tasks.length/\aL r.tasks 5=0/\aL r.tasks 6=0:=by
 have hs:=h.state;unfold bG at hs;split at hs
 ·omega
 next h4=>
 split at hs
 ·omega
 split at hs
 ·omega
 split at hs
 ·next h5=>exact⟨h4,h5⟩
 omega
theorem is_1 {ts:List Task}(h4:¬aL ts 4=ts.length) (h5:aL ts 5=0) (h6:aL ts 6=0):bG ts=1:=by
 unfold bG;rw[if_neg h4,if_neg aA,if_neg aA,if_pos ⟨h5,h6⟩]
theorem live_2 {r:Run}(h:RunIs r) {k:Nat}{t:Task}(ht:r.tasks[k]? = some t) (h2:t.state=2):r.state=1:=Classical.byContradiction fun h1=>uO h h1 ht h2
theorem RG.fails {r:Run}(h:RG r) {i:Nat}{t:Task}(ht:r.tasks[i]? = some t) (h3:t.state=3):RG (bJ r i):=by
 refine⟨h.1.fails ht h3,fun u hu h1=>?_⟩;rw[nO ht]at hu;unfold mB at hu;split at hu
 ·rcases mem_or_eq_of_mem_set hu with hu | rfl
  ·exact h.2 u hu h1
  exact absurd (show (2:Int)=1 from h1) aA
 have hu:u∈dQ (r.tasks.set i ⟨5,t.need,t.try_,0⟩) i:=hu;unfold dQ at hu;obtain⟨k,hk,rfl⟩:=getElem_of_mem hu;rw[getElem_mapIdx]at h1 ⊢;unfold eK at h1 ⊢;split at h1
 ·next hc=>
  rw[if_pos hc];have hk':k<(r.tasks.set i ⟨5,t.need,t.try_,0⟩).length:=by simpa using hk
  rcases mem_or_eq_of_mem_set (getElem_mem hk') with hm | e
  ·exact h.2 _ hm h1
  rw[e]at h1;exact absurd (show (5:Int)=1 from h1) aA
 exact absurd (show (6:Int)=1 from h1) aA
theorem RG.start {r:Run}(h:RG r) {i:Nat}{t:Task}{now:Int}(hn:0<=now/\now<=999999980) (ht:r.tasks[i]? = some t) (h2:t.state=2):RG (eW r i t now):=by
 have h1:=live_2 h.1 ht h2;obtain⟨hi,rfl⟩:=gsi_.1 ht;obtain⟨c4,c5,c6⟩:=bM1 h.1 h1;have htk:=h.1.task i hi hi;have ht2:=htk.2.2.2.2.2.2.1 h2;have hpl:=(gV h.1.plan).1;have hlen:(r.tasks.set i ⟨3,r.tasks[i].need,r.tasks[i].try_+1,now+r.plan.wait⟩).length=r.tasks.length:=length_set;have hpm:(1<=r.plan.wait/\r.plan.wait<=20):=by unfold aN at hpl;omega
 have hnd:∀x,cO (eW r i r.tasks[i] now) x=cO r x:=qW rfl fun j=>by
  show ((r.tasks.set i _)[j]?).map _=_;rw[getElem?_set];by_cases e:i=j
  ·subst e;simp[hi,h2]
  rw[if_neg e]
 refine⟨⟨h.1.id,h.1.plan,by show ((r.tasks.set i _).length:Int)=_;rw[hlen];exact h.1.len,fun k hk hk'=>?_,?_,h.1.ne⟩,fun u hu hu1=>?_⟩
 ·rw[hnd];have hk2:k<r.tasks.length:=by rw[<- hlen];exact hk
  have hk3:k<(r.tasks.set i ⟨3,r.tasks[i].need,r.tasks[i].try_+1,now+r.plan.wait⟩).length:=hk;show dR _ _ ((r.tasks.set i _)[k]'hk3);rw[getElem_set];split
  ·next e=>
   subst e;obtain⟨t1,t2,t3,t4,t5,t6,t7,t8⟩:=htk;refine⟨⟨by show (1:Int)<=3;omega,by show (3:Int)<=6;omega⟩,t2,⟨by show 0<=r.tasks[i].try_+1;omega,by show r.tasks[i].try_+1<=r.plan.most;omega⟩,fun _=>⟨by show 1<=now+r.plan.wait;omega,by show now+r.plan.wait<=1000000000;omega⟩,fun e=>absurd rfl e,fun e=>absurd (show (3:Int)=1 from e) aA,fun e=>absurd (show (3:Int)=2 from e) aA,fun _=>⟨ht2.1,by show 1<=r.tasks[i].try_+1;omega⟩⟩
  exact iY rfl (h.1.task k hk2 hk2)
 ·show r.state=bG (r.tasks.set i _);rw[h1,is_1]
  ·rw[nT hi,hlen,h2,if_neg aA,if_neg (by show ¬(3:Int)=4;omega)];omega
  ·rw[nT hi,h2,if_neg aA,if_neg (by show ¬(3:Int)=5;omega)];omega
  rw[nT hi,h2,if_neg aA,if_neg (by show ¬(3:Int)=6;omega)];omega
 rcases mem_or_eq_of_mem_set hu with hu | rfl
 ·exact h.2 u hu hu1
 exact absurd (show (3:Int)=1 from hu1) aA
theorem aF2 (ts:List Task):dQ ts (-1)=ts.map fun t=>if t.state=4 then t else dI t:=by
 apply ext_getElem?;intro k;unfold dQ;rw[getElem?_mapIdx,getElem?_map];congr 1
 funext t
 unfold eK;by_cases h:t.state=4
 ·rw[if_pos (.inr h),if_pos h]
 rw[if_neg (by intro hc;rcases hc with hc | hc;omega;exact h hc),if_neg h]
theorem RG.gone {r:Run}(h:RG r) (h1:r.state=1):RG (fQ r):=by
 obtain⟨c4,c5,c6⟩:=bM1 h.1 h1;have hg:pV r=true:=by unfold pV;rw[runIs.2 h.1,decide_eq_true h1];rfl
 rw[zN hg,aF2];have hst:∀t:Task,(if t.state=4 then t else dI t).state=if t.state=4 then 4 else 6:=fun t=>by
  split
  ·assumption
  rfl
 have hnd:∀x,cO ⟨r.id,r.plan,4,r.tasks.map fun t=>if t.state=4 then t else dI t⟩ x=cO r x:=qW rfl fun j=>by
  show ((r.tasks.map _)[j]?).map _=_;rw[getElem?_map];cases r.tasks[j]? with
  | none=>rfl
  | some t=>
   simp only[Option.map_some];rw[hst t];by_cases e:t.state=4<;>simp[e]
 refine⟨⟨h.1.id,h.1.plan,by show ((r.tasks.map _).length:Int)=_;rw[length_map];exact h.1.len,fun k hk hk'=>?_,?_,by show ¬(4:Int)=0;omega⟩,fun u hu hu1=>?_⟩
 ·rw[hnd];have hk2:k<r.tasks.length:=by simpa using hk
  show dR _ _ ((r.tasks.map _)[k]'hk');rw[getElem_map];split
  ·exact iY rfl (h.1.task k hk2 hk2)
  exact tU rfl (h.1.task k hk2 hk2)
 ·show 4=bG (r.tasks.map _);have hm:∀s:Int,¬s=4->¬s=6->aL (r.tasks.map fun t=>if t.state=4 then t else dI t) s=0:=fun s h4 h6=>nS fun u hu hs=>by
   obtain⟨t,_,rfl⟩:=mem_map.1 hu;rw[hst t]at hs;split at hs<;>omega
  have h4:aL (r.tasks.map fun t=>if t.state=4 then t else dI t) 4=aL r.tasks 4:=bF5 fun t _=>by
   rw[hst t];by_cases e:t.state=4<;>simp[e]
  have hlen:(r.tasks.map fun t=>if t.state=4 then t else dI t).length=r.tasks.length:=length_map _;have hsum:=aV3 (ts:=r.tasks.map fun t=>if t.state=4 then t else dI t) fun u hu=>by
   obtain⟨t,_,rfl⟩:=mem_map.1 hu;rw[hst t];split<;>omega
  have a1:=hm 1 aA aA;have a2:=hm 2 aA aA;have a3:=hm 3 aA aA;have a5:=hm 5 aA aA;have a4:=rF r.tasks 4;unfold bG;rw[if_neg (by rw[h4,hlen];exact c4),if_neg aA,if_pos ⟨a5,by omega,by omega⟩]
 obtain⟨t,_,rfl⟩:=mem_map.1 hu;rw[hst t]at hu1;split at hu1<;>omega
theorem bF6:∀{B:List Int}{ts:List Task},B.Nodup->(∀b∈B,0<=b)->∀k:Nat,(mZ ts B)[k]? = (ts[k]?).map fun t=>if (k:Int)∈B then gX t else t
 | [],ts,_,_,k=>by simp[mZ]
 | b::B,ts,hn,h0,k=>by
  rw[nodup_cons]at hn;have hb:=h0 b mem_cons_self;have ih:=bF6 (B:=B) (ts:=mQ ts b) hn.2 (fun c hc=>h0 c (mem_cons_of_mem _ hc)) k;show (mZ (mQ ts b) B)[k]? = _;rw[ih];have hs:(mQ ts b)[k]? = (ts[k]?).map fun t=>if (k:Int)=b then gX t else t:=by
   unfold mQ;by_cases e:(k:Int)=b
   ·have e2:b.toNat=k:=by omega
    rw[e2];cases hk:ts[k]? with
    | none=>simp[hk]
    | some t=>simp[hk,e,(gsi_.1 hk).1]
   cases hk:ts[b.toNat]? with
   | none=>simp only;cases ts[k]?<;>simp[e]
   | some t=>
    simp only;rw[getElem?_set,if_neg aA];cases ts[k]?<;>simp[e]
  rw[hs,Option.map_map];congr 1
  funext t
  simp only[Function.comp_apply,mem_cons];by_cases e:(k:Int)=b
  ·have:¬(k:Int)∈B:=by rw[e];exact hn.1
   simp[e,hn.1]
  simp[e]
theorem oU {p:Plan}(h:aC p=0) {i j:Int}:j∈aO p i↔i∈aJ p j:=by
 unfold aO aJ;rw[if_pos h,if_pos h,(fL _).mem_iff,(fL _).mem_iff];unfold tos cK;simp only[mem_map,mem_filter,decide_eq_true_eq];constructor
 ·rintro⟨e,⟨h1,h2⟩,h3⟩;exact⟨e,⟨h1,h3⟩,h2⟩
 rintro⟨e,⟨h1,h2⟩,h3⟩;exact⟨e,⟨h1,h3⟩,h2⟩
theorem behind_nodup {p:Plan}(h:aC p=0) (i:Int):(aO p i).Nodup:=by
 unfold aO;rw[if_pos h];refine(fL _).nodup_iff.2 ?_;unfold tos List.Nodup;rw[pairwise_map];refine List.Pairwise.imp_of_mem (fun {a b} ha hb hab e=>hab ?_) ((gV h).2.2.1.sublist filter_sublist);have h1:=(mem_filter.1 ha).2;have h2:=(mem_filter.1 hb).2;simp only[decide_eq_true_eq]at h1 h2;cases a;cases b;simp_all
theorem before_nodup {p:Plan}(h:aC p=0) (i:Int):(aJ p i).Nodup:=by
 unfold aJ;rw[if_pos h];refine(fL _).nodup_iff.2 ?_;unfold cK List.Nodup;rw[pairwise_map];refine List.Pairwise.imp_of_mem (fun {a b} ha hb hab e=>hab ?_) ((gV h).2.2.1.sublist filter_sublist);have h1:=(mem_filter.1 ha).2;have h2:=(mem_filter.1 hb).2;simp only[decide_eq_true_eq]at h1 h2;cases a;cases b;simp_all
theorem filter_less {l:List Int}{x:Int}{p q:Int->Bool}(hn:l.Nodup) (h:∀y∈l,q y=(p y && !decide (y=x))) (hp:p x=true):(l.filter p).length=(l.filter q).length+if x∈l then 1 else 0:=by
 induction l with
 | nil=>simp
 | cons y l ih=>
  rw[nodup_cons]at hn;have ih:=ih hn.2 fun z hz=>h z (mem_cons_of_mem _ hz)
  have hy:=h y mem_cons_self;rw[filter_cons,filter_cons];by_cases e:y=x
  ·subst e;rw[hp,hy,hp];have:¬y∈l:=hn.1;rw[if_neg this]at ih;simp;omega
  rw[hy];have e2:¬x=y:=fun h=>e h.symm
  simp only[e,decide_false,Bool.not_false,Bool.and_true,mem_cons,e2,false_or];split
  ·simp only[length_cons];omega
  exact ih
theorem RG.done {r:Run}(h:RG r) {i:Nat}{t:Task}(ht:r.tasks[i]? = some t) (h3:t.state=3):RG (fW r i)/\∀(j:Nat) (u:Task),(fW r i).tasks[j]? = some u->(u.state=3->¬j=i/\r.tasks[j]? = some u)/\(∀v,r.tasks[j]? = some v->v.state=2->u.state=2):=by
 have hm:=mem_of_getElem? ht;have hl:=h.1.live hm h3;obtain⟨hi,hti⟩:=gsi_.1 ht;have htk:=h.1.task i hi hi;rw[hti]at htk;have hneed0:=(htk.2.2.2.2.2.2.2 (.inl h3)).1;have hB:=behind_nodup h.1.plan (i:Int);have hB0:∀b∈aO r.plan (i:Int),0<=b:=fun b hb=>(aI0 r.plan _ b hb).1
 rw[vF ht];have hget:∀j:Nat,(bF r i t)[j]? = ((r.tasks.set i ⟨4,t.need,t.try_,0⟩)[j]?).map fun u=>if (j:Int)∈aO r.plan (i:Int) then gX u else u:=fun j=>bF6 hB hB0 j
 have hni:eM r (i:Int)=false:=by
  rw[wO (by simpa using hi)];simp only[Int.toNat_natCast,hti,h3];decide
 have hnone:∀x∈aJ r.plan (i:Int),eM r x=true:=by
  intro x hx;cases hd:eM r x with
  | true=>rfl
  | false=>
   have:0<cO r (i:Int):=by
    unfold cO eY;have:=length_pos_of_mem (mem_filter.2 ⟨hx,by rw[hd];rfl⟩:x∈(aJ r.plan (i:Int)).filter fun b=> !eM r b);omega
   omega
 have hii:¬(i:Int)∈aO r.plan (i:Int):=by
  intro hc;have:=hnone _ ((oU h.1.plan).1 hc);rw[hni]at this;cases this
 have hgi:(bF r i t)[i]? = some ⟨4,t.need,t.try_,0⟩:=by
  rw[hget,getElem?_set,if_pos rfl,if_pos hi];simp[hii]
 have hgj:∀j:Nat,¬j=i->(bF r i t)[j]? = (r.tasks[j]?).map fun u=>if (j:Int)∈aO r.plan (i:Int) then gX u else u:=fun j hj=>by
  rw[hget,getElem?_set,if_neg (fun e=>hj e.symm)]
 have hbeh:∀(j:Nat) (v:Task),r.tasks[j]? = some v->(j:Int)∈aO r.plan (i:Int)->v.state=1/\0<v.need:=by
  intro j v hv hj;obtain⟨hjl,hjv⟩:=gsi_.1 hv;have hk:=h.1.task j hjl hjl;rw[hjv]at hk;have hpos:0<cO r (j:Int):=by
   unfold cO eY;have:=length_pos_of_mem (mem_filter.2 ⟨(oU h.1.plan).1 hj,by rw[hni];rfl⟩:(i:Int)∈(aJ r.plan (j:Int)).filter fun b=> !eM r b);omega
  obtain⟨⟨k1,k1'⟩,k2,k3,k4,k5,k6,k7,k8⟩:=hk;have n6:=wX hl.2.2 v (mem_of_getElem? hv);have:¬v.state=2:=fun e=>by have:=(k7 e).1;omega
  have:¬v.state=3:=fun e=>by have:=(k8 (.inl e)).1;omega
  have:¬v.state=4:=fun e=>by have:=(k8 (.inr (.inl e))).1;omega
  have:¬v.state=5:=fun e=>by have:=(k8 (.inr (.inr e))).1;omega
  exact⟨by omega,by omega⟩
 have hst4:∀(j:Nat) (v:Task),¬j=i->r.tasks[j]? = some v->∀u,(bF r i t)[j]? = some u->(u.state=4↔v.state=4):=by
  intro j v hj hv u hu;rw[hgj j hj,hv]at hu;simp only[Option.map_some,Option.some.injEq]at hu;subst hu;split
  ·next hb=>
   have:=(hbeh j v hv hb).1;unfold gX;simp only;split<;>omega
  exact Iff.rfl
 have hdone:∀x:Int,0<=x->eM (sH r i t) x=(eM r x || decide (x=(i:Int))):=by
  intro x hx;unfold eM;show (match (bF r i t)[x.toNat]? with | some t=>decide (t.state=4) | none=>false)=_;by_cases e:x=(i:Int)
  ·subst e;rw[Int.toNat_natCast,hgi];simp
  have e2:¬x.toNat=i:=by omega
  rw[decide_eq_false e,Bool.or_false];cases hv:r.tasks[x.toNat]? with
  | none=>rw[hgj _ e2,hv];rfl
  | some v=>
   have hu:∃u,(bF r i t)[x.toNat]? = some u:=by rw[hgj _ e2,hv];exact⟨_,rfl⟩
   obtain⟨u,hu⟩:=hu;rw[hu];simp only;exact decide_eq_decide.2 (hst4 _ v e2 hv u hu)
 have hnd:∀j:Nat,cO r (j:Int)=cO (sH r i t) (j:Int)+if (j:Int)∈aO r.plan (i:Int) then 1 else 0:=by
  intro j;unfold cO eY;have:=filter_less (p:=fun b=> !eM r b) (q:=fun b=> !eM (sH r i t) b) (x:=(i:Int)) (before_nodup h.1.plan (j:Int)) (fun y hy=>by
   rw[hdone y (aI3 r.plan _ y hy).1,Bool.not_or]) (by rw[hni];rfl)
  show _=(((aJ r.plan (j:Int)).filter fun b=> !eM (sH r i t) b).length:Int)+_;rw[this];by_cases e:(i:Int)∈aJ r.plan (j:Int)
  ·rw[if_pos e,if_pos ((oU h.1.plan).2 e)];omega
  rw[if_neg e,if_neg (fun hc=>e ((oU h.1.plan).1 hc))];omega
 have hlen:(bF r i t).length=r.tasks.length:=oN r i t;have hmost:1<=r.plan.most:=by have:=(gV h.1.plan).1;unfold aN at this;omega
 refine⟨⟨⟨h.1.id,h.1.plan,by show ((bF r i t).length:Int)=_;rw[hlen];exact h.1.len,fun k hk hk'=>?_,?_,?_⟩,fun u hu hu1=>?_⟩,fun j u hu=>⟨fun hu3=>?_,fun v hv hv2=>?_⟩⟩
 ·have hk2:k<r.tasks.length:=by rw[<- hlen];exact hk
  have hkk:=h.1.task k hk2 hk2;have hn:=hnd k;show dR _ _ ((bF r i t)[k]'hk');have he:(bF r i t)[k]? = some ((bF r i t)[k]'hk'):=getElem?_eq_getElem hk';revert he;generalize (bF r i t)[k]'hk'=u;intro he;by_cases e:k=i
  ·subst e;rw[hgi]at he;cases he;rw[if_neg hii]at hn;obtain⟨t1,t2,t3,t4,t5,t6,t7,t8⟩:=htk;refine⟨⟨by show (1:Int)<=4;omega,by show (4:Int)<=6;omega⟩,by show t.need=_;omega,t3,fun e=>absurd (show (4:Int)=3 from e) aA,fun _=>rfl,fun e=>absurd (show (4:Int)=1 from e) aA,fun e=>absurd (show (4:Int)=2 from e) aA,fun _=>⟨by omega,(t8 (.inl h3)).2⟩⟩
  rw[hgj k e,getElem?_eq_getElem hk2]at he;simp only[Option.map_some,Option.some.injEq]at he;subst he;by_cases hb:(k:Int)∈aO r.plan (i:Int)
  ·rw[if_pos hb]at hn ⊢;obtain⟨s1,s2⟩:=hbeh k _ (getElem?_eq_getElem hk2) hb;have h0:=h.2 _ (getElem_mem hk2) s1;obtain⟨t1,t2,t3,t4,t5,t6,t7,t8⟩:=hkk;have t5':=t5 aA;unfold gX;by_cases hz:r.tasks[k].need-1=0
   ·rw[if_pos hz];refine⟨⟨by show (1:Int)<=2;omega,by show (2:Int)<=6;omega⟩,by show r.tasks[k].need-1=_;omega,t3,fun e=>absurd (show (2:Int)=3 from e) aA,fun _=>t5',fun e=>absurd (show (2:Int)=1 from e) aA,fun _=>⟨by omega,by show r.tasks[k].try_<r.plan.most;omega⟩,?_⟩;rintro(e | e | e)
    ·exact absurd (show (2:Int)=3 from e) aA
    ·exact absurd (show (2:Int)=4 from e) aA
    exact absurd (show (2:Int)=5 from e) aA
   rw[if_neg hz,s1];refine⟨⟨by show (1:Int)<=1;omega,by show (1:Int)<=6;omega⟩,by show r.tasks[k].need-1=_;omega,t3,fun e=>absurd (show (1:Int)=3 from e) aA,fun _=>t5',fun _=>by omega,fun e=>absurd (show (1:Int)=2 from e) aA,?_⟩;rintro(e | e | e)
   ·exact absurd (show (1:Int)=3 from e) aA
   ·exact absurd (show (1:Int)=4 from e) aA
   exact absurd (show (1:Int)=5 from e) aA
  rw[if_neg hb]at hn ⊢;rw[show cO (sH r i t) (k:Int)=cO r (k:Int) by omega];exact iY rfl hkk
 ·exact(yK h.1 ht h3).symm
 ·show ¬(if aL (bF r i t) 4=((bF r i t).length:Int) then 2 else r.state)=0;split
  ·omega
  omega
 ·obtain⟨j,hj⟩:=mem_iff_getElem?.1 hu;have hj:(bF r i t)[j]? = some u:=hj;by_cases e:j=i
  ·subst e;rw[hgi]at hj;cases hj;exact absurd (show (4:Int)=1 from hu1) aA
  rw[hgj j e]at hj;cases hv:r.tasks[j]? with
  | none=>rw[hv]at hj;cases hj
  | some v=>
   rw[hv]at hj;simp only[Option.map_some,Option.some.injEq]at hj;split at hj
   ·next hb=>
    subst hj;exact h.2 v (mem_of_getElem? hv) (hbeh j v hv hb).1
   subst hj;exact h.2 v (mem_of_getElem? hv) hu1
 ·have hu:(bF r i t)[j]? = some u:=hu;by_cases e:j=i
  ·subst e;rw[hgi]at hu;cases hu;exact absurd (show (4:Int)=3 from hu3) aA
  refine⟨e,?_⟩;rw[hgj j e]at hu;cases hv:r.tasks[j]? with
  | none=>rw[hv]at hu;cases hu
  | some v=>
   rw[hv]at hu;simp only[Option.map_some,Option.some.injEq]at hu;split at hu
   ·next hb=>
    subst hu;have:=(hbeh j v hv hb).1;unfold gX at hu3;simp only at hu3;split at hu3<;>omega
   subst hu;rfl
 have hu:(bF r i t)[j]? = some u:=hu;have e:¬j=i:=by
  intro e;subst e;rw[ht]at hv;cases hv;omega
 rw[hgj j e,hv]at hu;simp only[Option.map_some,Option.some.injEq]at hu;split at hu
 ·next hb=>
  have:=(hbeh j v hv hb).1;omega
 subst hu;exact hv2
theorem RG.new {id:Int}{p:Plan}(hid:1<=id/\id<=9999) (hp:aC p=0):RG (aX id p):=by
 have hpl:=(gV hp).1;have ht:1<=p.tasks/\p.tasks<=12:=by unfold aN at hpl;omega
 have hmost:1<=p.most:=by unfold aN at hpl;omega
 have hlen:(aX id p).tasks.length=p.tasks.toNat:=fJ p _;have hget:∀(k:Nat) (h:k<(aX id p).tasks.length),(aX id p).tasks[k]=kE p k:=by
  intro k h;have h3:k<((List.range p.tasks.toNat).map (kE p)).length:=h;show ((List.range p.tasks.toNat).map (kE p))[k]'h3=_;rw[getElem_map,getElem_range]
 have hmem:∀t∈(aX id p).tasks,(t.state=1∨t.state=2)/\t.try_=0:=by
  intro t hm;obtain⟨k,hk,rfl⟩:=getElem_of_mem hm;rw[hget k hk];unfold kE;refine⟨?_,rfl⟩;simp only;split
  ·exact .inr rfl
  exact .inl rfl
 have hnd:∀x,eM (aX id p) x=false:=by
  intro x;unfold eM;split
  ·next t hx=>
   have:=(hmem t (mem_of_getElem? hx)).1;rw[decide_eq_false];omega
  rfl
 have hz:∀s:Int,¬s=1->¬s=2->aL (aX id p).tasks s=0:=fun s h1 h2=>nS fun t hm hs=>by
  have:=(hmem t hm).1;omega
 refine⟨⟨hid,hp,by show ((aX id p).tasks.length:Int)=p.tasks;omega,fun k hk hk'=>?_,?_,by show ¬(1:Int)=0;omega⟩,fun t hm _=>(hmem t hm).2⟩
 ·rw[hget k hk'];have hneed:cO (aX id p) (k:Int)=((aJ p (k:Int)).length:Int):=by
   unfold cO eY;show (((aJ p (k:Int)).filter _).length:Int)=_;rw[filter_eq_self.2 fun x _=>by rw[hnd];rfl]
  rw[hneed];unfold kE;by_cases e:(aJ p (k:Int)).length=0
  ·rw[if_pos e];refine⟨⟨by show (1:Int)<=2;omega,by show (2:Int)<=6;omega⟩,rfl,⟨Int.le_refl _,by show 0<=p.most;omega⟩,fun e=>absurd (show (2:Int)=3 from e) aA,fun _=>rfl,fun e=>absurd (show (2:Int)=1 from e) aA,fun _=>⟨by omega,by show 0<p.most;omega⟩,?_⟩;rintro(e | e | e)
   ·exact absurd (show (2:Int)=3 from e) aA
   ·exact absurd (show (2:Int)=4 from e) aA
   exact absurd (show (2:Int)=5 from e) aA
  rw[if_neg e];refine⟨⟨by show (1:Int)<=1;omega,by show (1:Int)<=6;omega⟩,rfl,⟨Int.le_refl _,by show 0<=p.most;omega⟩,fun e=>absurd (show (1:Int)=3 from e) aA,fun _=>rfl,fun _=>by omega,fun e=>absurd (show (1:Int)=2 from e) aA,?_⟩;rintro(e | e | e)
  ·exact absurd (show (1:Int)=3 from e) aA
  ·exact absurd (show (1:Int)=4 from e) aA
  exact absurd (show (1:Int)=5 from e) aA
 show 1=bG (aX id p).tasks;rw[is_1 _ (hz 5 aA aA) (hz 6 aA aA)];rw[hz 4 aA aA];omega
theorem aG7 {r:Run}(h:RG r) {i:Nat}{t:Task}(ht:r.tasks[i]? = some t) (h3:t.state=3):(∀(j:Nat) (u:Task),(bJ r i).tasks[j]? = some u->u.state=3->¬j=i/\r.tasks[j]? = some u)/\((bJ r i).state=1->∀(j:Nat) (v:Task),r.tasks[j]? = some v->v.state=2->∃u,(bJ r i).tasks[j]? = some u/\u.state=2)/\∀(j:Nat) (u:Task),(bJ r i).tasks[j]? = some u->u.state=2->j=i∨r.tasks[j]? = some u:=by
 obtain⟨hi,hti⟩:=gsi_.1 ht;rw[nO ht];unfold mB;split
 ·have hg:∀j:Nat,(r.tasks.set i ⟨2,t.need,t.try_,0⟩)[j]? = if i=j then some ⟨2,t.need,t.try_,0⟩ else r.tasks[j]? := fun j=>by
   rw[getElem?_set];by_cases e:i=j
   ·rw[if_pos e,if_pos e,if_pos hi]
   rw[if_neg e,if_neg e]
  refine⟨fun j u hu hu3=>?_,fun _ j v hv hv2=>?_,fun j u hu hu2=>?_⟩
  ·have hu:(r.tasks.set i ⟨2,t.need,t.try_,0⟩)[j]? = some u:=hu;rw[hg]at hu;split at hu
   ·cases hu;exact absurd (show (2:Int)=3 from hu3) aA
   next e=>exact⟨fun e2=>e e2.symm,hu⟩
  ·show ∃u,(r.tasks.set i ⟨2,t.need,t.try_,0⟩)[j]? = some u/\_;rw[hg];split
   ·exact⟨_,rfl,rfl⟩
   exact⟨v,hv,hv2⟩
  have hu:(r.tasks.set i ⟨2,t.need,t.try_,0⟩)[j]? = some u:=hu;rw[hg]at hu;split at hu
  ·next e=>exact .inl e.symm
  exact .inr hu
 have hg:∀(j:Nat) (u:Task),(dQ (r.tasks.set i ⟨5,t.need,t.try_,0⟩) (i:Int))[j]? = some u->u.state=4∨u.state=5∨u.state=6:=by
  intro j u hu;unfold dQ at hu;rw[getElem?_mapIdx]at hu;cases hv:(r.tasks.set i ⟨5,t.need,t.try_,0⟩)[j]? with
  | none=>rw[hv]at hu;cases hu
  | some v=>
   rw[hv]at hu;simp only[Option.map_some,Option.some.injEq]at hu;subst hu;unfold eK;split
   ·next hc=>
    by_cases e:i=j
    ·subst e;rw[getElem?_set_self hi]at hv;cases hv;exact .inr (.inl rfl)
    rcases hc with hc | hc
    ·omega
    exact .inl hc
   exact .inr (.inr rfl)
 refine⟨fun j u hu hu3=>?_,fun h1=>absurd (show (3:Int)=1 from h1) aA,fun j u hu hu2=>?_⟩
 ·have:=hg j u hu;omega
 have:=hg j u hu;omega
theorem fresh_fails {r:Run}(h:RG r) {i:Nat}{t:Task}(ht:r.tasks[i]? = some t) (h3:t.state=3):(cQ r (bJ r i)).length<=1:=by
 have hn:(cQ r (bJ r i)).Nodup:=(mW _ _).sublist filter_sublist;have hs:cQ r (bJ r i) ⊆ [(i:Int)]:=by
  intro x hx;obtain⟨⟨h0,u,hu,hu2⟩,hno⟩:=freshOf_iff.1 hx;rcases(aG7 h ht h3).2.2 _ u hu hu2 with e | e
  ·rw[mem_singleton];omega
  exact absurd ⟨u,e,hu2⟩ hno
 exact hn.length_le_of_subset hs
structure TR (y out:Yard) (l:List (Nat×Nat)):Prop where
 good:YG out
 now:out.now=y.now
 seq:y.seq<=out.seq/\out.seq<=y.seq+(l.length:Int)
 len:out.runs.length=y.runs.length
 sub:∀(j m:Nat) (r2:Run) (u:Task),out.runs[j]? = some r2->r2.tasks[m]? = some u->u.state=3->¬(j,m)∈l/\∃r,y.runs[j]? = some r/\r.tasks[m]? = some u
theorem TR.start {y:Yard}(h:YG y):TR y y []:=⟨h,rfl,by simp,rfl,fun j m r2 u hr hu h3=>⟨by simp,r2,hr,hu⟩⟩
theorem TR.turn {y out:Yard}{l:List (Nat×Nat)}(h:TR y out l) (k i:Nat):TR y (iG out k i) ((k,i)::l):=by
 have hkeep:(∀r t,out.runs[k]? = some r->r.tasks[i]? = some t->¬t.state=3)->TR y out ((k,i)::l):=fun hno=>⟨h.good,h.now,by have:=h.seq;simp only[length_cons];omega,h.len,fun j m r2 u hr hu h3=>⟨fun hm=>by
  rcases mem_cons.1 hm with e | hm
  ·simp only[Prod.mk.injEq]at e;obtain⟨rfl,rfl⟩:=e;exact hno r2 u hr hu h3
  exact(h.sub j m r2 u hr hu h3).1 hm,(h.sub j m r2 u hr hu h3).2⟩⟩
 unfold iG;split
 ·next hr=>exact hkeep fun r t h1=>by rw[hr]at h1;cases h1
 next r hr=>
 split
 ·next ht=>exact hkeep fun r2 t h1 h2=>by rw[hr]at h1;cases h1;rw[ht]at h2;cases h2
 next t ht=>
 split
 ·next h3=>
  have hm:=mem_of_getElem? hr;have hR:=h.good.core.runs r hm;obtain⟨f1,f2,f3⟩:=aG7 hR ht h3;obtain⟨k1,k2,k3,_⟩:=jL r i;have hl:=(hR.1.live (mem_of_getElem? ht) h3).1;have hf:=fresh_fails hR ht h3;refine⟨h.good.change hr hl (hR.fails ht h3) k1 k2 k3 f2 (fun u hu hu3=>?_),h.now,?_,?_,fun j m r2 u hr2 hu hu3=>?_⟩
  ·obtain⟨j,hj⟩:=mem_iff_getElem?.1 hu;rw[k2];exact h.good.core.til r hm u (mem_of_getElem? (f1 j u hj hu3).2) hu3
  ·show y.seq<=out.seq+_/\out.seq+_<=_;have:=h.seq;simp only[length_cons];omega
  ·show (out.runs.set k _).length=_;rw[length_set];exact h.len
  have hr2:(out.runs.set k (bJ r i))[j]? = some r2:=hr2;rw[getElem?_set]at hr2;by_cases e:k=j
  ·subst e;rw[if_pos rfl,if_pos (gsi_.1 hr).1]at hr2;cases hr2;obtain⟨g1,g2⟩:=f1 m u hu hu3;obtain⟨g3,g4⟩:=h.sub k m r u hr g2 hu3;exact⟨fun hc=>by
    rcases mem_cons.1 hc with e | hc
    ·simp only[Prod.mk.injEq]at e;exact g1 e.2
    exact g3 hc,g4⟩
  rw[if_neg e]at hr2;obtain⟨g3,g4⟩:=h.sub j m r2 u hr2 hu hu3;exact⟨fun hc=>by
   rcases mem_cons.1 hc with e2 | hc
   ·simp only[Prod.mk.injEq]at e2;exact e e2.1.symm
   exact g3 hc,g4⟩
 next h3=>exact hkeep fun r2 t2 h1 h2=>by rw[hr]at h1;cases h1;rw[ht]at h2;cases h2;exact h3
theorem TR.list {y:Yard}:∀(l:List (Nat×Nat)) {out:Yard}{q:List (Nat×Nat)},TR y out q->TR y (jR out l) (l.reverse++q)
 | [],out,q,h=>h
 | p::l,out,q,h=>by
  have:=TR.list l (h.turn p.1 p.2);rw[reverse_cons,append_assoc];exact this
theorem TR.time {y out:Yard}{l:List (Nat×Nat)}(h:TR y out l) (ht:InTime y):InTime out:=by
 intro r2 hr2 u hu h3;obtain⟨j,hj⟩:=mem_iff_getElem?.1 hr2;obtain⟨m,hm⟩:=mem_iff_getElem?.1 hu;obtain⟨_,r,hr,hu2⟩:=h.sub j m r2 u hj hm h3;rw[h.now];exact ht r (mem_of_getElem? hr) u (mem_of_getElem? hu2) h3
structure DG (y out:Yard):Prop where
 good:YG out
 time:InTime out
 seq:y.seq<=out.seq/\out.seq<=y.seq+100
theorem DG.same {y:Yard}(h:YG y) (ht:InTime y):DG y y:=⟨h,ht,by omega⟩
theorem aA6 {y:Yard}(h:YG y) {r:Run}(hr:r∈y.runs):r.tasks.length<=12:=(h.core.runs r hr).1.small.2.1
theorem restart_good {y:Yard}(h:YG y) (ht:InTime y):DG y (cM y):=by
 have hin:∀{out:Yard}{q:List (Nat×Nat)}(k n:Nat),TR y out q->∃q2,q2.length<=q.length+n/\TR y (nH out k n) q2:=by
  intro out q k n hT
  induction n with
  | zero=>exact⟨q,by omega,hT⟩
  | succ n ih=>
   obtain⟨q2,hl,hT2⟩:=ih;exact⟨(k,n)::q2,by simp only[length_cons];omega,hT2.turn k n⟩
 have hk:∀k,∃q,q.length<=12*k/\TR y (kO y k) q:=by
  intro k
  induction k with
  | zero=>exact⟨[],Nat.zero_le _,TR.start h⟩
  | succ k ih=>
   obtain⟨q,hl,hT⟩:=ih;obtain⟨q2,hl2,hT2⟩:=hin k (nW y k) hT;refine⟨q2,?_,hT2⟩;have:nW y k<=12:=by
    unfold nW;split
    ·next r hr=>exact aA6 h (mem_of_getElem? hr)
    omega
   omega
 unfold cM;split
 ·obtain⟨q,hl,hT⟩:=hk y.runs.length;have:=h.core.eight;exact⟨hT.good,hT.time ht,by have:=hT.seq;omega⟩
 exact DG.same h ht
theorem bC4 {y:Yard}{j m:Nat}{r:Run}{u:Task}(hr:y.runs[j]? = some r) (hu:r.tasks[m]? = some u) (hl:nJ y.now u=true):∀k,j<k->(j,m)∈gN y k
 | 0,h=>by omega
 | k+1,h=>by
  unfold gN;rw[mem_append];by_cases e:j=k
  ·subst e;right;rw[hr];simp only[mem_map];refine⟨m,?_,rfl⟩;unfold uS;rw[mem_filter,mem_range];exact⟨(gsi_.1 hu).1,by rw[hu];exact hl⟩
  ·exact .inl (bC4 hr hu hl k aA)
theorem aN3 {y:Yard}(h:YG y):∀k,(gN y k).length<=12*k
 | 0=>Nat.le_refl _
 | k+1=>by
  have ih:=aN3 h k;unfold gN;rw[length_append];split
  ·next r hr=>
   have h1:=wM y.now r r.tasks.length;have h2:=aA6 h (mem_of_getElem? hr);rw[length_map];omega
  ·simp;omega
theorem YG.at {y:Yard}(h:YG y) {n:Int}(hn:y.now<=n/\n<=999999980):YG (lE n y):=⟨⟨by have:=h.now;show 0<=n;omega,hn.2⟩,h.four,h.srt,h.core.later hn.1⟩
theorem tick_good {y:Yard}(h:YG y) (ht:InTime y):DG y (dA y).1:=by
 unfold dA;split
 ·exact DG.same h ht
 split
 ·exact DG.same h ht
 next hn=>
 have hT:=TR.list (bX y) (TR.start (h.at (n:=y.now+1) aA));rw[append_nil]at hT;have hl:(bX y).reverse.length<=96:=by
  have:=aN3 h y.runs.length;have:=h.core.eight;rw[length_reverse];unfold bX;omega
 refine⟨hT.good,fun r2 hr2 u hu h3=>?_,by
  have h1:=hT.seq;have h2:(lE (y.now+1) y).seq=y.seq:=rfl;rw[h2]at h1;show y.seq<=(jR _ _).seq/\(jR _ _).seq<=_;omega⟩
 obtain⟨j,hj⟩:=mem_iff_getElem?.1 hr2;obtain⟨m,hm⟩:=mem_iff_getElem?.1 hu;obtain⟨g1,r,hr,hu2⟩:=hT.sub j m r2 u hj hm h3;have hr:y.runs[j]? = some r:=hr;have hnow:(aX6 y).now=y.now+1:=hT.now;show (aX6 y).now+1<=_;rw[hnow];refine Classical.byContradiction fun hc=>g1 ?_
 rw[mem_reverse];exact bC4 hr hu2 (by unfold nJ;rw[decide_eq_true h3,decide_eq_true aA];rfl) _ (gsi_.1 hr).1
theorem aK8 {g:Run->Nat->Run}{y:Yard}{id task tr:Int}(h:YG y) (ht:InTime y) (hg:∀(r:Run) (i:Nat) (t:Task),RG r->r.tasks[i]? = some t->t.state=3->RG (g r i)/\(g r i).id=r.id/\(g r i).plan=r.plan/\(g r i).tasks.length=r.tasks.length /\
  (∀(j:Nat) (u:Task),(g r i).tasks[j]? = some u->u.state=3->r.tasks[j]? = some u)/\((g r i).state=1->∀(j:Nat) (v:Task),r.tasks[j]? = some v->v.state=2->∃u,(g r i).tasks[j]? = some u/\u.state=2)):DG y (rU g y id task tr):=by
 unfold rU;split
 ·next h0=>
  obtain⟨_,k,r,t,h1,h2,_,h4,h5,h6⟩:=xC h0;rw[h1];simp only[h2];have hm:=mem_of_getElem? h2;have hR:=h.core.runs r hm;obtain⟨g1,g2,g3,g4,g5,g6⟩:=hg r task.toNat t hR h5 h6;have hl:=(hR.1.live (mem_of_getElem? h5) h6).1;have hf:=kS r (g r task.toNat);have h12:=aA6 h hm;refine⟨h.change h2 hl g1 g2 g3 g4 g6 fun u hu hu3=>?_,fun r2 hr2 u hu hu3=>?_,?_⟩
  ·obtain⟨j,hj⟩:=mem_iff_getElem?.1 hu;rw[g3];exact h.core.til r hm u (mem_of_getElem? (g5 j u hj hu3)) hu3
  ·have hr2:r2∈y.runs.set k (g r task.toNat):=hr2;show y.now+1<=_;rcases mem_or_eq_of_mem_set hr2 with h7 | rfl
   ·exact ht r2 h7 u hu hu3
   obtain⟨j,hj⟩:=mem_iff_getElem?.1 hu;exact ht r hm u (mem_of_getElem? (g5 j u hj hu3)) hu3
  show y.seq<=y.seq+_/\y.seq+_<=_;omega
 exact DG.same h ht
theorem done_good {y:Yard}{id task tr:Int}(h:YG y) (ht:InTime y):DG y (dV y id task tr):=aK8 h ht fun r i t hR hi h3=>by
 obtain⟨d1,d2⟩:=hR.done hi h3;obtain⟨k1,k2,k3,_⟩:=kT r i;refine⟨d1,k1,k2,k3,fun j u hu hu3=>((d2 j u hu).1 hu3).2,fun _ j v hv hv2=>?_⟩;have hlt:j<(fW r i).tasks.length:=by rw[k3];exact(gsi_.1 hv).1
 exact⟨_,getElem?_eq_getElem hlt,(d2 j _ (getElem?_eq_getElem hlt)).2 v hv hv2⟩
theorem fail_good {y:Yard}{id task tr:Int}(h:YG y) (ht:InTime y):DG y (mC y id task tr):=aK8 h ht fun r i t hR hi h3=>by
 obtain⟨f1,f2,f3⟩:=aG7 hR hi h3;obtain⟨k1,k2,k3,_⟩:=jL r i;exact⟨hR.fails hi h3,k1,k2,k3,fun j u hu hu3=>(f1 j u hu hu3).2,f2⟩
theorem gone_keeps {r:Run}(h1:pV r=true):(fQ r).id=r.id/\(fQ r).plan=r.plan/\(fQ r).tasks.length=r.tasks.length/\(fQ r).state=4/\∀u∈(fQ r).tasks,u.state=4∨u.state=6:=by
 rw[zN h1];refine⟨rfl,rfl,sY _ _,rfl,fun u hu=>?_⟩;have hu:u∈dQ r.tasks (-1):=hu;rw[aF2]at hu;obtain⟨t,_,rfl⟩:=mem_map.1 hu;split
 ·next h=>exact .inl h
 exact .inr rfl
theorem cancel_good {y:Yard}{id:Int}(h:YG y) (ht:InTime y):DG y (bK y id).1:=by
 unfold bK;split
 ·exact DG.same h ht
 split
 ·next r hr=>
  split
  ·exact DG.same h ht
  split
  ·exact DG.same h ht
  next h1=>
  have h1:r.state=1:=by simpa using h1
  have hm:=mem_of_getElem? hr;have hR:=h.core.runs r hm;have hg:pV r=true:=by unfold pV;rw[runIs.2 hR.1,decide_eq_true h1];rfl
  obtain⟨k1,k2,k3,k4,k5⟩:=gone_keeps hg;have hc:=h.core.upd (X:=[]) (O:=y.shelf.flatten) (ts:=[]) hr h1 (hR.gone h1) k1 k2 k3 nodup_nil (fun i hi=>by cases hi) (fun e=>by omega) (fun j t hj h2=>by have:=k5 t (mem_of_getElem? hj);omega) (fun e he=>by cases he) (fun t htm h3=>by have:=k5 t htm;omega);refine⟨⟨h.now,h.four,h.srt,?_⟩,fun r2 hr2 u hu hu3=>?_,by show y.seq<=y.seq/\y.seq<=_;omega⟩
  ·have e:y.seq+(([]:List Int).length:Int)=y.seq:=by simp
   rw[e]at hc;exact hc
  have hr2:r2∈y.runs.set (aF y id).toNat (fQ r):=hr2;rcases mem_or_eq_of_mem_set hr2 with h7 | rfl
  ·exact ht r2 h7 u hu hu3
  have:=k5 u hu;omega
 exact DG.same h ht
theorem CG.add {now seq:Int}{es:List Entry}{rs:List Run}{r:Run}(h:CG now seq es rs) (h8:rs.length<8) (hR:RG r) (h1:r.state=1) (hid:∀q∈rs,¬q.id=r.id) (h3:∀t∈r.tasks,¬t.state=3) (hs:mJ es rs+r.tasks.length<=40) :
  CG now (seq+(aH r.tasks 2).length) (yT r.plan.prio r.id (aH r.tasks 2) seq++es) (rs++[r]):=by
 have hno:∀e∈es,¬e.run=r.id:=fun e he hc=>by
  obtain⟨q,hq⟩:=h.ent e he;exact hid q hq.mem (by rw[hq.id,hc])
 refine⟨by have:=h.seq1;omega,?_,?_,by simp only[length_append,length_singleton];omega,?_,?_,?_,?_,?_,?_,?_⟩
 ·intro e he;rcases mem_append.1 he with he | he
  ·have:=fG he;have:=h.seq1;omega
  have:=h.seqs e he;omega
 ·rw[map_append,nodup_append];refine⟨wJ _ _,h.nodup,?_⟩;intro a ha b hb;obtain⟨e,he,rfl⟩:=mem_map.1 ha;obtain⟨g,hg,rfl⟩:=mem_map.1 hb;have:=(fG he).2.2.2.1;have:=(h.seqs g hg).2;omega
 ·intro q hq;rcases mem_append.1 hq with hq | hq
  ·exact h.runs q hq
  rw[mem_singleton]at hq;subst hq;exact hR
 ·rw[map_append,nodup_append];refine⟨h.ids,by simp,?_⟩;intro a ha b hb;obtain⟨q,hq,rfl⟩:=mem_map.1 ha;simp only[map_cons,map_nil,mem_singleton]at hb;subst hb;exact hid q hq
 ·intro e he;rcases mem_append.1 he with he | he
  ·obtain⟨e1,e2,e3,_⟩:=fG he;obtain⟨e4,t,ht,h2⟩:=tasksIn_iff.1 e3;exact⟨r,by simp,e2.symm,e4,⟨t,ht,fun _=>h2⟩,e1⟩
  obtain⟨q,hq⟩:=h.ent e he;exact⟨q,mem_append_left _ hq.mem,hq.id,hq.lo,hq.task,hq.prio⟩
 ·rw[map_append,nodup_append];refine⟨wK _ (mW _ _),h.keys,?_⟩;intro a ha b hb;obtain⟨e,he,rfl⟩:=mem_map.1 ha;obtain⟨g,hg,rfl⟩:=mem_map.1 hb;intro e2;simp only[Prod.mk.injEq]at e2;exact hno g hg (by rw[<- e2.1,(fG he).2.1])
 ·intro q hq k t ht h2;rcases mem_append.1 hq with hq | hq
  ·obtain⟨e,he,h4⟩:=h.has q hq k t ht h2;exact⟨e,mem_append_right _ he,h4⟩
  rw[mem_singleton]at hq;subst hq;obtain⟨e,he,h4⟩:=aT7 (p:=q.plan.prio) (id:=q.id) (q:=seq) (tasksIn_iff.2 ⟨by omega,t,by rw[Int.toNat_natCast];exact ht,h2⟩:(k:Int)∈aH q.tasks 2);exact⟨e,mem_append_left _ he,h4⟩
 ·intro q hq t ht h4;rcases mem_append.1 hq with hq | hq
  ·exact h.til q hq t ht h4
  rw[mem_singleton]at hq;subst hq;exact absurd h4 (h3 t ht)
 have e1:mJ (yT r.plan.prio r.id (aH r.tasks 2) seq++es) (rs++[r])=mJ es rs+r.tasks.length:=by
  unfold mJ;rw[map_append,sum_append];congr 1
  ·refine aB1 fun q hq=>?_
   unfold wR;rw[qC,aP4 (fun e he=>by rw[(fG he).2.1];exact fun hc=>hid q hq hc.symm),Nat.zero_add]
  simp[wR,h1]
 omega
theorem runAt_no {y:Yard}{id:Int}(h8:y.runs.length<=8) (h:¬0<=aF y id):∀q∈y.runs,¬q.id=id:=by
 intro q hq e;unfold aF bS at h;rw[if_pos h8]at h;cases hx:iR (fun r=>decide (r.id=id)) y.runs with
 | none=>
  have:=aF6 hx q hq;simp[e]at this
 | some k=>rw[hx]at h;exact h (by show (0:Int)<=(k:Int);omega)
theorem submit_good {y:Yard}{id:Int}{p:Plan}(h:YG y) (ht:InTime y):DG y (aV y id p).1:=by
 unfold aV
 repeat' split
 all_goals first | exact DG.same h ht | skip
 next h1 h2 h3 h4 h5=>
  have hroom:gE y p=true:=by simpa using h5
  unfold gE at hroom;simp only[Bool.and_eq_true,decide_eq_true_eq]at hroom;obtain⟨⟨⟨r1,r2⟩,r3⟩,r4⟩:=hroom;have hidr:=inB_iff.1 (show inB id 1 9999=true by simpa using h2);have hpf:aC p=0:=by simpa using h4
  have hpl:=(gV hpf).1;have htk:1<=p.tasks/\p.tasks<=12:=by unfold aN at hpl;omega
  have hlen:(aX id p).tasks.length=p.tasks.toNat:=fJ p _;have hst:∀t∈(aX id p).tasks,¬t.state=3:=by
   intro t hm;have hm:t∈(List.range p.tasks.toNat).map (kE p):=hm;obtain⟨k,_,rfl⟩:=mem_map.1 hm;unfold kE;simp only;split<;>omega
  have hc:=h.core.add aA (RG.new hidr hpf) rfl (runAt_no h.core.eight h3) hst (by have:=aY4 h.core;omega);have hsr:=eQ id;have hl:=iH (aX id p).tasks 2;have hl2:=rF (aX id p).tasks 2;refine⟨⟨h.now,?_,?_,?_⟩,fun r2 hr2 u hu hu3=>?_,?_⟩
  ·show (dZ _ _ _ _ _ _).length=4;rw[iB];exact h.four
  ·exact wB _ _ _ h.srt fun e he=>(h.core.seqs e he).2
  ·exact hc.perm (sQ _ _ _ (by rw[h.four];omega)).symm
  ·have hr2:r2∈y.runs++[aX id p]:=hr2;rcases mem_append.1 hr2 with h7 | h7
   ·exact ht r2 h7 u hu hu3
   rw[mem_singleton]at h7;subst h7;exact absurd hu3 (hst u hu)
  show y.seq<=y.seq+_/\y.seq+_<=_;omega
theorem erase_mem {α:Type}{l:List α}{k:Nat}{r q:α}(hr:l[k]? = some r) (hq:q∈l) (hn:¬q=r):q∈l.eraseIdx k:=by
 obtain⟨j,hj,rfl⟩:=getElem_of_mem hq;have hjk:¬k=j:=by
  intro e;subst e;rw[getElem?_eq_getElem hj]at hr;exact hn (Option.some.inj hr)
 refine mem_eraseIdx_iff_getElem?.2 ⟨j,fun e=>hjk e.symm,getElem?_eq_getElem hj⟩
theorem CG.forget {now seq:Int}{es:List Entry}{rs:List Run}{k:Nat}{r:Run}(h:CG now seq es rs) (hr:rs[k]? = some r):CG now seq (es.filter fun e=> !decide (e.run=r.id)) (rs.eraseIdx k):=by
 have hm:=mem_of_getElem? hr;have hsub:∀q∈rs.eraseIdx k,q∈rs:=fun q hq=>mem_of_mem_eraseIdx hq
 have hne:∀q∈rs.eraseIdx k,¬q.id=r.id:=by
  intro q hq e;obtain⟨j,hj,hq2⟩:=mem_eraseIdx_iff_getElem?.1 hq;have:j=k:=(getElem?_inj (l:=rs.map (·.id)) (by have:=(gsi_.1 hq2).1;simpa using this) h.ids).1 (by rw[getElem?_map,getElem?_map,hq2,hr];simp[e]);exact hj this
 have hf:∀e∈es.filter fun e=> !decide (e.run=r.id),e∈es/\¬e.run=r.id:=fun e he=>by
  have:=mem_filter.1 he;exact⟨this.1,by simpa using this.2⟩
 refine⟨h.seq1,fun e he=>h.seqs e (hf e he).1,h.nodup.sublist (filter_sublist.map _),by have:=h.eight;have:=length_eraseIdx_le rs k;omega,fun q hq=>h.runs q (hsub q hq),h.ids.sublist ((eraseIdx_sublist rs k).map _),fun e he=>?_,h.keys.sublist (filter_sublist.map _),fun q hq j t ht h2=>?_,fun q hq=>h.til q (hsub q hq),?_⟩
 ·obtain⟨q,hq⟩:=h.ent e (hf e he).1;exact⟨q,erase_mem hr hq.mem (fun e2=>(hf e he).2 (by rw[<- hq.id,e2])),hq.id,hq.lo,hq.task,hq.prio⟩
 ·obtain⟨e,he,h3,h4⟩:=h.has q (hsub q hq) j t ht h2;exact⟨e,mem_filter.2 ⟨he,by have:=hne q hq;simp[h3,this]⟩,h3,h4⟩
 refine Nat.le_trans ?_ h.slots;have h1:mJ (es.filter fun e=> !decide (e.run=r.id)) (rs.eraseIdx k)<=mJ es (rs.eraseIdx k):=tW fun q _=>by
  unfold wR;split
  ·omega
  unfold lL;rw[filter_filter];refine(List.Sublist.length_le ?_);rw[show (es.filter fun a=>decide (a.run=q.id) && !decide (a.run=r.id))=(es.filter fun e=>decide (e.run=q.id)).filter fun e=> !decide (e.run=r.id) by rw[filter_filter];congr 1;funext a;exact Bool.and_comm _ _];exact filter_sublist
 refine Nat.le_trans h1 ?_;unfold mJ;have h2:((rs.eraseIdx k).map (wR es)).Sublist (rs.map (wR es)):=(eraseIdx_sublist rs k).map _;exact sum_sub h2
where
 sum_sub {a b:List Nat}(h:a.Sublist b):a.sum<=b.sum:=by
  induction h with
  | slnil=>exact Nat.le_refl _
  | cons x _ ih=>rw[sum_cons];omega
  | cons_cons x _ ih=>rw[sum_cons,sum_cons];omega
theorem bC1 (p:Entry->Bool):∀xss:List (List Entry),(xss.map (fun l=>l.filter p)).flatten=xss.flatten.filter p
 | []=>rfl
 | x::xss=>by rw[map_cons,flatten_cons,flatten_cons,filter_append,bC1 p xss]
theorem forget_good {y:Yard}{id:Int}(h:YG y) (ht:InTime y):DG y (aZ y id).1:=by
 unfold aZ;split
 ·exact DG.same h ht
 split
 ·next r hr=>
  split
  ·exact DG.same h ht
  next hlt=>
  split
  ·exact DG.same h ht
  have hid:r.id=id:=by
   cases hx:bS y id with
   | none=>unfold aF at hlt;rw[hx]at hlt;exact absurd eZ hlt
   | some k=>
    have hk:aF y id=(k:Int):=cE hx;rw[hk,Int.toNat_natCast]at hr;unfold bS at hx;split at hx
    ·obtain⟨h1,h2⟩:=uT hx;rw[getElem?_eq_getElem h1]at hr;cases hr;simpa using h2
    cases hx
  have hc:=h.core.forget hr;rw[hid]at hc;refine⟨⟨h.now,by show (y.shelf.map _).length=4;rw[length_map];exact h.four,fun l hl=>?_,?_⟩,fun r2 hr2 u hu hu3=>ht r2 (mem_of_mem_eraseIdx hr2) u hu hu3,by show y.seq<=y.seq/\y.seq<=_;omega⟩
  ·have hl:l∈y.shelf.map (flE id):=hl;obtain⟨q,hq,rfl⟩:=mem_map.1 hl;exact(h.srt q hq).sublist filter_sublist
  show CG y.now y.seq (y.shelf.map (flE id)).flatten (y.runs.eraseIdx (aF y id).toNat);have e:(y.shelf.map (flE id)).flatten=y.shelf.flatten.filter fun e=> !decide (e.run=id):=bC1 _ _
  rw[e];exact hc
 exact DG.same h ht
theorem nL {xss:List (List Entry)}{s:Nat}(h:s<xss.length):xss.getD s []∈xss:=by
 rw[getD_eq_getElem?_getD,getElem?_eq_getElem h];exact getElem_mem h
theorem aA9 {y:Yard}{s:Int}(h:YG y) (hs:0<=s/\s<=3):YG (aT y s):=by
 rw[qO hs h.four];have hlt:s.toNat<y.shelf.length:=by rw[h.four];omega
 refine⟨h.now,by show (y.shelf.set _ _).length=4;rw[length_set];exact h.four,fun l hl=>?_,?_⟩
 ·rcases mem_or_eq_of_mem_set hl with h1 | rfl
  ·exact h.srt l h1
  exact(h.srt _ (nL hlt)).sublist filter_sublist
 show CG y.now y.seq (y.shelf.set s.toNat ((y.shelf.getD s.toNat []).filter (fresh y))).flatten y.runs;refine CG.perm ?_ (nG hlt _).symm;have hp:y.shelf.flatten.Perm (((y.shelf.getD s.toNat []).filter fun e=> !fresh y e)++((y.shelf.getD s.toNat []).filter (fresh y)++(y.shelf.eraseIdx s.toNat).flatten)):=by
  refine(rC hlt).trans ?_;rw[<- append_assoc];refine List.Perm.append_right _ ((filter_append_perm (fresh y) (y.shelf.getD s.toNat [])).symm.trans ?_);exact perm_append_comm
 refine(h.core.perm hp).drop fun e he r hr hi=>?_
 have he2:=mem_filter.1 he;exact gd_fresh_out h.core e (mem_flatten.2 ⟨_,nL hlt,he2.1⟩) (by simpa using he2.2) r hr hi
theorem pX:∀(b a:List Entry),(b.foldl eX a).Perm (b++a)
 | [],a=>List.Perm.refl _
 | e::b,a=>by
  rw[foldl_cons];refine(pX b (eX a e)).trans ((List.Perm.append_left _ (qU a e)).trans ?_);exact perm_middle
theorem sE:∀(b a:List Entry),Srt a->((b++a).map (·.seq)).Nodup->Srt (b.foldl eX a)
 | [],a,h,_=>h
 | e::b,a,h,hn=>by
  rw[foldl_cons];rw[cons_append,map_cons,nodup_cons]at hn;refine sE b (eX a e) (aZ4 h fun x hx he=>hn.1 (mem_map.2 ⟨x,mem_append_right _ hx,he⟩)) ?_;have hp:(b++eX a e).Perm (e::(b++a)):=(List.Perm.append_left _ (qU a e)).trans perm_middle;refine(hp.map _).nodup_iff.2 ?_;rw[map_cons,nodup_cons];exact hn
theorem rob_good {y:Yard}{home o:Nat}(h:YG y) (hh:home<4) (ho:o<4) (hne:¬home=o):YG (yP y home o):=by
 have h1:home<y.shelf.length:=by rw[h.four];exact hh
 have h2:o<y.shelf.length:=by rw[h.four];exact ho
 have hmem:∀s,s<y.shelf.length->∀e∈y.shelf.getD s [],e∈y.shelf.flatten:=fun s hs e he=>mem_flatten.2 ⟨_,nL hs,he⟩
 have p1:=rC h1;have p2:(y.shelf.eraseIdx home).flatten.Perm (y.shelf.getD o []++((y.shelf.eraseIdx home).eraseIdx (if o<home then o else o-1)).flatten):=by
  have hl:(y.shelf.eraseIdx home).length=3:=by rw[length_eraseIdx_of_lt h1,h.four]
  have:=rC (xss:=y.shelf.eraseIdx home) (s:=if o<home then o else o-1) (by split<;>omega);have e:(y.shelf.eraseIdx home).getD (if o<home then o else o-1) []=y.shelf.getD o []:=by
   rw[getD_eq_getElem?_getD,getD_eq_getElem?_getD,getElem?_eraseIdx];split
   ·rfl
   next hc=>rw[if_neg aA,show o-1+1=o by omega]
  rwa [e]at this
 generalize hE:((y.shelf.eraseIdx home).eraseIdx (if o<home then o else o-1)).flatten=E at p2;generalize ha:y.shelf.getD home []=a at p1;generalize hb:y.shelf.getD o []=b at p2;have hall:y.shelf.flatten.Perm (a++(b++E)):=p1.trans (List.Perm.append_left _ p2);have hlen:=hall.length_eq;have h40:=h.core.len;simp only[length_append]at hlen;have htl:(b.take (bH b)).length<=b.length:=by rw[length_take];omega
 have hmrg:cP a (b.take (bH b))=(b.take (bH b)).foldl eX a:=by
  unfold cP;rw[if_neg aA]
 have hnod:((b.take (bH b)++a).map (·.seq)).Nodup:=by
  have hn:=(hall.map (·.seq)).nodup_iff.1 h.core.nodup;have hp3:(a++(b++E)).Perm (b++(a++E)):=by
   rw[<- append_assoc,<- append_assoc];exact List.Perm.append_right _ perm_append_comm
  have hn2:=(hp3.map (·.seq)).nodup_iff.1 hn;refine hn2.sublist (List.Sublist.map _ ?_);exact(take_sublist _ _).append (sublist_append_left _ _)
 have hsa:Srt a:=by rw[<- ha];exact h.srt _ (nL h1)
 have hsb:Srt b:=by rw[<- hb];exact h.srt _ (nL h2)
 have e1:yP y home o=kV (kV y home ((b.take (bH b)).foldl eX a)) o (b.drop (bH b)):=by
  unfold yP;rw[ha,hb,hmrg]
 rw[e1];refine⟨h.now,by show ((y.shelf.set _ _).set _ _).length=4;rw[length_set,length_set];exact h.four,fun l hl=>?_,?_⟩
 ·have hl:l∈(y.shelf.set home ((b.take (bH b)).foldl eX a)).set o (b.drop (bH b)):=hl;rcases mem_or_eq_of_mem_set hl with h3 | rfl
  ·rcases mem_or_eq_of_mem_set h3 with h3 | rfl
   ·exact h.srt l h3
   exact sE _ _ hsa hnod
  exact hsb.sublist (drop_sublist _ _)
 show CG y.now y.seq ((y.shelf.set home ((b.take (bH b)).foldl eX a)).set o (b.drop (bH b))).flatten y.runs;refine h.core.perm ?_;have q1:=nG h1 ((b.take (bH b)).foldl eX a);have q2:=rC (xss:=y.shelf.set home ((b.take (bH b)).foldl eX a)) (s:=o) (by rw[length_set];exact h2);rw[mN hne,hb]at q2;have q3:=nG (xss:=y.shelf.set home ((b.take (bH b)).foldl eX a)) (s:=o) (by rw[length_set];exact h2) (b.drop (bH b));refine List.Perm.trans ?_ q3.symm;generalize ((y.shelf.set home ((b.take (bH b)).foldl eX a)).eraseIdx o).flatten=E2 at q2 q3;have c1:(b++E2).Perm (b.take (bH b)++y.shelf.flatten):=by
  refine q2.symm.trans (q1.trans ((List.Perm.append_right _ (pX _ _)).trans ?_));rw[append_assoc];exact List.Perm.append_left _ p1.symm
 have c2:(b.take (bH b)++(b.drop (bH b)++E2)).Perm (b.take (bH b)++y.shelf.flatten):=by
  rw[<- append_assoc,take_append_drop];exact c1
 exact((perm_append_left_iff _).1 c2).symm
theorem xZ {home:Nat}(hh:home<4):∀{l:List Int}{y:Yard},(∀o∈l,0<=o/\o<=3/\o≠(home:Int))->YG y->YG (dN home y l)
 | [],y,_,h=>h
 | o::l,y,hl,h=>by
  have ho:=hl o mem_cons_self;unfold dN;rw[foldl_cons];refine xZ hh (l:=l) (fun q hq=>hl q (mem_cons_of_mem _ hq)) ?_;unfold uI;split
  ·exact rob_good (aA9 h ⟨ho.1,ho.2.1⟩) hh aA aA
  ·exact h
theorem given_good {y:Yard}{home:Nat}(h:YG y) (ht:InTime y) (hh:home<4) (hf:∀e∈y.shelf.getD home [],fresh y e=true):DG y (mY y home).1:=by
 unfold mY;split
 ·exact DG.same h ht
 next e rest hs=>
 split
 ·exact DG.same h ht
 next k hk=>
 split
 ·exact DG.same h ht
 next r hr=>
 split
 ·exact DG.same h ht
 next t hti=>
 have h1:home<y.shelf.length:=by rw[h.four];exact hh
 have p1:=rC h1;rw[hs]at p1;have hm:=mem_of_getElem? hr;have hR:=h.core.runs r hm;have hem:e∈y.shelf.flatten:=p1.mem_iff.2 (mem_append_left _ mem_cons_self);obtain⟨q,hq⟩:=h.core.ent e hem;have hqr:q=r:=by
  obtain⟨j,hj,e1⟩:=getElem_of_mem hq.mem;have:=aC3 h.core.eight h.core.ids (show y.runs[j]? = some q by rw[getElem?_eq_getElem hj,e1]);rw[hq.id,hk]at this;cases this;rw[getElem?_eq_getElem hj,e1]at hr;exact Option.some.inj hr
 subst hqr;have hfe:=hf e (by rw[hs];exact mem_cons_self);rw[wP h.core hq]at hfe;have hs1:q.state=1:=by simpa using hfe
 obtain⟨t2,ht2,h22⟩:=hq.task;rw[hti]at ht2;cases ht2;have h2:=h22 hs1;have hRs:=hR.start (now:=y.now) h.now hti h2;have hpl:=(gV hR.1.plan).1;have hw:1<=q.plan.wait:=by unfold aN at hpl;omega
 obtain⟨hil,hie⟩:=gsi_.1 hti;have hg:∀j:Nat,¬j=e.task.toNat->(eW q e.task.toNat t y.now).tasks[j]? = q.tasks[j]? := fun j hj=>by
  show (q.tasks.set _ _)[j]? = _;rw[getElem?_set,if_neg (fun e2=>hj e2.symm)]
 have hgi:(eW q e.task.toNat t y.now).tasks[e.task.toNat]? = some ⟨3,t.need,t.try_+1,y.now+q.plan.wait⟩:=by
  show (q.tasks.set _ _)[_]? = _;rw[getElem?_set_self hil]
 have hperm:y.shelf.flatten.Perm ([e]++(rest++(y.shelf.eraseIdx home).flatten)):=p1;have hcp:=h.core.perm hperm;have hlo:=hq.lo;have htil:∀u∈(eW q e.task.toNat t y.now).tasks,u.state=3->u∈q.tasks∨u.until_=y.now+q.plan.wait:=fun u hu h3=>by
  rcases mem_or_eq_of_mem_set hu with h4 | rfl
  ·exact .inl h4
  exact .inr rfl
 have hother:∀g∈rest++(y.shelf.eraseIdx home).flatten,g.run=q.id->¬g.task=e.task:=fun g hg hgr hgt=>by
  have hk2:=hcp.keys;rw[map_append,nodup_append]at hk2;exact hk2.2.2 (e.run,e.task) (by simp) (g.run,g.task) (mem_map.2 ⟨g,hg,rfl⟩) (by rw[hgr,hq.id,hgt])
 have hc:=hcp.upd (ts:=[]) (r':=eW q e.task.toNat t y.now) hr hs1 hRs rfl rfl (length_set) nodup_nil (fun i hi=>by cases hi) (fun _ g hgO hgr=>?_) (fun j u hu hu2=>?_) (fun g hgm=>by rw[mem_singleton]at hgm;rw[hgm];exact hq.id.symm) (fun u hu h3=>?_)
 ·have e0:y.seq+(([]:List Int).length:Int)=y.seq:=by simp
  rw[e0]at hc;refine⟨⟨h.now,by show (y.shelf.set _ _).length=4;rw[length_set];exact h.four,fun l hl=>?_,hc.perm (nG h1 rest).symm⟩,fun r2 hr2 u hu hu3=>?_,by show y.seq<=y.seq/\y.seq<=_;omega⟩
  ·rcases mem_or_eq_of_mem_set hl with h3 | rfl
   ·exact h.srt l h3
   have:=h.srt _ (nL h1);rw[hs]at this;exact(pairwise_cons.1 this).2
  rcases mem_or_eq_of_mem_set hr2 with h7 | rfl
  ·exact ht r2 h7 u hu hu3
  show y.now+1<=_;rcases htil u hu hu3 with h8 | h8
  ·exact ht q hm u h8 hu3
  omega
 ·have hgm:g∈y.shelf.flatten:=hperm.mem_iff.2 (mem_append_right _ hgO);obtain⟨q2,hq2⟩:=h.core.ent g hgm;have:q2=q:=h.core.one hq2.mem hm (by rw[hq2.id,hgr]);subst this;obtain⟨v,hv,hv2⟩:=hq2.task;have hne:=hother g hgO hgr;have hlo2:=hq2.lo;exact⟨v,by rw[hg _ aA];exact hv,hv2 hs1⟩
 ·right;have hj:¬j=e.task.toNat:=by
   intro e2;subst e2;rw[hgi]at hu;cases hu;exact absurd (show (3:Int)=2 from hu2) aA
  rw[hg j hj]at hu;obtain⟨g,hg2,g1,g2⟩:=hcp.has q hm j u hu hu2;rcases mem_append.1 hg2 with h5 | h5
  ·rw[mem_singleton]at h5;subst h5;exact absurd aA hj
  exact⟨g,h5,g1,g2⟩
 show u.until_<=y.now+q.plan.wait;rcases htil u hu h3 with h8 | h8
 ·exact h.core.til q hm u h8 h3
 omega
theorem InTime.runs {y y':Yard}(h:InTime y) (hn:y'.now=y.now) (hr:y'.runs=y.runs):InTime y':=by
 unfold InTime at *;rw[hn,hr];exact h
theorem poll_good {y:Yard}{w d:Int}(h:YG y) (ht:InTime y) (hs:y.seq<=1000000000):DG y (eL y w d).1:=by
 unfold eL;rw[if_neg (by rw[h.ok ht hs];simp)];split
 ·exact DG.same h ht
 next hw=>
 have hh:((w % 4).toNat:Int)=w % 4:=by omega
 have hY:=iA (h.ok ht hs);have hl:∀o∈bL (w % 4) d,0<=o/\o<=3/\o≠((w % 4).toNat:Int):=by
  rw[hh];exact kL aA
 have hP:=PI.all hY (home:=(w % 4).toNat) aA hl (PI.start hY aA);rw[hh]at hP;have g1:=xZ (home:=(w % 4).toNat) aA hl (aA9 h (s:=w % 4) aA);have g2:=given_good g1 (ht.runs hP.now hP.runs) (home:=(w % 4).toNat) aA fun e he=>by
  rw[aG1 hP.runs];exact hP.fresh e he
 exact⟨g2.good,g2.time,by have:=g2.seq;rw[hP.seq]at this;exact this⟩
theorem do_good {y:Yard}(d:Deed) (h:YG y) (ht:InTime y) (hs:y.seq<=1000000000):DG y (doD y d).1:=by
 unfold doD
 repeat' split
 ·exact DG.same h ht
 ·exact submit_good h ht
 ·exact poll_good h ht hs
 ·exact done_good h ht
 ·exact fail_good h ht
 ·exact tick_good h ht
 ·exact cancel_good h ht
 ·exact forget_good h ht
 all_goals exact restart_good h ht
theorem gd_new:YG yardNew/\InTime yardNew:=by
 refine⟨⟨by show (0:Int)<=0/\(0:Int)<=999999980;omega,rfl,fun l hl=>?_,?_⟩,fun r hr=>by cases hr⟩
 ·have hl:l∈List.replicate 4 ([]:List Entry):=hl;rw[(mem_replicate.1 hl).2];exact List.Pairwise.nil
 have e:yardNew.shelf.flatten=[]:=rfl;rw[e];exact⟨by show (1:Int)<=1;omega,fun e h=>(by cases h),nodup_nil,Nat.zero_le _,fun r h=>(by cases h),nodup_nil,fun e h=>(by cases h),nodup_nil,fun r h=>(by cases h),fun r h=>(by cases h),Nat.zero_le _⟩
theorem TasksIn_s (r:Run) (s:Int) (hl:r.tasks.length<=1048576):Ct1 prog 184 [.S r,.I s] [.L (aH r.tasks s)]:=
 vc func184 (fun hg=>.e Int<|.l (Γ:=Nat) (fun k=>k<=r.tasks.length) (fun k=>r.tasks.length-k) [777777,5,7] [777777] [777777] (fun k=>[vI 6 k,vR 5 3]) (fun k=>[oR 3 3 (cH r.tasks s k)]) 0 (h:=Nat.zero_le _) fun k hk t=>
  .s ((k:Int)<r.tasks.length)
   (fun h=>.x r.tasks k (h:=by omega) fun u hu gu=>let hln:=eP r.tasks s k
    .s (u.state=s)
    (fun h2=>.a (cH r.tasks s k) (k:Int) 8 (hy:=by show I64 _;unfold I64;omega) (hby:=by omega)<|.g 3 (aX7 hu h2)<|.p k 1<|.n t (k+1) [])
    (fun h2=>.g 3 (aX8 hu h2)<|.p k 1<|.n t (k+1) []))
   (fun h=>.g 3 (tiAll (s:=s) hk h)<|.rt () ⟨trivial,trivial⟩)) aB
def TrB (y:Yard):Prop:=∀r∈y.runs,r.tasks.length<=12/\∀t∈r.tasks,0<=t.try_/\t.try_<=1000000000
theorem tasksIn_at {ts:List Task}{s v:Int}(h:v∈aH ts s):∃i:Nat,v=i/\i<ts.length:=by
 unfold aH cH at h;obtain⟨i,hi,he⟩:=mem_filterMap.1 h;rw[mem_range]at hi;split at he
 ·cases he;exact⟨i,rfl,hi⟩
 cases he
abbrev tI (r:Run) (n:Int):Int:=(aH r.tasks 3).getD n.toNat 0
abbrev tyI (r:Run) (t:Int):Int:=(r.tasks.getD t.toNat ⟨0,0,0,0⟩).try_
def iN (code:List UInt8):List Run->Cur->(Int×Int×Int)×Cur
 | [],c=>((1+bN code c 5,bN code (bC code c 5) 6-1,bN code (bC code (bC code c 5) 6) 4),bC code (bC code (bC code c 5) 6) 4)
 | r::rs,c=>
  if ¬(0:Int)<(aH r.tasks 3).length then iN code rs c
  else if bN code c 5=0 then iN code rs (bC code c 5)
  else
   let t:=tI r (bN code (bC code c 5) (aH r.tasks 3).length)
   let c2:=bC code (bC code c 5) (aH r.tasks 3).length
   if bN code c2 8=0 then ((r.id,t,tyI r t-1+2*bN code (bC code c2 8) 2),bC code (bC code c2 8) 2)
   else ((r.id,t,tyI r t),bC code c2 8)
theorem held_a {code:List UInt8}{r:Run}{rs:List Run}{c:Cur}(h:¬(0:Int)<(aH r.tasks 3).length):iN code (r::rs) c=iN code rs c:=if_pos h
theorem held_b {code:List UInt8}{r:Run}{rs:List Run}{c:Cur}(h:(0:Int)<(aH r.tasks 3).length) (h2:bN code c 5=0):iN code (r::rs) c=iN code rs (bC code c 5):=(if_neg (fun hh=>hh h)).trans (if_pos h2)
structure HeJ (code:List UInt8) (rs:List Run) (tot:(Int×Int×Int)×Cur) (g:Nat×Cur):Prop where
 eq:iN code (rs.drop g.1) g.2=tot
 cu:bQ code g.2
 le:g.1<=rs.length
theorem HeJ.st {code:List UInt8}{rs:List Run}{tot:(Int×Int×Int)×Cur}{g:Nat×Cur}{r:Run}(h:HeJ code rs tot g) (hr:rs[g.1]? = some r):iN code (r::rs.drop (g.1+1)) g.2=tot:=by
 obtain⟨hk,rfl⟩:=gsi_.1 hr;rw[<- drop_eq_getElem_cons hk];exact h.eq
def HeR (code:List UInt8) (y:Yard) (c:Cur) (nx:Nat) (q:((Int×Int×Int)×Cur)×Nat):Prop:=q.1=iN code y.runs c/\I64 q.1.1.1
section
variable (code:List UInt8) (hl:code.length<=1048576)
include hl
noncomputable def heldD (y:Yard) (hw:y.wt<=1048576) (ht:TrB y) (gy:y.ok) (c:Cur) (hc:bQ code c) (nx:Nat):D prog (HeR code y c nx):=
 let hb:=dJ y hw
 .la (Γ:=Nat×Cur) (HeJ code y.runs (iN code y.runs c)) (fun g=>y.runs.length-g.1) (fun g=>[vI 7 g.1]) (fun g=>[oB 0 [.r 1,.v (I g.2.i),.v (I g.2.h)]]) (0,c) (h:=⟨rfl,hc,Nat.zero_le _⟩) fun g hJ tk=>
  .s ((g.1:Int)<y.runs.length)
   (fun h=>.x y.runs g.1 (h:=by omega) fun r hr gr=>let hrl:=gJ hw hr
    let htl:=hrl.2.1
    let ts:=aH r.tasks 3
    let h12:=ht r (mem_of_getElem? hr)
    let hts:ts.length<=r.tasks.length:=eP r.tasks 3 r.tasks.length
    .c func184 (TasksIn_s r 3 htl) (hg:=⟨gr,trivial⟩) fun _=>.s ((0:Int)<ts.length)
     (fun h2=>.cv _ func28 (aW3 code g.2 5 hJ.cu hl aA) trivial fun _ _ _=>.v (aD7 code g.2 5).1
      (fun h3=>
       let c1:=bC code g.2 5
       let k1:bQ code c1:=aE 5 hJ.cu
       .cv _ func27 (cS code c1 ts.length k1 hl aA) trivial fun _ _ _=>
       let n:=bN code c1 ts.length
       let hn:=fS code c1 (n:=(ts.length:Int)) h2
       let c2:=bC code c1 ts.length
       let k2:bQ code c2:=aE _ k1
       .xe ts n.toNat n (h:=by omega) (he:=by omega) fun t htt gt=>.ex (tasksIn_at (mem_of_getElem? htt)) fun i hi=>
       let hti:t=tI r n:=(by show t=ts.getD n.toNat 0;rw[getD_eq_getElem?_getD,htt];rfl)
       .y hr fun _=>.xe r.tasks i t (h:=hi.2) (he:=hi.1) fun u hu gu=>
       let hui:u.try_=tyI r t:=(by show _=(r.tasks.getD t.toNat _).try_;rw[hi.1,Int.toNat_natCast,getD_eq_getElem?_getD,hu];rfl)
       let hub:=h12.2 u (mem_of_getElem? hu)
       .cv _ func28 (aW3 code c2 8 k2 hl aA) trivial fun _ _ _=>.sb (aD7 code c2 8).1
        (fun h4=>
         let c3:=bC code c2 8
         let k3:bQ code c3:=aE 8 k2
         let h5:=fS code c3 (n:=2) aA
         .m u.try_ 1<|.cv _ func27 (cS code c3 2 k3 hl aA) trivial fun _ _ _=>.o 2 (bN code c3 2)<|.p (u.try_-1) (2*bN code c3 2) (h:=by unfold I64;omega) <|
          .y hr fun _=>.rt (((r.id,t,u.try_-1+2*bN code c3 2),bC code c3 2),nx+13) ⟨by
           show _=iN code y.runs c;rw[<- hJ.st hr];unfold iN;rw[if_neg (fun hh=>hh h2),if_neg (of_decide_eq_false h3)];show _=if bN code _ 8=0 then _ else _
           rw[<- hti];rw[if_pos (show bN code c2 8=0 from of_decide_eq_true h4),<- hui],(show r.ok from gr).1⟩)
        (fun h4=>.y hr fun _=>.rt (((r.id,t,u.try_),bC code c2 8),nx+13) ⟨by
           show _=iN code y.runs c;rw[<- hJ.st hr];unfold iN;rw[if_neg (fun hh=>hh h2),if_neg (of_decide_eq_false h3)];show _=if bN code _ 8=0 then _ else _
           rw[<- hti];rw[if_neg (show ¬bN code c2 8=0 from of_decide_eq_false h4),<- hui],(show r.ok from gr).1⟩))
      (fun h3=>.p g.1 1<|.n tk (g.1+1,bC code g.2 5) [] (h1:=⟨(held_b h2 (show bN code g.2 5=0 from of_decide_eq_true h3)).symm.trans (hJ.st hr),aE 5 hJ.cu,by show g.1+1<=_;omega⟩) (h2:=by show y.runs.length-(g.1+1)<_;omega)))
     (fun h2=>.p g.1 1<|.n tk (g.1+1,g.2) [] (h1:=⟨(held_a h2).symm.trans (hJ.st hr),hJ.cu,by show g.1+1<=_;omega⟩) (h2:=by show y.runs.length-(g.1+1)<_;omega)))
   (fun h=>
    let c1:=bC code g.2 5
    let k1:bQ code c1:=aE 5 hJ.cu
    let c2:=bC code c1 6
    let k2:bQ code c2:=aE 6 k1
    let h1:=fS code g.2 (n:=5) aA
    let h2:=fS code c1 (n:=6) aA
    .cv _ func27 (cS code g.2 5 hJ.cu hl aA) trivial fun _ _ _=>.p 1 (bN code g.2 5)<|.cv _ func27 (cS code c1 6 k1 hl aA) trivial fun _ _ _=>.m (bN code c1 6) 1 (h:=by unfold I64;omega) <|
    .cv _ func27 (cS code c2 4 k2 hl aA) trivial fun _ _ _=>.rt (((1+bN code g.2 5,bN code c1 6-1,bN code c2 4),bC code c2 4),nx+1) ⟨by
     show _=iN code y.runs c;rw[<- hJ.eq,drop_of_length_le aA];rfl,by show I64 (1+bN code g.2 5);unfold I64;omega⟩)
end
theorem eqS_len {α:Type}[DecidableEq α] {xs ys:List α}(h:¬(xs.length:Int)=ys.length):false=eqB xs ys:=(vC fun e=>h (by rw[e])).symm
theorem eqS_at {α:Type}[DecidableEq α] {xs ys:List α}{k:Nat}{x y:α}(hx:xs[k]? = some x) (hy:ys[k]? = some y) (h:eqB x y=false):false=eqB xs ys:=(vC fun e=>by rw[e,hy]at hx;cases hx;rw[vA rfl]at h;cases h).symm
theorem eqS_to {α:Type}[DecidableEq α] {xs ys:List α}{k:Nat}{x y:α}(h:xs.take k=ys.take k) (hx:xs[k]? = some x) (hy:ys[k]? = some y) (he:eqB x y=true):xs.take (k+1)=ys.take (k+1):=by
 rw[<- cX hx,<- cX hy,h,eqB_iff.1 he]
theorem eqS_all {α:Type}[DecidableEq α] {xs ys:List α}{k:Nat}(hl:(xs.length:Int)=ys.length) (h:xs.take k=ys.take k) (hk:¬(k:Int)<xs.length):xs=ys:=by
 rw[take_of_length_le aA,take_of_length_le aA]at h;exact h
theorem eqS_yes {α:Type}[DecidableEq α] {xs ys:List α}{k:Nat}(hl:(xs.length:Int)=ys.length) (h:xs.take k=ys.take k) (hk:¬(k:Int)<xs.length):true=eqB xs ys:=(vA (eqS_all hl h hk)).symm
theorem EqualEdge_i (xs ys:List Edge):Ct1 prog 185 [.L xs,.L ys] [.B (eqB xs ys)]:=
 .one (eqB xs ys) (rk:=fun b=>[.B b])<|vc func185 (fun (hg:gin [Par.L xs,Par.L ys])=>let h1:=hg.1
  .u ((xs.length:Int)=ys.length)
   (fun h=>.rt false ⟨eqS_len h,trivial⟩)
   (fun h=>.l (Γ:=Nat) (fun k=>k<=xs.length/\xs.take k=ys.take k) (fun k=>xs.length-k) [0,1,12] [] [0,1] (fun k=>[vI 13 k]) (fun k=>[]) 0 (h:=⟨Nat.zero_le _,rfl⟩) fun k hk t=>.s ((k:Int)<xs.length)
    (fun h2=>.x xs k (h:=by omega) fun e he ge=>.x ys k (h:=by omega) fun f hf gf=>.qe (uD e f) aB<|.v (eqB e f)
     (fun h3=>.rt false ⟨eqS_at he hf h3,trivial⟩)
     (fun h3=>.p k 1<|.n t (k+1) [] (h1:=⟨by omega,eqS_to hk.2 he hf h3⟩)))
    (fun h2=>.rt true ⟨eqS_yes h hk.2 h2,trivial⟩))) aB
theorem bB3 {α:Type}[DecidableEq α] {x y:α}{p:Prop}(h:¬p) (k:x=y->p):false=eqB x y:=(vC fun e=>h (k e)).symm
theorem eq_of {α β:Type}[DecidableEq α] [DecidableEq β] {x y:α}{a b:β}(f:a=b->x=y) (g:x=y->a=b):eqB a b=eqB x y:=by unfold eqB;exact decide_eq_decide.2 ⟨f,g⟩
theorem SamePlan_i (x y:Plan):Ct1 prog 131 [.S x,.S y] [.B (eqB x y)]:=
 .one (eqB x y) (rk:=fun b=>[.B b])<|vc func131 (fun (hg:gin [Par.S x,Par.S y])=>
  .s (x.prio=y.prio) (fun h0=>.s (x.most=y.most) (fun h1=>.s (x.wait=y.wait) (fun h2=>.s (x.tasks=y.tasks)
   (fun h3=>.c func185 (EqualEdge_i x.edges y.edges) fun _=>.rt (eqB x.edges y.edges) ⟨eq_of (bF9 h0 h1 h2 h3) (fun e=>by rw[e]),trivial⟩)
   (fun h=>.rt false ⟨bB3 h (fun e=>by rw[e]),trivial⟩)) (fun h=>.rt false ⟨bB3 h (fun e=>by rw[e]),trivial⟩)) (fun h=>.rt false ⟨bB3 h (fun e=>by rw[e]),trivial⟩)) (fun h=>.rt false ⟨bB3 h (fun e=>by rw[e]),trivial⟩)) aB
theorem usedOf_1 (d:Deed) (h:d.kind=1):Cb prog 90 [.S d] inferInstance (⟨d.kind,d.run,d.plan,0,0,0,0⟩:Deed):=
 vcb func90 (fun (hg:gin [Par.S d])=>.kt (d.kind=1) h<|.rt () (show Deed.ok _ from by have g:d.ok:=hg.1.1;unfold Deed.ok Plan.ok I64 at *;simp only;omega)) aB
theorem usedOf_2 (d:Deed) (h:d.kind=2):Cb prog 90 [.S d] inferInstance (⟨d.kind,0,⟨0,0,0,0,[]⟩,0,0,d.worker,d.draw⟩:Deed):=
 vcb func90 (fun (hg:gin [Par.S d])=>.kf (d.kind=1) aA<|.kt (d.kind=2) h<|.rt () (show Deed.ok _ from by have g:d.ok:=hg.1.1;unfold Deed.ok Plan.ok I64 at *;simp only;omega)) aB
theorem usedOf_3 (d:Deed) (h:d.kind=3):Cb prog 90 [.S d] inferInstance (⟨d.kind,d.run,⟨0,0,0,0,[]⟩,d.task,d.try_,0,0⟩:Deed):=
 vcb func90 (fun (hg:gin [Par.S d])=>.kf (d.kind=1) aA<|.kf (d.kind=2) aA<|.kt (d.kind=3) h<|.rt () (show Deed.ok _ from by have g:d.ok:=hg.1.1;unfold Deed.ok Plan.ok I64 at *;simp only;omega)) aB
theorem usedOf_4 (d:Deed) (h:d.kind=4):Cb prog 90 [.S d] inferInstance (⟨d.kind,d.run,⟨0,0,0,0,[]⟩,d.task,d.try_,0,0⟩:Deed):=
 vcb func90 (fun (hg:gin [Par.S d])=>.kf (d.kind=1) aA<|.kf (d.kind=2) aA<|.kf (d.kind=3) aA<|.kt (d.kind=4) h<|.rt () (show Deed.ok _ from by have g:d.ok:=hg.1.1;unfold Deed.ok Plan.ok I64 at *;simp only;omega)) aB
theorem usedOf_6 (d:Deed) (h:d.kind=6):Cb prog 90 [.S d] inferInstance (⟨d.kind,d.run,⟨0,0,0,0,[]⟩,0,0,0,0⟩:Deed):=
 vcb func90 (fun (hg:gin [Par.S d])=>.kf (d.kind=1) aA<|.kf (d.kind=2) aA<|.kf (d.kind=3) aA<|.kf (d.kind=4) aA<|.kt (d.kind=6) h<|.rt () (show Deed.ok _ from by have g:d.ok:=hg.1.1;unfold Deed.ok Plan.ok I64 at *;simp only;omega)) aB
theorem usedOf_7 (d:Deed) (h:d.kind=7):Cb prog 90 [.S d] inferInstance (⟨d.kind,d.run,⟨0,0,0,0,[]⟩,0,0,0,0⟩:Deed):=
 vcb func90 (fun (hg:gin [Par.S d])=>.kf (d.kind=1) aA<|.kf (d.kind=2) aA<|.kf (d.kind=3) aA<|.kf (d.kind=4) aA<|.kf (d.kind=6) aA<|.kt (d.kind=7) h<|.rt () (show Deed.ok _ from by have g:d.ok:=hg.1.1;unfold Deed.ok Plan.ok I64 at *;simp only;omega)) aB
theorem usedOf_0 (d:Deed) (h:¬(d.kind=1∨d.kind=2∨d.kind=3∨d.kind=4∨d.kind=6∨d.kind=7)):Cb prog 90 [.S d] inferInstance (⟨d.kind,0,⟨0,0,0,0,[]⟩,0,0,0,0⟩:Deed):=
 vcb func90 (fun (hg:gin [Par.S d])=>.kf (d.kind=1) aA<|.kf (d.kind=2) aA<|.kf (d.kind=3) aA<|.kf (d.kind=4) aA<|.kf (d.kind=6) aA<|.kf (d.kind=7) aA<|.rt () (show Deed.ok _ from by have g:d.ok:=hg.1.1;unfold Deed.ok Plan.ok I64 at *;simp only;omega)) aB
theorem UsedOf_i (d:Deed):Cb prog 90 [.S d] inferInstance (lA d):=by
 unfold lA;split
 ·next h=>exact usedOf_1 d h
 split
 ·next h=>exact usedOf_2 d h
 split
 ·next h=>
  rcases h with h | h
  ·exact usedOf_3 d h
  exact usedOf_4 d h
 split
 ·next h=>
  rcases h with h | h
  ·exact usedOf_6 d h
  exact usedOf_7 d h
 next h1 h2 h3 h4=>exact usedOf_0 d aA
theorem SameDeed_i (x y:Deed):Ct1 prog 89 [.S x,.S y] [.B (eqB x y)]:=
 .one (eqB x y) (rk:=fun b=>[.B b])<|vc func89 (fun (hg:gin [Par.S x,Par.S y])=>
  let no:∀{p:Prop},¬p->(x=y->p)->D prog (fun b:Bool=>b=eqB x y/\rgd [Rk.B b]):=fun h k=>.rt false ⟨bB3 h k,trivial⟩
  .s (x.kind=y.kind) (fun h0=>.s (x.run=y.run) (fun h1=>.c func131 (SamePlan_i x.plan y.plan) (hg:=⟨(show x.ok from hg.1.1).2.2.1,(show y.ok from hg.2.1.1).2.2.1,trivial⟩) fun _=>.sb (eqB x.plan y.plan) (fun h2=>.s (x.task=y.task) (fun h3=>.s (x.try_=y.try_) (fun h4=>.s (x.worker=y.worker)
   (fun h5=>.rt (decide (x.draw=y.draw)) ⟨by unfold eqB;exact decide_eq_decide.2 ⟨fun h6=>Deed_ext h0 h1 (eqB_iff.1 h2) h3 h4 h5 h6,fun e=>by rw[e]⟩,trivial⟩)
   (fun h=>no h (fun e=>by rw[e]))) (fun h=>no h (fun e=>by rw[e]))) (fun h=>no h (fun e=>by rw[e]))) (fun h=>no (p:=eqB x.plan y.plan=true) (by rw[h];simp) (fun e=>by rw[e];exact vA rfl))) (fun h=>no h (fun e=>by rw[e]))) (fun h=>no h (fun e=>by rw[e]))) aB
theorem bR0 {es:List Edge}{k:Nat}{e:Edge}(h:es[k]? = some e):cF (es.take k)++[e.from_,e.to_]=cF (es.take (k+1)):=by
 obtain⟨hk,rfl⟩:=gsi_.1 h;exact(edgeNums_s hk).symm
abbrev jF (d:Deed):List Int:=[d.run,d.plan.prio,d.plan.most,d.plan.wait,d.plan.tasks,(d.plan.edges.length:Int)]
theorem good6 {d:Deed}(g:d.ok) (hl:d.plan.edges.length<=1048576):∀z∈jF d,Dsh.good z:=by
 intro z hz;have g1:d.ok:=g;unfold Deed.ok Plan.ok at g1;simp only[jF,mem_cons,not_mem_nil,or_false]at hz;rcases hz with rfl | rfl | rfl | rfl | rfl | rfl
 ·exact g1.2.1
 ·exact g1.2.2.1.1
 ·exact g1.2.2.1.2.1
 ·exact g1.2.2.1.2.2.1
 ·exact g1.2.2.1.2.2.2
 show I64 _;unfold I64;omega
theorem bY9 {d:Deed}(h1:¬d.kind=1) (h2:¬d.kind=2) (h3:¬(d.kind=3∨d.kind=4)) (h4:¬(d.kind=6∨d.kind=7)):[]=aY d:=by unfold aY;rw[if_neg h1,if_neg h2,if_neg h3,if_neg h4]
theorem bZ0 {d:Deed}(h:d.kind=6∨d.kind=7):[d.run]=aY d:=by unfold aY;rw[if_neg aA,if_neg aA,if_neg aA,if_pos h]
theorem bZ1 {d:Deed}(h:d.kind=3∨d.kind=4):[d.run,d.task,d.try_]=aY d:=by unfold aY;rw[if_neg aA,if_neg aA,if_pos h]
theorem bZ2 {d:Deed}(h:d.kind=2):[d.worker,d.draw]=aY d:=by unfold aY;rw[if_neg aA,if_pos h]
theorem bZ3 {d:Deed}(h:d.kind=1) {k:Nat}(hk:¬(k:Int)<d.plan.edges.length):jF d++cF (d.plan.edges.take k)=aY d:=by unfold aY;rw[if_pos h,take_of_length_le aA]
theorem tO (d:Deed) (hl:d.plan.edges.length<=1048576):Ct1 prog 88 [.S d] [.L (aY d)]:=
 .one (aY d) (rk:=fun l=>[.L l])<|vc func88 (fun (hg:gin [Par.S d])=>let g:d.ok:=hg.1.1
  let gi:Dsh Int:=inferInstance
  .s (d.kind=1)
   (fun h=>.lr gi gK 28 (jF d) (by simp) (good6 g hl)<|.l (Γ:=Nat) (fun k=>k<=d.plan.edges.length) (fun k=>d.plan.edges.length-k) [777777,28] [777777] [777777] (fun k=>[vI 33 k,vR 3 2]) (fun k=>[oR 2 3 (jF d++cF (d.plan.edges.take k))]) 0 fun k hk t=>
    let hln:(jF d++cF (d.plan.edges.take k)).length<=2097158:=(by rw[length_append,lK,length_take];simp only[length_cons,length_nil];omega)
    .s ((k:Int)<d.plan.edges.length)
    (fun h2=>.x d.plan.edges k (h:=by omega) fun e he ge=>.ap gi (jF d++cF (d.plan.edges.take k)) [e.from_,e.to_] (aV7 (show e.ok from ge).1 (show e.ok from ge).2) 8 (by simp only[length_cons,length_nil];unfold maxLen;omega) (by simp only[length_cons,length_nil];omega)<|.g 2 (show jF d++cF (d.plan.edges.take k)++[e.from_,e.to_]=jF d++cF (d.plan.edges.take (k+1)) by rw[append_assoc,bR0 he])<|.p k 1<|.n t (k+1) [])
    (fun h2=>.rt (jF d++cF (d.plan.edges.take k)) ⟨bZ3 h h2,trivial⟩))
   (fun h1=>.s (d.kind=2)
    (fun h=>.li gi 52 [d.worker,d.draw] (by simp) (by simp) (aV7 g.2.2.2.2.2.1 g.2.2.2.2.2.2)<|.rt [d.worker,d.draw] ⟨bZ2 h,trivial⟩)
    (fun h2=>let three:d.kind=3∨d.kind=4->D prog (fun l:List Int=>l=aY d/\rgd [Rk.L l]):=fun h=>.li gi 62 [d.run,d.task,d.try_] (by simp) (by simp) (fun z hz=>(mem_cons.1 hz).elim (fun e=>by rw[e];exact g.2.1) (aV7 g.2.2.2.1 g.2.2.2.2.1 z))<|.rt [d.run,d.task,d.try_] ⟨bZ1 h,trivial⟩
     let one:d.kind=6∨d.kind=7->D prog (fun l:List Int=>l=aY d/\rgd [Rk.L l]):=fun h=>.li gi 68 [d.run] (by simp) (by simp) (all1 g.2.1)<|.rt [d.run] ⟨bZ0 h,trivial⟩
     .s (d.kind=3) (fun h=>three (.inl h)) (fun h3=>.s (d.kind=4) (fun h=>three (.inr h)) (fun h4=>.s (d.kind=6) (fun h=>one (.inl h)) (fun h6=>.s (d.kind=7) (fun h=>one (.inr h)) (fun h7=>.rt [] ⟨bY9 h1 h2 aA aA,trivial⟩))))))) aB
theorem any_to {xs:List Int}{p:Int->Bool}{k:Nat}{n:Int}(h:xs[k]? = some n) (h0:(xs.take k).any p=false) (hn:p n=false):(xs.take (k+1)).any p=false:=by
 rw[<- cX h,any_append,h0];simp[hn]
theorem any_hit {xs:List Int}{p:Int->Bool}{k:Nat}{n:Int}(h:xs[k]? = some n) (hn:p n=true):xs.any p=true:=any_eq_true.2 ⟨n,mem_of_getElem? h,hn⟩
theorem dok_a {d:Deed}(h:inB d.kind 1 8=false):false=aQ d:=(deedOk_0 h).symm
theorem dok_b {d:Deed}(h:(31:Int)<d.plan.edges.length):false=aQ d:=by unfold aQ;rw[decide_eq_false (show ¬d.plan.edges.length<=31 by omega)];simp
theorem dok_c {d:Deed}(h:eqB d (lA d)=false):false=aQ d:=by unfold aQ;rw[h];simp
theorem dok_d {d:Deed}(h:(aY d).any (fun n=> !num n)=true):false=aQ d:=by unfold aQ;rw[h];simp
theorem dok_e {d:Deed}(h1:inB d.kind 1 8=true) (h2:¬(31:Int)<d.plan.edges.length) (h3:eqB d (lA d)=true) {k:Nat}(h4:((aY d).take k).any (fun n=> !num n)=false) (hk:¬(k:Int)<(aY d).length):true=aQ d:=by
 rw[take_of_length_le aA]at h4;unfold aQ;rw[h1,h3,h4,decide_eq_true (show d.plan.edges.length<=31 by omega)];rfl
theorem aI8 (d:Deed):Ct1 prog 51 [.S d] [.B (aQ d)]:=
 .one (aQ d) (rk:=fun b=>[.B b])<|vc func51 (fun (hg:gin [Par.S d])=>let g:d.ok:=hg.1.1
  .c func29 (bR d.kind 1 8) fun _=>.v (inB d.kind 1 8) (fun h1=>.rt false ⟨dok_a h1,trivial⟩) (fun h1=>.s ((31:Int)<d.plan.edges.length) (fun h2=>.rt false ⟨dok_b h2,trivial⟩) (fun h2=>
   .cb inferInstance (lA d) _ func90 (UsedOf_i d) ⟨g,trivial⟩ fun gu=>.c func89 (SameDeed_i d (lA d)) (hg:=⟨g,gu,trivial⟩) fun _=>.v (eqB d (lA d)) (fun h3=>.rt false ⟨dok_c h3,trivial⟩) (fun h3=>
   let hnl:=oQ d
   .c func88 (tO d aA) (hg:=⟨g,trivial⟩) fun _=>.la (Γ:=Nat) (fun k=>k<=(aY d).length/\((aY d).take k).any (fun n=> !num n)=false) (fun k=>(aY d).length-k) (fun k=>[vI 26 k]) (fun k=>[]) 0 (h:=⟨Nat.zero_le _,rfl⟩) fun k hk t=>.s ((k:Int)<(aY d).length)
    (fun h4=>.x (aY d) k (h:=by omega) fun n hn gn=>.c func29 (bR n 0 1000000000) fun _=>.v (inB n 0 1000000000)
     (fun h5=>.rt false ⟨dok_d (any_hit hn (by show (!inB n 0 1000000000)=true;rw[h5];rfl)),trivial⟩)
     (fun h5=>.p k 1<|.n t (k+1) [] (h1:=⟨by omega,any_to hn hk.2 (by show (!inB n 0 1000000000)=false;rw[h5];rfl)⟩)))
    (fun h4=>.rt true ⟨dok_e h1 h2 h3 hk.2 h4,trivial⟩))))) aB
theorem vQ (n:Int):Ct1 prog 75 [.I n] [.B (num n)]:=
 vc func75 (fun hg=>.c func38 (InV n 0 1000000000) fun _=>.rt () ⟨trivial,trivial⟩) aB
theorem NoPlan_s (p:Plan):Ct1 prog 207 [.S p] [.B (iE p)]:=
 .one (iE p) (rk:=fun b=>[.B b])<|vc func207 (fun hg=>.s (p.prio=0) (fun h0=>.s (p.most=0) (fun h1=>.s (p.wait=0) (fun h2=>.s (p.tasks=0)
  (fun h3=>.rt (decide ((p.edges.length:Int)=0)) ⟨by unfold iE;simp[h0,h1,h2,h3],trivial⟩)
  (fun h=>.rt false ⟨by unfold iE;simp[h],trivial⟩)) (fun h=>.rt false ⟨by unfold iE;simp[h],trivial⟩)) (fun h=>.rt false ⟨by unfold iE;simp[h],trivial⟩)) (fun h=>.rt false ⟨by unfold iE;simp[h],trivial⟩)) aB
theorem anyE_to {xs:List Edge}{p:Edge->Bool}{k:Nat}{n:Edge}(h:xs[k]? = some n) (h0:(xs.take k).any p=false) (hn:p n=false):(xs.take (k+1)).any p=false:=by
 rw[<- cX h,any_append,h0];simp[hn]
theorem PlanNum_s (p:Plan):Ct1 prog 206 [.S p] [.B (fC p)]:=
 .one (fC p) (rk:=fun b=>[.B b])<|vc func206 (fun (hg:gin [Par.S p])=>let bad:fC p=false->D prog (fun b:Bool=>b=fC p/\rgd [Rk.B b]):=fun h=>.rt false ⟨h.symm,trivial⟩
  .c func75 (vQ p.prio) fun _=>.v (num p.prio) (fun h0=>bad (by unfold fC;simp[h0])) (fun h0=>
  .c func75 (vQ p.most) fun _=>.v (num p.most) (fun h1=>bad (by unfold fC;simp[h1])) (fun h1=>
  .c func75 (vQ p.wait) fun _=>.v (num p.wait) (fun h2=>bad (by unfold fC;simp[h2])) (fun h2=>
  .c func75 (vQ p.tasks) fun _=>.v (num p.tasks) (fun h3=>bad (by unfold fC;simp[h3])) (fun h3=>.s ((31:Int)<p.edges.length) (fun h4=>bad (by unfold fC;rw[decide_eq_false (show ¬p.edges.length<=31 by omega)];simp)) (fun h4=>
   .la (Γ:=Nat) (fun k=>k<=p.edges.length/\(p.edges.take k).any (fun e:Edge=> !(num e.from_ && num e.to_))=false) (fun k=>p.edges.length-k) (fun k=>[vI 3 k]) (fun k=>[]) 0 (h:=⟨Nat.zero_le _,rfl⟩) fun k hk t=>.s ((k:Int)<p.edges.length)
    (fun h5=>.x p.edges k (h:=by omega) fun e he ge=>.c func75 (vQ e.from_) fun _=>.v (num e.from_) (fun h6=>bad (by unfold fC;rw[any_eq_true.2 ⟨e,mem_of_getElem? he,by simp[h6]⟩];simp)) (fun h6=>.y he fun _=>.c func75 (vQ e.to_) fun _=>.v (num e.to_) (fun h7=>bad (by unfold fC;rw[any_eq_true.2 ⟨e,mem_of_getElem? he,by simp[h7]⟩];simp)) (fun h7=>
     .p k 1<|.n t (k+1) [] (h1:=⟨by omega,anyE_to he hk.2 (by simp[h6,h7])⟩))))
    (fun h5=>.rt true ⟨by have h9:=hk.2;rw[take_of_length_le aA]at h9;unfold fC;rw[h9,h0,h1,h2,h3,decide_eq_true (show p.edges.length<=31 by omega)];rfl,trivial⟩))))))) aB
theorem bM7 {d:Deed}{b3 b4 b5:Bool}(h3:decide (d.kind=2)=b3) (h4:(decide (d.kind=3) || decide (d.kind=4))=b4) (h5:(((!decide (d.kind=2)) && (!decide (d.kind=5))) && (!decide (d.kind=8)))=b5) :
  oP d=((((((b5 && (!(num d.run))) || ((!b5) && (!decide (d.run=0)))) || (b4 && ((!(num d.task)) || (!(num d.try_))))) || ((!b4) && ((!decide (d.task=0)) || (!decide (d.try_=0))))) || (b3 && ((!(num d.worker)) || (!(num d.draw))))) || ((!b3) && ((!decide (d.worker=0)) || (!decide (d.draw=0))))):=by
 unfold oP;rw[h5,h4,h3]
noncomputable def twoD {R:Bool->Prop}(b:Bool) (x y:Int) (bad:(b=true/\(num x=false∨num y=false)∨b=false/\(¬x=0∨¬y=0))->D prog R) (k:(b=true->num x=true/\num y=true)->(b=false->x=0/\y=0)->D prog R):D prog R:=
 match b,bad,k with
 | true,bad,k=>.c func75 (vQ x) fun _=>.v (num x) (fun h=>bad (.inl ⟨rfl,.inl h⟩)) (fun h=>.c func75 (vQ y) fun _=>.v (num y) (fun h2=>bad (.inl ⟨rfl,.inr h2⟩)) (fun h2=>k (fun _=>⟨h,h2⟩) (fun z=>by cases z)))
 | false,bad,k=>.u (x=0) (fun h=>bad (.inr ⟨rfl,.inl h⟩)) (fun h=>.u (y=0) (fun h2=>bad (.inr ⟨rfl,.inr h2⟩)) (fun h2=>k (fun z=>by cases z) (fun _=>⟨h,h2⟩)))
noncomputable def oneD {R:Bool->Prop}(b:Bool) (x:Int) (bad:(b=true/\num x=false∨b=false/\¬x=0)->D prog R) (k:(b=true->num x=true)->(b=false->x=0)->D prog R):D prog R:=
 match b,bad,k with
 | true,bad,k=>.c func75 (vQ x) fun _=>.v (num x) (fun h=>bad (.inl ⟨rfl,h⟩)) (fun h=>k (fun _=>h) (fun z=>by cases z))
 | false,bad,k=>.u (x=0) (fun h=>bad (.inr ⟨rfl,h⟩)) (fun h=>k (fun z=>by cases z) (fun _=>h))
theorem one_se {b:Bool}{x:Int}(h1:b=true->num x=true) (h2:b=false->x=0):(b && (!(num x)) || (!b) && (!decide (x=0)))=false:=by
 cases b with
 | true=>simp[h1 rfl]
 | false=>simp[h2 rfl]
theorem aR7 {b:Bool}{x y:Int}(h1:b=true->num x=true/\num y=true) (h2:b=false->x=0/\y=0):(b && ((!(num x)) || (!(num y))))=false/\((!b) && ((!decide (x=0)) || (!decide (y=0))))=false:=by
 cases b with
 | true=>simp[h1 rfl]
 | false=>simp[h2 rfl]
theorem one_bad {b:Bool}{x:Int}(h:b=true/\num x=false∨b=false/\¬x=0):(b && (!(num x)) || (!b) && (!decide (x=0)))=true:=by
 rcases h with⟨rfl,h⟩ | ⟨rfl,h⟩<;>simp[h]
theorem bJ8 {b:Bool}{x y:Int}(h:b=true/\(num x=false∨num y=false)∨b=false/\(¬x=0∨¬y=0)):(b && ((!(num x)) || (!(num y))))=true∨((!b) && ((!decide (x=0)) || (!decide (y=0))))=true:=by
 rcases h with⟨rfl,h | h⟩ | ⟨rfl,h | h⟩<;>simp[h]
noncomputable def dkD (d:Deed) (g:d.ok) (hi:1<=d.kind/\d.kind<=8) (b3 b4 b5:Bool) (h3:decide (d.kind=2)=b3) (h4:(decide (d.kind=3) || decide (d.kind=4))=b4) (h5:(((!decide (d.kind=2)) && (!decide (d.kind=5))) && (!decide (d.kind=8)))=b5):D prog (fun b:Bool=>b=aQ d/\rgd [Rk.B b]):=
 let bad:oP d=true->D prog (fun b:Bool=>b=aQ d/\rgd [Rk.B b]):=fun h=>.rt false ⟨(deedS_f hi h).symm,trivial⟩
 oneD b5 d.run (fun h=>bad (by rw[bM7 h3 h4 h5,one_bad h];simp)) fun r1 r2=>
 twoD b4 d.task d.try_ (fun h=>bad (by rw[bM7 h3 h4 h5];rcases bJ8 h with e | e<;>rw[e]<;>simp)) fun t1 t2=>
 twoD b3 d.worker d.draw (fun h=>bad (by rw[bM7 h3 h4 h5];rcases bJ8 h with e | e<;>rw[e]<;>simp)) fun w1 w2=>
 let he:oP d=false:=(by rw[bM7 h3 h4 h5,one_se r1 r2,(aR7 t1 t2).1,(aR7 t1 t2).2,(aR7 w1 w2).1,(aR7 w1 w2).2];rfl)
 .s (d.kind=1)
  (fun h=>.c func206 (PlanNum_s d.plan) (hg:=⟨g.2.2.1,trivial⟩) fun _=>.rt (fC d.plan) ⟨(deedS_1 hi he h).symm,trivial⟩)
  (fun h=>.c func207 (NoPlan_s d.plan) (hg:=⟨g.2.2.1,trivial⟩) fun _=>.rt (iE d.plan) ⟨(deedS_n hi he h).symm,trivial⟩)
theorem kind_8 {d:Deed}(h:1<=d.kind/\d.kind<=8):d.kind=1∨d.kind=2∨d.kind=3∨d.kind=4∨d.kind=5∨d.kind=6∨d.kind=7∨d.kind=8:=by omega
theorem bG1 (d:Deed):Ct1 prog 175 [.S d] [.B (aQ d)]:=
 .one (aQ d) (rk:=fun b=>[.B b])<|vc func175 (fun (hg:gin [Par.S d])=>let g:d.ok:=hg.1.1
  .c func38 (InV d.kind 1 8) fun _=>.v (inB d.kind 1 8) (fun h1=>.rt false ⟨dok_a h1,trivial⟩) (fun h1=>let hi:=inB_iff.1 h1
   (fun hk=>.oc hk (fun h=>.wt 3<|.rv 3 (.bool false) (y := .bool (decide (d.kind=2))) (by rw[h];rfl)<|.kf (d.kind=3) aA<|.wt 4<|.rv 4 (.bool false) (y := .bool (decide (d.kind=4))) (by rw[h];rfl)<|.ut (d.kind=5) aA<|.wt 5<|.rv 5 (.bool true) (y := .bool (!decide (d.kind=8))) (by rw[h];rfl)<|dkD d g hi false false true (by rw[h];rfl) (by rw[h];rfl) (by rw[h];rfl)) (fun hk=>.oc hk (fun h=>.wt 3<|.rv 3 (.bool true) (y := .bool (decide (d.kind=2))) (by rw[h];rfl)<|.kf (d.kind=3) aA<|.wt 4<|.rv 4 (.bool false) (y := .bool (decide (d.kind=4))) (by rw[h];rfl)<|dkD d g hi true false false (by rw[h];rfl) (by rw[h];rfl) (by rw[h];rfl)) (fun hk=>.oc hk (fun h=>.wt 3<|.rv 3 (.bool false) (y := .bool (decide (d.kind=2))) (by rw[h];rfl)<|.kt (d.kind=3) h<|.ut (d.kind=5) aA<|.wt 5<|.rv 5 (.bool true) (y := .bool (!decide (d.kind=8))) (by rw[h];rfl)<|dkD d g hi false true true (by rw[h];rfl) (by rw[h];rfl) (by rw[h];rfl)) (fun hk=>.oc hk (fun h=>.wt 3<|.rv 3 (.bool false) (y := .bool (decide (d.kind=2))) (by rw[h];rfl)<|.kf (d.kind=3) aA<|.wt 4<|.rv 4 (.bool true) (y := .bool (decide (d.kind=4))) (by rw[h];rfl)<|.ut (d.kind=5) aA<|.wt 5<|.rv 5 (.bool true) (y := .bool (!decide (d.kind=8))) (by rw[h];rfl)<|dkD d g hi false true true (by rw[h];rfl) (by rw[h];rfl) (by rw[h];rfl)) (fun hk=>.oc hk (fun h=>.wt 3<|.rv 3 (.bool false) (y := .bool (decide (d.kind=2))) (by rw[h];rfl)<|.kf (d.kind=3) aA<|.wt 4<|.rv 4 (.bool false) (y := .bool (decide (d.kind=4))) (by rw[h];rfl)<|.uf (d.kind=5) h<|dkD d g hi false false false (by rw[h];rfl) (by rw[h];rfl) (by rw[h];rfl)) (fun hk=>.oc hk (fun h=>.wt 3<|.rv 3 (.bool false) (y := .bool (decide (d.kind=2))) (by rw[h];rfl)<|.kf (d.kind=3) aA<|.wt 4<|.rv 4 (.bool false) (y := .bool (decide (d.kind=4))) (by rw[h];rfl)<|.ut (d.kind=5) aA<|.wt 5<|.rv 5 (.bool true) (y := .bool (!decide (d.kind=8))) (by rw[h];rfl)<|dkD d g hi false false true (by rw[h];rfl) (by rw[h];rfl) (by rw[h];rfl)) (fun hk=>.oc hk (fun h=>.wt 3<|.rv 3 (.bool false) (y := .bool (decide (d.kind=2))) (by rw[h];rfl)<|.kf (d.kind=3) aA<|.wt 4<|.rv 4 (.bool false) (y := .bool (decide (d.kind=4))) (by rw[h];rfl)<|.ut (d.kind=5) aA<|.wt 5<|.rv 5 (.bool true) (y := .bool (!decide (d.kind=8))) (by rw[h];rfl)<|dkD d g hi false false true (by rw[h];rfl) (by rw[h];rfl) (by rw[h];rfl)) (fun h=>.wt 3<|.rv 3 (.bool false) (y := .bool (decide (d.kind=2))) (by rw[h];rfl)<|.kf (d.kind=3) aA<|.wt 4<|.rv 4 (.bool false) (y := .bool (decide (d.kind=4))) (by rw[h];rfl)<|.ut (d.kind=5) aA<|.wt 5<|.rv 5 (.bool false) (y := .bool (!decide (d.kind=8))) (by rw[h];rfl)<|dkD d g hi false false false (by rw[h];rfl) (by rw[h];rfl) (by rw[h];rfl))))))))) (kind_8 hi))) aB
theorem sh_0 {id:Int}(h:aR id=⟨#[]⟩):0=aU id:=by unfold aU;rw[if_pos h]
theorem sh_1 {id:Int}(h:¬aR id=⟨#[]⟩):cL (aR id) % 4=aU id:=by unfold aU;rw[if_neg h]
theorem ShelfOf_i (id:Int):Ct1 prog 189 [.I id] [.I (aU id)]:=
 .one (aU id) (rk:=fun a=>[.I a])<|vc func189 (fun hg=>let hv:=cZ id
  let hr:=vZ (aR id)
  .c func86 (xF id) fun _=>.s (aR id=⟨#[]⟩)
  (fun h=>.rt 0 ⟨sh_0 h,trivial⟩)
  (fun h=>.c func69 (bS8 (aR id) aA) fun _=>.q (cL (aR id)) 4 (h:=by omega)<|.rt (cL (aR id) % 4) ⟨sh_1 h,trivial⟩)) aB
theorem ShelfOf_s (id:Int):Ct1 prog 225 [.I id] [.I (aU id)]:=
 .one (aU id) (rk:=fun a=>[.I a])<|vc func225 (fun hg=>let hv:=cZ id
  let hr:=vZ (aR id)
  .c func174 (xE id) fun _=>.s (aR id=⟨#[]⟩)
  (fun h=>.rt 0 ⟨sh_0 h,trivial⟩)
  (fun h=>.c func77 (aW1 (aR id) aA) fun _=>.q (cL (aR id)) 4 (h:=by omega)<|.rt (cL (aR id) % 4) ⟨sh_1 h,trivial⟩)) aB
noncomputable def fV (s:ByteArray) (a:Nat):ByteArray×Int:=
 if (vAt s a).2<0∨¬(1<=(vAt s a).1/\(vAt s a).1<=400)∨(s.size:Int)-(vAt s a).2-4<(vAt s a).1 then (⟨#[]⟩,-1)
 else if cL (s.extract ((vAt s a).2+4).toNat ((vAt s a).2+4+(vAt s a).1).toNat)=(yJ s (vAt s a).2.toNat).1 then (s.extract ((vAt s a).2+4).toNat ((vAt s a).2+4+(vAt s a).1).toNat,(vAt s a).2+4+(vAt s a).1) else (⟨#[]⟩,-1)
def dU (t:ByteArray):ByteArray:=if inB t.size 1 400 then aR t.size++cA (cL t)++t else ⟨#[]⟩
theorem rB (n:Int):(cA n).size<=4:=by unfold cA;split<;>simp[ByteArray.size,nM]
theorem cB7 {t:ByteArray}(h:inB (t.size:Int) 1 400=false):(⟨#[]⟩:ByteArray)=dU t:=by unfold dU;rw[h];rfl
theorem cB6 {t:ByteArray}(h:inB (t.size:Int) 1 400=true):aR t.size++cA (cL t)++t=dU t:=by unfold dU;rw[h];rfl
theorem FrameOf_i (t:ByteArray) (ht:t.size<=1048576):Ct1 prog 49 [.T t] [.T (dU t)]:=
 .one (dU t) (rk:=fun a=>[.T a])<|vc func49 (fun hg=>.c func29 (bR (t.size:Int) 1 400) fun _=>.v (inB (t.size:Int) 1 400)
  (fun h=>.rt ⟨#[]⟩ ⟨cB7 h,trivial⟩)
  (fun h=>let hv:=cZ (t.size:Int)
   let hf:=rB (cL t)
   .c func86 (xF (t.size:Int)) fun _=>.c func69 (bS8 t ht) fun _=>.c func68 (FourOfI (cL t)) fun _=>.pb .add (jK (aR t.size) (cA (cL t)) aA)<|.pb .add (jK (aR t.size++cA (cL t)) t (by rw[ByteArray.size_append];omega)) <|
   .rt (aR t.size++cA (cL t)++t) ⟨cB6 h,trivial⟩)) aB
theorem fo_e {t:ByteArray}(h:t=⟨#[]⟩):(⟨#[]⟩:ByteArray)=dU t:=cB7 (by subst h;rfl)
theorem fo_l {t:ByteArray}(h:(400:Int)<t.size):(⟨#[]⟩:ByteArray)=dU t:=cB7 (by unfold inB;simp;omega)
theorem fo_in {t:ByteArray}(h:¬t=⟨#[]⟩) (h2:¬(400:Int)<t.size):inB (t.size:Int) 1 400=true:=by
 refine inB_iff'.2 ⟨?_,by omega⟩;have:t.size≠0:=fun e=>h (by
  cases t with
  | mk a=>congr 1;exact Array.eq_empty_of_size_eq_zero e)
 omega
theorem FrameOf_s (t:ByteArray) (ht:t.size<=1048576):Ct1 prog 126 [.T t] [.T (dU t)]:=
 .one (dU t) (rk:=fun a=>[.T a])<|vc func126 (fun hg=>.s (t=⟨#[]⟩)
  (fun h=>.rt ⟨#[]⟩ ⟨fo_e h,trivial⟩)
  (fun h=>.s ((400:Int)<t.size)
   (fun h2=>.rt ⟨#[]⟩ ⟨fo_l h2,trivial⟩)
   (fun h2=>let hv:=cZ (t.size:Int)
    let hf:=rB (cL t)
    .c func174 (xE (t.size:Int)) fun _=>.c func77 (aW1 t ht) fun _=>.c func76 (aW5 (cL t)) fun _=>.pb .add (jK (aR t.size) (cA (cL t)) aA)<|.pb .add (jK (aR t.size++cA (cL t)) t (by rw[ByteArray.size_append];omega)) <|
    .rt (aR t.size++cA (cL t)++t) ⟨cB6 (fo_in h h2),trivial⟩))) aB
theorem vAt_rng {s:ByteArray}{a:Nat}(ha:a<=s.size) (h:¬(vAt s a).2<0):∃n j:Nat,vAt s a=((n:Int),(j:Int))/\a<=j/\j<=s.size:=by
 cases hv:fI (s.data.toList.drop a) with
 | none=>rw[<- aX1 hv]at h;exact absurd eZ h
 | some q=>
  obtain⟨n,k⟩:=q;obtain⟨_,hp,hk⟩:=iV hv;have hl:=hp.length_le;rw[nQ,<- hk]at hl;exact⟨n,a+k,by rw[<- zZ hv];simp,by omega,by omega⟩
def cN (n:Note):List Int:=n.seq::n.deed.kind::aY n.deed
def aE2 (l:List Int):ByteArray:=⟨(eU l).toArray⟩
noncomputable def jI (n:Note):ByteArray:=if aQ n.deed=true/\inB n.seq 1 1000000000=true/\(aE2 (cN n)).size<=400 then aE2 (cN n) else ⟨#[]⟩
theorem kQ {n:Note}(h:¬(aQ n.deed=true/\inB n.seq 1 1000000000=true/\(aE2 (cN n)).size<=400)):(⟨#[]⟩:ByteArray)=jI n:=by unfold jI;rw[if_neg h]
theorem qV {n:Note}(h:aQ n.deed=true/\inB n.seq 1 1000000000=true/\(aE2 (cN n)).size<=400):aE2 (cN n)=jI n:=by unfold jI;rw[if_pos h]
theorem aD8 (n:Note):(jI n).size<=400:=by
 unfold jI;split
 ·next h=>exact h.2.2
 exact Nat.zero_le _
def note0:Note:=⟨0,⟨0,0,zP,0,0,0,0⟩⟩
theorem z64:I64 0:=by unfold I64;omega
theorem xH:zP.ok:=⟨z64,z64,z64,z64⟩
theorem note0_ok:note0.ok:=⟨z64,z64,z64,xH,z64,z64,z64,z64⟩
def lX {σ:Type}(r:Rdr σ) (x:σ):σ×Note:=
 let a:=r.next x
 let k:=r.next a.1
 let u:=r.next k.1
 let v:=r.next u.1
 let w:=r.next v.1
 if k.2=1 then ((kP r u.1).1,⟨a.2,⟨k.2,u.2,(kP r u.1).2,0,0,0,0⟩⟩)
 else if k.2=2 then (v.1,⟨a.2,⟨k.2,0,zP,0,0,u.2,v.2⟩⟩)
 else if k.2=3∨k.2=4 then (w.1,⟨a.2,⟨k.2,u.2,zP,v.2,w.2,0,0⟩⟩)
 else if k.2=6∨k.2=7 then (u.1,⟨a.2,⟨k.2,u.2,zP,0,0,0,0⟩⟩)
 else (k.1,⟨a.2,⟨k.2,0,zP,0,0,0,0⟩⟩)
section
variable {σ:Type}{r:Rdr σ}{x:σ}
theorem noteG_1 (h:(r.next (r.next x).1).2=1):lX r x=((kP r (r.next (r.next (r.next x).1).1).1).1,⟨(r.next x).2,⟨(r.next (r.next x).1).2,(r.next (r.next (r.next x).1).1).2,(kP r (r.next (r.next (r.next x).1).1).1).2,0,0,0,0⟩⟩):=by unfold lX;simp only;rw[if_pos h]
theorem noteG_2 (h:(r.next (r.next x).1).2=2):lX r x=((r.next (r.next (r.next (r.next x).1).1).1).1,⟨(r.next x).2,⟨(r.next (r.next x).1).2,0,zP,0,0,(r.next (r.next (r.next x).1).1).2,(r.next (r.next (r.next (r.next x).1).1).1).2⟩⟩):=by unfold lX;simp only;rw[if_neg aA,if_pos h]
theorem noteG_3 (h:(r.next (r.next x).1).2=3∨(r.next (r.next x).1).2=4):lX r x=((r.next (r.next (r.next (r.next (r.next x).1).1).1).1).1,⟨(r.next x).2,⟨(r.next (r.next x).1).2,(r.next (r.next (r.next x).1).1).2,zP,(r.next (r.next (r.next (r.next x).1).1).1).2,(r.next (r.next (r.next (r.next (r.next x).1).1).1).1).2,0,0⟩⟩):=by unfold lX;simp only;rw[if_neg aA,if_neg aA,if_pos h]
theorem noteG_6 (h:(r.next (r.next x).1).2=6∨(r.next (r.next x).1).2=7):lX r x=((r.next (r.next (r.next x).1).1).1,⟨(r.next x).2,⟨(r.next (r.next x).1).2,(r.next (r.next (r.next x).1).1).2,zP,0,0,0,0⟩⟩):=by unfold lX;simp only;rw[if_neg aA,if_neg aA,if_neg aA,if_pos h]
theorem noteG_0 (h1:¬(r.next (r.next x).1).2=1) (h2:¬(r.next (r.next x).1).2=2) (h3:¬(r.next (r.next x).1).2=3) (h4:¬(r.next (r.next x).1).2=4) (h6:¬(r.next (r.next x).1).2=6) (h7:¬(r.next (r.next x).1).2=7):lX r x=((r.next (r.next x).1).1,⟨(r.next x).2,⟨(r.next (r.next x).1).2,0,zP,0,0,0,0⟩⟩):=by unfold lX;simp only;rw[if_neg h1,if_neg h2,if_neg aA,if_neg aA]
theorem mE {d:Deed}(h:aQ d=true):inB d.kind 1 8=true/\d.plan.edges.length<=31/\d=lA d/\∀n∈aY d,num n=true:=by
 unfold aQ at h;simp only[Bool.and_eq_true,decide_eq_true_eq,Bool.not_eq_true']at h;obtain⟨⟨⟨h1,h2⟩,h3⟩,h4⟩:=h;refine⟨h1,h2,eqB_iff.1 h3,fun n hn=>?_⟩;cases hq:num n with
 | true=>rfl
 | false=>rw[any_eq_true.2 ⟨n,hn,by simp[hq]⟩]at h4;cases h4
variable {Rd:σ->List Int->Prop}(F:Fwd r Rd)
include F
theorem note_fwd {n:Note}{ns:List Int}(hd:aQ n.deed=true) (h:Rd x (cN n++ns)):(lX r x).2=n/\Rd (lX r x).1 ns:=by
 obtain⟨s,d⟩:=n;obtain⟨_,hl,hu,_⟩:=mE hd;simp only at hl hu hd;unfold cN at h;obtain⟨a1,h⟩:=F.next (ns:=(d.kind::aY d)++ns) h;obtain⟨a2,h⟩:=F.next (ns:=aY d++ns) h;unfold aY at h;unfold lA at hu;split at hu
 ·next hk=>
  rw[if_pos hk]at h;have h:Rd (r.next (r.next x).1).1 (d.run::((d.plan.prio::d.plan.most::d.plan.wait::d.plan.tasks::(d.plan.edges.length:Int)::d.plan.edges.flatMap oM)++ns)):=h;rw[<- pP]at h;obtain⟨a3,h⟩:=F.next h;obtain⟨a4,h⟩:=aZ8 F hl h;rw[noteG_1 (by rw[a2];exact hk)];refine⟨?_,h⟩;simp only[a1,a2,a3,a4];rw[<- hu]
 next h1=>
 rw[if_neg h1]at h;split at hu
 ·next hk=>
  rw[if_pos hk]at h;obtain⟨a3,h⟩:=F.next (ns:=d.draw::ns) h;obtain⟨a4,h⟩:=F.next h;rw[noteG_2 (by rw[a2];exact hk)];refine⟨?_,h⟩;simp only[a1,a2,a3,a4];rw[<- hu]
 next h2=>
 rw[if_neg h2]at h;split at hu
 ·next hk=>
  rw[if_pos hk]at h;obtain⟨a3,h⟩:=F.next (ns:=d.task::d.try_::ns) h;obtain⟨a4,h⟩:=F.next h;obtain⟨a5,h⟩:=F.next h;rw[noteG_3 (by rw[a2];exact hk)];refine⟨?_,h⟩;simp only[a1,a2,a3,a4,a5];rw[<- hu]
 next h3=>
 rw[if_neg h3]at h;split at hu
 ·next hk=>
  rw[if_pos hk]at h;obtain⟨a3,h⟩:=F.next (ns:=ns) h;rw[noteG_6 (by rw[a2];exact hk)];refine⟨?_,h⟩;simp only[a1,a2,a3];rw[<- hu]
 next h4=>
 rw[if_neg h4]at h;rw[noteG_0 (by rw[a2];omega) (by rw[a2];omega) (by rw[a2];omega) (by rw[a2];omega) (by rw[a2];omega) (by rw[a2];omega)];refine⟨?_,h⟩;simp only[a1,a2];rw[<- hu]
end
section
variable {σ:Type}{r:Rdr σ}{x:σ}{In:σ->Prop}{Cs:σ->σ->List Int->Prop}(B:Bwd r In Cs)
include B
theorem note_ok (h:In x):(lX r x).2.ok:=by
 have i1:=(B.inn h).1;have i2:=(B.inn i1).1;have i3:=(B.inn i2).1;have i4:=(B.inn i3).1;unfold lX;simp only;split
 ·exact⟨n64 B h,n64 B i1,n64 B i2,plan_ok B _ i3,z64,z64,z64,z64⟩
 split
 ·exact⟨n64 B h,n64 B i1,z64,xH,z64,z64,n64 B i2,n64 B i3⟩
 split
 ·exact⟨n64 B h,n64 B i1,n64 B i2,xH,n64 B i3,n64 B i4,z64,z64⟩
 split
 ·exact⟨n64 B h,n64 B i1,n64 B i2,xH,z64,z64,z64,z64⟩
 exact⟨n64 B h,n64 B i1,z64,xH,z64,z64,z64,z64⟩
end
noncomputable def notL (s:ByteArray):LIn×Note:=lX linR ⟨s,0,false⟩
def NTx (n:Note) (s:ByteArray):Prop:=¬s=⟨#[]⟩/\jI n=s
noncomputable instance (n:Note) (s:ByteArray):Decidable (NTx n s):=Classical.propDecidable _
noncomputable def iD (s:ByteArray):Note×Bool:=if s.size<=400/\(notL s).1.bad=false/\NTx (notL s).2 s then ((notL s).2,true) else (note0,false)
theorem ntx_p {n:Note}{s:ByteArray}(h:NTx n s):aQ n.deed=true/\inB n.seq 1 1000000000=true/\s.size<=400/\∃ns,gC ns/\cN n=jW ns/\cT ns=s.data.toList:=by
 obtain⟨h0,h⟩:=h;by_cases hc:aQ n.deed=true/\inB n.seq 1 1000000000=true/\(aE2 (cN n)).size<=400
 ·rw[<- qV hc]at h;have hn:∀z∈cN n,0<=z/\z<=1000000000:=by
   intro z hz;unfold cN at hz;have h8:=inB_iff.1 (mE hc.1).1;have h9:=inB_iff.1 hc.2.1;rcases mem_cons.1 hz with rfl | hz
   ·omega
   rcases mem_cons.1 hz with rfl | hz
   ·omega
   have:=(mE hc.1).2.2.2 z hz;unfold num at this;exact inB_iff.1 this
  have e:cN n=jW ((cN n).map Int.toNat):=by
   unfold jW;rw[map_map]
   conv=>lhs;rw[<- map_id (cN n)]
   exact map_congr_left fun z hz=>by have:=hn z hz;simp only[id_eq,Function.comp_apply];omega
  have hs:gC ((cN n).map Int.toNat):=fun m hm=>by
   obtain⟨z,hz,rfl⟩:=mem_map.1 hm;have:=hn z hz;omega
  refine⟨hc.1,hc.2.1,by rw[<- h];exact hc.2.2,_,hs,e,?_⟩;rw[<- pI hs,<- e,<- h];rfl
 rw[<- kQ hc]at h;exact absurd h.symm h0
theorem readNS_iff {s:ByteArray}{n:Note}:iD s=(n,true)↔NTx n s:=by
 constructor
 ·intro h;unfold iD at h;split at h
  ·next hc=>
   simp only[Prod.mk.injEq,and_true]at h;rw[<- h];exact hc.2.2
  cases h
 intro hx;obtain⟨hd,_,hz,ns,h1,h2,h3⟩:=ntx_p hx;have hf:=note_fwd linF hd (x:=⟨s,0,false⟩) (ns:=[]) ⟨rfl,ns,h1,by rw[h2,append_nil],by rw[h3];rfl⟩;have e1:(notL s).2=n:=hf.1;have e2:(notL s).1.bad=false:=hf.2.1;unfold iD;rw[if_pos ⟨hz,e2,by rw[e1];exact hx⟩,e1]
theorem readNS_ok (s:ByteArray) (hs:s.size<=1048576):(iD s).1.ok:=by
 unfold iD;split
 ·exact note_ok linB (x:=⟨s,0,false⟩) ⟨hs,Nat.zero_le _⟩
 exact note0_ok
theorem readNS_rng {s:ByteArray}(h:(iD s).2=true):1<=(iD s).1.seq/\(iD s).1.seq<=1000000000/\(iD s).1.deed.plan.edges.length<=31/\s.size<=400:=by
 have hx:NTx (iD s).1 s:=readNS_iff.1 (by rw[<- h]);obtain⟨h1,h2,h3,_⟩:=ntx_p hx;have:=inB_iff.1 h2;exact⟨this.1,this.2,(mE h1).2.1,h3⟩
noncomputable def jD (s:ByteArray):Nat->List ByteArray×Int
 | 0=>([],0)
 | k+1=>if (fV s (jD s k).2.toNat).2<0 then jD s k else ((jD s k).1++[(fV s (jD s k).2.toNat).1],(fV s (jD s k).2.toNat).2)
noncomputable def scanR (s:ByteArray):List ByteArray×Int:=if (60000:Int)<s.size then ([],0) else jD s s.size
theorem frameAt_rng {s:ByteArray}{a:Nat}(ha:a<=s.size) (h:¬(fV s a).2<0):∃b:Nat,(fV s a).2=(b:Int)/\a+1<=b/\b<=s.size/\(fV s a).1.size<=400:=by
 unfold fV at h ⊢;split at h
 ·exact absurd eZ h
 next hc=>
 split at h
 ·next hs=>
  rw[if_neg hc,if_pos hs];have hn:¬(vAt s a).2<0:=fun h=>hc (.inl h)
  obtain⟨n,j,e,h1,h2⟩:=vAt_rng ha hn;rw[e]at hc ⊢;simp only[not_or,Decidable.not_not]at hc;refine⟨j+4+n,by simp,by omega,by omega,?_⟩;rw[ByteArray.size_extract];simp only;omega
 exact absurd eZ h
structure ScJ (s:ByteArray) (g:List ByteArray×Nat):Prop where
 ex:∃k:Nat,k<=g.2/\(g.1,(g.2:Int))=jD s k
 le:g.2<=s.size
 len:g.1.length<=g.2
theorem ScJ.start (s:ByteArray):ScJ s ([],0):=⟨⟨0,Nat.le_refl _,rfl⟩,Nat.zero_le _,Nat.le_refl _⟩
theorem scan_stop {s:ByteArray}{k:Nat}(h:(fV s (jD s k).2.toNat).2<0):∀j,k<=j->jD s j=jD s k:=by
 intro j hj
 induction j with
 | zero=>rw[show k=0 by omega]
 | succ j ih=>
  rcases Nat.lt_or_ge k (j+1) with h1 | h1
  ·have e:=ih aA;show (if (fV s (jD s j).2.toNat).2<0 then jD s j else _)=_;rw[e,if_pos h]
  rw[show k=j+1 by omega]
theorem ScJ.done {s:ByteArray}{g:List ByteArray×Nat}(h:ScJ s g) (h6:¬(60000:Int)<s.size) (hf:(fV s g.2).2<0):(g.1,(g.2:Int))=scanR s:=by
 obtain⟨k,hk,e⟩:=h.ex;unfold scanR;rw[if_neg h6,scan_stop (k:=k) (by rw[<- e];simpa using hf) _ (by have:=h.le;omega),e]
theorem ScJ.next {s:ByteArray}{g:List ByteArray×Nat}(h:ScJ s g) (hf:¬(fV s g.2).2<0):∃b:Nat,(fV s g.2).2=(b:Int)/\g.2+1<=b/\ScJ s (g.1++[(fV s g.2).1],b):=by
 obtain⟨b,e1,e2,e3,_⟩:=frameAt_rng h.le hf;obtain⟨k,hk,e⟩:=h.ex;refine⟨b,e1,e2,⟨k+1,by show k+1<=b;omega,?_⟩,e3,by have:=h.len;simp only[length_append,length_singleton];omega⟩;show _=(if (fV s (jD s k).2.toNat).2<0 then jD s k else _);rw[<- e];simp only[Int.toNat_natCast];rw[if_neg hf,e1]
def aT5 (a:List Note×Int) (b:ByteArray):Prop:=(iD b).2=true/\(a.1=[]∨(iD b).1.seq=(a.1.getLastD note0).seq+1)
noncomputable instance (a:List Note×Int) (b:ByteArray):Decidable (aT5 a b):=Classical.propDecidable _
noncomputable def wI:List Note×Int->List ByteArray->List Note×Int
 | a,[]=>a
 | a,b::bs=>if aT5 a b then wI (a.1++[(iD b).1],a.2+(dU b).size) bs else a
theorem notesF_cons (a:List Note×Int) (b:ByteArray) (bs:List ByteArray):wI a (b::bs)=if aT5 a b then wI (a.1++[(iD b).1],a.2+(dU b).size) bs else a:=rfl
structure NsJ (bs:List ByteArray) (g:Nat×List Note×Int):Prop where
 eq:wI g.2 (bs.drop g.1)=wI ([],0) bs
 le:g.1<=bs.length
 len:g.2.1.length=g.1
 rng:∀n∈g.2.1,n.ok/\1<=n.seq/\n.seq<=1000000000
 sz:0<=g.2.2/\g.2.2<=1000*(g.1:Int)
theorem NsJ.start (bs:List ByteArray):NsJ bs (0,[],0):=⟨rfl,Nat.zero_le _,rfl,fun n hn=>(by cases hn),by simp⟩
theorem NsJ.all {bs:List ByteArray}{g:Nat×List Note×Int}(h:NsJ bs g) (hk:¬(g.1:Int)<bs.length):g.2=wI ([],0) bs:=by
 have:=h.eq;rw[drop_eq_nil_of_le aA]at this;exact this
theorem frameOf_sz {b:ByteArray}(hb:b.size<=400):(dU b).size<=1000:=by
 unfold dU;split
 ·have h1:=cZ (b.size:Int);have h2:=rB (cL b);rw[ByteArray.size_append,ByteArray.size_append];omega
 exact Nat.zero_le _
theorem NsJ.next {bs:List ByteArray}{g:Nat×List Note×Int}{b:ByteArray}(h:NsJ bs g) (hb:bs[g.1]? = some b) (hz:b.size<=400) (hn:aT5 g.2 b):NsJ bs (g.1+1,g.2.1++[(iD b).1],g.2.2+(dU b).size):=by
 obtain⟨hk,rfl⟩:=gsi_.1 hb;have hr:=readNS_rng hn.1;have hf:=frameOf_sz hz;have:=h.eq;rw[drop_eq_getElem_cons hk,notesF_cons]at this;rw[if_pos hn]at this;refine⟨this,hk,by simp[h.len],fun n hm=>?_,by have:=h.sz;simp only;omega⟩;rcases mem_append.1 hm with hm | hm
 ·exact h.rng n hm
 simp only[mem_singleton]at hm;rw[hm];exact⟨readNS_ok _ aA,hr.1,hr.2.1⟩
def pN:List Note×Int->List Note->List Note
 | a,[]=>a.1
 | a,n::ns=>if n.seq<=a.2 then pN a ns else if ¬n.seq-1=a.2 then a.1 else pN (a.1++[n],n.seq) ns
theorem xT (a:List Note×Int) (n:Note) (ns:List Note):pN a (n::ns)=if n.seq<=a.2 then pN a ns else if ¬n.seq-1=a.2 then a.1 else pN (a.1++[n],n.seq) ns:=rfl
structure SiJ (ns:List Note) (q:Int) (g:Nat×List Note×Int):Prop where
 eq:pN g.2 (ns.drop g.1)=pN ([],q) ns
 le:g.1<=ns.length
 len:g.2.1.length<=g.1
 i64:I64 g.2.2
theorem SiJ.start {ns:List Note}{q:Int}(h:I64 q):SiJ ns q (0,[],q):=⟨rfl,Nat.zero_le _,Nat.le_refl _,h⟩
section
variable {ns:List Note}{q:Int}{g:Nat×List Note×Int}{n:Note}(h:SiJ ns q g)
include h
theorem SiJ.all (hk:¬(g.1:Int)<ns.length):g.2.1=pN ([],q) ns:=by
 have:=h.eq;rw[drop_eq_nil_of_le aA]at this;exact this
theorem SiJ.skip (hb:ns[g.1]? = some n) (hn:n.seq<=g.2.2):SiJ ns q (g.1+1,g.2):=by
 obtain⟨hk,rfl⟩:=gsi_.1 hb;have:=h.eq;rw[drop_eq_getElem_cons hk,xT]at this;rw[if_pos hn]at this;exact⟨this,hk,by have:=h.len;show g.2.1.length<=g.1+1;omega,h.i64⟩
theorem SiJ.next (hb:ns[g.1]? = some n) (hn:¬n.seq<=g.2.2) (h2:n.seq-1=g.2.2) (h6:I64 n.seq):SiJ ns q (g.1+1,g.2.1++[n],n.seq):=by
 obtain⟨hk,rfl⟩:=gsi_.1 hb;have:=h.eq;rw[drop_eq_getElem_cons hk,xT]at this;rw[if_neg hn,if_neg (by simpa using h2)]at this;exact⟨this,hk,by have:=h.len;simp only[length_append,length_singleton];omega,h6⟩
end
theorem aA0 {n:Note}(h:n.ok):∀y∈[n.seq,n.deed.kind],(inferInstance:Dsh Int).good y:=aV7 h.1 h.2.1
theorem aD9 {n:Note}(h:n.deed.plan.edges.length<=31):(cN n).length<=100:=by
 have:=oQ n.deed;unfold cN;simp only[length_cons];omega
theorem NoteText_i (n:Note):Ct1 prog 50 [.S n] [.T (jI n)]:=
 .one (jI n) (rk:=fun t=>[.T t])<|vc func50 (fun (hg:gin [Par.S n])=>let gn:n.ok:=hg.1.1
  .c func51 (aI8 n.deed) (hg:=⟨gn.2,trivial⟩) fun _=>.v (aQ n.deed)
  (fun h=>.rt ⟨#[]⟩ ⟨kQ (fun hc=>by rw[h]at hc;cases hc.1),trivial⟩)
  (fun h=>.c func29 (bR n.seq 1 1000000000) fun _=>.v (inB n.seq 1 1000000000)
   (fun h2=>.rt ⟨#[]⟩ ⟨kQ (fun hc=>by rw[h2]at hc;cases hc.2.1),trivial⟩)
   (fun h2=>let he:=(mE h).2.1
    let hl:=oQ n.deed
    let fin:D prog (fun t:ByteArray=>t=jI n/\rgd [Rk.T t]) := .as (inferInstance:Shape Int) gK [n.seq,n.deed.kind] (aY n.deed) 8 (by simp only[length_cons,length_nil];unfold maxLen;omega) (by simp only[length_cons,length_nil];omega) <|
     .c func87 (VarsI (cN n) (by have:=aD9 he;omega)) fun _=>.s ((400:Int)<(aE2 (cN n)).size)
     (fun h3=>.rt ⟨#[]⟩ ⟨kQ (fun hc=>by omega),trivial⟩)
     (fun h3=>.rt (aE2 (cN n)) ⟨qV ⟨h,h2,by omega⟩,trivial⟩)
    .pm fun i=>match i with
     | 5=>.lr (inferInstance:Dsh Int) gK 999999 [n.seq,n.deed.kind] (by simp) (aA0 gn)<|.c func88 (tO n.deed aA) (hg:=⟨gn.2,trivial⟩) fun _=>fin
     | _=>.c func88 (tO n.deed aA) (hg:=⟨gn.2,trivial⟩) fun _=>.lr (inferInstance:Dsh Int) gK 999999 [n.seq,n.deed.kind] (by simp) (aA0 gn) fin))) aB
noncomputable def bZ4 (n:Note) (j:Nat) (h:aQ n.deed=true) (h2:inB n.seq 1 1000000000=true):D prog (fun t:ByteArray=>t=jI n/\rgd [Rk.T t]):=
 .sh j<|.c func124 (VarsS (cN n) (by have:=aD9 (mE h).2.1;omega)) fun _=>.s ((400:Int)<(kN (cN n)).size)
  (fun h3=>.rt ⟨#[]⟩ ⟨kQ (fun hc=>by have:(aE2 (cN n)).size=(kN (cN n)).size:=rfl;omega),trivial⟩)
  (fun h3=>.rt (kN (cN n)) ⟨qV ⟨h,h2,by have:(aE2 (cN n)).size=(kN (cN n)).size:=rfl;omega⟩,trivial⟩)
theorem NoteText_s (n:Note):Ct1 prog 127 [.S n] [.T (jI n)]:=
 .one (jI n) (rk:=fun t=>[.T t])<|vc func127 (fun (hg:gin [Par.S n])=>let gn:n.ok:=hg.1.1
  let gd:n.deed.ok:=gn.2
  let gi:Dsh Int:=inferInstance
  let d:=n.deed
  .c func175 (bG1 n.deed) (hg:=⟨gn.2,trivial⟩) fun _=>.v (aQ n.deed)
  (fun h=>.rt ⟨#[]⟩ ⟨kQ (fun hc=>by rw[h]at hc;cases hc.1),trivial⟩)
  (fun h=>.c func38 (InV n.seq 1 1000000000) fun _=>.v (inB n.seq 1 1000000000)
   (fun h2=>.rt ⟨#[]⟩ ⟨kQ (fun hc=>by rw[h2]at hc;cases hc.2.1),trivial⟩)
   (fun h2=>let he:d.plan.edges.length<=31:=(mE h).2.1
    let add:∀ys:List Int,(∀y∈ys,(inferInstance:Dsh Int).good y)->ys.length<=6->ys=aY d->D prog (fun t:ByteArray=>t=jI n/\rgd [Rk.T t]):=fun ys hy hl e=>.ap gi [n.seq,d.kind] ys hy 8 (by simp only[length_cons,length_nil];unfold maxLen;omega) (by simp only[length_cons,length_nil];omega)<|.g 3 (show [n.seq,d.kind]++ys=cN n by rw[e];rfl)<|bZ4 n 3 h h2
    .lr gi gK 22 [n.seq,n.deed.kind] (by simp) (aA0 gn)<|.s (d.kind=1)
     (fun k1=>.ap gi [n.seq,d.kind] (jF d) (good6 gd aA) 8 (by simp only[jF,length_cons,length_nil];unfold maxLen;omega) (by simp only[jF,length_cons,length_nil];omega) <|
      .l (Γ:=Nat) (fun k=>k<=d.plan.edges.length) (fun k=>d.plan.edges.length-k) [777777,22,27,47] [777777] [777777] (fun k=>[vI 5 k,vR 4 3]) (fun k=>[oR 3 3 ([n.seq,d.kind]++(jF d++cF (d.plan.edges.take k)))]) 0 fun k hk t=>
       let hln:([n.seq,d.kind]++(jF d++cF (d.plan.edges.take k))).length<=70:=(by rw[length_append,length_append,lK,length_take];simp only[length_cons,length_nil];omega)
       .s ((k:Int)<d.plan.edges.length)
        (fun h5=>.x d.plan.edges k (h:=by omega) fun e he ge=>.y he fun _=>.ap gi ([n.seq,d.kind]++(jF d++cF (d.plan.edges.take k))) [e.from_,e.to_] (aV7 (show e.ok from ge).1 (show e.ok from ge).2) 8 (by simp only[length_cons,length_nil];unfold maxLen;omega) (by simp only[length_cons,length_nil];omega) <|
         .g 3 (show ([n.seq,d.kind]++(jF d++cF (d.plan.edges.take k)))++[e.from_,e.to_]=[n.seq,d.kind]++(jF d++cF (d.plan.edges.take (k+1))) by rw[append_assoc,append_assoc,bR0 he])<|.p k 1<|.n t (k+1) [])
        (fun h5=>.g 3 (show [n.seq,d.kind]++(jF d++cF (d.plan.edges.take k))=cN n by rw[bZ3 k1 h5];rfl)<|bZ4 n 3 h h2))
     (fun k1=>.s (d.kind=2)
      (fun k2=>add [d.worker,d.draw] (aV7 gd.2.2.2.2.2.1 gd.2.2.2.2.2.2) (by simp) (bZ2 k2))
      (fun k2=>let three:d.kind=3∨d.kind=4->D prog (fun t:ByteArray=>t=jI n/\rgd [Rk.T t]):=fun k=>add [d.run,d.task,d.try_] (fun z hz=>(mem_cons.1 hz).elim (fun e=>by rw[e];exact gd.2.1) (aV7 gd.2.2.2.1 gd.2.2.2.2.1 z)) (by simp) (bZ1 k)
       let one:d.kind=6∨d.kind=7->D prog (fun t:ByteArray=>t=jI n/\rgd [Rk.T t]):=fun k=>add [d.run] (all1 gd.2.1) (by simp) (bZ0 k)
       .s (d.kind=3) (fun k=>three (.inl k)) (fun k3=>.s (d.kind=4) (fun k=>three (.inr k)) (fun k4=>.s (d.kind=6) (fun k=>one (.inl k)) (fun k6=>.s (d.kind=7) (fun k=>one (.inr k)) (fun k7=>
        .g 3 (show [n.seq,d.kind]=cN n by unfold cN;rw[<- bY9 k1 k2 aA aA])<|bZ4 n 3 h h2)))))))))  aB
structure MJ {σ β:Type}(bad:σ->Bool) (one:σ->σ×β) (In:σ->Prop) (x0:σ) (m:Int) (g:Nat×σ×List β):Prop where
 le:g.1<=m.toNat
 eq:(g.2.1,g.2.2)=dS bad one x0 g.1
 inn:In g.2.1
 len:g.2.2.length<=g.1
section
variable {σ β:Type}{bad:σ->Bool}{one:σ->σ×β}{In:σ->Prop}{x0:σ}{m:Int}{g:Nat×σ×List β}
theorem MJ.start (h:In x0):MJ bad one In x0 m (0,x0,[]):=⟨Nat.zero_le _,rfl,h,Nat.le_refl _⟩
theorem MJ.next (h:MJ bad one In x0 m g) (hI:∀x,In x->In (one x).1) (hm:(g.1:Int)<m) (hb:bad g.2.1=false):MJ bad one In x0 m (g.1+1,(one g.2.1).1,g.2.2++[(one g.2.1).2]):=by
 have e1:(dS bad one x0 g.1).1=g.2.1:=by rw[<- h.eq]
 have e2:(dS bad one x0 g.1).2=g.2.2:=by rw[<- h.eq]
 refine⟨by show g.1+1<=m.toNat;omega,?_,hI _ h.inn,by have:=h.len;simp only[length_append,length_singleton];omega⟩;show _=(if bad (dS bad one x0 g.1).1=true then _ else _);rw[e1,e2,if_neg (by rw[hb];simp)]
theorem MJ.all (h:MJ bad one In x0 m g) (hm:¬(g.1:Int)<m):(g.2.1,g.2.2)=dS bad one x0 m.toNat:=by
 rw[h.eq,show g.1=m.toNat by have:=h.le;omega]
end
structure StJ (sh:Nat) (prio id:Int) (xss:List (List Entry)) (seq:Int) (ts:List Int) (g:Int×List (List Entry)):Prop where
 sq:g.1=seq+(ts.length:Int)
 sl:g.2=dZ sh prio id ts xss seq
theorem StJ.start {sh:Nat}{prio id:Int}{xss:List (List Entry)}{seq:Int}:StJ sh prio id xss seq [] (seq,xss):=⟨by simp,rfl⟩
theorem StJ.at {sh:Nat}{prio id:Int}{xss:List (List Entry)}{seq:Int}{ts:List Int}{g:Int×List (List Entry)}(h:StJ sh prio id xss seq ts g) (hs:sh<xss.length):∃l,g.2[sh]? = some l/\l.length=(xss.getD sh []).length+ts.length:=by
 refine⟨g.2.getD sh [],getD_some (by rw[h.sl,iB];exact hs),by rw[h.sl];exact lV sh prio id ts xss seq hs⟩
theorem StJ.step {sh:Nat}{prio id:Int}{xss:List (List Entry)}{seq:Int}{ts:List Int}{g:Int×List (List Entry)}(h:StJ sh prio id xss seq ts g) {l:List Entry}(hl:g.2[sh]? = some l) (t:Int):StJ sh prio id xss seq (ts++[t]) (g.1+1,g.2.set sh (eX l ⟨prio,g.1,id,t⟩)):=by
 have e:g.2.getD sh []=l:=by rw[getD_eq_getElem?_getD,hl];rfl
 refine⟨by show g.1+1=_;rw[h.sq,length_append];simp only[length_singleton];omega,?_⟩;show g.2.set sh _=_;rw[xS,<- h.sl,<- h.sq,e]
theorem cC1 {a b c d:Int}(ha:I64 a) (hb:I64 b) (hc:I64 c) (hd:I64 d):Entry.ok ⟨a,b,c,d⟩:=⟨ha,hb,hc,hd⟩
theorem fr_f1 {was r:Run}{k:Nat}{t:Task}(ht:r.tasks[k]? = some t) (h:¬t.state=2):cB was r (k+1)=cB was r k:=by
 obtain⟨hk,rfl⟩:=gsi_.1 ht;exact aG2 hk h
theorem fr_f2 {was r:Run}{k:Nat}{t u:Task}(ht:r.tasks[k]? = some t) (hu:was.tasks[k]? = some u) (h:u.state=2):cB was r (k+1)=cB was r k:=by
 obtain⟨hk,rfl⟩:=gsi_.1 ht;obtain⟨hk2,rfl⟩:=gsi_.1 hu;exact freshTo_f2 hk hk2 h
theorem fr_t1 {was r:Run}{k:Nat}{t:Task}(ht:r.tasks[k]? = some t) (h:t.state=2) (hl:¬(k:Int)<was.tasks.length):cB was r (k+1)=cB was r k++[(k:Int)]:=by
 obtain⟨hk,rfl⟩:=gsi_.1 ht;exact aO3 hk h (.inl aA)
theorem fr_t2 {was r:Run}{k:Nat}{t u:Task}(ht:r.tasks[k]? = some t) (h:t.state=2) (hu:was.tasks[k]? = some u) (h2:¬u.state=2):cB was r (k+1)=cB was r k++[(k:Int)]:=by
 obtain⟨hk,rfl⟩:=gsi_.1 ht;obtain⟨hk2,rfl⟩:=gsi_.1 hu;exact aO3 hk h (.inr ⟨hk2,h2⟩)
abbrev tM (r:Run) (ts:List Int) (seq:Int) (xss:List (List Entry)) (q:Int×List (List Entry)):Prop:=q=(seq+(ts.length:Int),dZ (aU r.id).toNat r.plan.prio r.id ts xss seq)
theorem stk_q {r:Run}{ts:List Int}{seq:Int}{xss:List (List Entry)}{k:Nat}{g:Int×List (List Entry)}(h:StJ (aU r.id).toNat r.plan.prio r.id xss seq (ts.take k) g) (hk:¬(k:Int)<ts.length):tM r ts seq xss g:=by
 have h1:=h.sq;have h2:=h.sl;rw[take_of_length_le aA]at h1 h2;exact Prod.ext h1 h2
noncomputable def bW8 (yb sn rn:Nat) (now seq:Int) (xss:List (List Entry)) (r:Run) (ts:List Int) (hs:4<=xss.length) (hln:(xss.getD (aU r.id).toNat []).length+ts.length<=1048576) (hsq:0<=seq/\seq<=4000000000) (gr:r.ok):D prog (tM r ts seq xss):=
 let hsr:=eQ r.id
 .c func189 (ShelfOf_i r.id) fun _=>
  .la (Γ:=Nat×Int×List (List Entry)) (fun g=>g.1<=ts.length/\StJ (aU r.id).toNat r.plan.prio r.id xss seq (ts.take g.1) g.2) (fun g=>ts.length-g.1) (fun g=>[vI 14 g.1]) (fun g=>[oO sn g.2.2,oB yb [.v (I now),.v (I g.2.1),.r sn,.r rn]]) (0,seq,xss) (h:=⟨Nat.zero_le _,StJ.start⟩) fun g hJ tk=>
   let hq:=hJ.2.sq
   let htl:(ts.take g.1).length<=ts.length:=(by rw[length_take];omega)
   .s ((g.1:Int)<ts.length)
    (fun h=>.ex (hJ.2.at aA) fun l hl=>.x ts g.1 (h:=by omega) fun t ht gt=>.d sn hl.1 fun _=>.ie (aU r.id).toNat (aU r.id) (he:=by omega) <|
     .c func190 (aI7 l ⟨r.plan.prio,g.2.1,r.id,t⟩ (by have:=hl.2;omega)) (hg:=⟨cC1 gr.2.1.1 (by unfold I64;omega) gr.1 gt,trivial⟩) fun _=>.ie (aU r.id).toNat (aU r.id) (he:=by omega)<|.wt 42<|.f sn g.2.2 (eX l ⟨r.plan.prio,g.2.1,r.id,t⟩) (h:=trivial) <|
     .p g.2.1 1<|.p g.1 1<|.n tk (g.1+1,g.2.1+1,g.2.2.set (aU r.id).toNat (eX l ⟨r.plan.prio,g.2.1,r.id,t⟩)) [] (h1:=⟨by show g.1+1<=_;omega,by show StJ _ _ _ _ _ (ts.take (g.1+1)) _;rw[<- cX ht];exact hJ.2.step hl.1 t⟩) (h2:=by show ts.length-(g.1+1)<_;omega))
    (fun h=>.rt g.2 (stk_q hJ.2 h))
def qF (r r':Run) (j:Nat):List Int:=((aH r'.tasks 2).take j).filter (fun t=> !decide (t∈aH r.tasks 2))
theorem chgTo_len (r r':Run) (j:Nat):(qF r r' j).length<=j:=Nat.le_trans (length_filter_le _ _) (by rw[length_take];omega)
theorem chgTo_t {r r':Run}{j:Nat}{v:Int}(h:(aH r'.tasks 2)[j]? = some v) (hn:¬v∈aH r.tasks 2):qF r r' j++[v]=qF r r' (j+1):=by
 unfold qF;rw[<- cX h,filter_append];simp[hn]
theorem chgTo_f {r r':Run}{j:Nat}{v:Int}(h:(aH r'.tasks 2)[j]? = some v) (hn:v∈aH r.tasks 2):qF r r' j=qF r r' (j+1):=by
 unfold qF;rw[<- cX h,filter_append];simp[hn]
theorem chgTo_e {r r':Run}{j:Nat}(h:¬(j:Int)<(aH r'.tasks 2).length):qF r r' j=cQ r r':=by
 unfold qF cQ;rw[take_of_length_le aA]
noncomputable def zQ (yb sn rn w:Nat) (now seq:Int) (xss:List (List Entry)) (runs:List Run) (k:Nat) (ki:Int) (hki:ki=k) (r r':Run) (hr:runs[k]? = some r) (hrl:r.tasks.length<=1000) (hrl':r'.tasks.length<=1000) (gr:r.ok) (gr':r'.ok) (hs:4<=xss.length) (hln:(xss.getD (aU r'.id).toNat []).length<=1000000) (hsq:0<=seq/\seq<=4000000000)
  (how:D prog (tM r' (cQ r r') seq xss)->D prog (tM r' (cQ r r') seq xss)):D prog (tM r' (cQ r r') seq xss):=
 let hti:(aH r'.tasks 2).length<=r'.tasks.length:=eP r'.tasks 2 r'.tasks.length
 let hff:=kS r r'
 .d rn hr fun _=>.ie k ki (he:=hki)<|.c func136 (kD r 2 aA) (hg:=⟨gr,trivial⟩) fun _=>.ie k ki (he:=hki)<|how<|.w Int 3 7<|.ie k ki (he:=hki)<|.c func136 (kD r' 2 aA) (hg:=⟨gr',trivial⟩) fun _=>
  .la (Γ:=Nat) (fun j=>j<=(aH r'.tasks 2).length) (fun j=>(aH r'.tasks 2).length-j) (fun j=>[vI 35 j,vR 7 w]) (fun j=>[oR w 3 (qF r r' j)]) 0 fun j hj t=>let hcl:=chgTo_len r r' j
   .s ((j:Int)<(aH r'.tasks 2).length)
    (fun h=>.x (aH r'.tasks 2) j (h:=by omega) fun v hv gv=>.c func101 (bT8 (aH r.tasks 2) v (by have:=eP r.tasks 2 r.tasks.length;show (cH r.tasks 2 r.tasks.length).length<=_;omega)) fun _=>.u (v∈aH r.tasks 2)
     (fun h2=>.a (qF r r' j) v 8 (hby:=by omega)<|.g w (chgTo_t hv h2)<|.p j 1<|.n t (j+1) [])
     (fun h2=>.g w (chgTo_f hv h2)<|.p j 1<|.n t (j+1) []))
    (fun h=>.g w (chgTo_e (r:=r) h)<|.ie k ki (he:=hki)<|.in_ func135 (bW8 yb sn rn now seq xss r' (cQ r r') hs aA hsq gr') fun q hq=>.wt 999<|.f rn runs r' (h:=gr')<|.rt q hq)
theorem lay_q {was r:Run}{seq:Int}{xss:List (List Entry)}{k:Nat}{g:Int×List (List Entry)}(h:StJ (aU r.id).toNat r.plan.prio r.id xss seq (cB was r k) g) (hk:k<=r.tasks.length) (hn:¬(k:Int)<r.tasks.length):tM r (cQ was r) seq xss g:=by
 have e:cB was r k=cQ was r:=by rw[show k=r.tasks.length by omega];rfl
 exact Prod.ext (by rw[<- e];exact h.sq) (by rw[<- e];exact h.sl)
noncomputable def layD (z:Bool) (b sn rn:Nat) (now seq:Int) (xss:List (List Entry)) (was r:Run) (hs:4<=xss.length) (hln:(xss.getD (aU r.id).toNat []).length<=1000000) (hrl:r.tasks.length<=1000) (hsq:0<=seq/\seq<=4000000000) (gr:r.ok) (hz:z=true->was.tasks=[]):D prog (tM r (cQ was r) seq xss):=
 let hsr:=eQ r.id
 .c func225 (ShelfOf_s r.id) fun _=>
  .la (Γ:=Nat×Int×List (List Entry)) (fun g=>g.1<=r.tasks.length/\StJ (aU r.id).toNat r.plan.prio r.id xss seq (cB was r g.1) g.2) (fun g=>r.tasks.length-g.1) (fun g=>[vI 8 g.1]) (fun g=>[oO sn g.2.2,oB b [.v (I now),.v (I g.2.1),.r sn,.r rn]]) (0,seq,xss) (h:=⟨Nat.zero_le _,by rw[freshTo_zero];exact StJ.start⟩) fun g hJ tk=>
   let hq:=hJ.2.sq
   let hfl:=freshTo_len was r g.1
   .s ((g.1:Int)<r.tasks.length)
    (fun h=>.x r.tasks g.1 (h:=by omega) fun t ht gt=>
     let skip:cB was r (g.1+1)=cB was r g.1->D prog (tM r (cQ was r) seq xss):=fun hf=>.p g.1 1<|.n tk (g.1+1,g.2) [] (h1:=⟨by show g.1+1<=_;omega,by show StJ _ _ _ _ _ (cB was r (g.1+1)) _;rw[hf];exact hJ.2⟩) (h2:=by show r.tasks.length-(g.1+1)<_;omega)
     let put:cB was r (g.1+1)=cB was r g.1++[(g.1:Int)]->D prog (tM r (cQ was r) seq xss):=fun hf=>.ex (hJ.2.at aA) fun l hl=>.d sn hl.1 fun _=>.ie (aU r.id).toNat (aU r.id) (he:=by omega) <|
      .c func226 (aI6 l ⟨r.plan.prio,g.2.1,r.id,g.1⟩ (by have:=hl.2;omega)) (hg:=⟨cC1 gr.2.1.1 (by unfold I64;omega) gr.1 (by unfold I64;omega),trivial⟩) fun _=>.ie (aU r.id).toNat (aU r.id) (he:=by omega)<|.wt 60<|.f sn g.2.2 (eX l ⟨r.plan.prio,g.2.1,r.id,g.1⟩) (h:=trivial) <|
      .p g.2.1 1<|.p g.1 1<|.n tk (g.1+1,g.2.1+1,g.2.2.set (aU r.id).toNat (eX l ⟨r.plan.prio,g.2.1,r.id,g.1⟩)) [] (h1:=⟨by show g.1+1<=_;omega,by show StJ _ _ _ _ _ (cB was r (g.1+1)) _;rw[hf];exact hJ.2.step hl.1 g.1⟩) (h2:=by show r.tasks.length-(g.1+1)<_;omega)
     .u (t.state=2)
      (fun h2=>skip (fr_f1 ht h2))
      (fun h2=>.s ((g.1:Int)<was.tasks.length)
       (fun h3=>match z,hz with
        | true,hz=>.ab (by rw[hz rfl]at h3;simp at h3;omega)
        | false,_=>.x was.tasks g.1 (h:=by omega) fun u hu gu=>.s (u.state=2)
         (fun h4=>skip (fr_f2 ht hu h4))
         (fun h4=>put (fr_t2 ht h2 hu h4)))
       (fun h3=>put (fr_t1 ht h2 h3))))
    (fun h=>.rt g.2 (lay_q hJ.2 hJ.1 h))
theorem aR8 {y:Yard}{k:Nat}{was r:Run}{q:Int×List (List Entry)}(hq:tM r (cQ was r) y.seq y.shelf q):(⟨y.now,q.1,q.2,y.runs.set k r⟩:Yard)=cR y k was r:=by
 have hq:q=_:=hq;rw[hq];rfl
theorem aW0 (y:Yard) (e:Int) (k:Nat) (was r:Run) (he:e=k) (hk:y.runs[k]? = some was) (hss:4<=y.shelf.length) (hrl:r.tasks.length<=1000) (hln:(y.shelf.getD (aU r.id).toNat []).length<=1000000) (hsq:0<=y.seq/\y.seq<=4000000000) (gr:r.ok) (gy:(cR y k was r).ok) :
  Cw prog 216 [.ow inferInstance y,.bw (.I e),.ow inferInstance r] (fun _:Unit=>True) (fun _=>[.S (cR y k was r)]):=
 Cw.one (cR y k was r) (rk:=fun x=>[.S x])<|vcw func216 (fun hg=>.d 1 hk fun gw=>.ie k e (he:=he)<|.ie k e (he:=he)<|.in_ func209 (layD false 11 0 1 y.now y.seq y.shelf was r hss hln hrl hsq gr (fun z=>by cases z)) fun q hq=>
  .wt 999<|.f 1 y.runs r (h:=gr)<|.rt ⟨y.now,q.1,q.2,y.runs.set k r⟩ ⟨aR8 hq,by rw[aR8 hq];exact gy,trivial⟩) aB
theorem runs_no {r:Run}{task:Int}(h:dP r=false):false=gD r task:=by unfold gD;rw[h];rfl
theorem runs_out {r:Run}{task:Int}(h:inB task 0 ((r.tasks.length:Int)-1)=false):false=gD r task:=by unfold gD;rw[h];simp
theorem runs_in {r:Run}{task:Int}{t:Task}(h0:dP r=true) (h:inB task 0 ((r.tasks.length:Int)-1)=true) (ht:r.tasks[task.toNat]? = some t):decide (t.state=3)=gD r task:=by unfold gD;rw[h0,h,ht];rfl
theorem cF3 (r:Run) (task:Int):Ct1 prog 222 [.S r,.I task] [.B (gD r task)]:=
 .one (gD r task) (rk:=fun x=>[.B x])<|vc func222 (fun (hg:gin [Par.S r,Par.I task])=>let hrl:=hg.1.2.2.1
  .c func118 (aW2 r) (hg:=⟨hg.1.1,trivial⟩) fun _=>.sb (dP r)
  (fun h0=>.m (r.tasks.length:Int) 1 (h:=by unfold I64;omega)<|.c func38 (InV task 0 ((r.tasks.length:Int)-1)) fun _=>.sb (inB task 0 ((r.tasks.length:Int)-1))
   (fun h1=>.ex (tA h1) fun t ht=>.ye ht task (he:=hQ h1) fun _=>.rt (decide (t.state=3)) ⟨runs_in h0 h1 ht,trivial⟩)
   (fun h1=>.rt false ⟨runs_out h1,trivial⟩))
  (fun h0=>.rt false ⟨runs_no h0,trivial⟩)) aB
abbrev ownRun (r:Run):List Lr:=[.v (I r.id),.v (I r.plan.prio),.v (I r.plan.most),.v (I r.plan.wait),.v (I r.plan.tasks),.o (inferInstance:Shape Edge) r.plan.edges,.v (I r.state),.o (inferInstance:Shape Task) r.tasks]
theorem bT3 (r:Run) (st:Int) (hs:I64 st) (hl:r.tasks.length<=1048576) (gr:r.ok):Co prog 224 (ownRun r) true [.I st] (fun _:Unit=>True) (fun _=>[.S (⟨r.id,r.plan,st,cU r.tasks⟩:Run)]):=
 vco func224 (fun hg ho=>.wt 4<|.g 1 (leaveSTo_zero r.tasks).symm<|.l (Γ:=Nat) (fun k=>k<=r.tasks.length) (fun k=>r.tasks.length-k) [1,2,4] [3,1000000] [] (fun k=>[vI 5 k]) (fun k=>[oO 0 r.plan.edges,oO 1 (eC r.tasks k),oB 2 [.v (I r.id),.v (I r.plan.prio),.v (I r.plan.most),.v (I r.plan.wait),.v (I r.plan.tasks),.r 0,.v (I r.state),.r 1]]) 0 fun k hk t=>let hln:=leaveSTo_len r.tasks k
   .s ((k:Int)<(eC r.tasks k).length)
    (fun h=>.ex (p:=fun u=>r.tasks[k]? = some u) ⟨_,getElem?_eq_getElem (show k<r.tasks.length by omega)⟩ fun u hu=>.y (yG hu) fun gu=>
     let fin:∀y:Task,eA u=y->Task.ok y->D prog (fun _:Unit=>True/\rgd [Rk.S (⟨r.id,r.plan,st,cU r.tasks⟩:Run)]):=fun y hy gy=>.d 1 (yG hu) fun _=>.i k<|.wt 12<|.f 1 (eC r.tasks k) y (h:=gy)<|.g 1 (leaveSTo_set hu hy)<|.p k 1<|.n t (k+1) []
     .u (u.state=4)
      (fun h4=>.u (u.state=5)
       (fun h5=>fin ⟨6,u.need,u.try_,0⟩ (leaveS1_t h4 h5) ⟨by show I64 6;unfold I64;omega,(show Task.ok u from gu).2.1,(show Task.ok u from gu).2.2.1,by show I64 0;unfold I64;omega⟩)
       (fun h5=>fin u (leaveS1_5 h5) gu))
      (fun h4=>fin u (leaveS1_4 h4) gu))
    (fun h=>.g 1 (show eC r.tasks k=cU r.tasks by rw[show k=r.tasks.length by omega];exact leaveSTo_all _)<|.rt () ⟨trivial,⟨gr.1,gr.2.1,hs⟩,trivial⟩)) aB
theorem rf_no {r:Run}{task:Int}(h:gD r task=false):r=bV r task:=by unfold bV;rw[if_neg (by rw[h];simp)]
theorem rf_a {r:Run}{task:Int}{t:Task}(h:gD r task=true) (ht:r.tasks[task.toNat]? = some t) (hl:t.try_<r.plan.most):(⟨r.id,r.plan,r.state,r.tasks.set task.toNat ⟨2,t.need,t.try_,0⟩⟩:Run)=bV r task:=by
 unfold bV aG8;rw[if_pos h,ht];simp only;rw[if_pos hl]
theorem rf_b {r:Run}{task:Int}{t:Task}(h:gD r task=true) (ht:r.tasks[task.toNat]? = some t) (hl:¬t.try_<r.plan.most):(⟨r.id,r.plan,3,cU (r.tasks.set task.toNat ⟨5,t.need,t.try_,0⟩)⟩:Run)=bV r task:=by
 unfold bV aG8;rw[if_pos h,ht];simp only;rw[if_neg hl]
theorem tN (r:Run) (task:Int) (hl:r.plan.edges.length<=1048576) (htl:r.tasks.length<=1048576):Ct1 prog 199 [.S r,.I task] [.S (bV r task)]:=
 .one (bV r task) (rk:=fun x=>[.S x])<|vc func199 (fun (hg:gin [Par.S r,Par.I task])=>let gr:=hg.1.1
  .c func115 (lR r hl htl) (hg:=⟨gr,trivial⟩) fun _=>.c func222 (cF3 r task) (hg:=⟨gr,trivial⟩) fun _=>.v (gD r task)
   (fun h=>.rt r ⟨rf_no h,gr,trivial⟩)
   (fun h=>.ex (aB8 h).2 fun t ht=>.d 5 ht.2.1 fun gt=>.ie task.toNat task (he:=by omega)<|.ie task.toNat task (he:=by omega)<|.ie task.toNat task (he:=by omega)<|.s (t.try_<r.plan.most)
    (fun h2=>.f 5 r.tasks ⟨2,t.need,t.try_,0⟩ (h:=aK9 gt aA)<|.rt ⟨r.id,r.plan,r.state,r.tasks.set task.toNat ⟨2,t.need,t.try_,0⟩⟩ ⟨rf_a h ht.2.1 h2,gr,trivial⟩)
    (fun h2=>.ie task.toNat task (he:=by omega)<|.wt 39<|.f 5 r.tasks ⟨5,t.need,t.try_,0⟩ (h:=aK9 gt aA) <|
     .co _ func224 (bT3 ⟨r.id,r.plan,r.state,r.tasks.set task.toNat ⟨5,t.need,t.try_,0⟩⟩ 3 (by unfold I64;omega) (by rw[length_set];exact htl) gr) trivial fun _ _ hq=>.rt ⟨r.id,r.plan,3,cU (r.tasks.set task.toNat ⟨5,t.need,t.try_,0⟩)⟩ ⟨rf_b h ht.2.1 h2,hq.1.1,trivial⟩))) aB
theorem cF1 (y:Yard) (id task try_:Int) (hw:y.wt<=1048576):Ct1 prog 142 [.S y,.I id,.I task,.I try_] [.I (dD y id task try_)]:=
 .one (dD y id task try_) (rk:=fun x=>[.I x])<|vc func142 (fun (hg:gin [Par.S y,Par.I id,Par.I task,Par.I try_])=>.c func53 (jN y hw) (hg:=⟨hg.1.1,trivial⟩) fun _=>.v (aG y)
  (fun h=>.rt 8 ⟨by unfold dD;rw[if_pos h],trivial⟩)
  (fun h=>.c func103 (jP y id hw) (hg:=⟨hg.1.1,trivial⟩) fun _=>.s (aF y id<0)
   (fun h2=>.rt 10 ⟨by unfold dD;rw[if_neg (by rw[h];simp),if_pos h2],trivial⟩)
   (fun h2=>.c func149 (aW4 y id task try_ hw) (hg:=⟨hg.1.1,trivial⟩) fun _=>.v (eE y id task try_)
    (fun h3=>.rt 11 ⟨by unfold dD;rw[if_neg (by rw[h];simp),if_neg h2,if_pos h3],trivial⟩)
    (fun h3=>.rt 0 ⟨by unfold dD;rw[if_neg (by rw[h];simp),if_neg h2,if_neg (by rw[h3];simp)],trivial⟩)))) aB
theorem Ask_s (y:Yard) (id task try_:Int) (hw:y.wt<=1048576):Ct1 prog 215 [.S y,.I id,.I task,.I try_] [.I (dD y id task try_)]:=
 .one (dD y id task try_) (rk:=fun x=>[.I x])<|vc func215 (fun (hg:gin [Par.S y,Par.I id,Par.I task,Par.I try_])=>.c func72 (jM y hw) (hg:=⟨hg.1.1,trivial⟩) fun _=>.v (aG y)
  (fun h=>.rt 8 ⟨by unfold dD;rw[if_pos h],trivial⟩)
  (fun h=>.c func119 (jO y id hw) (hg:=⟨hg.1.1,trivial⟩) fun _=>.s (aF y id<0)
   (fun h2=>.rt 10 ⟨by unfold dD;rw[if_neg (by rw[h];simp),if_pos h2],trivial⟩)
   (fun h2=>.c func227 (Holds_s y id task try_ hw) (hg:=⟨hg.1.1,trivial⟩) fun _=>.v (eE y id task try_)
    (fun h3=>.rt 11 ⟨by unfold dD;rw[if_neg (by rw[h];simp),if_neg h2,if_pos h3],trivial⟩)
    (fun h3=>.rt 0 ⟨by unfold dD;rw[if_neg (by rw[h];simp),if_neg h2,if_neg (by rw[h3];simp)],trivial⟩)))) aB
theorem fail_at {y:Yard}{id task try_:Int}{k:Nat}{r:Run}{t:Task}(h:dD y id task try_=0) (hk:bS y id=some k) (hr:y.runs[k]? = some r) (hR:RunIs r) (h0:0<=task) (ht:r.tasks[task.toNat]? = some t) (h3:t.state=3):cR y k r (bV r task)=mC y id task try_:=by
 unfold mC;rw[nC h hk hr,xV hR h0 ht h3]
theorem aX2 {y:Yard}(hY:YardIs y) (id:Int):4<=y.shelf.length/\(y.shelf.getD (aU id).toNat []).length<=1000000/\(0<=y.seq/\y.seq<=4000000000):=by
 refine⟨by rw[hY.shelf];exact Nat.le_refl _,?_,by have:=hY.seq;omega⟩;have h:=kK hY (aU id).toNat (by have:=eQ id;omega);omega
theorem Fail_s (y:Yard) (id task try_:Int) (hw:y.wt<=1048576):Ct1 prog 179 [.S y,.I id,.I task,.I try_] [.S (mC y id task try_),.I (dD y id task try_)]:=
 .one (mC y id task try_,dD y id task try_) (rk:=fun q=>[.S q.1,.I q.2])<|vc func179 (fun (hg:gin [Par.S y,Par.I id,Par.I task,Par.I try_])=>let gy:=hg.1.1
  .c func61 (eI y hw) (hg:=⟨gy,trivial⟩) fun _=>.c func215 (Ask_s y id task try_ hw) (hg:=⟨gy,trivial⟩) fun _=>.u (dD y id task try_=0)
   (fun h=>.rt (y,dD y id task try_) ⟨by rw[mC,nB h],gy,trivial⟩)
   (fun h=>let ha:=xC h
    .ex (p:=fun q:Nat×Run×Task=>bS y id=some q.1/\y.runs[q.1]? = some q.2.1/\RunIs q.2.1/\0<=task/\q.2.1.tasks[task.toNat]? = some q.2.2/\q.2.2.state=3) (ha.2.elim fun k hk=>hk.elim fun r hr=>hr.elim fun t ht=>⟨(k,r,t),ht⟩) fun q hq=>
    let hrf:=xV hq.2.2.1 hq.2.2.2.1 hq.2.2.2.2.1 hq.2.2.2.2.2
    let hpre:=aX2 ha.1 (bV q.2.1 task).id
    let hlen:(bV q.2.1 task).tasks.length<=1000:=(by rw[hrf,(jL _ _).2.2.1];have:=hq.2.2.1.small;omega)
    .c func119 (jO y id hw) (hg:=⟨gy,trivial⟩) fun _=>.ye hq.2.1 (aF y id) (he:=cE hq.1) fun gr=>.c func199 (tN q.2.1 task (aE9 hq.2.2.1).1 (aE9 hq.2.2.1).2) (hg:=⟨gr,trivial⟩) fun hf=>
     .cw _ func216 (aW0 y (aF y id) q.1 q.2.1 (bV q.2.1 task) (cE hq.1) hq.2.1 hpre.1 hlen hpre.2.1 hpre.2.2 hf.1.1 (tH ha.1 hlen)) ⟨trivial,trivial⟩ fun _ _ hz=>.rt (cR y q.1 q.2.1 (bV q.2.1 task),0) ⟨by rw[fail_at h hq.1 hq.2.1 hq.2.2.1 hq.2.2.2.1 hq.2.2.2.2.1 hq.2.2.2.2.2,h],hz.1.1,trivial⟩)) aB
theorem rd_no {r:Run}{task:Int}(h:gD r task=false):r=fU r task:=by unfold fU;rw[if_neg (by rw[h];simp)]
theorem rd_val {r:Run}{task:Int}{t:Task}(hB:gD r task=true) (hR:RunIs r) (h0:0<=task) (ht:r.tasks[task.toNat]? = some t) (h3:t.state=3):(⟨r.id,r.plan,bG (bF r task.toNat t),bF r task.toNat t⟩:Run)=fU r task:=by
 unfold fU;rw[if_pos hB,vF ht];unfold sH;rw[<- yK hR ht h3]
theorem st_i64 (ts:List Task):I64 (bG ts):=by unfold bG I64;(repeat' split)<;>omega
theorem RunDone_s (r:Run) (task:Int) (hl:r.plan.edges.length<=1048576) (htl:r.tasks.length<=1048576):Ct1 prog 198 [.S r,.I task] [.S (fU r task)]:=
 .one (fU r task) (rk:=fun x=>[.S x])<|vc func198 (fun (hg:gin [Par.S r,Par.I task])=>let gr:=hg.1.1
  .c func115 (lR r hl htl) (hg:=⟨gr,trivial⟩) fun _=>.c func222 (cF3 r task) (hg:=⟨gr,trivial⟩) fun _=>.v (gD r task)
   (fun h=>.rt r ⟨rd_no h,gr,trivial⟩)
   (fun h=>.ex (p:=fun t=>r.tasks[task.toNat]? = some t/\t.state=3/\0<=task/\RunIs r) ((aB8 h).2.elim fun t ht=>⟨t,ht.2.1,ht.2.2,ht.1,(aB8 h).1⟩) fun t ht=>
    let hR:=ht.2.2.2
    .d 5 ht.1 fun gt=>.ie task.toNat task (he:=by omega)<|.ie task.toNat task (he:=by omega)<|.wt 26<|.f 5 r.tasks ⟨4,t.need,t.try_,0⟩ (h:=aK9 gt aA) <|
    .c func223 (BehindP_s r.plan task hR.plan) (hg:=⟨gr.2.1,trivial⟩) fun _=>.g 5 (aQ2 (r.tasks.set task.toNat ⟨4,t.need,t.try_,0⟩) (aO r.plan task)).symm <|
    .l (Γ:=Nat) (fun k=>k<=(aO r.plan task).length) (fun k=>(aO r.plan task).length-k) [4,5,6] [3,4,8] [] (fun k=>[vI 7 k]) (fun k=>[oO 5 (mZ (r.tasks.set task.toNat ⟨4,t.need,t.try_,0⟩) ((aO r.plan task).take k)),oB 6 [.v (I r.id),.v (I r.plan.prio),.v (I r.plan.most),.v (I r.plan.wait),.v (I r.plan.tasks),.r 4,.v (I r.state),.r 5]]) 0 fun k hk tk=>
     .s ((k:Int)<(aO r.plan task).length)
      (fun hlt=>.ex (rd_in hR ht.1 k aA) fun q hq=>
       let fin:∀y:Task,gX q.2=y->Task.ok y->D prog (fun x:Run=>x=fU r task/\rgd [Rk.S x]):=fun y hy gy=>.d 5 hq.2.1 fun _=>.y hq.1 fun _=>.ie q.1.toNat q.1 (he:=by omega)<|.wt 34<|.f 5 (mZ (r.tasks.set task.toNat ⟨4,t.need,t.try_,0⟩) ((aO r.plan task).take k)) y (h:=gy)<|.g 5 (bS0 hq.1 hq.2.1 hy).symm<|.p k 1 (h:=by have:=tK r.plan task;unfold I64;omega)<|.n tk (k+1) []
       .y hq.1 fun _=>.ye hq.2.1 q.1 (he:=by omega) fun gu=>.m q.2.need 1<|.s (q.2.need-1=0)
        (fun h0=>fin ⟨2,q.2.need-1,q.2.try_,q.2.until_⟩ (bP0 h0) (yY gu hq.2.2.2 2 (by unfold I64;omega)))
        (fun h0=>fin ⟨q.2.state,q.2.need-1,q.2.try_,q.2.until_⟩ (bO9 h0) (yY gu hq.2.2.2 _ gu.1)))
      (fun hge=>.g 5 (rd_ts (t:=t) ht.2.2.1 (show k=(aO r.plan task).length by omega))<|.c func172 (bS9 ⟨r.id,r.plan,r.state,bF r task.toNat t⟩ (doneTs_st hR ht.1) (by show (bF r task.toNat t).length<=_;rw[oN];exact htl)) (hg:=⟨gr,trivial⟩) fun _=>
       .rt ⟨r.id,r.plan,bG (bF r task.toNat t),bF r task.toNat t⟩ ⟨rd_val h hR ht.2.2.1 ht.1 ht.2.1,⟨gr.1,gr.2.1,st_i64 _⟩,trivial⟩))) aB
theorem done_at {y:Yard}{id task try_:Int}{k:Nat}{r:Run}{t:Task}(h:dD y id task try_=0) (hk:bS y id=some k) (hr:y.runs[k]? = some r) (hR:RunIs r) (h0:0<=task) (ht:r.tasks[task.toNat]? = some t) (h3:t.state=3):cR y k r (fU r task)=dV y id task try_:=by
 unfold dV;rw[nC h hk hr,aC4 hR h0 ht h3]
theorem Complete_s (y:Yard) (id task try_:Int) (hw:y.wt<=1048576):Ct1 prog 178 [.S y,.I id,.I task,.I try_] [.S (dV y id task try_),.I (dD y id task try_)]:=
 .one (dV y id task try_,dD y id task try_) (rk:=fun q=>[.S q.1,.I q.2])<|vc func178 (fun (hg:gin [Par.S y,Par.I id,Par.I task,Par.I try_])=>let gy:=hg.1.1
  .c func61 (eI y hw) (hg:=⟨gy,trivial⟩) fun _=>.c func215 (Ask_s y id task try_ hw) (hg:=⟨gy,trivial⟩) fun _=>.u (dD y id task try_=0)
   (fun h=>.rt (y,dD y id task try_) ⟨by rw[dV,nB h],gy,trivial⟩)
   (fun h=>let ha:=xC h
    .ex (p:=fun q:Nat×Run×Task=>bS y id=some q.1/\y.runs[q.1]? = some q.2.1/\RunIs q.2.1/\0<=task/\q.2.1.tasks[task.toNat]? = some q.2.2/\q.2.2.state=3) (ha.2.elim fun k hk=>hk.elim fun r hr=>hr.elim fun t ht=>⟨(k,r,t),ht⟩) fun q hq=>
    let hrf:=aC4 hq.2.2.1 hq.2.2.2.1 hq.2.2.2.2.1 hq.2.2.2.2.2
    let hpre:=aX2 ha.1 (fU q.2.1 task).id
    let hlen:(fU q.2.1 task).tasks.length<=1000:=(by rw[hrf,(kT _ _).2.2.1];have:=hq.2.2.1.small;omega)
    .c func119 (jO y id hw) (hg:=⟨gy,trivial⟩) fun _=>.ye hq.2.1 (aF y id) (he:=cE hq.1) fun gr=>.c func198 (RunDone_s q.2.1 task (aE9 hq.2.2.1).1 (aE9 hq.2.2.1).2) (hg:=⟨gr,trivial⟩) fun hf=>
     .cw _ func216 (aW0 y (aF y id) q.1 q.2.1 (fU q.2.1 task) (cE hq.1) hq.2.1 hpre.1 hlen hpre.2.1 hpre.2.2 hf.1.1 (tH ha.1 hlen)) ⟨trivial,trivial⟩ fun _ _ hz=>.rt (cR y q.1 q.2.1 (fU q.2.1 task),0) ⟨by rw[done_at h hq.1 hq.2.1 hq.2.2.1 hq.2.2.2.1 hq.2.2.2.2.1 hq.2.2.2.2.2,h],hz.1.1,trivial⟩)) aB
theorem rest_run {y out:Yard}{n k:Nat}{r1:Run}(h:RI y out n) (hr:y.runs[k]? = some r1):∃r2,out.runs[k]? = some r2/\RunIs r2/\r2.tasks.length=r1.tasks.length:=by
 obtain⟨r2,h1,h2,h3,h4,h5⟩:=h.run k r1 hr;exact⟨r2,h1,h2,h4⟩
theorem aM3 {y out:Yard}{n k i:Nat}{r:Run}{t:Task}(hY:YardIs y) (h:RI y out n) (hn:n<=900) (hr:out.runs[k]? = some r) (ht:r.tasks[i]? = some t) (h3:t.state=3) (hR:RunIs r):(4<=out.shelf.length/\(out.shelf.getD (aU (bV r (i:Int)).id).toNat []).length<=1000000/\(0<=out.seq/\out.seq<=4000000000))/\(bV r (i:Int)).tasks.length<=1000/\(cR out k r (bV r (i:Int))).ok/\cR out k r (bV r (i:Int))=iG out k i:=by
 have he:=xW hR ht h3;refine⟨h.chg hY aA _,by rw[he];have:=(hR.fails ht h3).small;omega,by rw[he];exact(h.change hY hr ht h3 hR).ok hY aA,by rw[he];exact(bJ9 hr ht h3).symm⟩
theorem aY9 {y:Yard}(hY:YardIs y) {k:Nat}(hk:k<=y.runs.length):RI y (kO y k) 96:=(RI.outer hY k hk).mono (by have:=hY.runs;omega)
theorem bN0 {y:Yard}(hY:YardIs y) {k i:Nat}{r:Run}(hr:y.runs[k]? = some r) (hi:i<=r.tasks.length):RI y (nH (kO y k) k i) 200:=(RI.at hY (gsi_.1 hr).1).mono (by have:=hY.runs;have:=(gsi_.1 hr).1;have:=(hY.run k r hr).1.small;omega)
abbrev ryS (y:Yard) (b s r:Nat):List (Nat×To):=[oB b [.v (I y.now),.v (I y.seq),.r s,.r r],oO s y.shelf,oO r y.runs]
theorem Restart_s (y:Yard) (hw:y.wt<=1048576):Ct1 prog 183 [.S y] [.S (cM y)]:=
 .one (cM y) (rk:=fun x=>[.S x])<|vc func183 (fun (hg:gin [Par.S y])=>let gy:=hg.1.1
  .c func61 (eI y hw) (hg:=⟨gy,trivial⟩) fun _=>.c func72 (jM y hw) (hg:=⟨gy,trivial⟩) fun _=>.v (aG y)
   (fun h=>.rt y ⟨by unfold cM;rw[if_neg (by rw[h];simp)],gy,trivial⟩)
   (fun h=>let hY:=iA h
    .l (Γ:=Nat×Yard) (fun g=>g.1<=y.runs.length/\g.2=kO y g.1) (fun g=>y.runs.length-g.1) [2,3] [3] [] (fun g=>[vI 4 g.1]) (fun g=>ryS g.2 6 4 5) (0,y) (h:=⟨Nat.zero_le _,rfl⟩) fun g hJ tk=>
     let hRK:RI y g.2 96:=(by rw[hJ.2];exact aY9 hY hJ.1)
     .s ((g.1:Int)<g.2.runs.length)
      (fun hlt=>.ex (p:=fun r1=>y.runs[g.1]? = some r1) ⟨_,getElem?_eq_getElem (show g.1<y.runs.length by have:=hRK.runs;omega)⟩ fun r1 hr1=>
       .l (Γ:=Nat×Yard) (fun q=>q.1<=r1.tasks.length/\q.2=nH (kO y g.1) g.1 q.1) (fun q=>r1.tasks.length-q.1) [2,3,4] [3] [] (fun q=>[vI 5 q.1]) (fun q=>ryS q.2 6 4 5) (0,g.2) (h:=⟨Nat.zero_le _,hJ.2⟩) fun q hq tq=>
        let hRI:RI y q.2 200:=(by rw[hq.2];exact bN0 hY hr1 hq.1)
        .ex (rest_run hRI hr1) fun r2 h2=>.y h2.1 fun gr=>.s ((q.1:Int)<r2.tasks.length)
         (fun hl2=>.ex (p:=fun t=>r2.tasks[q.1]? = some t) ⟨_,getElem?_eq_getElem (show q.1<r2.tasks.length by omega)⟩ fun t2 ht2=>.y h2.1 fun _=>.y ht2 fun _=>.s (t2.state=3)
          (fun h3=>let hT:=aM3 hY hRI aA h2.1 ht2 h3 h2.2.1
           .y h2.1 fun _=>.c func199 (tN r2 (q.1:Int) (aE9 h2.2.1).1 (aE9 h2.2.1).2) (hg:=⟨gr,trivial⟩) fun hf=>
           .cw _ func216 (aW0 q.2 (g.1:Int) g.1 r2 (bV r2 (q.1:Int)) rfl h2.1 hT.1.1 hT.2.1 hT.1.2.1 hT.1.2.2 hf.1.1 hT.2.2.1) ⟨trivial,trivial⟩ fun _ _ hz=>
           .p q.1 1 (h:=by have:=h2.2.1.small;unfold I64;omega)<|.n tq (q.1+1,cR q.2 g.1 r2 (bV r2 (q.1:Int))) [(4,19),(5,20)] (h1:=⟨by show q.1+1<=_;omega,by show cR q.2 g.1 r2 (bV r2 (q.1:Int))=_;rw[hT.2.2.2,hq.2];rfl⟩) (h2:=by show r1.tasks.length-(q.1+1)<_;omega))
          (fun h3=>.p q.1 1 (h:=by have:=h2.2.1.small;unfold I64;omega)<|.n tq (q.1+1,q.2) [] (h1:=⟨by show q.1+1<=_;omega,by show q.2=iG (nH (kO y g.1) g.1 q.1) g.1 q.1;rw[<- hq.2];exact(yW h2.1 ht2 h3).symm⟩) (h2:=by show r1.tasks.length-(q.1+1)<_;omega)))
         (fun hl2=>.p g.1 1 (h:=by have:=hY.runs;unfold I64;omega)<|.n tk (g.1+1,q.2) [] (h1:=⟨by show g.1+1<=_;have:=hRK.runs;omega,by show q.2=_;rw[hq.2];exact aZ0 hr1 aA⟩) (h2:=by show y.runs.length-(g.1+1)<_;have:=hRK.runs;omega)))
      (fun hge=>.rt g.2 ⟨by unfold cM;rw[if_pos h,hJ.2];congr 1;have:=hRK.runs;omega,hRK.ok hY aA,trivial⟩))) aB
end Go.Proofs.YtpdgdnpajmcaeaaGreat
