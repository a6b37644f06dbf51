/-
  A task that fails: what becomes of a right run. Theory alone.
  Runs that are right or not, of both; told to the reader.
  When a yard is right: of the program and of the reference.
  Yards that are right or not, of both; told to the reader.
  Disks: what is right, what is written, synced, cut, moved. Plain theory.
  A file looked for, of the program; told to the reader.
  Disks: right or not, copied, of both.
  Disks: written, synced, cut, of both.
  Plans, runs, yards copied, of both; told to the reader.
  Room for a run, of both.
  An entry put on a shelf, of both.
  What a yard gets on its shelf, of the program.
  Yards of which runs are turned: what is kept. Theory alone.
  What a worker is given, and from which shelf. Theory alone.
  Rows of numbers in bytes, read.
  Numbers that are read one by one. Theory alone.
  Numbers read one by one out of a text, of the reference; numbers handed out, of the program.
  A shelf read out of a text, of the reference.
  A plan's numbers, of the program.
  A yard read out of numbers: what both readers do, and what they find. Plain theory.
  A mark read, of the program, given how yards are read and written.
  Four bytes of a number are that number's. Plain theory.
  Both readers of yards are one, and both readers of marks. Plain theory.
  A yard's numbers, as they are put one behind the other. Plain theory; older contracts told anew.
  A new yard, engine, world.
  A new yard, of both; told to the reader.
  Engines: right or not, copied, of both.
  An element of an owned slice is left out.
-/
import Derived.Test.YtjihdmlkpkkpbaaGreatQ01
import Derived.Test.YtjihdmlkpkkpbaaGreatQ02
import Derived.Test.YtjihdmlkpkkpbaaGreatQ03
import Derived.Test.YtjihdmlkpkkpbaaGreatQ04
set_option linter.unusedSimpArgs false
set_option linter.unusedVariables false
namespace Go.Proofs.YtjihdmlkpkkpbaaGreat
set_option maxRecDepth 100000
set_option maxHeartbeats 2000000
open Go.RowKit Go.Proofs.Tryz List
theorem jE (ts:List Task) (s:Int):aQ ts s=(ts.countP (fun t=>decide (t.state=s)):Nat):=by unfold aQ;rw[countP_eq_length_filter]
theorem aB9 {ts:List Task}{s:Int}{t:Task}(h:t∈ts) (hs:t.state=s):0<aQ ts s:=by
 rw[jE];have:=countP_pos_iff (p:=fun t:Task=>decide (t.state=s)) (l:=ts) |>.2 ⟨t,h,by simpa using hs⟩
 omega
theorem rQ {ts:List Task}{s:Int}(h:∀t∈ts,¬t.state=s):aQ ts s=0:=by
 rw[jE,countP_eq_zero.2 (by intro t ht;simpa using h t ht)];rfl
theorem aG1 {ts:List Task}{s:Int}(h:aQ ts s=0):∀t∈ts,¬t.state=s:=fun t ht hs=>by have:=aB9 ht hs;omega
theorem aO3 {ts:List Task}{s:Int}{t:Task}(h:t∈ts) (hs:¬t.state=s):¬aQ ts s=ts.length:=by
 rw[jE];intro he;have:=countP_eq_length (p:=fun t:Task=>decide (t.state=s)) (l:=ts) |>.1 aA t h
 exact hs (by simpa using this)
theorem cA5 {ts:List Task}{f:Task->Task}{s:Int}(h:∀t∈ts,((f t).state=s↔t.state=s)):aQ (ts.map f) s=aQ ts s:=by
 rw[jE,jE,countP_map];congr 1;apply countP_congr;intro t ht;simpa using h t ht
theorem rS {ts:List Task}{i:Nat}(h:i<ts.length) (x:Task) (s:Int):aQ (ts.set i x) s=aQ ts s-(if ts[i].state=s then 1 else 0)+(if x.state=s then 1 else 0):=by
 rw[jE,jE,countP_set h];have hpos:ts[i].state=s->0<ts.countP (fun t=>decide (t.state=s)):=fun e=>countP_pos_iff.2 ⟨ts[i],getElem_mem h,by simpa using e⟩
 simp only[decide_eq_true_eq];by_cases h1:ts[i].state=s
 ·have:=hpos h1;rw[if_pos h1,if_pos h1];by_cases h2:x.state=s
  ·rw[if_pos h2,if_pos h2];omega
  rw[if_neg h2,if_neg h2];omega
 rw[if_neg h1,if_neg h1];by_cases h2:x.state=s
 ·rw[if_pos h2,if_pos h2];omega
 rw[if_neg h2,if_neg h2];omega
structure RunIs (r:Run):Prop where
 id:1<=r.id/\r.id<=9999
 plan:aC r.plan=0
 len:(r.tasks.length:Int)=r.plan.tasks
 task:∀k,k<r.tasks.length->sC r k
 state:r.state=bK r.tasks
 ne:¬r.state=0
theorem runIs {r:Run}:eZ r=true↔RunIs r:=by
 unfold eZ;rw[pB_iff];exact⟨fun ⟨a,b,c,d,e,f⟩=>⟨a,b,c,d,e,f⟩,fun h=>⟨h.id,h.plan,h.len,h.task,h.state,h.ne⟩⟩
theorem RunIs.live {r:Run}(h:RunIs r) {t:Task}(ht:t∈r.tasks) (h3:t.state=3):r.state=1/\aQ r.tasks 5=0/\aQ r.tasks 6=0:=by
 have hs:=h.state;have hn:=h.ne;have c3:=aB9 ht h3;have c4:=aO3 (s:=4) ht aA;have p1:=eM r.tasks 1;have p2:=eM r.tasks 2;rw[hs]at hn;rw[hs];unfold bK at hn ⊢;rw[if_neg c4,if_neg aA,if_neg aA]at hn ⊢;by_cases h1:aQ r.tasks 5=0/\aQ r.tasks 6=0
 ·rw[if_pos h1];exact⟨rfl,h1.1,h1.2⟩
 rw[if_neg h1]at hn;exact absurd rfl hn
theorem RunIs.none5 {r:Run}(h:RunIs r) {t:Task}(ht:t∈r.tasks) (h3:t.state=3):∀u∈r.tasks,¬u.state=5/\¬u.state=6:=fun u hu=>⟨aG1 (h.live ht h3).2.1 u hu,aG1 (h.live ht h3).2.2 u hu⟩
def fP (t:Task):Task:=if t.state=4∨t.state=5 then t else eS t
def dZ (ts:List Task):List Task:=ts.map fP
theorem aU8 {ts:List Task}{i:Nat}{x:Task}(hi:i<ts.length) (hx:x.state=5) (h:∀u∈ts,¬u.state=5):fB (ts.set i x) (i:Int)=dZ (ts.set i x):=by
 apply ext_getElem?;intro k;unfold fB dZ;rw[getElem?_mapIdx,getElem?_map,getElem?_set];by_cases e:i=k
 ·subst e;simp[hi,fZ,fP,hx]
 rw[if_neg e];cases hk:ts[k]? with
 | none=>rfl
 | some u=>
  have h5:=h u (mem_of_getElem? hk);have e':¬(k:Int)=(i:Int):=by omega
  simp[fZ,fP,h5,e']
def aW6 (r:Run) (i:Nat):Run:=match r.tasks[i]? with
 | some t=>if t.try_<r.plan.most then ⟨r.id,r.plan,r.state,r.tasks.set i ⟨2,t.need,t.try_,0⟩⟩ else ⟨r.id,r.plan,3,dZ (r.tasks.set i ⟨5,t.need,t.try_,0⟩)⟩
 | none=>r
theorem failsS_eq {r:Run}(h:RunIs r) {i:Nat}{t:Task}(ht:r.tasks[i]? = some t) (h3:t.state=3):aW6 r i=bP r i:=by
 unfold aW6 bP;rw[ht];simp only[oY];have hm:=mem_of_getElem? ht;rw[aU8 (gsi_.1 ht).1 rfl (fun u hu=>(h.none5 hm h3 u hu).1)]
theorem isDone_of {r r':Run}(h:∀k:Nat,(r'.tasks[k]?).map (fun t=>decide (t.state=4))=(r.tasks[k]?).map (fun t=>decide (t.state=4))) (x:Int):gC r' x=gC r x:=by
 unfold gC;have:=h x.toNat;cases h1:r'.tasks[x.toNat]?<;>cases h2:r.tasks[x.toNat]?<;>simp[h1,h2]at this ⊢
 exact this
theorem vA {r r':Run}(hp:r'.plan=r.plan) (h:∀k:Nat,(r'.tasks[k]?).map (fun t=>decide (t.state=4))=(r.tasks[k]?).map (fun t=>decide (t.state=4))) (x:Int):dP r' x=dP r x:=by
 unfold dP gN;rw[hp];congr 2;apply filter_congr;intro b _;rw[isDone_of h]
theorem yU {r r':Run}{need:Int}{t:Task}(hp:r'.plan=r.plan) (h:fF r need t):fF r' need (eS t):=by
 obtain⟨h1,h2,h3,_⟩:=h;refine⟨⟨by simp[eS],by simp[eS]⟩,h2,by rw[hp];exact h3,?_,?_,?_,?_,?_⟩<;>simp[eS]
theorem lA {r r':Run}{need:Int}{t:Task}(hp:r'.plan=r.plan) (h:fF r need t):fF r' need t:=by
 unfold fF at h ⊢;rw[hp];exact h
theorem RunIs.fails {r:Run}(h:RunIs r) {i:Nat}{t:Task}(ht:r.tasks[i]? = some t) (h3:t.state=3):RunIs (bP r i):=by
 obtain⟨hi,rfl⟩:=gsi_.1 ht;have hm:r.tasks[i]∈r.tasks:=getElem_mem hi;have hlive:=h.live hm h3;have hn5:=h.none5 hm h3;have htk:=h.task i hi hi;obtain⟨t1,t2,t3,t4,t5,t6,t7,t8⟩:=htk;have t8':=t8 (.inl h3);rw[rN ht];unfold oY;split
 ·next hlt=>
  refine⟨h.id,h.plan,by show ((r.tasks.set i _).length:Int)=_;rw[length_set];exact h.len,?_,?_,by show ¬r.state=0;omega⟩
  ·intro k hk hk';have hk2:k<r.tasks.length:=by simpa using hk
   rw[vA (r:=r) (r':=⟨r.id,r.plan,r.state,r.tasks.set i ⟨2,r.tasks[i].need,r.tasks[i].try_,0⟩⟩) rfl (fun j=>by
    show ((r.tasks.set i _)[j]?).map _=_;rw[getElem?_set];by_cases e:i=j
    ·subst e;simp[hi,h3]
    rw[if_neg e])]
   show fF _ _ ((r.tasks.set i _)[k]'hk');rw[getElem_set];split
   ·next e=>
    subst e;refine⟨⟨by show (1:Int)<=2;omega,by show (2:Int)<=6;omega⟩,t2,t3,?_,fun _=>rfl,?_,fun _=>⟨t8'.1,hlt⟩,?_⟩
    ·intro e;exact absurd (show (2:Int)=3 from e) aA
    ·intro e;exact absurd (show (2:Int)=1 from e) aA
    rintro(e | e | e)
    ·exact absurd (show (2:Int)=3 from e) aA
    ·exact absurd (show (2:Int)=4 from e) aA
    exact absurd (show (2:Int)=5 from e) aA
   exact lA rfl (h.task k hk2 hk2)
  show r.state=bK (r.tasks.set i _);have hmem:(⟨2,r.tasks[i].need,r.tasks[i].try_,0⟩:Task)∈r.tasks.set i ⟨2,r.tasks[i].need,r.tasks[i].try_,0⟩:=mem_set hi _;have c4:=aO3 (s:=4) hmem (by show ¬(2:Int)=4;omega);have c5:aQ (r.tasks.set i ⟨2,r.tasks[i].need,r.tasks[i].try_,0⟩) 5=0:=by rw[rS hi,h3,hlive.2.1];rfl
  have c6:aQ (r.tasks.set i ⟨2,r.tasks[i].need,r.tasks[i].try_,0⟩) 6=0:=by rw[rS hi,h3,hlive.2.2];rfl
  unfold bK;rw[if_neg c4,if_neg (by rw[c5];omega),if_neg (by rw[c6];omega),if_pos ⟨c5,c6⟩];exact hlive.1
 next hge=>
 rw[aU8 hi rfl (fun u hu=>(hn5 u hu).1)];have hset:∀j,(dZ (r.tasks.set i ⟨5,r.tasks[i].need,r.tasks[i].try_,0⟩))[j]? = (if i=j then some ⟨5,r.tasks[i].need,r.tasks[i].try_,0⟩ else (r.tasks[j]?).map fP):=by
  intro j;unfold dZ;rw[getElem?_map,getElem?_set];by_cases e:i=j
  ·subst e;simp[hi,fP]
  rw[if_neg e,if_neg e]
 have hlen:(dZ (r.tasks.set i ⟨5,r.tasks[i].need,r.tasks[i].try_,0⟩)).length=r.tasks.length:=by unfold dZ;simp
 refine⟨h.id,h.plan,by show ((dZ _).length:Int)=_;rw[hlen];exact h.len,?_,?_,by show ¬(3:Int)=0;omega⟩
 ·intro k hk hk';have hk2:k<r.tasks.length:=by rw[<- hlen];exact hk
  rw[vA (r:=r) (r':=⟨r.id,r.plan,3,dZ (r.tasks.set i ⟨5,r.tasks[i].need,r.tasks[i].try_,0⟩)⟩) rfl (fun j=>by
   show ((dZ _)[j]?).map _=_;rw[hset j];by_cases e:i=j
   ·subst e;simp[hi,h3]
   rw[if_neg e];cases hj:r.tasks[j]? with
   | none=>rfl
   | some u=>
    simp only[Option.map_some,fP];split
    ·rfl
    next hne=>simp[eS];intro e4;exact hne (.inl e4))]
  have hg:(dZ (r.tasks.set i ⟨5,r.tasks[i].need,r.tasks[i].try_,0⟩))[k]? = some ((dZ (r.tasks.set i ⟨5,r.tasks[i].need,r.tasks[i].try_,0⟩))[k]'hk'):=getElem?_eq_getElem hk';rw[hset k]at hg;show fF _ _ ((dZ (r.tasks.set i _))[k]'hk');by_cases e:i=k
  ·rw[if_pos e]at hg;have:=Option.some.inj hg;rw[<- this];subst e;refine⟨⟨by show (1:Int)<=5;omega,by show (5:Int)<=6;omega⟩,t2,t3,?_,fun _=>rfl,?_,?_,fun _=>t8'⟩
   ·intro e;exact absurd (show (5:Int)=3 from e) aA
   ·intro e;exact absurd (show (5:Int)=1 from e) aA
   intro e;exact absurd (show (5:Int)=2 from e) aA
  rw[if_neg e,getElem?_eq_getElem hk2,Option.map_some]at hg;have:=Option.some.inj hg;rw[<- this];unfold fP;split
  ·exact lA rfl (h.task k hk2 hk2)
  exact yU rfl (h.task k hk2 hk2)
 show (3:Int)=bK (dZ _);have hst:∀s:Int,s=1∨s=2∨s=3->aQ (dZ (r.tasks.set i ⟨5,r.tasks[i].need,r.tasks[i].try_,0⟩)) s=0:=by
  intro s hs;apply rQ;intro u hu e;unfold dZ at hu;obtain⟨v,_,rfl⟩:=mem_map.1 hu;unfold fP at e;split at e
  ·next hc=>omega
  have:(6:Int)=s:=e;omega
 have c5:aQ (dZ (r.tasks.set i ⟨5,r.tasks[i].need,r.tasks[i].try_,0⟩)) 5=1:=by
  unfold dZ;rw[cA5 (fun u _=>by
   unfold fP;split
   ·exact Iff.rfl
   next hc=>
   simp only[not_or]at hc;exact⟨fun e=>absurd (show (6:Int)=5 from e) aA,fun e=>absurd e hc.2⟩),rS hi,h3,hlive.2.1]
  rfl
 have c4:¬aQ (dZ (r.tasks.set i ⟨5,r.tasks[i].need,r.tasks[i].try_,0⟩)) 4=(dZ (r.tasks.set i ⟨5,r.tasks[i].need,r.tasks[i].try_,0⟩)).length:=by
  apply aO3 (t:=⟨5,r.tasks[i].need,r.tasks[i].try_,0⟩)
  ·exact mem_of_getElem? (i:=i) (by rw[hset i,if_pos rfl])
  show ¬(5:Int)=4;omega
 unfold bK;rw[if_neg c4,if_pos ⟨c5,by rw[hst 1 (.inl rfl),hst 2 (.inr (.inl rfl)),hst 3 (.inr (.inr rfl))];rfl⟩]
theorem lP (r:Run) (i:Nat):(bP r i).id=r.id/\(bP r i).plan=r.plan/\(bP r i).tasks.length=r.tasks.length/\∀(j:Nat) (t:Task),r.tasks[j]? = some t->∃t2,(bP r i).tasks[j]? = some t2/\t2.try_=t.try_:=by
 unfold bP;cases hi:r.tasks[i]? with
 | none=>exact⟨rfl,rfl,rfl,fun j t h=>⟨t,h,rfl⟩⟩
 | some u=>
  obtain⟨hl,rfl⟩:=gsi_.1 hi;simp only[oY];split
  ·refine⟨rfl,rfl,by simp,fun j t h=>?_⟩;show ∃t2,(r.tasks.set i _)[j]? = some t2/\_;rw[getElem?_set];by_cases e:i=j
   ·subst e;rw[h]at hi;rw[if_pos rfl,if_pos hl];exact⟨_,rfl,by have:=Option.some.inj hi;rw[this]⟩
   rw[if_neg e];exact⟨t,h,rfl⟩
  refine⟨rfl,rfl,by simp[xR],fun j t h=>?_⟩;show ∃t2,(fB (r.tasks.set i _) _)[j]? = some t2/\_;unfold fB;rw[getElem?_mapIdx,getElem?_set];have hli:∀(b:Int) (k:Nat) (x:Task),(fZ b k x).try_=x.try_:=by intro b k x;unfold fZ;split<;>rfl
  by_cases e:i=j
  ·subst e;rw[h]at hi;rw[if_pos rfl,if_pos hl];exact⟨_,rfl,by rw[hli];have:=Option.some.inj hi;rw[this]⟩
  rw[if_neg e,h];exact⟨_,rfl,hli _ _ _⟩
theorem tC {p:Plan}(h:aC p=0):(1<=p.tasks/\p.tasks<=12)/\p.edges.length<=30/\EdgesIn p.tasks.toNat p.edges:=by
 have h1:=jV h;have h2:=aS9 h1.1;exact⟨h2.1,h2.2,h1.2.1⟩
noncomputable def cI1 (xs:List Int) (hn:xs.length<=1000000):Inc prog 305 (fun _:Unit=>True) where
 T:=fun s us K=>match us with
  | [.on (.ce (.rf j h))]=>match lku s.O j with
   | some (.own i h' xs' _)=>.e0 h h'<|.e1 (⟨i,xs'⟩:Dat) ⟨instShapeInt,xs⟩<|.fn fun fp:List Nat=>K () (.tu []) ⟨s.E,(j,.own instShapeInt h (nN xs) fp)::bJ s.O j,lasting s.B,s.nx⟩
   | _=>.no
  | _=>.no
 ok:=by
  intro w0 W s us K h st fa;split at h
  ·next j hd=>
   split at h
   ·next i h' xs' fp hj=>
    obtain⟨rfl,h2,h3⟩:=h;simp only[Dat.mk.injEq]at h2;obtain⟨rfl,h5,h6⟩:=h2;obtain⟨rfl,rfl⟩:=And.intro (eq_of_heq h5) (eq_of_heq h6);have st2:=St.take (rs:=[]) (by simpa [Or,S.rs] using st) hj;rw[append_nil]at st2;refine(SortOwn st2 hn).mono ?_;rintro e W' ⟨rfl,fp',st'⟩;exact⟨(),.tu [],_,trivial,h3 fp',rfl,st',fa.lasting⟩
   exact h.elim
  exact h.elim
theorem froms_t {es:List Edge}{k:Nat}{e:Edge}{task:Int}(h:es[k]? = some e) (he:e.to_=task):dM (es.take k) task++[e.from_]=dM (es.take (k+1)) task:=by
 obtain⟨hk,rfl⟩:=gsi_.1 h;unfold dM;rw[take_succ_eq_append_getElem hk,filter_append,map_append];simp[he]
theorem froms_f {es:List Edge}{k:Nat}{e:Edge}{task:Int}(h:es[k]? = some e) (he:¬e.to_=task):dM (es.take k) task=dM (es.take (k+1)) task:=by
 obtain⟨hk,rfl⟩:=gsi_.1 h;unfold dM;rw[take_succ_eq_append_getElem hk,filter_append,map_append];simp[he]
theorem aZ3 (p:Plan) (task:Int):Ct1 prog 286 [.S p,.I task] [.L (aL p task)]:=
 .one (aL p task) (rk:=fun l=>[.L l])<|vc func286 (fun (hg:gin [Par.S p,Par.I task])=>let gp:p.ok:=hg.1.1
  .c func225 (kU p) (hg:=⟨gp,trivial⟩) fun _=>.u (aC p=0) (fun h=>.rt [] ⟨by unfold aL;rw[if_neg h],trivial⟩) (fun h=>let he:=(tC h).2.1
   .w Int 3 5<|.la (Γ:=Nat) (fun k=>k<=p.edges.length) (fun k=>p.edges.length-k) (fun k=>[vI 14 k,vR 5 2]) (fun k=>[oR 2 3 (dM (p.edges.take k) task)]) 0 fun k hk t=>let hl:=vG (p.edges.take k) task
    let hl2:(p.edges.take k).length<=30:=(by rw[length_take];omega)
    .s ((k:Int)<p.edges.length)
     (fun h2=>.x p.edges k (h:=by omega) fun e he ge=>.s (e.to_=task)
      (fun h3=>.a (dM (p.edges.take k) task) e.from_ 8 (hy:=(show e.ok from ge).1) (hby:=by omega)<|.g 2 (froms_t he h3)<|.p k 1<|.n t (k+1) [])
      (fun h3=>.g 2 (froms_f he h3)<|.p k 1<|.n t (k+1) []))
     (fun h2=>.sh 2<|.g 2 (show dM (p.edges.take k) task=dM p.edges task by rw[take_of_length_le aA])<|.iv _ func305 (cI1 (dM p.edges task) (by have:=vG p.edges task;omega)) fun _ _=>.rt (nN (dM p.edges task)) ⟨by unfold aL;rw[if_pos h],trivial⟩))) aB
theorem tos_t {es:List Edge}{k:Nat}{e:Edge}{task:Int}(h:es[k]? = some e) (he:e.from_=task):tos (es.take k) task++[e.to_]=tos (es.take (k+1)) task:=by
 obtain⟨hk,rfl⟩:=gsi_.1 h;unfold tos;rw[take_succ_eq_append_getElem hk,filter_append,map_append];simp[he]
theorem tos_f {es:List Edge}{k:Nat}{e:Edge}{task:Int}(h:es[k]? = some e) (he:¬e.from_=task):tos (es.take k) task=tos (es.take (k+1)) task:=by
 obtain⟨hk,rfl⟩:=gsi_.1 h;unfold tos;rw[take_succ_eq_append_getElem hk,filter_append,map_append];simp[he]
theorem BehindOf_i (p:Plan) (task:Int):Ct1 prog 290 [.S p,.I task] [.L (aT p task)]:=
 .one (aT p task) (rk:=fun l=>[.L l])<|vc func290 (fun (hg:gin [Par.S p,Par.I task])=>let gp:p.ok:=hg.1.1
  .c func225 (kU p) (hg:=⟨gp,trivial⟩) fun _=>.u (aC p=0) (fun h=>.rt [] ⟨by unfold aT;rw[if_neg h],trivial⟩) (fun h=>let he:=(tC h).2.1
   .w Int 3 5<|.la (Γ:=Nat) (fun k=>k<=p.edges.length) (fun k=>p.edges.length-k) (fun k=>[vI 14 k,vR 5 2]) (fun k=>[oR 2 3 (tos (p.edges.take k) task)]) 0 fun k hk t=>let hl:=aM3 (p.edges.take k) task
    let hl2:(p.edges.take k).length<=30:=(by rw[length_take];omega)
    .s ((k:Int)<p.edges.length)
     (fun h2=>.x p.edges k (h:=by omega) fun e he ge=>.s (e.from_=task)
      (fun h3=>.a (tos (p.edges.take k) task) e.to_ 8 (hy:=(show e.ok from ge).2) (hby:=by omega)<|.g 2 (tos_t he h3)<|.p k 1<|.n t (k+1) [])
      (fun h3=>.g 2 (tos_f he h3)<|.p k 1<|.n t (k+1) []))
     (fun h2=>.sh 2<|.g 2 (show tos (p.edges.take k) task=tos p.edges task by rw[take_of_length_le aA])<|.iv _ func305 (cI1 (tos p.edges task) (by have:=aM3 p.edges task;omega)) fun _ _=>.rt (nN (tos p.edges task)) ⟨by unfold aT;rw[if_pos h],trivial⟩))) aB
theorem bJ9 (p:Plan) (task:Int) (h:aC p=0):Ct1 prog 269 [.S p,.I task] [.L (aL p task)]:=by
 have:=Before_s p task (tC h).1 (tC h).2.1 (tC h).2.2;unfold aL;rw[if_pos h];exact this
theorem BehindP_s (p:Plan) (task:Int) (h:aC p=0):Ct1 prog 274 [.S p,.I task] [.L (aT p task)]:=by
 have:=Behind_s p task (tC h).1 (tC h).2.1 (tC h).2.2;unfold aT;rw[if_pos h];exact this
theorem dB9 {r:Run}{task b:Int}{k:Nat}(hlen:(r.tasks.length:Int)=r.plan.tasks) (h:(aL r.plan task)[k]? = some b):b=(b.toNat:Int)/\∃t,r.tasks[b.toNat]? = some t:=by
 have h1:=aY2 r.plan task b (mem_of_getElem? h);exact⟨by omega,r.tasks[b.toNat]'(by omega),getElem?_eq_getElem aA⟩
theorem cX2 {r:Run}{l:List Int}{k:Nat}{b:Int}{t:Task}(h:l[k]? = some b) (ht:r.tasks[b.toNat]? = some t) (h4:t.state=4):gN r (l.take (k+1))=gN r (l.take k):=by
 obtain⟨hk,rfl⟩:=gsi_.1 h;obtain⟨hb,rfl⟩:=gsi_.1 ht;rw[aK1 hk,aE9 hb,if_pos (by simpa using h4)];omega
theorem cX3 {r:Run}{l:List Int}{k:Nat}{b:Int}{t:Task}(h:l[k]? = some b) (ht:r.tasks[b.toNat]? = some t) (h4:¬t.state=4):gN r (l.take (k+1))=gN r (l.take k)+1:=by
 obtain⟨hk,rfl⟩:=gsi_.1 h;obtain⟨hb,rfl⟩:=gsi_.1 ht;rw[aK1 hk,aE9 hb,if_neg (by simpa using h4)]
theorem cK3 (r:Run) (task:Int) (k:Nat):0<=gN r ((aL r.plan task).take k)/\gN r ((aL r.plan task).take k)<=30:=by
 have h1:=aT9 r ((aL r.plan task).take k);have h2:=mI r.plan task;rw[length_take]at h1;omega
theorem bV5 {r:Run}{task:Int}{k:Nat}(hk:k<=(aL r.plan task).length) (h:¬(k:Int)<(aL r.plan task).length):gN r ((aL r.plan task).take k)=dP r task:=by
 rw[take_of_length_le aA];rfl
theorem NeedOf_i (r:Run) (task:Int) (hlen:(r.tasks.length:Int)=r.plan.tasks):Ct1 prog 284 [.S r,.I task] [.I (dP r task)]:=
 .one (dP r task) (rk:=fun x=>[.I x])<|vc func284 (fun (hg:gin [Par.S r,Par.I task])=>.c func286 (aZ3 r.plan task) (hg:=⟨hg.1.1.2.1,trivial⟩) fun _=>let hbl:=mI r.plan task
  .l (Γ:=Nat×Int) (fun g=>g.1<=(aL r.plan task).length/\g.2=gN r ((aL r.plan task).take g.1)) (fun g=>(aL r.plan task).length-g.1) [2,11,12] [2,3] [0,1] (fun g=>[vI 5 g.2,vI 13 g.1]) (fun _=>[]) (0,0) (h:=⟨Nat.zero_le _,rfl⟩) fun g hJ t=>let hbd:=cK3 r task g.1
   let hj2:=hJ.2
   .s ((g.1:Int)<(aL r.plan task).length)
    (fun h=>.x (aL r.plan task) g.1 (h:=by omega) fun b hb gb=>let hbt:=dB9 hlen hb
     .ex hbt.2 fun u hu=>.ye hu b (he:=hbt.1) fun gu=>.u (u.state=4)
      (fun h4=>.p g.2 1<|.p g.1 1<|.n t (g.1+1,g.2+1) [] ⟨by show g.1+1<=_;omega,by show g.2+1=_;rw[cX3 hb hu h4,hJ.2]⟩ (by dsimp only;omega))
      (fun h4=>.p g.1 1<|.n t (g.1+1,g.2) [] ⟨by show g.1+1<=_;omega,by show g.2=_;rw[cX2 hb hu h4,hJ.2]⟩ (by dsimp only;omega)))
    (fun h=>.rt g.2 ⟨hJ.2.trans (bV5 hJ.1 h),trivial⟩)) aB
theorem kZ {P:Prop}(h:P:=by (unfold fF;simp only[Bool.and_eq_true,Bool.or_eq_true,Bool.not_eq_true',Bool.or_eq_false_iff,Bool.and_eq_false_iff,Bool.not_eq_false',decide_eq_true_eq,decide_eq_false_iff_not,inB_iff',inB_f',Bool.false_eq_true,iff_false,iff_true]at *;omega)):P:=h
theorem tb_ {p:Prop}{b:Bool}(h:p↔b=true):b=pB p:=(pB_b h).symm
theorem TaskOk_i (r:Run) (k:Nat) (u:Task) (hu:r.tasks[k]? = some u) (hlen:(r.tasks.length:Int)=r.plan.tasks):Ct1 prog 226 [.S r,.I (k:Int)] [.B (pB (fF r (dP r (k:Int)) u))]:=
 .one (pB (fF r (dP r (k:Int)) u)) (rk:=fun x=>[.B x])<|vc func226 (fun (hg:gin [Par.S r,Par.I (k:Int)])=>.y hu fun _=>
  .c func50 (bL u.state 1 6) fun _=>.v (inB u.state 1 6) (fun h=>.rt false ⟨tb_ kZ,trivial⟩) (fun h1=>
  .c func284 (NeedOf_i r k hlen) (hg:=⟨hg.1.1,trivial⟩) fun _=>.u (u.need=dP r (k:Int)) (fun h=>.rt false ⟨tb_ kZ,trivial⟩) (fun h2=>
  .c func50 (bL u.try_ 0 r.plan.most) fun _=>.v (inB u.try_ 0 r.plan.most) (fun h=>.rt false ⟨tb_ kZ,trivial⟩) (fun h3=>
  .s (u.state=3)
   (fun h4=>.c func50 (bL u.until_ 1 1000000000) fun _=>.v (inB u.until_ 1 1000000000) (fun h=>.rt false ⟨tb_ kZ,trivial⟩) (fun h5=>
    .uf (u.state=3) h4<|.kf (u.state=1) aA<|.kf (u.state=2) aA<|.kt (u.state=3) h4<|.s (u.need=0) (fun h6=>.rt (decide ((1:Int)<=u.try_)) ⟨tb_ kZ,trivial⟩) (fun h6=>.rt false ⟨tb_ kZ,trivial⟩)))
   (fun h4=>.ut (u.state=3) h4<|.u (u.until_=0) (fun h=>.rt false ⟨tb_ kZ,trivial⟩) (fun h5=>
    .s (u.state=1) (fun h6=>.rt (decide ((0:Int)<u.need)) ⟨tb_ kZ,trivial⟩) (fun h6=>
    .s (u.state=2) (fun h7=>.s (u.need=0) (fun h8=>.rt (decide (u.try_<r.plan.most)) ⟨tb_ kZ,trivial⟩) (fun h8=>.rt false ⟨tb_ kZ,trivial⟩)) (fun h7=>
    .kf (u.state=3) h4<|.s (u.state=4) (fun h8=>.s (u.need=0) (fun h9=>.rt (decide ((1:Int)<=u.try_)) ⟨tb_ kZ,trivial⟩) (fun h9=>.rt false ⟨tb_ kZ,trivial⟩)) (fun h8=>
    .s (u.state=5) (fun h9=>.s (u.need=0) (fun h10=>.rt (decide ((1:Int)<=u.try_)) ⟨tb_ kZ,trivial⟩) (fun h10=>.rt false ⟨tb_ kZ,trivial⟩)) (fun h9=>.rt true ⟨tb_ kZ,trivial⟩)))))))))) aB
theorem TaskOk_s (r:Run) (k:Nat) (u:Task) (hu:r.tasks[k]? = some u) (hlen:(r.tasks.length:Int)=r.plan.tasks) (hP:aC r.plan=0) (hs:1<=u.state/\u.state<=6):Ct1 prog 194 [.S r,.I (k:Int)] [.B (pB (fF r (dP r (k:Int)) u))]:=
 .one (pB (fF r (dP r (k:Int)) u)) (rk:=fun x=>[.B x])<|vc func194 (fun (hg:gin [Par.S r,Par.I (k:Int)])=>.y hu fun _=>.c func269 (bJ9 r.plan k hP) (hg:=⟨hg.1.1.2.1,trivial⟩) fun _=>let hbl:=mI r.plan (k:Int)
  .l (Γ:=Nat×Int) (fun g=>g.1<=(aL r.plan (k:Int)).length/\g.2=gN r ((aL r.plan (k:Int)).take g.1)) (fun g=>(aL r.plan (k:Int)).length-g.1) [2,5,7] [2,4,5] [0,1] (fun g=>[vI 6 g.2,vI 8 g.1]) (fun _=>[]) (0,0) (h:=⟨Nat.zero_le _,rfl⟩) fun g hJ t=>let hbd:=cK3 r (k:Int) g.1
   let hj2:=hJ.2
   .s ((g.1:Int)<(aL r.plan (k:Int)).length)
    (fun h=>.x (aL r.plan (k:Int)) g.1 (h:=by omega) fun b hb gb=>let hbt:=dB9 hlen hb
     .ex hbt.2 fun v hv=>.ye hv b (he:=hbt.1) fun gu=>.u (v.state=4)
      (fun h4=>.p g.2 1<|.p g.1 1<|.n t (g.1+1,g.2+1) [] ⟨by show g.1+1<=_;omega,by show g.2+1=_;rw[cX3 hb hv h4,hJ.2]⟩ (by dsimp only;omega))
      (fun h4=>.p g.1 1<|.n t (g.1+1,g.2) [] ⟨by show g.1+1<=_;omega,by show g.2=_;rw[cX2 hb hv h4,hJ.2]⟩ (by dsimp only;omega)))
    (fun h=>let hn:=hJ.2.trans (bV5 hJ.1 h)
     .u (u.need=g.2) (fun h=>.rt false ⟨tb_ kZ,trivial⟩) (fun h2=>
     .c func37 (InV u.try_ 0 r.plan.most) fun _=>.v (inB u.try_ 0 r.plan.most) (fun h=>.rt false ⟨tb_ kZ,trivial⟩) (fun h3=>
     .s (u.state=3)
      (fun h4=>.c func37 (InV u.until_ 1 1000000000) fun _=>.v (inB u.until_ 1 1000000000) (fun h=>.rt false ⟨tb_ kZ,trivial⟩) (fun h5=>
       .uf (u.state=3) h4<|.kf (u.state=1) aA<|.kf (u.state=2) aA<|.kt (u.state=3) h4<|.s (g.2=0) (fun h6=>.rt (decide ((1:Int)<=u.try_)) ⟨tb_ kZ,trivial⟩) (fun h6=>.rt false ⟨tb_ kZ,trivial⟩)))
      (fun h4=>.ut (u.state=3) h4<|.u (u.until_=0) (fun h=>.rt false ⟨tb_ kZ,trivial⟩) (fun h5=>
       .s (u.state=1) (fun h6=>.rt (decide ((0:Int)<g.2)) ⟨tb_ kZ,trivial⟩) (fun h6=>
       .s (u.state=2) (fun h7=>.s (g.2=0) (fun h8=>.rt (decide (u.try_<r.plan.most)) ⟨tb_ kZ,trivial⟩) (fun h8=>.rt false ⟨tb_ kZ,trivial⟩)) (fun h7=>
       .kf (u.state=3) h4<|.s (u.state=4) (fun h8=>.s (g.2=0) (fun h9=>.rt (decide ((1:Int)<=u.try_)) ⟨tb_ kZ,trivial⟩) (fun h9=>.rt false ⟨tb_ kZ,trivial⟩)) (fun h8=>
       .s (u.state=5) (fun h9=>.s (g.2=0) (fun h10=>.rt (decide ((1:Int)<=u.try_)) ⟨tb_ kZ,trivial⟩) (fun h10=>.rt false ⟨tb_ kZ,trivial⟩)) (fun h9=>.rt (decide (u.state=6)) ⟨tb_ kZ,trivial⟩)))))))))) aB
theorem tiStep_t {ts:List Task}{s:Int}{k:Nat}{u:Task}(hu:ts[k]? = some u) (h:u.state=s):eF ts s k++[(k:Int)]=eF ts s (k+1):=by
 obtain⟨hk,rfl⟩:=gsi_.1 hu;rw[uM hk h]
theorem tiStep_f {ts:List Task}{s:Int}{k:Nat}{u:Task}(hu:ts[k]? = some u) (h:¬u.state=s):eF ts s k=eF ts s (k+1):=by
 obtain⟨hk,rfl⟩:=gsi_.1 hu;rw[aC7 hk h]
theorem tiAll {ts:List Task}{s:Int}{k:Nat}(hk:k<=ts.length) (h:¬(k:Int)<ts.length):eF ts s k=aK ts s:=by
 rw[show k=ts.length by omega];rfl
theorem mJ (r:Run) (s:Int) (hl:r.tasks.length<=1048576):Ct1 prog 227 [.S r,.I s] [.L (aK r.tasks s)]:=
 vc func227 (fun hg=>.w Int 3 5<|.l (Γ:=Nat) (fun k=>k<=r.tasks.length) (fun k=>r.tasks.length-k) [1,2,9,10] [2] [0,1] (fun k=>[vR 5 3,vI 11 k]) (fun k=>[oR 3 3 (eF r.tasks s k)]) 0 fun k hk t=>
  .s ((k:Int)<r.tasks.length)
   (fun h=>.x r.tasks k (h:=by omega) fun u hu gu=>let hln:=iY r.tasks s k
    .s (u.state=s)
    (fun h2=>.a (eF r.tasks s k) (k:Int) 8 (hy:=by show I64 _;unfold I64;omega) (hby:=by omega)<|.g 3 (tiStep_t hu h2)<|.p k 1<|.n t (k+1) [])
    (fun h2=>.g 3 (tiStep_f hu h2)<|.p k 1<|.n t (k+1) []))
   (fun h=>.g 3 (tiAll (s:=s) hk h)<|.rt () ⟨trivial,trivial⟩)) aB
structure RkJ (r:Run) (k:Nat):Prop where
 le:k<=r.tasks.length
 ok:∀j,j<k->sC r j
theorem RkJ.start (r:Run):RkJ r 0:=⟨Nat.zero_le _,fun j h=>by omega⟩
theorem RkJ.next {r:Run}{k:Nat}{u:Task}(h:RkJ r k) (hu:r.tasks[k]? = some u) (ho:pB (fF r (dP r (k:Int)) u)=true):RkJ r (k+1):=by
 obtain⟨hk,rfl⟩:=gsi_.1 hu;refine⟨hk,fun j hj=>?_⟩;rcases Nat.lt_succ_iff_lt_or_eq.1 hj with h1 | rfl
 ·exact h.ok j h1
 exact fun _=>pB_iff.1 ho
theorem cV2 {r:Run}{k:Nat}{u:Task}(hu:r.tasks[k]? = some u) (ho:pB (fF r (dP r (k:Int)) u)=false):false=eZ r:=by
 obtain⟨hk,rfl⟩:=gsi_.1 hu;unfold eZ;rw[nJ (fun hz=>cV8 ho (hz.2.2.2.1 k hk hk))]
theorem bC6 {r:Run}(h:¬((1<=r.id/\r.id<=9999)/\aC r.plan=0/\(r.tasks.length:Int)=r.plan.tasks)):false=eZ r:=by
 unfold eZ;rw[nJ (fun hz=>h ⟨hz.1,hz.2.1,hz.2.2.1⟩)]
theorem rk_st {r:Run}(h:∃(k:Nat) (u:Task),r.tasks[k]? = some u/\¬(1<=u.state/\u.state<=6)):false=eZ r:=by
 obtain⟨k,u,hu,h⟩:=h;obtain⟨hk,rfl⟩:=gsi_.1 hu;unfold eZ;rw[nJ (fun hz=>h (hz.2.2.2.1 k hk hk).1)]
theorem bT1 {r:Run}{k:Nat}(h:RkJ r k) (hk:¬(k:Int)<r.tasks.length):(∀j,j<r.tasks.length->sC r j)/\(aQ r.tasks 1+aQ r.tasks 2+aQ r.tasks 3+aQ r.tasks 4+aQ r.tasks 5+aQ r.tasks 6=r.tasks.length):=by
 have h1:∀j,j<r.tasks.length->sC r j:=fun j hj=>h.ok j (by have:=h.le;omega)
 exact⟨h1,bP3 (states_of h1)⟩
theorem cP4 (r:Run):Ct1 prog 154 [.S r] [.B (eZ r)]:=
 .one (eZ r) (rk:=fun x=>[.B x])<|vc func154 (fun (hg:gin [Par.S r])=>let gr:=hg.1.1
  .c func50 (bL r.id 1 9999) fun _=>.v (inB r.id 1 9999) (fun h=>.rt false ⟨bC6 (fun z=>xU h z.1),trivial⟩) (fun h1=>
  .c func225 (kU r.plan) (hg:=⟨gr.2.1,trivial⟩) fun _=>.u (aC r.plan=0) (fun h=>.rt false ⟨bC6 (fun z=>h z.2.1),trivial⟩) (fun h2=>
  .u ((r.tasks.length:Int)=r.plan.tasks) (fun h=>.rt false ⟨bC6 (fun z=>h z.2.2),trivial⟩) (fun h3=>let hpt:=(tC h2).1
  .l (Γ:=Nat) (fun k=>RkJ r k) (fun k=>r.tasks.length-k) [1,28,29] [2] [0,1] (fun k=>[vI 30 k]) (fun _=>[]) 0 (h:=RkJ.start r) fun k hJ t=>let hk0:=hJ.le
   .s ((k:Int)<r.tasks.length)
    (fun h=>.ex (p:=fun u=>r.tasks[k]? = some u) ⟨_,getElem?_eq_getElem (show k<r.tasks.length by omega)⟩ fun u hu=>.c func226 (TaskOk_i r k u hu h3) (hg:=⟨gr,trivial⟩) fun _=>.v (pB (fF r (dP r (k:Int)) u))
     (fun h4=>.rt false ⟨cV2 hu h4,trivial⟩)
     (fun h4=>.p k 1<|.n t (k+1) [] (hJ.next hu h4) aA))
    (fun h=>let hf:=bT1 hJ h
     let hc:=wL r.tasks
     let e4:=kN r.tasks 4
     let e5:=kN r.tasks 5
     let e6:=kN r.tasks 6
     let n1:=eM r.tasks 1
     let n2:=eM r.tasks 2
     let n3:=eM r.tasks 3
     let hs:=hf.2
     let fin:∀{b:Bool},((r.state=bK r.tasks/\¬r.state=0)↔b=true)->b=eZ r:=fun hz=>(cI8 ⟨inB_iff.1 h1,h2,h3⟩ hf.1 hz).symm
     let over:=((aK r.tasks 4).length:Int)+(aK r.tasks 5).length+(aK r.tasks 6).length=r.tasks.length
     let tail:¬((aK r.tasks 4).length:Int)=r.tasks.length->¬(((aK r.tasks 5).length:Int)=1/\over)->¬(((aK r.tasks 5).length:Int)=0/\(0:Int)<(aK r.tasks 6).length/\over)->D prog (fun a:Bool=>a=eZ r/\rgd [Rk.B a]):=fun q1 q2 q3=>
      .s (r.state=1)
       (fun q4=>.s (((aK r.tasks 5).length:Int)=0)
        (fun q5=>.rt (decide (((aK r.tasks 6).length:Int)=0)) ⟨fin (by simp only[decide_eq_true_eq];omega),trivial⟩)
        (fun q5=>.rt false ⟨fin (by simp only[Bool.false_eq_true,iff_false];omega),trivial⟩))
       (fun q4=>.rt false ⟨fin (by simp only[Bool.false_eq_true,iff_false];omega),trivial⟩)
     .c func227 (mJ r 4 aA) (hg:=⟨gr,trivial⟩) fun _=>.c func227 (mJ r 5 aA) (hg:=⟨gr,trivial⟩) fun _=>.c func227 (mJ r 6 aA) (hg:=⟨gr,trivial⟩) fun _=>
     .p ((aK r.tasks 4).length:Int) ((aK r.tasks 5).length:Int) (h:=by unfold I64;omega)<|.p (((aK r.tasks 4).length:Int)+(aK r.tasks 5).length) ((aK r.tasks 6).length:Int) (h:=by unfold I64;omega) <|
     .s (((aK r.tasks 4).length:Int)=r.tasks.length)
      (fun q1=>.rt (decide (r.state=2)) ⟨fin (by simp only[decide_eq_true_eq];omega),trivial⟩)
      (fun q1=>.s (((aK r.tasks 5).length:Int)=1)
       (fun q2=>.s over
        (fun q3=>.rt (decide (r.state=3)) ⟨fin (by simp only[decide_eq_true_eq];omega),trivial⟩)
        (fun q3=>.kf (((aK r.tasks 5).length:Int)=0) aA<|tail q1 (fun z=>q3 z.2) (fun z=>q3 z.2.2)))
       (fun q2=>.s (((aK r.tasks 5).length:Int)=0)
        (fun q3=>.s ((0:Int)<(aK r.tasks 6).length)
         (fun q4=>.s over
          (fun q5=>.rt (decide (r.state=4)) ⟨fin (by simp only[decide_eq_true_eq];omega),trivial⟩)
          (fun q5=>tail q1 (fun z=>q5 z.2) (fun z=>q5 z.2.2)))
         (fun q4=>tail q1 (fun z=>q2 z.1) (fun z=>q4 z.2.1)))
        (fun q3=>tail q1 (fun z=>q2 z.1) (fun z=>q3 z.1))))))))) aB
theorem cnts_st {ts:List Task}{k:Nat}{u:Task}(hu:ts[k]? = some u) (hs:1<=u.state/\u.state<=6):∃x,(kW (ts.take k))[u.state.toNat]? = some x/\(0<=x/\x<=ts.length)/\(kW (ts.take k)).set u.state.toNat (x+1)=kW (ts.take (k+1)):=by
 obtain⟨hk,rfl⟩:=gsi_.1 hu;have hl:ts[k].state.toNat<(kW (ts.take k)).length:=by rw[cnts_len];omega
 refine⟨_,getElem?_eq_getElem hl,?_,cnts_set hk hs hl⟩;have:=cnts_rng (ts.take k) _ hl;rw[length_take]at this;omega
theorem cP3 (r:Run) (hS:∀t∈r.tasks,1<=t.state/\t.state<=6) (hl:r.tasks.length<=1048576):Ct1 prog 195 [.S r] [.I (bK r.tasks)]:=
 .one (bK r.tasks) (rk:=fun x=>[.I x])<|vc func195 (fun hg=>.li (inferInstance:Dsh Int) 6 [0,0,0,0,0,0,0] (by simp) (by simp) (by intro y hy;simp at hy;subst hy;show I64 0;unfold I64;omega) <|
  .g 3 (cnts_nil.symm)<|.l (Γ:=Nat) (fun k=>k<=r.tasks.length) (fun k=>r.tasks.length-k) [1] [2] [0,1] (fun k=>[vR 3 3,vI 4 k]) (fun k=>[oO 3 (kW (r.tasks.take k))]) 0 fun k hk t=>
   .s ((k:Int)<r.tasks.length)
    (fun h=>.x r.tasks k (h:=by omega) fun u hu gu=>let hs:=hS u (mem_of_getElem? hu)
     .ex (cnts_st hu hs) fun x hx=>.d 3 hx.1 fun gx=>.ie u.state.toNat u.state (he:=by omega)<|.p x 1 (h:=by have:=hx.2.1;unfold I64;omega)<|.ie u.state.toNat u.state (he:=by omega) <|
     .wt 12<|.f 3 (kW (r.tasks.take k)) (x+1) (h:=by have:=hx.2.1;show I64 _;unfold I64;omega)<|.g 3 hx.2.2<|.p k 1<|.n t (k+1) [])
    (fun h=>.g 3 (show kW (r.tasks.take k)=kW r.tasks by rw[take_of_length_le aA]) <|
     let hc:=wL r.tasks
     let n1:=eM r.tasks 1
     let n2:=eM r.tasks 2
     let n3:=eM r.tasks 3
     let m1:=vS r.tasks 1
     let m2:=vS r.tasks 2
     let m3:=vS r.tasks 3
     let rest:=aQ r.tasks 1+aQ r.tasks 2+aQ r.tasks 3=0
     let at5:(kW r.tasks)[5]? = some (aQ r.tasks 5):=rfl
     let at6:(kW r.tasks)[6]? = some (aQ r.tasks 6):=rfl
     let t13:¬aQ r.tasks 4=(r.tasks.length:Int)->¬(aQ r.tasks 5=1/\rest)->¬(aQ r.tasks 5=0/\(0:Int)<aQ r.tasks 6/\rest)->D prog (fun a:Int=>a=bK r.tasks/\rgd [Rk.I a]):=fun q1 q2 q3=>
      .y at5 fun _=>.s (aQ r.tasks 5=0)
       (fun q4=>.y at6 fun _=>.s (aQ r.tasks 6=0) (fun q5=>.rt 1 ⟨(hc.2.2.2.1 q1 q2 q3 ⟨q4,q5⟩).symm,trivial⟩) (fun q5=>.rt 0 ⟨(hc.2.2.2.2 q1 q2 q3 (fun z=>q5 z.2)).symm,trivial⟩))
       (fun q4=>.rt 0 ⟨(hc.2.2.2.2 q1 q2 q3 (fun z=>q4 z.1)).symm,trivial⟩)
     let t11:¬aQ r.tasks 4=(r.tasks.length:Int)->¬(aQ r.tasks 5=1/\rest)->D prog (fun a:Int=>a=bK r.tasks/\rgd [Rk.I a]):=fun q1 q2=>
      .y at5 fun _=>.s (aQ r.tasks 5=0)
       (fun q3=>.y at6 fun _=>.s ((0:Int)<aQ r.tasks 6)
        (fun q4=>.s rest (fun q5=>.rt 4 ⟨(hc.2.2.1 q1 q2 ⟨q3,q4,q5⟩).symm,trivial⟩) (fun q5=>t13 q1 q2 (fun z=>q5 z.2.2)))
        (fun q4=>t13 q1 q2 (fun z=>q4 z.2.1)))
       (fun q3=>t13 q1 q2 (fun z=>q3 z.1))
     .y (show (kW r.tasks)[1]? = some (aQ r.tasks 1) from rfl) fun _=>.y (show (kW r.tasks)[2]? = some (aQ r.tasks 2) from rfl) fun _=>.p (aQ r.tasks 1) (aQ r.tasks 2)<|.y (show (kW r.tasks)[3]? = some (aQ r.tasks 3) from rfl) fun _=>.p (aQ r.tasks 1+aQ r.tasks 2) (aQ r.tasks 3) (h:=by unfold I64;omega) <|
     .y (show (kW r.tasks)[4]? = some (aQ r.tasks 4) from rfl) fun _=>.s (aQ r.tasks 4=(r.tasks.length:Int))
      (fun q1=>.rt 2 ⟨(hc.1 q1).symm,trivial⟩)
      (fun q1=>.y at5 fun _=>.s (aQ r.tasks 5=1)
       (fun q2=>.s rest (fun q3=>.rt 3 ⟨(hc.2.1 q1 ⟨q2,q3⟩).symm,trivial⟩) (fun q3=>t11 q1 (fun z=>q3 z.2)))
       (fun q2=>t11 q1 (fun z=>q2 z.1))))) aB
structure RsJ (r:Run) (k:Nat):Prop where
 le:k<=r.tasks.length
 ok:∀t∈r.tasks.take k,1<=t.state/\t.state<=6
theorem RsJ.start (r:Run):RsJ r 0:=⟨Nat.zero_le _,fun t h=>by simp at h⟩
theorem RsJ.next {r:Run}{k:Nat}{u:Task}(h:RsJ r k) (hu:r.tasks[k]? = some u) (ho:inB u.state 1 6=true):RsJ r (k+1):=by
 obtain⟨hk,rfl⟩:=gsi_.1 hu;refine⟨hk,fun t ht=>?_⟩;rw[take_add_one,getElem?_eq_getElem hk]at ht;rcases mem_append.1 ht with h1 | h1
 ·exact h.ok t h1
 simp at h1;subst h1;exact inB_iff.1 ho
theorem RsJ.all {r:Run}{k:Nat}(h:RsJ r k) (hk:¬(k:Int)<r.tasks.length):∀t∈r.tasks,1<=t.state/\t.state<=6:=by
 have:=h.ok
 rwa [take_of_length_le aA]at this
theorem bQ1 (r:Run):Ct1 prog 120 [.S r] [.B (eZ r)]:=
 .one (eZ r) (rk:=fun x=>[.B x])<|vc func120 (fun (hg:gin [Par.S r])=>let gr:=hg.1.1
  .c func37 (InV r.id 1 9999) fun _=>.v (inB r.id 1 9999) (fun h=>.rt false ⟨bC6 (fun z=>xU h z.1),trivial⟩) (fun h1=>
  .c func193 (qA r.plan) (hg:=⟨gr.2.1,trivial⟩) fun _=>.u (aC r.plan=0) (fun h=>.rt false ⟨bC6 (fun z=>h z.2.1),trivial⟩) (fun h2=>
  .u ((r.tasks.length:Int)=r.plan.tasks) (fun h=>.rt false ⟨bC6 (fun z=>h z.2.2),trivial⟩) (fun h3=>let hpt:=(tC h2).1
  .l (Γ:=Nat) (fun k=>RsJ r k) (fun k=>r.tasks.length-k) [1] [2] [0,1] (fun k=>[vI 3 k]) (fun _=>[]) 0 (h:=RsJ.start r) fun k hJ t=>let hk0:=hJ.le
   .s ((k:Int)<r.tasks.length)
    (fun h=>.x r.tasks k (h:=by omega) fun u hu gu=>.c func37 (InV u.state 1 6) fun _=>.v (inB u.state 1 6)
     (fun h4=>.rt false ⟨rk_st ⟨k,u,hu,xU h4⟩,trivial⟩)
     (fun h4=>.p k 1<|.n t (k+1) [] (hJ.next hu h4) aA))
    (fun h=>let hst:=hJ.all h
     .l (Γ:=Nat) (fun k=>RkJ r k) (fun k=>r.tasks.length-k) [1] [2] [0,1] (fun k=>[vI 4 k]) (fun _=>[]) 0 (h:=RkJ.start r) fun k hJ t=>let hk0:=hJ.le
     .s ((k:Int)<r.tasks.length)
      (fun h=>.ex (p:=fun u=>r.tasks[k]? = some u) ⟨_,getElem?_eq_getElem (show k<r.tasks.length by omega)⟩ fun u hu=>.c func194 (TaskOk_s r k u hu h3 h2 (hst u (mem_of_getElem? hu))) (hg:=⟨gr,trivial⟩) fun _=>.v (pB (fF r (dP r (k:Int)) u))
       (fun h4=>.rt false ⟨cV2 hu h4,trivial⟩)
       (fun h4=>.p k 1<|.n t (k+1) [] (hJ.next hu h4) aA))
      (fun h=>let hf:=bT1 hJ h
       let fin:∀{b:Bool},((r.state=bK r.tasks/\¬r.state=0)↔b=true)->b=eZ r:=fun hz=>(cI8 ⟨inB_iff.1 h1,h2,h3⟩ hf.1 hz).symm
       .c func195 (cP3 r hst aA) (hg:=⟨gr,trivial⟩) fun _=>.s (r.state=bK r.tasks)
       (fun q1=>.rt (!decide (r.state=0)) ⟨fin (by simp only[Bool.not_eq_true',decide_eq_false_iff_not];exact⟨fun z=>z.2,fun z=>⟨q1,z⟩⟩),trivial⟩)
       (fun q1=>.rt false ⟨fin (by simp only[Bool.false_eq_true,iff_false];exact fun z=>q1 z.1),trivial⟩))))))) aB
def aN1 (y:Yard) (j:Nat):Prop:=∀h:j<y.runs.length,eZ y.runs[j]=true/\aI y y.runs[j].id=(j:Int)/\gF y.now y.runs[j] y.shelf.flatten=true
noncomputable def aG (y:Yard):Bool:=pB ((0<=y.now/\y.now<=999999980)/\(1<=y.seq/\y.seq<=1000000000)/\y.shelf.length=4/\y.runs.length<=8/\(∀l∈y.shelf,dL l=true) /\
 (∀e∈y.shelf.flatten,1<=e.seq/\e.seq<=y.seq-1)/\(y.shelf.flatten.map (·.seq)).Nodup/\(∀j,j<y.runs.length->aN1 y j)/\dK y<=40)
theorem aR4 {r:Run}(h:eZ r=true):(0<=r.plan.wait/\r.plan.wait<=20)/\r.tasks.length<=12:=by
 have h1:=pB_iff.1 h;have h2:=(jV h1.2.1).1;have h3:=h1.2.2.1;unfold aR at h2;omega
theorem cA8 {α:Type}{p:α->Prop}{xs:List α}{k:Nat}(hk:k<xs.length) (h:∀x∈xs.take k,p x) (h1:p xs[k]):∀x∈xs.take (k+1),p x:=by
 intro x hx;rw[take_succ_eq_append_getElem hk]at hx;rcases mem_append.1 hx with hx | hx
 ·exact h x hx
 rw[mem_singleton]at hx;subst hx;exact h1
theorem aU5 {α β:Type}(f:α->β) {xs:List α}{k:Nat}(hk:k<xs.length):(xs.take (k+1)).map f=(xs.take k).map f++[f xs[k]]:=by
 rw[take_succ_eq_append_getElem hk,map_append];rfl
theorem nodup_map_step {xs:List Entry}{k:Nat}(hk:k<xs.length) (h:((xs.take k).map (·.seq)).Nodup) (hn:xs[k].seq∉(xs.take k).map (·.seq)):((xs.take (k+1)).map (·.seq)).Nodup:=by
 rw[aU5 _ hk,nodup_append];exact⟨h,by simp,fun a ha b hb=>by simp at hb;subst hb;exact fun e=>hn (e▸ha)⟩
theorem not_nodup_map {xs:List Entry}{k:Nat}(hk:k<xs.length) (hm:xs[k].seq∈(xs.take k).map (·.seq)):¬(xs.map (·.seq)).Nodup:=by
 intro h;have h2:((xs.take (k+1)).map (·.seq)).Nodup:=h.sublist ((take_sublist _ _).map _);rw[aU5 _ hk,nodup_append]at h2;exact h2.2.2 _ hm _ (by simp) rfl

structure YoH (y:Yard):Prop where
 now:0<=y.now/\y.now<=999999980
 seq:1<=y.seq/\y.seq<=1000000000
 four:y.shelf.length=4
 eight:y.runs.length<=8
theorem yo_1 {y:Yard}(h:¬(0<=y.now/\y.now<=999999980)):false=aG y:=by unfold aG;rw[nJ (fun z=>h z.1)]
theorem yo_2 {y:Yard}(h:¬(1<=y.seq/\y.seq<=1000000000)):false=aG y:=by unfold aG;rw[nJ (fun z=>h z.2.1)]
theorem yo_3 {y:Yard}(h:¬(y.shelf.length:Int)=4):false=aG y:=by unfold aG;rw[nJ (fun z=>h (by have:=z.2.2.1;omega))]
theorem yo_4 {y:Yard}(h:(8:Int)<y.runs.length):false=aG y:=by unfold aG;rw[nJ (fun z=>by have:=z.2.2.2.1;omega)]
theorem yo_5 {y:Yard}{l:List Entry}(hl:l∈y.shelf) (h:dL l=false):false=aG y:=by unfold aG;rw[nJ (fun z=>by rw[z.2.2.2.2.1 l hl]at h;cases h)]
theorem yo_6 {y:Yard}{e:Entry}(he:e∈y.shelf.flatten) (h:inB e.seq 1 (y.seq-1)=false):false=aG y:=by unfold aG;rw[nJ (fun z=>xU h (z.2.2.2.2.2.1 e he))]
theorem yo_7 {y:Yard}(h:¬(y.shelf.flatten.map (·.seq)).Nodup):false=aG y:=by unfold aG;rw[nJ (fun z=>h z.2.2.2.2.2.2.1)]
theorem cQ7 {y:Yard}{k:Nat}{r:Run}(hr:y.runs[k]? = some r) (h:¬(eZ r=true/\aI y r.id=(k:Int)/\gF y.now r y.shelf.flatten=true)):false=aG y:=by
 obtain⟨hk,rfl⟩:=gsi_.1 hr;unfold aG;rw[nJ (fun z=>h (z.2.2.2.2.2.2.2.1 k hk hk))]
structure YsJ (y:Yard) (k:Nat):Prop where
 le:k<=y.shelf.length
 ok:∀l∈y.shelf.take k,dL l=true
theorem YsJ.start (y:Yard):YsJ y 0:=⟨Nat.zero_le _,fun l h=>by simp at h⟩
theorem YsJ.next {y:Yard}{k:Nat}{l:List Entry}(h:YsJ y k) (hl:y.shelf[k]? = some l) (ho:dL l=true):YsJ y (k+1):=by
 obtain⟨hk,rfl⟩:=gsi_.1 hl;exact⟨hk,cA8 hk h.ok ho⟩
theorem YsJ.all {y:Yard}{k:Nat}(h:YsJ y k) (hk:¬(k:Int)<y.shelf.length):∀l∈y.shelf,dL l=true:=by
 have:=h.ok
 rwa [take_of_length_le aA]at this
structure YeJ (y:Yard) (k:Nat):Prop where
 le:k<=y.shelf.flatten.length
 ok:∀e∈y.shelf.flatten.take k,1<=e.seq/\e.seq<=y.seq-1
 nd:((y.shelf.flatten.take k).map (·.seq)).Nodup
theorem YeJ.start (y:Yard):YeJ y 0:=⟨Nat.zero_le _,fun e h=>by simp at h,by simp⟩
theorem YeJ.next {y:Yard}{k:Nat}{e:Entry}(h:YeJ y k) (he:y.shelf.flatten[k]? = some e) (h1:inB e.seq 1 (y.seq-1)=true) (h2:e.seq∉(y.shelf.flatten.take k).map (·.seq)):YeJ y (k+1):=by
 obtain⟨hk,rfl⟩:=gsi_.1 he;exact⟨hk,cA8 hk h.ok (inB_iff.1 h1),nodup_map_step hk h.nd h2⟩
theorem cS0 {y:Yard}{k:Nat}{e:Entry}(he:y.shelf.flatten[k]? = some e) (h2:e.seq∈(y.shelf.flatten.take k).map (·.seq)):¬(y.shelf.flatten.map (·.seq)).Nodup:=by
 obtain⟨hk,rfl⟩:=gsi_.1 he;exact not_nodup_map hk h2
theorem cR9 {es:List Entry}{k:Nat}{e:Entry}(he:es[k]? = some e):(es.take k).map (·.seq)++[e.seq]=(es.take (k+1)).map (·.seq):=by
 obtain⟨hk,rfl⟩:=gsi_.1 he;rw[aU5 _ hk]
theorem YeJ.all {y:Yard}{k:Nat}(h:YeJ y k) (hk:¬(k:Int)<y.shelf.flatten.length):(∀e∈y.shelf.flatten,1<=e.seq/\e.seq<=y.seq-1)/\(y.shelf.flatten.map (·.seq)).Nodup:=by
 have h1:=h.ok;have h2:=h.nd;rw[take_of_length_le aA]at h1 h2;exact⟨h1,h2⟩
structure YrJ (y:Yard) (k:Nat):Prop where
 le:k<=y.runs.length
 ok:∀j,j<k->aN1 y j
theorem YrJ.start (y:Yard):YrJ y 0:=⟨Nat.zero_le _,fun j h=>by omega⟩
theorem YrJ.next {y:Yard}{k:Nat}{r:Run}(h:YrJ y k) (hr:y.runs[k]? = some r) (h1:eZ r=true) (h2:aI y r.id=(k:Int)) (h3:gF y.now r y.shelf.flatten=true):YrJ y (k+1):=by
 obtain⟨hk,rfl⟩:=gsi_.1 hr;refine⟨hk,fun j hj=>?_⟩;rcases Nat.lt_succ_iff_lt_or_eq.1 hj with h4 | rfl
 ·exact h.ok j h4
 exact fun _=>⟨h1,h2,h3⟩
theorem cR8 {y:Yard}{k:Nat}(hH:YoH y) (h5:∀l∈y.shelf,dL l=true) (h6:(∀e∈y.shelf.flatten,1<=e.seq/\e.seq<=y.seq-1)/\(y.shelf.flatten.map (·.seq)).Nodup) (h:YrJ y k) (hk:¬(k:Int)<y.runs.length):decide (dK y<=40)=aG y:=by
 unfold aG;have h7:∀j,j<y.runs.length->aN1 y j:=fun j hj=>h.ok j (by have:=h.le;omega)
 by_cases h8:dK y<=40
 ·rw[tK ⟨hH.now,hH.seq,hH.four,hH.eight,h5,h6.1,h6.2,h7,h8⟩];simpa using h8
 rw[nJ (fun z=>h8 z.2.2.2.2.2.2.2.2)];simpa using h8
theorem bZ1 {y:Yard}{k:Nat}{e:Entry}(he:y.shelf.flatten[k]? = some e):e∈y.shelf.flatten:=mem_of_getElem? he
theorem lT (y:Yard) (hw:y.wt<=1048576):Ct1 prog 91 [.S y] [.B (aG y)]:=
 .one (aG y) (rk:=fun x=>[.B x])<|vc func91 (fun (hg:gin [Par.S y])=>let gy:=hg.1.1
  let hb:=fC y hw
  .c func50 (bL y.now 0 999999980) fun _=>.v (inB y.now 0 999999980) (fun h=>.rt false ⟨yo_1 (xU h),trivial⟩) (fun h1=>
  .c func50 (bL y.seq 1 1000000000) fun _=>.v (inB y.seq 1 1000000000) (fun h=>.rt false ⟨yo_2 (xU h),trivial⟩) (fun h2=>
  .u ((y.shelf.length:Int)=4) (fun h=>.rt false ⟨yo_3 h,trivial⟩) (fun h3=>
  .s ((8:Int)<y.runs.length) (fun h=>.rt false ⟨yo_4 h,trivial⟩) (fun h4=>let hH:YoH y:=⟨inB_iff.1 h1,inB_iff.1 h2,by omega,by omega⟩
  let hseq:=inB_iff.1 h2
  .l (Γ:=Nat) (fun k=>YsJ y k) (fun k=>y.shelf.length-k) [1,34,35] [2] [0,1] (fun k=>[vI 36 k]) (fun _=>[]) 0 (h:=YsJ.start y) fun k hJ t=>let hk0:=hJ.le
   .s ((k:Int)<y.shelf.length)
    (fun h=>.x y.shelf k (h:=by omega) fun l hl gl=>.c func151 (ShelfOk_i l) fun _=>.v (dL l)
     (fun h5=>.rt false ⟨yo_5 (mem_of_getElem? hl) h5,trivial⟩)
     (fun h5=>.p k 1<|.n t (k+1) [] (hJ.next hl h5) aA))
    (fun h=>let h5:=hJ.all h
     .c func152 (bJ7 y hw) (hg:=⟨gy,trivial⟩) fun _=>.w Int 3 6 <|
     .l (Γ:=Nat) (fun k=>YeJ y k) (fun k=>y.shelf.flatten.length-k) [1,5,46,47] [2,3] [0,1] (fun k=>[vR 6 4,vI 48 k]) (fun k=>[oR 4 3 ((y.shelf.flatten.take k).map (·.seq))]) 0 (h:=YeJ.start y) fun k hJ t=>let hk0:=hJ.le
     .s ((k:Int)<y.shelf.flatten.length)
      (fun h=>.x y.shelf.flatten k (h:=by omega) fun e he ge=>.m y.seq 1<|.c func50 (bL e.seq 1 (y.seq-1)) fun _=>.v (inB e.seq 1 (y.seq-1))
       (fun h6=>.rt false ⟨yo_6 (bZ1 he) h6,trivial⟩)
       (fun h6=>.c func153 (cQ4 ((y.shelf.flatten.take k).map (·.seq)) e.seq (by rw[length_map,length_take];omega)) fun _=>.s (e.seq∈(y.shelf.flatten.take k).map (·.seq))
        (fun h7=>.rt false ⟨yo_7 (cS0 he h7),trivial⟩)
        (fun h7=>.a ((y.shelf.flatten.take k).map (·.seq)) e.seq 8 (hy:=(show Entry.ok e from ge).2.1) (h63:=by rw[length_map,length_take];unfold maxLen;omega) (hby:=by rw[length_map,length_take];omega)<|.g 4 (cR9 he)<|.p k 1<|.n t (k+1) [] (hJ.next he h6 h7) aA)))
      (fun h=>let h6:=hJ.all h
       .l (Γ:=Nat) (fun k=>YrJ y k) (fun k=>y.runs.length-k) [1,5,72,73] [2,3] [0,1] (fun k=>[vI 74 k]) (fun _=>[]) 0 (h:=YrJ.start y) fun k hJ t=>let hk0:=hJ.le
       .s ((k:Int)<y.runs.length)
        (fun h=>.x y.runs k (h:=by omega) fun r hr gr=>.c func154 (cP4 r) (hg:=⟨gr,trivial⟩) fun _=>.v (eZ r)
         (fun h7=>.rt false ⟨cQ7 hr (fun z=>by rw[z.1]at h7;cases h7),trivial⟩)
         (fun h7=>.c func155 (lV y r.id hw) (hg:=⟨gy,trivial⟩) fun _=>.u (aI y r.id=(k:Int))
          (fun h8=>.rt false ⟨cQ7 hr (fun z=>h8 z.2.1),trivial⟩)
          (fun h8=>.c func156 (RunsOk_i y r y.shelf.flatten hH.now (aR4 h7).1 aA) (hg:=⟨gy,gr,trivial⟩) fun _=>.v (gF y.now r y.shelf.flatten)
           (fun h9=>.rt false ⟨cQ7 hr (fun z=>by rw[z.2.2]at h9;cases h9),trivial⟩)
           (fun h9=>.p k 1<|.n t (k+1) [] (hJ.next hr h7 h8 h9) aA))))
        (fun h=>.c func157 (bJ1 y hw) (hg:=⟨gy,trivial⟩) fun _=>.rt (decide (dK y<=40)) ⟨cR8 hH h5 h6 hJ h,trivial⟩)))))))) aB
noncomputable def zB (y:Yard):Bool:=pB (y.shelf.length=4/\(∀l∈y.shelf,dL l=true)/\(∀e∈y.shelf.flatten,1<=e.seq/\e.seq<=y.seq-1)/\(y.shelf.flatten.map (·.seq)).Nodup)
theorem cI6 {y:Yard}(h:¬(y.shelf.length=4/\(∀l∈y.shelf,dL l=true)/\(∀e∈y.shelf.flatten,1<=e.seq/\e.seq<=y.seq-1)/\(y.shelf.flatten.map (·.seq)).Nodup)):false=zB y:=(nJ h).symm
structure YdJ (es:List Entry) (k j:Nat) (e:Entry):Prop where
 le:j<=k
 no:e.seq∉(es.take j).map (·.seq)
theorem YdJ.start (es:List Entry) (k:Nat) (e:Entry):YdJ es k 0 e:=⟨Nat.zero_le _,by simp⟩
theorem YdJ.next {es:List Entry}{k j:Nat}{e f:Entry}(h:YdJ es k j e) (hj:j<k) (hf:es[j]? = some f) (hn:¬f.seq=e.seq):YdJ es k (j+1) e:=by
 refine⟨hj,?_⟩;rw[<- cR9 hf];intro hm;rcases mem_append.1 hm with h1 | h1
 ·exact h.no h1
 simp at h1;exact hn h1.symm
theorem yd_hit {es:List Entry}{k j:Nat}{e f:Entry}(hj:j<k) (hf:es[j]? = some f) (hn:f.seq=e.seq):e.seq∈(es.take k).map (·.seq):=by
 obtain⟨hk,rfl⟩:=gsi_.1 hf;rw[<- hn];exact mem_map.2 ⟨_,aK2 hk hj,rfl⟩
theorem Shelves_s (y:Yard) (hsq:1<=y.seq/\y.seq<=1000000000) (hw:y.wt<=1048576):Ct1 prog 119 [.S y] [.B (zB y)]:=
 .one (zB y) (rk:=fun x=>[.B x])<|vc func119 (fun (hg:gin [Par.S y])=>let gy:=hg.1.1
  let hb:=fC y hw
  .u ((y.shelf.length:Int)=4) (fun h=>.rt false ⟨cI6 (fun z=>h (by have:=z.1;omega)),trivial⟩) (fun h3=>
  .l (Γ:=Nat) (fun k=>YsJ y k) (fun k=>y.shelf.length-k) [1] [2] [0,1] (fun k=>[vI 3 k]) (fun _=>[]) 0 (h:=YsJ.start y) fun k hJ t=>let hk0:=hJ.le
   .s ((k:Int)<y.shelf.length)
    (fun h=>.x y.shelf k (h:=by omega) fun l hl gl=>.c func192 (ShelfOk_s l) fun _=>.v (dL l)
     (fun h5=>.rt false ⟨cI6 (fun z=>by rw[z.2.1 l (mem_of_getElem? hl)]at h5;cases h5),trivial⟩)
     (fun h5=>.p k 1<|.n t (k+1) [] (hJ.next hl h5) aA))
    (fun h=>let h5:=hJ.all h
     .c func122 (bJ6 y hw) (hg:=⟨gy,trivial⟩) fun _=>
     .l (Γ:=Nat) (fun k=>YeJ y k) (fun k=>y.shelf.flatten.length-k) [1,4] [2,3] [0,1] (fun k=>[vI 5 k]) (fun k=>[]) 0 (h:=YeJ.start y) fun k hJ t=>let hk0:=hJ.le
     .s ((k:Int)<y.shelf.flatten.length)
      (fun h=>.x y.shelf.flatten k (h:=by omega) fun e he ge=>.m y.seq 1<|.c func37 (InV e.seq 1 (y.seq-1)) fun _=>.v (inB e.seq 1 (y.seq-1))
       (fun h6=>.rt false ⟨cI6 (fun z=>xU h6 (z.2.2.1 e (bZ1 he))),trivial⟩)
       (fun h6=>.l (Γ:=Nat) (fun j=>YdJ y.shelf.flatten k j e) (fun j=>k-j) [1,4,5] [2,3] [0,1] (fun j=>[vI 6 j]) (fun _=>[]) 0 (h:=YdJ.start _ k e) fun j hq t2=>let hj0:=hq.le
        .s ((j:Int)<(k:Int))
         (fun h7=>.x y.shelf.flatten j (h:=by omega) fun f hf gf=>.y he fun _=>.s (f.seq=e.seq)
          (fun h8=>.rt false ⟨cI6 (fun z=>cS0 he (yd_hit aA hf h8) z.2.2.2),trivial⟩)
          (fun h8=>.p j 1<|.n t2 (j+1) [] (hq.next aA hf h8) aA))
         (fun h7=>.p k 1<|.n t (k+1) [] (hJ.next he h6 (by have:=hq.no;rwa [show j=k by omega]at this)) aA)))
      (fun h=>.rt true ⟨(tK ⟨by omega,h5,(hJ.all h).1,(hJ.all h).2⟩).symm,trivial⟩)))) aB
structure YqJ (y:Yard) (k:Nat):Prop where
 le:k<=y.runs.length
 ok:∀j r,j<k->y.runs[j]? = some r->eZ r=true/\aI y r.id=(j:Int)
theorem YqJ.start (y:Yard):YqJ y 0:=⟨Nat.zero_le _,fun j r h=>by omega⟩
theorem YqJ.next {y:Yard}{k:Nat}{r:Run}(h:YqJ y k) (hr:y.runs[k]? = some r) (h1:eZ r=true) (h2:aI y r.id=(k:Int)):YqJ y (k+1):=by
 refine⟨(gsi_.1 hr).1,fun j q hj hq=>?_⟩;rcases Nat.lt_succ_iff_lt_or_eq.1 hj with h4 | rfl
 ·exact h.ok j q h4 hq
 rw[hr]at hq;cases hq;exact⟨h1,h2⟩
theorem YqJ.all {y:Yard}{k:Nat}(h:YqJ y k) (hk:¬(k:Int)<y.runs.length) {j:Nat}{r:Run}(hr:y.runs[j]? = some r):eZ r=true/\aI y r.id=(j:Int):=
 h.ok j r (by have:=(gsi_.1 hr).1;omega) hr
theorem lR (y:Yard) (hw:y.wt<=1048576):Ct1 prog 74 [.S y] [.B (aG y)]:=
 .one (aG y) (rk:=fun x=>[.B x])<|vc func74 (fun (hg:gin [Par.S y])=>let gy:=hg.1.1
  let hb:=fC y hw
  .c func37 (InV y.now 0 999999980) fun _=>.v (inB y.now 0 999999980) (fun h=>.rt false ⟨yo_1 (xU h),trivial⟩) (fun h1=>
  .c func37 (InV y.seq 1 1000000000) fun _=>.v (inB y.seq 1 1000000000) (fun h=>.rt false ⟨yo_2 (xU h),trivial⟩) (fun h2=>
  .s ((8:Int)<y.runs.length) (fun h=>.rt false ⟨yo_4 h,trivial⟩) (fun h4=>
  .c func119 (Shelves_s y (inB_iff.1 h2) hw) (hg:=⟨gy,trivial⟩) fun _=>.v (zB y) (fun h=>.rt false ⟨by unfold aG;rw[nJ (fun z=>cV8 h ⟨z.2.2.1,z.2.2.2.2.1,z.2.2.2.2.2.1,z.2.2.2.2.2.2.1⟩)],trivial⟩) (fun h3=>let hS:=pB_iff.1 h3
  let hH:YoH y:=⟨inB_iff.1 h1,inB_iff.1 h2,hS.1,by omega⟩
  .l (Γ:=Nat) (fun k=>YqJ y k) (fun k=>y.runs.length-k) [1] [2] [0,1] (fun k=>[vI 3 k]) (fun _=>[]) 0 (h:=YqJ.start y) fun k hJ t=>let hk0:=hJ.le
   .s ((k:Int)<y.runs.length)
    (fun h=>.x y.runs k (h:=by omega) fun r hr gr=>.c func120 (bQ1 r) (hg:=⟨gr,trivial⟩) fun _=>.v (eZ r)
     (fun h7=>.rt false ⟨cQ7 hr (fun z=>by rw[z.1]at h7;cases h7),trivial⟩)
     (fun h7=>.y hr fun _=>.c func121 (lU y r.id hw) (hg:=⟨gy,trivial⟩) fun _=>.u (aI y r.id=(k:Int))
      (fun h8=>.rt false ⟨cQ7 hr (fun z=>h8 z.2.1),trivial⟩)
      (fun h8=>.p k 1<|.n t (k+1) [] (hJ.next hr h7 h8) aA)))
    (fun h=>.c func122 (bJ6 y hw) (hg:=⟨gy,trivial⟩) fun _=>
     .l (Γ:=Nat) (fun k=>YrJ y k) (fun k=>y.runs.length-k) [1,4] [2,3] [0,1] (fun k=>[vI 5 k]) (fun _=>[]) 0 (h:=YrJ.start y) fun k hq t=>let hk0:=hq.le
     .s ((k:Int)<y.runs.length)
      (fun h6=>.x y.runs k (h:=by omega) fun r hr gr=>let hro:=hJ.all h hr
       .c func123 (RunsOk_s y r y.shelf.flatten hH.now (aR4 hro.1).1 aA) (hg:=⟨gy,gr,trivial⟩) fun _=>.v (gF y.now r y.shelf.flatten)
       (fun h9=>.rt false ⟨cQ7 hr (fun z=>by rw[z.2.2]at h9;cases h9),trivial⟩)
       (fun h9=>.p k 1<|.n t (k+1) [] (hq.next hr hro.1 hro.2 h9) aA))
      (fun h6=>.c func124 (bJ0 y hw) (hg:=⟨gy,trivial⟩) fun _=>.rt (decide (dK y<=40)) ⟨cR8 hH hS.2.1 ⟨hS.2.2.1,hS.2.2.2⟩ hq h6,trivial⟩))))))) aB
def lN (nm:ByteArray):Bool:=inB (nm.size:Int) 1 10
structure fileOkP (fs:List File) (k:Nat) (f:File):Prop where
 name:lN f.name=true
 at_:fAt fs f.name=(k:Int)
 data:(f.data.size:Int)<=60000
 safe:inB f.safe 0 (f.data.size:Int)=true
structure diskP (d:Disk):Prop where
 four:d.files.length<=4
 ok:∀k f,d.files[k]? = some f->fileOkP d.files k f
noncomputable def aS (d:Disk):Bool:=pB (diskP d)
theorem diskOk_iff {d:Disk}:aS d=true↔diskP d:=pB_iff
structure DkJ (d:Disk) (k:Nat):Prop where
 le:k<=d.files.length
 four:d.files.length<=4
 ok:∀j f,j<k->d.files[j]? = some f->fileOkP d.files j f
theorem DkJ.start {d:Disk}(h:¬(4:Int)<d.files.length):DkJ d 0:=⟨Nat.zero_le _,by omega,fun j f h=>by omega⟩
theorem DkJ.next {d:Disk}{k:Nat}{f:File}(h:DkJ d k) (hf:d.files[k]? = some f) (hok:fileOkP d.files k f):DkJ d (k+1):=by
 refine⟨(gsi_.1 hf).1,h.four,fun j g hj hg=>?_⟩;rcases Nat.lt_succ_iff_lt_or_eq.1 hj with h1 | rfl
 ·exact h.ok j g h1 hg
 rw[hf]at hg;cases hg;exact hok
theorem dA4 {d:Disk}(h:(4:Int)<d.files.length):false=aS d:=(nJ fun hp=>by have:=hp.four;omega).symm
theorem uA {d:Disk}{k:Nat}{f:File}(hf:d.files[k]? = some f) (h:¬fileOkP d.files k f):false=aS d:=(nJ fun hp=>h (hp.ok k f hf)).symm
theorem dA5 {d:Disk}{k:Nat}(h:DkJ d k) (hk:¬(k:Int)<d.files.length):true=aS d:=(tK ⟨h.four,fun j f hf=>h.ok j f (by have:=(gsi_.1 hf).1;omega) hf⟩).symm
theorem aF7 {d:Disk}(h:aS d=true) {k:Nat}{f:File}(hf:d.files[k]? = some f):f.data.size<=60000:=by
 have:=((diskOk_iff.1 h).ok k f hf).data;omega
theorem vO {d:Disk}(h:aS d=true):d.files.length<=4:=(diskOk_iff.1 h).four
def wrK (d:Disk) (nm:ByteArray):Nat:=if fAt d.files nm<0 then d.files.length else (fAt d.files nm).toNat
def wrB (d:Disk) (nm:ByteArray):List File:=if fAt d.files nm<0 then d.files++[⟨nm,⟨#[]⟩,0⟩] else d.files
def rU (f:File) (more:ByteArray):File:=⟨f.name,f.data++more,f.safe⟩
def wrD (d:Disk) (nm more:ByteArray):Disk:=
 match (wrB d nm)[wrK d nm]? with
 | some f=>⟨(wrB d nm).set (wrK d nm) (rU f more)⟩
 | none=>d
theorem yS {d:Disk}{nm:ByteArray}(h:fAt d.files nm<0):wrB d nm=d.files++[⟨nm,⟨#[]⟩,0⟩]/\wrK d nm=d.files.length:=by
 unfold wrB wrK;rw[if_pos h,if_pos h];exact⟨rfl,rfl⟩
theorem yT {d:Disk}{nm:ByteArray}(h:¬fAt d.files nm<0):wrB d nm=d.files/\(wrK d nm:Int)=fAt d.files nm:=by
 unfold wrB wrK;rw[if_neg h,if_neg h];exact⟨rfl,by omega⟩
theorem bA6 (d:Disk) (nm:ByteArray):∃f,(wrB d nm)[wrK d nm]? = some f:=by
 by_cases h:fAt d.files nm<0
 ·obtain⟨e1,e2⟩:=yS h;rw[e1,e2];exact⟨⟨nm,⟨#[]⟩,0⟩,by simp⟩
 obtain⟨e1,e2⟩:=yT h;obtain⟨k,hk,hlt⟩:=jK h;rw[e1];exact⟨_,getElem?_eq_getElem aA⟩
theorem wY {d:Disk}{nm:ByteArray}{f:File}(more:ByteArray) (hf:(wrB d nm)[wrK d nm]? = some f):wrD d nm more=⟨(wrB d nm).set (wrK d nm) (rU f more)⟩:=by
 unfold wrD;rw[hf]
theorem pK {d:Disk}{nm:ByteArray}(h:aS d=true) {k:Nat}{f:File}(hf:(wrB d nm)[k]? = some f):f.data.size<=60000:=by
 unfold wrB at hf;split at hf
 ·rcases Nat.lt_or_ge k d.files.length with h1 | h1
  ·rw[getElem?_append_left h1]at hf;exact aF7 h hf
  rw[getElem?_append_right h1]at hf;have:=mem_of_getElem? hf;simp only[mem_singleton]at this;subst this;exact Nat.zero_le _
 exact aF7 h hf
noncomputable def eC (d:Disk) (nm more:ByteArray):Disk×Bool:=if aS d=true/\aS (wrD d nm more)=true then (wrD d nm more,true) else (d,false)
theorem aI0 {d:Disk}{nm more:ByteArray}(h:¬(aS d=true/\aS (wrD d nm more)=true)):(d,false)=eC d nm more:=by unfold eC;rw[if_neg h]
theorem cB6 {d:Disk}{nm more:ByteArray}(h1:aS d=true) (h2:aS (wrD d nm more)=true):(wrD d nm more,true)=eC d nm more:=by unfold eC;rw[if_pos ⟨h1,h2⟩]
theorem cS1 {d:Disk}{nm more:ByteArray}(h:(60000:Int)<more.size):¬aS (wrD d nm more)=true:=by
 intro hk;obtain⟨f,hf⟩:=bA6 d nm;rw[wY more hf]at hk;have hlt:=(gsi_.1 hf).1;have:=aF7 hk (k:=wrK d nm) (f:=rU f more) (by simp[hlt]);unfold rU at this;simp only[ByteArray.size_append]at this;omega
def cB8 (f:File):File:=⟨f.name,f.data,(f.data.size:Int)⟩
def synD (d:Disk) (nm:ByteArray):Disk:=
 match d.files[(fAt d.files nm).toNat]? with
 | some f=>⟨d.files.set (fAt d.files nm).toNat (cB8 f)⟩
 | none=>d
noncomputable def iH (d:Disk) (nm:ByteArray):Disk×Bool:=if ¬fAt d.files nm<0/\aS d=true then (synD d nm,true) else (d,false)
theorem cG7 {d:Disk}{nm:ByteArray}(h:¬(¬fAt d.files nm<0/\aS d=true)):(d,false)=iH d nm:=by unfold iH;rw[if_neg h]
theorem cT1 {d:Disk}{nm:ByteArray}{k:Nat}{f:File}(hk:fAt d.files nm=(k:Int)) (hf:d.files[k]? = some f) (h:aS d=true):((⟨d.files.set k (cB8 f)⟩:Disk),true)=iH d nm:=by
 unfold iH synD;rw[if_pos ⟨by omega,h⟩,hk,Int.toNat_natCast,hf]
def cA1 (f:File) (n:Nat):File:=⟨f.name,f.data.extract 0 n,(n:Int)⟩
def cR6 (d:Disk) (nm:ByteArray) (n:Int):Disk:=
 match d.files[(fAt d.files nm).toNat]? with
 | some f=>⟨d.files.set (fAt d.files nm).toNat (cA1 f n.toNat)⟩
 | none=>d
def bG5 (d:Disk) (nm:ByteArray):Int:=
 match d.files[(fAt d.files nm).toNat]? with
 | some f=>(f.data.size:Int)
 | none=>0
noncomputable def bY (d:Disk) (nm:ByteArray) (n:Int):Disk×Bool:=if ¬fAt d.files nm<0/\aS d=true/\inB n 0 (bG5 d nm)=true then (cR6 d nm n,true) else (d,false)
theorem bG6 {d:Disk}{nm:ByteArray}{n:Int}(h:¬(¬fAt d.files nm<0/\aS d=true/\inB n 0 (bG5 d nm)=true)):(d,false)=bY d nm n:=by unfold bY;rw[if_neg h]
theorem aF9 {d:Disk}{nm:ByteArray}{k:Nat}{f:File}(hk:fAt d.files nm=(k:Int)) (hf:d.files[k]? = some f):bG5 d nm=(f.data.size:Int):=by
 unfold bG5;rw[hk,Int.toNat_natCast,hf]
theorem dA8 {d:Disk}{nm:ByteArray}{n:Int}{k:Nat}{f:File}(hk:fAt d.files nm=(k:Int)) (hf:d.files[k]? = some f) (h:aS d=true) (hn:inB n 0 (f.data.size:Int)=true):((⟨d.files.set k (cA1 f n.toNat)⟩:Disk),true)=bY d nm n:=by
 unfold bY cR6;rw[if_pos ⟨by omega,h,by rw[aF9 hk hf];exact hn⟩,hk,Int.toNat_natCast,hf]
def mvF (f:File) (nm:ByteArray):File:=⟨nm,f.data,f.safe⟩
def bL5 (d:Disk) (nm:ByteArray):Int:=
 match d.files[(fAt d.files nm).toNat]? with
 | some f=>f.safe
 | none=>0
def mvG (fs:List File) (k:Nat) (to:ByteArray):Nat->List File
 | 0=>[]
 | i+1=>match fs[i]? with
  | some f=>if f.name=to then mvG fs k to i else mvG fs k to i++[if i=k then mvF f to else f]
  | none=>mvG fs k to i
theorem bV8 {fs:List File}{k:Nat}{to:ByteArray}{i:Nat}{f:File}(hf:fs[i]? = some f) (h:f.name=to):mvG fs k to i=mvG fs k to (i+1):=by
 show _=(match fs[i]? with | some f=>_ | none=>_);rw[hf];simp only;rw[if_pos h]
theorem bV9 {fs:List File}{k:Nat}{to:ByteArray}{i:Nat}{f:File}(hf:fs[i]? = some f) (h:¬f.name=to) (hk:i=k):mvG fs k to i++[mvF f to]=mvG fs k to (i+1):=by
 show _=(match fs[i]? with | some f=>_ | none=>_);rw[hf];simp only;rw[if_neg h,if_pos hk]
theorem bW0 {fs:List File}{k:Nat}{to:ByteArray}{i:Nat}{f:File}(hf:fs[i]? = some f) (h:¬f.name=to) (hk:¬i=k):mvG fs k to i++[f]=mvG fs k to (i+1):=by
 show _=(match fs[i]? with | some f=>_ | none=>_);rw[hf];simp only;rw[if_neg h,if_neg hk]
theorem bN8 (fs:List File) (k:Nat) (to:ByteArray):∀i,(mvG fs k to i).length<=i
 | 0=>Nat.le_refl _
 | i+1=>by
  have ih:=bN8 fs k to i;show (match fs[i]? with | some f=>_ | none=>_:List File).length<=_;split
  ·split
   ·omega
   ·simp only[length_append,length_singleton];omega
  ·omega
noncomputable def gZ (d:Disk) (fr to:ByteArray):Disk×Bool:=if ¬fAt d.files fr<0/\aS d=true/\¬fr=to/\lN to=true/\bL5 d fr=bG5 d fr then (⟨mvG d.files (fAt d.files fr).toNat to d.files.length⟩,true) else (d,false)
theorem wN {d:Disk}{fr to:ByteArray}(h:¬(¬fAt d.files fr<0/\aS d=true/\¬fr=to/\lN to=true/\bL5 d fr=bG5 d fr)):(d,false)=gZ d fr to:=by unfold gZ;rw[if_neg h]
theorem bN7 {d:Disk}{nm:ByteArray}{k:Nat}{f:File}(hk:fAt d.files nm=(k:Int)) (hf:d.files[k]? = some f):bL5 d nm=f.safe:=by
 unfold bL5;rw[hk,Int.toNat_natCast,hf]
theorem cD1 {d:Disk}{fr to:ByteArray}{k:Nat}{f:File}(hk:fAt d.files fr=(k:Int)) (hf:d.files[k]? = some f) (h:aS d=true) (h2:¬fr=to) (h3:lN to=true) (h4:f.safe=(f.data.size:Int)):((⟨mvG d.files k to d.files.length⟩:Disk),true)=gZ d fr to:=by
 unfold gZ;rw[if_pos ⟨by omega,h,h2,h3,by rw[bN7 hk hf,aF9 hk hf];exact h4⟩,hk,Int.toNat_natCast]
theorem rO {fs:List File}{nm:ByteArray}{k:Nat}{f:File}(hk:fAt fs nm=(k:Int)) (hf:fs[k]? = some f):f.name=nm:=by
 unfold fAt at hk;cases h:fs.findIdx? (fun f=>decide (f.name=nm)) with
 | none=>rw[h]at hk;simp at hk
 | some j=>
  rw[h]at hk;simp only at hk;have hj:j=k:=by omega
  subst hj;obtain⟨hlt,hp,_⟩:=findIdx?_eq_some_iff_getElem.1 h;obtain⟨_,rfl⟩:=gsi_.1 hf;simpa using hp
theorem cN2 {fs:List File}{nm:ByteArray}{i:Nat}{f:File}(hf:fs[i]? = some f) (h:f.name=nm):¬fAt fs nm<0:=by
 unfold fAt;cases hq:fs.findIdx? (fun f=>decide (f.name=nm)) with
 | none=>
  have:=findIdx?_eq_none_iff.1 hq f (mem_of_getElem? hf);simp[h]at this
 | some j=>simp only;omega
theorem aE3 {d:Disk}{fr to:ByteArray}{k:Nat}{f:File}(hd:aS d=true) (hk:fAt d.files fr=(k:Int)) (hf:d.files[k]? = some f) (hne:¬fr=to) {j:Nat}(hj:fAt d.files to=(j:Int)∨fAt d.files to<0/\j=d.files.length) :
  ∀i,i<=d.files.length->mvG d.files k to i=((d.files.set k (mvF f to)).take i).eraseIdx j
 | 0,_=>by simp[mvG]
 | i+1,hi=>by
  have ih:=aE3 hd hk hf hne hj i aA;obtain⟨g,hg⟩:∃g,d.files[i]? = some g:=⟨_,getElem?_eq_getElem aA⟩;have hgok:=(diskOk_iff.1 hd).ok i g hg;have hkj:¬k=j:=by
   intro e;rcases hj with h | ⟨h,e2⟩
   ·rw[<- e]at h;exact hne ((rO hk hf).symm.trans (rO h hf))
   have:=(gsi_.1 hf).1;omega
  have hset:(d.files.set k (mvF f to))[i]? = some (if i=k then mvF f to else g):=by
   rw[getElem?_set];by_cases e:k=i
   ·subst e;rw[if_pos rfl,if_pos aA,if_pos rfl]
   rw[if_neg e,if_neg (fun e2=>e e2.symm),hg]
  obtain⟨hlt,hset2⟩:=gsi_.1 hset;have htk:(d.files.set k (mvF f to)).take (i+1)=(d.files.set k (mvF f to)).take i++[if i=k then mvF f to else g]:=by
   rw[take_succ_eq_append_getElem hlt,hset2]
  have hlen:((d.files.set k (mvF f to)).take i).length=i:=by rw[length_take];omega
  rw[htk];by_cases hn:g.name=to
  ·have hij:i=j:=by
    rcases hj with h | ⟨h,_⟩
    ·have h1:=hgok.at_;rw[hn,h]at h1;omega
    exact absurd h (cN2 hg hn)
   have hik:¬i=k:=fun e=>hkj (e.symm.trans hij)
   rw[<- bV8 hg hn,ih,<- hij,eraseIdx_of_length_le (by rw[hlen];exact Nat.le_refl _)];have:=eraseIdx_append_of_length_le (l:=(d.files.set k (mvF f to)).take i) (k:=i) (by rw[hlen];exact Nat.le_refl _) [if i=k then mvF f to else g];rw[this,hlen];simp
  have hij:¬i=j:=by
   intro e;rcases hj with h | ⟨_,h⟩
   ·rw[<- e]at h;exact hn (rO h hg)
   omega
  have e1:mvG d.files k to (i+1)=mvG d.files k to i++[if i=k then mvF f to else g]:=by
   by_cases e:i=k
   ·rw[if_pos e];rw[<- bV9 hg hn e];have:g=f:=by rw[<- e,hg]at hf;cases hf;rfl
    rw[this]
   rw[if_neg e,<- bW0 hg hn e]
  rw[e1,ih];rcases Nat.lt_or_ge j i with h | h
  ·rw[eraseIdx_append_of_lt_length (by rw[hlen];exact h)]
  rw[eraseIdx_of_length_le (by rw[hlen];exact h),eraseIdx_of_length_le (by rw[length_append,hlen,length_singleton];omega)]
theorem bE9 {α:Type}(p:α->Bool):∀xs:List α,kV p xs=xs.findIdx? p
 | []=>rfl
 | x::xs=>by rw[findIdx?_cons,kV,bE9 p xs]
theorem cZ6 (fs:List File) (nm:ByteArray):ixI (kV (fun f:File=>decide (f.name=nm)) fs)=fAt fs nm:=by
 rw[bE9];unfold fAt;cases fs.findIdx? (fun f=>decide (f.name=nm))<;>rfl
structure FaJ (fs:List File) (nm:ByteArray) (k:Nat):Prop where
 le:k<=fs.length
 no:(fs.take k).any (fun f=>decide (f.name=nm))=false
theorem FaJ.next {fs:List File}{nm:ByteArray}{k:Nat}{f:File}(h:FaJ fs nm k) (hf:fs[k]? = some f) (hn:¬f.name=nm):FaJ fs nm (k+1):=by
 obtain⟨hk,rfl⟩:=gsi_.1 hf;exact⟨hk,yE hk h.no (by simp[hn])⟩
theorem FaJ.hit {fs:List File}{nm:ByteArray}{k:Nat}{f:File}(h:FaJ fs nm k) (hf:fs[k]? = some f) (hn:f.name=nm):ixI (some k)=fAt fs nm:=by
 obtain⟨hk,rfl⟩:=gsi_.1 hf;rw[<- cZ6,rI hk h.no (by simp[hn])]
theorem FaJ.none_ {fs:List File}{nm:ByteArray}{k:Nat}(h:FaJ fs nm k) (hk:¬(k:Int)<fs.length):ixI none=fAt fs nm:=by
 have:=h.no;rw[show k=fs.length by have:=h.le;omega,take_length]at this;rw[<- cZ6,vE this]
theorem lW (d:Disk) (nm:ByteArray):Ct1 prog 159 [.S d,.T nm] [.I (fAt d.files nm)]:=
 .one (fAt d.files nm) (rk:=fun x=>[.I x])<|vc func159 (fun (hg:gin [Par.S d,Par.T nm])=>let hb:=hg.1.2.1
  .in_ (R':=fun o:Option Nat=>ixI o=fAt d.files nm) func231 (
   .la (Γ:=Nat) (FaJ d.files nm) (fun k=>d.files.length-k) (fun k=>[vI 8 k]) (fun _=>[]) 0 (h:=⟨Nat.zero_le _,rfl⟩) fun k hJ t=>let hl:=hJ.le
    .s ((k:Int)<d.files.length)
     (fun h=>.x d.files k (h:=by omega) fun f hf gf=>.in_ (R':=fun _:Unit=>True) func232 (.rt () trivial) fun _ _=>.s (f.name=nm)
      (fun h1=>.rt (some k) (hJ.hit hf h1))
      (fun h1=>.p k 1<|.n t (k+1) [] (hJ.next hf h1) aA))
     (fun h=>.rt none (hJ.none_ h))) fun o=>match o with
   | none=>fun ho=>.rt (-1) ⟨ho,trivial⟩
   | some k=>fun ho=>.rt (k:Int) ⟨ho,trivial⟩) aB
theorem aH4 (d:Disk) (nm:ByteArray) (hl:d.files.length<=1048576):Ct1 prog 181 [.S d,.T nm] [.T (cX d.files nm)]:=
 .one (cX d.files nm) (rk:=fun a=>[.T a])<|vc func181 (fun hg=>.c func159 (lW d nm) fun _=>.s (fAt d.files nm<0)
  (fun h=>.rt ⟨#[]⟩ ⟨by unfold cX;rw[if_pos h],trivial⟩)
  (fun h=>.ex (jK h) fun k hk=>.ex (p:=fun f=>d.files[k]? = some f) ⟨_,getElem?_eq_getElem hk.2⟩ fun f hf=>.ye hf (fAt d.files nm) (fun _=>.rt f.data ⟨by
   unfold cX;rw[if_neg h,hk.1,Int.toNat_natCast,hf];rfl,trivial⟩) (he:=hk.1))) aB
theorem aT0:nR File:=fun _ _ _ _ h=>h.2.1
theorem oT:nR Wait:=fun _ _ _ _ h=>h.2.1
theorem cP7 (nm:ByteArray):Ct1 prog 158 [.T nm] [.B (lN nm)]:=
 vc func158 (fun hg=>.c func50 (bL nm.size 1 10) fun _=>.rt () ⟨trivial,trivial⟩) aB
theorem cP6 (nm:ByteArray):Ct1 prog 125 [.T nm] [.B (lN nm)]:=
 .one (lN nm) (rk:=fun a=>[.B a])<|vc func125 (fun hg=>.s ((1:Int)<=nm.size)
  (fun h=>.rt (decide ((nm.size:Int)<=10)) ⟨by unfold lN inB;simp[h],trivial⟩)
  (fun h=>.rt false ⟨by unfold lN inB;simp[h],trivial⟩)) aB
theorem qB (d:Disk):Ct1 prog 92 [.S d] [.B (aS d)]:=
 .one (aS d) (rk:=fun a=>[.B a])<|vc func92 (fun hg=>.s ((4:Int)<d.files.length)
  (fun h=>.rt false ⟨dA4 h,trivial⟩)
  (fun h4=>.l (Γ:=Nat) (fun k=>DkJ d k) (fun k=>d.files.length-k) [1,10,11] [1] [0] (fun k=>[vI 12 k]) (fun _=>[]) 0 (h:=DkJ.start h4) fun k hJ t=>
   .s ((k:Int)<d.files.length)
    (fun h=>.x d.files k (h:=by omega) fun f hf gf=>.c func158 (cP7 f.name) fun _=>.v (lN f.name)
     (fun h1=>.rt false ⟨uA hf (fun h=>by rw[h.name]at h1;cases h1),trivial⟩)
     (fun h1=>.c func159 (lW d f.name) fun _=>.u (fAt d.files f.name=(k:Int))
      (fun h2=>.rt false ⟨uA hf (fun h=>h2 h.at_),trivial⟩)
      (fun h2=>.s ((60000:Int)<f.data.size)
       (fun h3=>.rt false ⟨uA hf (fun h=>by have:=h.data;omega),trivial⟩)
       (fun h3=>.c func50 (bL f.safe 0 f.data.size) fun _=>.v (inB f.safe 0 (f.data.size:Int))
        (fun h5=>.rt false ⟨uA hf (fun h=>by rw[h.safe]at h5;cases h5),trivial⟩)
        (fun h5=>.p k 1<|.n t (k+1) [] (hJ.next hf ⟨h1,h2,by omega,h5⟩) aA)))))
    (fun h=>.rt true ⟨dA5 hJ h,trivial⟩))) aB
theorem jZ (d:Disk):Ct1 prog 75 [.S d] [.B (aS d)]:=
 .one (aS d) (rk:=fun a=>[.B a])<|vc func75 (fun hg=>.s ((4:Int)<d.files.length)
  (fun h=>.rt false ⟨dA4 h,trivial⟩)
  (fun h4=>.l (Γ:=Nat) (fun k=>DkJ d k) (fun k=>d.files.length-k) [1] [1] [0] (fun k=>[vI 3 k]) (fun _=>[]) 0 (h:=DkJ.start h4) fun k hJ t=>
   .s ((k:Int)<d.files.length)
    (fun h=>.x d.files k (h:=by omega) fun f hf gf=>.c func125 (cP6 f.name) fun _=>.v (lN f.name)
     (fun h1=>.rt false ⟨uA hf (fun h=>by rw[h.name]at h1;cases h1),trivial⟩)
     (fun h1=>.s ((60000:Int)<f.data.size)
      (fun h3=>.rt false ⟨uA hf (fun h=>by have:=h.data;omega),trivial⟩)
      (fun h3=>.c func37 (InV f.safe 0 f.data.size) fun _=>.v (inB f.safe 0 (f.data.size:Int))
       (fun h5=>.rt false ⟨uA hf (fun h=>by rw[h.safe]at h5;cases h5),trivial⟩)
       (fun h5=>.c func126 (mT d f.name aA) fun _=>.u (fAt d.files f.name=(k:Int))
        (fun h2=>.rt false ⟨uA hf (fun h=>h2 h.at_),trivial⟩)
        (fun h2=>.p k 1<|.n t (k+1) [] (hJ.next hf ⟨h1,h2,by omega,h5⟩) aA)))))
    (fun h=>.rt true ⟨dA5 hJ h,trivial⟩))) aB
abbrev diskR (d:Disk):Rk := .cl [.r (inferInstance:Shape File) 150 d.files]
theorem iR (d:Disk) (hl:d.files.length<=1048600):Ct1 prog 150 [.S d] [diskR d]:=
 vc func150 (fun hg=>.as (inferInstance:Shape File) aT0 [] d.files 40 (by simp only[length_nil];unfold maxLen;omega) (by simp only[length_nil];omega)<|.rt () ⟨trivial,trivial⟩) aB
theorem dN (d:Disk) (hl:d.files.length<=1048600):Ct1 prog 118 [.S d] [diskR d]:=
 vc func118 (fun hg=>.e File<|.as (inferInstance:Shape File) aT0 [] d.files 40 (by simp only[length_nil];unfold maxLen;omega) (by simp only[length_nil];omega)<|.rt () ⟨trivial,trivial⟩) aB
theorem Co.one {P:Program}{F:FuncId}{ow:List Lr}{ag:Bool}{ps:List Par}{A:Type}{rk:A->List Rk}(a0:A) (h:Co P F ow ag ps (fun a=>a=a0) rk):Co P F ow ag ps (fun _:Unit=>True) (fun _=>rk a0):=
 ⟨fun w W0 cs r us rs hlv st hp=>(h.run w W0 cs r us rs hlv st hp).mono fun e W hh=>by
  obtain⟨a,vs,rr,ha,hh⟩:=hh;subst ha;exact⟨(),vs,rr,trivial,hh⟩⟩
theorem aN8 {P:Program}{t:TypeId}{s:ByteArray}{b:Int}(hu:P.underlying t=some .string) (h1:0<=b) (h2:b<=s.size):LOk P t (.string s) none (some (I b)) (.string (s.extract 0 b.toNat)):=by
 intro n f W Q K d ty pos af g xo lo hi hx hl hh k;cases lo with
 | some lo=>cases hl
 | none=>
  cases hi with
  | none=>cases hh
  | some hi=>
   simp only[Option.map_some,Option.some.injEq]at hh;refine Stp.run (v := .string (s.extract 0 b.toNat)) ?_ k;have:=run_slice_string_h (P:=P) (w:=W) t s hu .i64 b h1 h2;simp only[execOp,hx,hh,Sem.run_bind,Option.map_some,Option.map_none];rw[run_sliceAt_string (h:=hu)];have e:Sem.run P (Instr.slice t (Value.string s) none (some (I b)) none) W=Result.ok (Value.string (s.extract 0 b.toNat)) W:=by simpa using this
   rw[e];rfl
noncomputable def orF (a b:Disk):Disk×Bool:=if aS a=true then (a,true) else (b,false)
theorem cQ3 (a b:Disk) (hl:b.files.length<=1048600):Co prog 167 [.o (inferInstance:Shape File) a.files] true [.S b] (fun _:Unit=>True) (fun _=>[.S (orF a b).1,.B (orF a b).2]):=
 .one (orF a b) (rk:=fun p=>[.S p.1,.B p.2])<|vco func167 (fun hg ho=>.c func92 (qB a) fun _=>.v (aS a)
  (fun h=>.c func150 (iR b hl) fun _=>.sh 5<|.rt (b,false) ⟨by unfold orF;rw[if_neg (by rw[h];simp)],trivial,trivial⟩)
  (fun h=>.rt (a,true) ⟨by unfold orF;rw[if_pos h],trivial,trivial⟩)) aB
theorem wr_or {d:Disk}{nm more:ByteArray}{f:File}(h:aS d=true) (hf:(wrB d nm)[wrK d nm]? = some f):orF ⟨(wrB d nm).set (wrK d nm) (rU f more)⟩ d=eC d nm more:=by
 rw[<- wY more hf];unfold orF;by_cases h2:aS (wrD d nm more)=true
 ·rw[if_pos h2];exact cB6 h h2
 rw[if_neg h2];exact aI0 fun e=>h2 e.2
theorem bV4 {nm:ByteArray}(h:nm.size<=maxLen):File.ok ⟨nm,⟨#[]⟩,0⟩:=⟨h,by show 0<=_;unfold maxLen;omega,by show I64 0;unfold I64;omega⟩
theorem aC0 {f:File}{more:ByteArray}(gf:f.ok) (h1:f.data.size<=60000) (h2:more.size<=1000000000):File.ok (rU f more):=⟨gf.1,by show (f.data++more).size<=_;rw[ByteArray.size_append];unfold maxLen;omega,gf.2.2⟩
theorem bS4 {f:File}(gf:f.ok):File.ok (cB8 f):=⟨gf.1,gf.2.1,by have:=gf.2.1;show I64 (f.data.size:Int);unfold maxLen at this;unfold I64;omega⟩
theorem aW8 {f:File}{n:Nat}(gf:f.ok) (h:n<=f.data.size):File.ok (cA1 f n):=⟨gf.1,by have:=gf.2.1;show (f.data.extract 0 n).size<=_;rw[ByteArray.size_extract];omega,by have:=gf.2.1;show I64 (n:Int);unfold maxLen at this;unfold I64;omega⟩
theorem xV {a:Int}{n:Nat}(h:inB a 0 (n:Int)=true):0<=a/\a<=n:=by
 unfold inB at h;simpa using h
theorem yG (d:Disk) (nm more:ByteArray) (hl:d.files.length<=1048576) (hn:nm.size<=maxLen) (hm:more.size<=1000000000):Ct1 prog 97 [.S d,.T nm,.T more] [.S (eC d nm more).1,.B (eC d nm more).2]:=
 .one (eC d nm more) (rk:=fun p=>[.S p.1,.B p.2])<|vc func97 (fun hg=>.c func92 (qB d) fun _=>.v (aS d)
  (fun hb=>.c func150 (iR d aA) fun _=>.sh 3<|.rt (d,false) ⟨aI0 (fun e=>by rw[hb]at e;cases e.1),trivial,trivial⟩)
  (fun hd=>.c func150 (iR d aA) fun _=>.c func159 (lW d nm) fun _=>.s (fAt d.files nm<0)
   (fun h=>.a d.files ⟨nm,⟨#[]⟩,0⟩ 40 (hy:=bV4 hn) (hby:=by omega)<|.g 3 (yS h).1.symm <|
    .ex (p:=fun f=>(wrB d nm)[wrK d nm]? = some f) (bA6 d nm) fun f hf=>.sh 3<|.d 3 hf fun gf=>.ie (wrK d nm) (d.files.length:Int) (he:=by rw[(yS h).2])<|.pb .add (iD f.data more (by have:=pK hd hf;omega))<|.ie (wrK d nm) (d.files.length:Int) (he:=by rw[(yS h).2]) <|
     .wt 42<|.f 3 (wrB d nm) (rU f more) (h:=aC0 gf (pK hd hf) hm)<|.co _ func167 (cQ3 ⟨(wrB d nm).set (wrK d nm) (rU f more)⟩ d aA) ⟨trivial,trivial⟩ fun _ _ _=>.rt (orF ⟨(wrB d nm).set (wrK d nm) (rU f more)⟩ d) ⟨wr_or hd hf,trivial,trivial⟩)
   (fun h=>.g 3 (yT h).1.symm <|
    .ex (p:=fun f=>(wrB d nm)[wrK d nm]? = some f) (bA6 d nm) fun f hf=>.sh 3<|.d 3 hf fun gf=>.ie (wrK d nm) (fAt d.files nm) (he:=(yT h).2.symm)<|.pb .add (iD f.data more (by have:=pK hd hf;omega))<|.ie (wrK d nm) (fAt d.files nm) (he:=(yT h).2.symm) <|
     .wt 42<|.f 3 (wrB d nm) (rU f more) (h:=aC0 gf (pK hd hf) hm)<|.co _ func167 (cQ3 ⟨(wrB d nm).set (wrK d nm) (rU f more)⟩ d aA) ⟨trivial,trivial⟩ fun _ _ _=>.rt (orF ⟨(wrB d nm).set (wrK d nm) (rU f more)⟩ d) ⟨wr_or hd hf,trivial,trivial⟩))) aB
theorem yF (d:Disk) (nm more:ByteArray) (hl:d.files.length<=1048576) (hn:nm.size<=maxLen) (hm:more.size<=1000000000):Ct1 prog 78 [.S d,.T nm,.T more] [.S (eC d nm more).1,.B (eC d nm more).2]:=
 .one (eC d nm more) (rk:=fun p=>[.S p.1,.B p.2])<|vc func78 (fun hg=>.c func118 (dN d aA) fun _=>.c func126 (mT d nm aA) fun _=>.s (fAt d.files nm<0)
   (fun h=>.a d.files ⟨nm,⟨#[]⟩,0⟩ 40 (hy:=bV4 hn) (hby:=by omega)<|.m ((d.files++[(⟨nm,⟨#[]⟩,0⟩:File)]).length:Int) 1 (h:=by unfold I64;simp only[length_append,length_singleton];omega)<|.g 3 (yS h).1.symm <|
    .c func75 (jZ d) fun _=>.v (aS d)
     (fun hb=>.c func118 (dN d aA) fun _=>.sh 6<|.rt (d,false) ⟨aI0 (fun e=>by rw[hb]at e;cases e.1),trivial,trivial⟩)
     (fun hd=>.s ((60000:Int)<more.size)
      (fun h6=>.c func118 (dN d aA) fun _=>.sh 6<|.rt (d,false) ⟨aI0 (fun e=>cS1 h6 e.2),trivial,trivial⟩)
      (fun h6=>.ex (p:=fun f=>(wrB d nm)[wrK d nm]? = some f) (bA6 d nm) fun f hf=>.sh 3<|.d 3 hf fun gf=>.ie (wrK d nm) (((d.files++[(⟨nm,⟨#[]⟩,0⟩:File)]).length:Int)-1) (he:=by rw[(yS h).2];simp only[length_append,length_singleton];omega)<|.pb .add (iD f.data more (by have:=pK hd hf;omega))<|.ie (wrK d nm) (((d.files++[(⟨nm,⟨#[]⟩,0⟩:File)]).length:Int)-1) (he:=by rw[(yS h).2];simp only[length_append,length_singleton];omega) <|
       .wt 51<|.f 3 (wrB d nm) (rU f more) (h:=aC0 gf (pK hd hf) hm)<|.c func75 (jZ ⟨(wrB d nm).set (wrK d nm) (rU f more)⟩) fun _=>.v (aS ⟨(wrB d nm).set (wrK d nm) (rU f more)⟩)
        (fun hb=>.c func118 (dN d aA) fun _=>.sh 7<|.rt (d,false) ⟨aI0 (fun e=>by rw[wY more hf,hb]at e;cases e.2),trivial,trivial⟩)
        (fun h2=>.rt (⟨(wrB d nm).set (wrK d nm) (rU f more)⟩,true) ⟨by rw[<- wY more hf]at h2 ⊢;exact cB6 hd h2,trivial,trivial⟩))))
   (fun h=>.g 3 (yT h).1.symm <|
    .c func75 (jZ d) fun _=>.v (aS d)
     (fun hb=>.c func118 (dN d aA) fun _=>.sh 5<|.rt (d,false) ⟨aI0 (fun e=>by rw[hb]at e;cases e.1),trivial,trivial⟩)
     (fun hd=>.s ((60000:Int)<more.size)
      (fun h6=>.c func118 (dN d aA) fun _=>.sh 5<|.rt (d,false) ⟨aI0 (fun e=>cS1 h6 e.2),trivial,trivial⟩)
      (fun h6=>.ex (p:=fun f=>(wrB d nm)[wrK d nm]? = some f) (bA6 d nm) fun f hf=>.sh 3<|.d 3 hf fun gf=>.ie (wrK d nm) (fAt d.files nm) (he:=(yT h).2.symm)<|.pb .add (iD f.data more (by have:=pK hd hf;omega))<|.ie (wrK d nm) (fAt d.files nm) (he:=(yT h).2.symm) <|
       .wt 51<|.f 3 (wrB d nm) (rU f more) (h:=aC0 gf (pK hd hf) hm)<|.c func75 (jZ ⟨(wrB d nm).set (wrK d nm) (rU f more)⟩) fun _=>.v (aS ⟨(wrB d nm).set (wrK d nm) (rU f more)⟩)
        (fun hb=>.c func118 (dN d aA) fun _=>.sh 6<|.rt (d,false) ⟨aI0 (fun e=>by rw[wY more hf,hb]at e;cases e.2),trivial,trivial⟩)
        (fun h2=>.rt (⟨(wrB d nm).set (wrK d nm) (rU f more)⟩,true) ⟨by rw[<- wY more hf]at h2 ⊢;exact cB6 hd h2,trivial,trivial⟩))))) aB
theorem bI9 (d:Disk) (nm:ByteArray) (hl:d.files.length<=1048576):Ct1 prog 100 [.S d,.T nm] [.S (iH d nm).1,.B (iH d nm).2]:=
 .one (iH d nm) (rk:=fun p=>[.S p.1,.B p.2])<|vc func100 (fun hg=>.c func150 (iR d aA) fun _=>.c func159 (lW d nm) fun _=>.s (fAt d.files nm<0)
  (fun h=>.sh 3<|.rt (d,false) ⟨cG7 (fun e=>e.1 h),trivial,trivial⟩)
  (fun h=>.c func92 (qB d) fun _=>.v (aS d)
   (fun hb=>.sh 3<|.rt (d,false) ⟨cG7 (fun e=>by rw[hb]at e;cases e.2),trivial,trivial⟩)
   (fun hd=>.ex (p:=fun k:Nat=>fAt d.files nm=(k:Int)/\k<d.files.length) (jK h) fun k hk=>.ex (p:=fun f=>d.files[k]? = some f) ⟨_,getElem?_eq_getElem hk.2⟩ fun f hf=>.sh 3<|.d 3 hf fun gf=>.ie k (fAt d.files nm) (he:=hk.1)<|.ie k (fAt d.files nm) (he:=hk.1) <|
    .wt 33<|.f 3 d.files (cB8 f) (h:=bS4 gf)<|.rt (⟨d.files.set k (cB8 f)⟩,true) ⟨cT1 hk.1 hf hd,trivial,trivial⟩))) aB
theorem aY9 (d:Disk) (nm:ByteArray) (n:Int) (hl:d.files.length<=1048576):Ct1 prog 176 [.S d,.T nm,.I n] [.S (bY d nm n).1,.B (bY d nm n).2]:=
 .one (bY d nm n) (rk:=fun p=>[.S p.1,.B p.2])<|vc func176 (fun hg=>.c func150 (iR d aA) fun _=>.c func159 (lW d nm) fun _=>.s (fAt d.files nm<0)
  (fun h=>.sh 3<|.rt (d,false) ⟨bG6 (fun e=>e.1 h),trivial,trivial⟩)
  (fun h=>.c func92 (qB d) fun _=>.v (aS d)
   (fun hb=>.sh 3<|.rt (d,false) ⟨bG6 (fun e=>by rw[hb]at e;cases e.2.1),trivial,trivial⟩)
   (fun hd=>.ex (p:=fun k:Nat=>fAt d.files nm=(k:Int)/\k<d.files.length) (jK h) fun k hk=>.ex (p:=fun f=>d.files[k]? = some f) ⟨_,getElem?_eq_getElem hk.2⟩ fun f hf=>.ye hf (fAt d.files nm) (he:=hk.1) fun gf=>.c func50 (bL n 0 f.data.size) fun _=>.v (inB n 0 (f.data.size:Int))
    (fun hb=>.sh 3<|.rt (d,false) ⟨bG6 (fun e=>by rw[aF9 hk.1 hf,hb]at e;cases e.2.2),trivial,trivial⟩)
    (fun hc=>.rv 2 (I (n.toNat:Int)) (show I n=I (n.toNat:Int) by rw[Int.toNat_of_nonneg (xV hc).1])<|.sh 3<|.d 3 hf fun gf=>.ie k (fAt d.files nm) (he:=hk.1)<|.pl (aN8 (s:=f.data) (b:=(n.toNat:Int)) underlying9 aA (by have:=xV hc;omega))<|.ie k (fAt d.files nm) (he:=hk.1)<|.ie k (fAt d.files nm) (he:=hk.1) <|
     .wt 54<|.f 3 d.files (cA1 f n.toNat) (h:=aW8 gf (by have:=xV hc;omega))<|.rt (⟨d.files.set k (cA1 f n.toNat)⟩,true) ⟨dA8 hk.1 hf hd hc,trivial,trivial⟩)))) aB
theorem bI8 (d:Disk) (nm:ByteArray) (hl:d.files.length<=1048576):Ct1 prog 81 [.S d,.T nm] [.S (iH d nm).1,.B (iH d nm).2]:=
 .one (iH d nm) (rk:=fun p=>[.S p.1,.B p.2])<|vc func81 (fun hg=>.c func118 (dN d aA) fun _=>.c func126 (mT d nm aA) fun _=>.s (fAt d.files nm<0)
  (fun h=>.sh 3<|.rt (d,false) ⟨cG7 (fun e=>e.1 h),trivial,trivial⟩)
  (fun h=>.c func75 (jZ d) fun _=>.v (aS d)
   (fun hb=>.sh 3<|.rt (d,false) ⟨cG7 (fun e=>by rw[hb]at e;cases e.2),trivial,trivial⟩)
   (fun hd=>.ex (p:=fun k:Nat=>fAt d.files nm=(k:Int)/\k<d.files.length) (jK h) fun k hk=>.ex (p:=fun f=>d.files[k]? = some f) ⟨_,getElem?_eq_getElem hk.2⟩ fun f hf=>.sh 3<|.d 3 hf fun gf=>.ie k (fAt d.files nm) (he:=hk.1)<|.ie k (fAt d.files nm) (he:=hk.1) <|
    .wt 33<|.f 3 d.files (cB8 f) (h:=bS4 gf)<|.rt (⟨d.files.set k (cB8 f)⟩,true) ⟨cT1 hk.1 hf hd,trivial,trivial⟩))) aB
theorem aY8 (d:Disk) (nm:ByteArray) (n:Int) (hl:d.files.length<=1048576):Ct1 prog 140 [.S d,.T nm,.I n] [.S (bY d nm n).1,.B (bY d nm n).2]:=
 .one (bY d nm n) (rk:=fun p=>[.S p.1,.B p.2])<|vc func140 (fun hg=>.c func118 (dN d aA) fun _=>.c func126 (mT d nm aA) fun _=>.s (fAt d.files nm<0)
  (fun h=>.sh 3<|.rt (d,false) ⟨bG6 (fun e=>e.1 h),trivial,trivial⟩)
  (fun h=>.c func75 (jZ d) fun _=>.v (aS d)
   (fun hb=>.sh 3<|.rt (d,false) ⟨bG6 (fun e=>by rw[hb]at e;cases e.2.1),trivial,trivial⟩)
   (fun hd=>.ex (p:=fun k:Nat=>fAt d.files nm=(k:Int)/\k<d.files.length) (jK h) fun k hk=>.ex (p:=fun f=>d.files[k]? = some f) ⟨_,getElem?_eq_getElem hk.2⟩ fun f hf=>.ye hf (fAt d.files nm) (he:=hk.1) fun gf=>.c func37 (InV n 0 f.data.size) fun _=>.v (inB n 0 (f.data.size:Int))
    (fun hb=>.sh 3<|.rt (d,false) ⟨bG6 (fun e=>by rw[aF9 hk.1 hf,hb]at e;cases e.2.2),trivial,trivial⟩)
    (fun hc=>.rv 2 (I (n.toNat:Int)) (show I n=I (n.toNat:Int) by rw[Int.toNat_of_nonneg (xV hc).1])<|.sh 3<|.d 3 hf fun gf=>.ie k (fAt d.files nm) (he:=hk.1)<|.pl (aN8 (s:=f.data) (b:=(n.toNat:Int)) underlying9 aA (by have:=xV hc;omega))<|.ie k (fAt d.files nm) (he:=hk.1)<|.ie k (fAt d.files nm) (he:=hk.1) <|
     .wt 54<|.f 3 d.files (cA1 f n.toNat) (h:=aW8 gf (by have:=xV hc;omega))<|.rt (⟨d.files.set k (cA1 f n.toNat)⟩,true) ⟨dA8 hk.1 hf hd hc,trivial,trivial⟩)))) aB
theorem bD5:nR Edge:=fun _ _ _ _ h=>h.2.1
theorem bD3:nR Task:=fun _ _ _ _ h=>h.2.1
theorem dJ {α:Type}{xs:List α}{k:Nat}{x:α}(h:xs[k]? = some x):xs.take k++[x]=xs.take (k+1):=by
 rw[take_add_one,h];rfl
theorem mW {α:Type}{xs:List α}{k:Nat}(h:¬(k:Int)<xs.length):xs.take k=xs:=take_of_length_le aA
theorem gO (xs:List Entry) (hl:xs.length<=1048576):Ct1 prog 221 [.L xs] [.rw (inferInstance:Shape Entry) 173 xs]:=
 vc func221 (fun hg=>.as (inferInstance:Shape Entry) gD [] xs 32 (by simp only[length_nil];unfold maxLen;omega) (by simp only[length_nil];omega)<|.rt () ⟨trivial,trivial⟩) aB
theorem yM (p:Plan) (hl:p.edges.length<=1048576):Ct1 prog 99 [.S p] [.S p]:=
 vc func99 (fun hg=>.as (inferInstance:Shape Edge) bD5 [] p.edges 16 (by simp only[length_nil];unfold maxLen;omega) (by simp only[length_nil];omega)<|.rt () ⟨trivial,hg.1.1,trivial⟩) aB
theorem tB (p:Plan) (hl:p.edges.length<=1048576):Ct1 prog 80 [.S p] [.S p]:=
 vc func80 (fun hg=>.e Edge<|.as (inferInstance:Shape Edge) bD5 [] p.edges 16 (by simp only[length_nil];unfold maxLen;omega) (by simp only[length_nil];omega)<|.rt () ⟨trivial,hg.1.1,trivial⟩) aB
theorem aH7 (r:Run) (hl:r.plan.edges.length<=1048576) (ht:r.tasks.length<=1048576):Ct1 prog 222 [.S r] [.S r]:=
 vc func222 (fun (hg:gin [Par.S r])=>.c func99 (yM r.plan hl) (hg:=⟨hg.1.1.2.1,trivial⟩) fun _=>.as (inferInstance:Shape Task) bD3 [] r.tasks 32 (by simp only[length_nil];unfold maxLen;omega) (by simp only[length_nil];omega)<|.rt () ⟨trivial,hg.1.1,trivial⟩) aB
theorem oL (r:Run) (hl:r.plan.edges.length<=1048576) (ht:r.tasks.length<=1048576):Ct1 prog 191 [.S r] [.S r]:=
 vc func191 (fun (hg:gin [Par.S r])=>.c func80 (tB r.plan hl) (hg:=⟨hg.1.1.2.1,trivial⟩) fun _=>.e Task<|.as (inferInstance:Shape Task) bD3 [] r.tasks 32 (by simp only[length_nil];unfold maxLen;omega) (by simp only[length_nil];omega)<|.rt () ⟨trivial,hg.1.1,trivial⟩) aB
theorem kQ {y:Yard}{k:Nat}{l:List Entry}(h:y.shelf[k]? = some l) (hw:y.wt<=1048576):l.length<=1048576:=by have:=vL h hw;omega
theorem fK (y:Yard) (hw:y.wt<=1048576):Ct1 prog 149 [.S y] [.S y]:=
 vc func149 (fun (hg:gin [Par.S y])=>let hb:=fC y hw
  .wt 14<|.r0 (inferInstance:Shape (List Entry)) 139<|.l (Γ:=Nat) (fun k=>k<=y.shelf.length) (fun k=>y.shelf.length-k) [1,2,3,14,15] [2,3] [0,1] (fun k=>[vI 16 k]) (fun k=>[oR 5 139 (y.shelf.take k),oB 4 [.v (I y.now),.v (I y.seq),.r 5,.v (.slice none 0 0)]]) 0 fun k hk t=>
   .s ((k:Int)<y.shelf.length)
    (fun h=>.x y.shelf k (h:=by omega) fun l hl gl=>.c func221 (gO l (kQ hl hw)) fun _=>.a (y.shelf.take k) l 24 (hy:=trivial) (h63:=by rw[length_take];unfold maxLen;omega) (hby:=by rw[length_take];omega)<|.g 5 (dJ hl)<|.p k 1<|.n t (k+1) [])
    (fun h=>.g 5 (mW h)<|.r0 (inferInstance:Shape Run) 145<|.l (Γ:=Nat) (fun k=>k<=y.runs.length) (fun k=>y.runs.length-k) [1,2,3,29,30] [2,3] [0,1] (fun k=>[vI 31 k]) (fun k=>[oR 5 139 y.shelf,oR 6 145 (y.runs.take k),oB 4 [.v (I y.now),.v (I y.seq),.r 5,.r 6]]) 0 fun k hk t=>
     .s ((k:Int)<y.runs.length)
      (fun h2=>.x y.runs k (h:=by omega) fun r hr gr=>let hrl:=kA hw hr
       .c func222 (aH7 r hrl.2.2 hrl.2.1) (hg:=⟨gr,trivial⟩) fun _=>.a (y.runs.take k) r 96 (hy:=gr) (h63:=by rw[length_take];unfold maxLen;omega) (hby:=by rw[length_take];omega)<|.g 6 (dJ hr)<|.p k 1<|.n t (k+1) [])
      (fun h2=>.g 6 (mW h2)<|.rt () ⟨trivial,hg.1.1,trivial⟩))) aB
theorem fJ (y:Yard) (hw:y.wt<=1048576):Ct1 prog 117 [.S y] [.S y]:=
 vc func117 (fun (hg:gin [Par.S y])=>let hb:=fC y hw
  .wt 4<|.r0 (inferInstance:Shape (List Entry)) 139<|.l (Γ:=Nat) (fun k=>k<=y.shelf.length) (fun k=>y.shelf.length-k) [1,2,3] [2,3] [0,1] (fun k=>[vI 4 k]) (fun k=>[oR 5 139 (y.shelf.take k),oB 4 [.v (I y.now),.v (I y.seq),.r 5,.v (.slice none 0 0)]]) 0 fun k hk t=>
   .s ((k:Int)<y.shelf.length)
    (fun h=>.x y.shelf k (h:=by omega) fun l hl gl=>let hll:=kQ hl hw
     .e Entry<|.as (inferInstance:Shape Entry) gD [] l 32 (by simp only[length_nil];unfold maxLen;omega) (by simp only[length_nil];omega)<|.a (y.shelf.take k) l 24 (hy:=trivial) (h63:=by rw[length_take];unfold maxLen;omega) (hby:=by rw[length_take];omega)<|.g 5 (dJ hl)<|.p k 1<|.n t (k+1) [])
    (fun h=>.g 5 (mW h)<|.r0 (inferInstance:Shape Run) 145<|.l (Γ:=Nat) (fun k=>k<=y.runs.length) (fun k=>y.runs.length-k) [1,2,3] [2,3] [0,1] (fun k=>[vI 5 k]) (fun k=>[oR 5 139 y.shelf,oR 6 145 (y.runs.take k),oB 4 [.v (I y.now),.v (I y.seq),.r 5,.r 6]]) 0 fun k hk t=>
     .s ((k:Int)<y.runs.length)
      (fun h2=>.x y.runs k (h:=by omega) fun r hr gr=>let hrl:=kA hw hr
       .c func191 (oL r hrl.2.2 hrl.2.1) (hg:=⟨gr,trivial⟩) fun _=>.a (y.runs.take k) r 96 (hy:=gr) (h63:=by rw[length_take];unfold maxLen;omega) (hby:=by rw[length_take];omega)<|.g 6 (dJ hr)<|.p k 1<|.n t (k+1) [])
      (fun h2=>.g 6 (mW h2)<|.rt () ⟨trivial,hg.1.1,trivial⟩))) aB
noncomputable def jA (y:Yard) (p:Plan):Bool:=decide ((y.runs.length:Int)<8) && inB p.tasks 0 12 && decide (dK y+p.tasks<=40) && decide (y.seq<=999999000-p.tasks)
theorem bC0 (y:Yard):0<=dK y/\dK y<=2*(y.wt:Int):=by
 have h1:=bC1 y y.runs.length;rw[take_length]at h1;have h2:=Nat.le_trans (uT y y.shelf.flatten) (bO7 y);unfold dK;omega
noncomputable def mK (p:Plan) (k:Nat):Task:=⟨if (aL p k).length=0 then 2 else 1,(aL p k).length,0,0⟩
noncomputable def eG (p:Plan) (k:Nat):List Task:=(List.range k).map (mK p)
noncomputable def aZ (id:Int) (p:Plan):Run:=⟨id,p,1,eG p p.tasks.toNat⟩
theorem aP9 {p:Plan}{k:Nat}(h:((aL p k).length:Int)=0):eG p (k+1)=eG p k++[⟨2,(aL p k).length,0,0⟩]:=by
 unfold eG;rw[range_succ,map_append];simp only[map_cons,map_nil,mK];rw[if_pos aA]
theorem aQ0 {p:Plan}{k:Nat}(h:¬((aL p k).length:Int)=0):eG p (k+1)=eG p k++[⟨1,(aL p k).length,0,0⟩]:=by
 unfold eG;rw[range_succ,map_append];simp only[map_cons,map_nil,mK];rw[if_neg aA]
theorem hU (p:Plan) (k:Nat):(eG p k).length=k:=by unfold eG;rw[length_map,length_range]
def zRun:Run:=⟨0,⟨0,0,0,0,[]⟩,0,[]⟩
noncomputable def nB (id:Int) (p:Plan):Bool:=inB id 1 9999 && decide (aC p=0)
noncomputable def aT8 (id:Int) (p:Plan):Run:=if nB id p=true then aZ id p else zRun
theorem newR_f {id:Int}{p:Plan}(h:nB id p=false):aT8 id p=zRun:=by unfold aT8;rw[h];rfl
theorem cX0 {id:Int}{p:Plan}(h:nB id p=true):aT8 id p=aZ id p:=by unfold aT8;rw[if_pos h]
theorem bU3 {p:Plan}(h:aC p=0):1<=p.tasks/\p.tasks<=12/\p.edges.length<=30:=by
 have:=(jV h).1;unfold aR at this;omega
def nO (xs:List Entry) (e:Entry):Nat:=(kV (fun x=> !cP x e) xs).getD xs.length
def gM (xs:List Entry) (e:Entry):List Entry:=xs.take (nO xs e)++e::xs.drop (nO xs e)
theorem putIx_le (xs:List Entry) (e:Entry):nO xs e<=xs.length:=by
 unfold nO;cases h:kV (fun x=> !cP x e) xs with
 | none=>exact Nat.le_refl _
 | some k=>exact Nat.le_of_lt (aA0 h).1
theorem bU1 (xs:List Entry) (e:Entry):(gM xs e).length=xs.length+1:=by
 have:=putIx_le xs e;unfold gM;rw[length_append,length_cons,length_take,length_drop];omega
theorem bT9 {xs:List Entry}{e:Entry}{k:Nat}(hk:k<=xs.length) (ha:(xs.take k).any (fun x=> !cP x e)=false) (he:k=xs.length∨∃h:k<xs.length,cP xs[k] e=false):nO xs e=k:=by
 unfold nO;rcases he with rfl | ⟨h,he⟩
 ·rw[take_length]at ha;rw[vE ha];rfl
 rw[rI h ha (by simp[he])];rfl


theorem bV1 {a b c:Nat}(h:c<=a/\c<=b) (h2:c=a∨c=b):Nat.min a b=c:=by
 have:Nat.min a b=min a b:=rfl;omega
theorem bO1 {C:List Value}{o m j:Nat}{v:Value}(h:((C.drop o).take m)[j]? = some v):C[o+j]? = some v:=by
 rw[getElem?_take]at h;split at h
 ·rwa [getElem?_drop]at h
 cases h
theorem cK8 {W:World}{C:List Value}{xs:List Entry}{k m:Nat}(he:Elems W (C.take (xs.length*Shape.size Entry)) xs []) (hkm:k*4+m<=xs.length*4:=by omega):∀v∈(C.drop (k*4)).take m,v.oneCell'=true:=by
 intro v hv;refine he.one v ?_;obtain⟨j,hj⟩:=mem_iff_getElem?.1 hv;have hjm:j<m:=by
  rw[getElem?_take]at hj;split at hj
  ·assumption
  cases hj
 have:=bO1 hj;exact mem_iff_getElem?.2 ⟨k*4+j,by rw[getElem?_take,if_pos (by show _<xs.length*4;omega)];exact this⟩
theorem overlaps_E {w0 W:World}{rs:List Res}{b b2:Nat}{C C2:List Value}{o2 n1 c1 n2 c2:Nat}{i:Nat}(hst:St w0 W (Res.bx b C 173::rs)) (hi:rs[i]? = some (Res.bx b2 C2 173)) (hC:0<C2.length) :
  (callFunc 313 #[.slice (some ⟨b,0,none⟩) n1 c1,.slice (some ⟨b2,o2,none⟩) n2 c2]).run prog W = .ok (.value (.bool false)) W:=by
 have hB:W.heap[b]? = some (.cells C.toArray 173 (0,0)):=hst.get 0 rfl;have hB2:W.heap[b2]? = some (.cells C2.toArray 173 (0,0)):=hst.get (i+1) (by simpa using hi);have hne:b≠b2:=by
  have hnd:=hst.nodup;rw[flatMap_cons,nodup_append]at hnd;exact fun e=>hnd.2.2 b (by simp[Res.bx]) b2 (mem_flatMap.2 ⟨_,mem_of_getElem? hi,by simp[Res.bx]⟩) e
 rw[run_callFunc_extern func313 aB aB aB (e:=Extern.SlicesOverlaps.overlaps #[139,139] #[4]) aB,
  Go.Lib.run_overlaps_apart W 139 4 173 underlying139 4 (fun w=>gG sl_EntryS.size w) ⟨b,0,none⟩ ⟨b2,o2,none⟩ n1 c1 n2 c2 hne 173 173 C.length C2.length
   (by simp[World.shape?,hB]) (by simp[World.shape?,hB2]) aA (by simp[World.frozen?,hB]) (by simp[World.frozen?,hB])]
 rfl

theorem InsertE {w W0:World}{rs:List Res}{v:Value}{xs:List Entry}{lb:Nat}{y:Entry}(k:Nat) (hst:St w W0 (Res.row (α:=Entry) 173 v xs []::Res.bx lb [I y.prio,I y.seq,I y.run,I y.task] 173::rs)) (hk:k<=xs.length) (hy:y.ok) (hxl:xs.length<=1048576) :
  Calls prog 307 #[v,I (k:Int),.slice (some ⟨lb,0,none⟩) 1 1] W0 fun e w'=>∃v',e = .returned v'/\St w w' (Res.row (α:=Entry) 173 v' (xs.take k++y::xs.drop k) []::rs):=by
 refine cD9 func307 rfl ntmps307 fL (wp_seq (aO (sg (bZ (v := .slice none 0 0) rfl (bG (wp_seq (aO (sg (cI (v:=v) rfl (sg (cI (v:=I (k:Int)) rfl (sg (stp_slice_l (l:=k) sl_EntryS rfl (jQ (hst.get 0 rfl)) rfl rfl aA ?_)))))))))))));intro v5 g6 h7 hm8;refine bG (wp_seq (aO (rn hst 3 Ag.nil.put.put.put.put.put.put.put [] [(7,I 1)] [.l (.slice (some ⟨lb,0,none⟩) 1 1) 1 ⟨_,_,rfl⟩] aB fun f10 h10_=>(bG (wp_seq (wp_seq (aO (sg (cI (h10_.at 7) (sg (cH9 rfl rfl (bG (xD rfl (fun h13p=>?_) (fun h13p=>?_))))))))))))))
 ·exact absurd h13p fL
 refine wp_skip (wp_seq (aO (rn hst 3 h10_.put.put [] [(8,I (xs.length:Int))] [ql (jQ (hst.get 0 rfl))] aB fun f15 h15_=>(bG (wp_seq (wp_seq (aO (rn hst 3 h15_ [] [(22,.bool (decide ((k:Int)=(xs.length:Int))))] [.o] aB fun f17 h17_=>(bG (xD (h17_.at 22) (fun h18p=>?_) (fun h18p=>?_)))))))))))
 ·refine wp_seq (aO (sg (cI (h17_.at 0) (sg (cI (h17_.at 2) ?_)))));have st21:=hst.f1;refine sg (stp_append_bx (ys:=[(⟨y.prio,y.seq,y.run,y.task⟩:Entry)]) bI3 rfl rfl rfl st21.f1 (Elems.one1 ⟨rfl,rfl,hy⟩) (by unfold maxLen;omega) aA ?_);intro v23 W24 st25;refine sg (bZ (v:=v23) rfl (bG (wr (bT2 results307 rfl ?_))));have hke:k=xs.length:=by omega
  subst hke;refine⟨_,rfl,?_⟩;rw[take_length,drop_length];exact st25
 refine wp_skip (wp_seq (wp_seq (aO (rn hst 4 h17_ [] [(28,I ((xs.length:Int)+1)),(29,v)] [qad (xs.length:Int) 1] aB fun f30 h30_=>?_))));have hq_:=St.rowOpen hst aA;obtain⟨bg,cp,Cg,hvv,hcap,hmx,hCl,hel,st31⟩:=hq_;have hCl4:Cg.length=cp*4:=hCl;subst hvv;refine sg (stp_xcap sl_EntryS (h30_.at 29) (sg (cH8 (h30_.at 28) rfl (bG (xD rfl (fun h34p=>?_) (fun h34p=>?_))))))
 ·refine wp_seq (aO (sg (cI (h30_.at 0) (sg (cI (h30_.at 1) (sg (xE (h:=k) sl_EntryS rfl rfl aA aA aA (lw h30_.put.put.put.put.put [(0,.slice (some ⟨bg,0,none⟩) xs.length cp),(1,I (k:Int)),(2,.slice (some ⟨lb,0,none⟩) 1 1),(7,I 1),(8,I (xs.length:Int)),(34,.slice (some ⟨bg,0,none⟩) k cp)] aB fun h39_=>(rn st31 5 h39_ [] [(39,I (((xs.length:Int)+1)-(k:Int)))] [qad (xs.length:Int) 1,qsb ((xs.length:Int)+1) (k:Int)] aB fun f38 h38_=>(sg (stp_appz (α:=Entry) (k0:=xs.length+1-k) (n1:=xs.length+1) bI3 underlying3 (h38_.at 34) (h38_.at 39) aA aA st31 (by rw[hCl];exact Nat.mul_le_mul_right _ aA) aA aA (by unfold maxLen;omega) aA ?_)))))))))));intro b40 cp2 Z2 W41 hcp2 hmx2 hZl hb2 st42;have hZl4:Z2.length=(cp2-k)*4:=hZl;refine sg (bZ (v := .slice (some ⟨b40,0,none⟩) (xs.length+1) cp2) rfl (bG (wp_seq (aO (sg (cI (v := .slice (some ⟨b40,0,none⟩) (xs.length+1) cp2) rfl (sg (cI (h38_.at 1) (sg (sD (l:=k) sl_EntryS rfl rfl aA aA aA (sg (cI (h38_.at 2) ?_))))))))))));refine sg (uO (α:=Entry) (C:=(Cg.take (k*Shape.size Entry)++Z2)) (cs:=[I y.prio,I y.seq,I y.run,I y.task]) sl_EntryS rfl rfl (by rw[show Nat.min 1 ((xs.length+1)-k)=1 from Nat.min_eq_left aA];rfl) (fun j v hj=>(by rw[Addr.add_mid];exact bO (st42.get 2 rfl) j v hj)) (by intro v hv;simp only[mem_cons,not_mem_nil,or_false]at hv;rcases hv with rfl | rfl | rfl | rfl<;>rfl) st42 (by simp only[length_cons,length_nil,length_append,length_take,eH,show Shape.size Entry=4 from rfl];omega) ?_);intro _ W50 st51;refine bG (wp_seq (pO 8 [] [(true,.is (.slice (some ⟨b40,0,none⟩) (xs.length+1) cp2)),(true,.is (I (k:Int))),(true,.is (I 1)),(true,.is (I ((k:Int)+1))),(true,.is (.slice (some ⟨b40,0+(k+1)*4,none⟩) ((xs.length+1)-(k+1)) (cp2-(k+1)))),(true,.is (.slice (some ⟨bg,0,none⟩) xs.length cp)),(true,.is (I (k:Int))),(true,.is (.slice (some ⟨bg,0+k*4,none⟩) (xs.length-k) (cp-k)))] mix aB aB aB aB (rs0:=[]) rfl st51 (Below.refl _ _) ⟨(mq_ (show _=(.slice (some ⟨b40,0,none⟩) (xs.length+1) cp2:Value) from rfl)),(mq_ (h38_.at 1)),(mq_ (h38_.at 7)),(fun f W hst hbl hd hf=>sE (hd 1 47 rfl rfl) (hd 2 48 rfl rfl) i6q_ brq),(fun f W hst hbl hd hf=>sD (l:=k+1) sl_EntryS (hd 0 46 rfl rfl) (hd 3 49 rfl rfl) aA aA aA brq),(mq_ (h38_.at 0)),(mq_ (h38_.at 1)),(fun f W hst hbl hd hf=>sD (l:=k) sl_EntryS (hd 5 51 rfl rfl) (hd 6 52 rfl rfl) aA aA aA brq),trivial⟩ ?_));intro f52 W53 rs_ hAL_ st56 hbl57 hv54 hf55;have hn_:rs_=[]:=hAL_;subst hn_
  try simp only[cap_,aZ8]at st56
  refine sg (uO (α:=Entry) (C:=(aN (Cg.take (k*Shape.size Entry)++Z2) (0+k*4) [I y.prio,I y.seq,I y.run,I y.task])) (cs:=((Cg.drop (k*4)).take ((xs.length-k)*4))) sl_EntryS (hv54 4 50 fL rfl) (hv54 7 53 fL rfl) (by rw[show Nat.min (xs.length-k) ((xs.length+1)-(k+1))=xs.length-k from bV1 aA aA];rw[length_take,length_drop,hCl4,show Shape.size Entry=4 from rfl];omega) (fun j v hj=>(by rw[Addr.add_mid,Nat.add_assoc];exact bO (st56.get 1 rfl) _ v (bO1 hj))) (cK8 hel) st56 (by simp only[length_append,length_take,length_drop,eH,show Shape.size Entry=4 from rfl];omega) ?_);intro _ W59 st60;refine bG (wp_seq (aO (sg (cI (v := .slice (some ⟨b40,0,none⟩) (xs.length+1) cp2) ((hf55 9 rfl).trans (show _=(.slice (some ⟨b40,0,none⟩) (xs.length+1) cp2:Value) from rfl)) (sg (bZ (v := .slice (some ⟨b40,0,none⟩) (xs.length+1) cp2) rfl (bG (wr (bT2 results307 rfl ?_)))))))));have hel_:Elems _ (Cg.take (xs.length*4)) xs []:=hel;have hYe:Elems W59 [I y.prio,I y.seq,I y.run,I y.task] [y] []:=Elems.one1 ⟨rfl,rfl,hy⟩;have hq_:=ins_new (D:=Cg.take (k*4)++Z2) (a:=k*4) (Y:=[I y.prio,I y.seq,I y.run,I y.task]) (M:=(Cg.drop (k*4)).take ((xs.length-k)*4)) rfl (by simp only[length_append,length_take,length_drop,length_cons,length_nil,eH,show Shape.size Entry=4 from rfl];omega);obtain⟨T,hT⟩:=hq_;rw[take_append_of_le_length (by rw[length_take];omega),take_take,Nat.min_self]at hT;have hfin:=bF0 (W:=_) (W':=W59) (y:=y) (k:=k) aA (hel_) aA hYe hT;have hCe:(aN (aN (Cg.take (k*Shape.size Entry)++Z2) (0+k*4) [I y.prio,I y.seq,I y.run,I y.task]) (0+(k+1)*4) ((Cg.drop (k*4)).take ((xs.length-k)*4)))=aN (aN (Cg.take (k*4)++Z2) (k*4) [I y.prio,I y.seq,I y.run,I y.task]) (k*4+4) ((Cg.drop (k*4)).take ((xs.length-k)*4)):=by simp only[Nat.zero_add,Nat.add_mul,Nat.one_mul,show Shape.size Entry=4 from rfl]
  have stz:St w W59 (Res.bx b40 (aN (aN (Cg.take (k*Shape.size Entry)++Z2) (0+k*4) [I y.prio,I y.seq,I y.run,I y.task]) (0+(k+1)*4) ((Cg.drop (k*4)).take ((xs.length-k)*4))) 173::_):=st60;rw[hCe]at stz;have hl4:(aN (aN (Cg.take (k*4)++Z2) (k*4) [I y.prio,I y.seq,I y.run,I y.task]) (k*4+4) ((Cg.drop (k*4)).take ((xs.length-k)*4))).length=cp2*Shape.size Entry:=by rw[<- hCe];simp only[length_append,length_take,length_drop,eH,show Shape.size Entry=4 from rfl];omega
  have stf:=St.rowShut (α:=Entry) (xs:=xs.take k++y::xs.drop k) (m:=xs.length+1) (cap:=cp2) stz (by rw[length_append,length_cons,length_take,length_drop];omega) aA aA hl4 hfin;exact⟨_,rfl,stf.d1.d1⟩
 refine wp_skip (wp_seq (aO (lw h30_.put.put [(0,.slice (some ⟨bg,0,none⟩) xs.length cp),(1,I (k:Int)),(2,.slice (some ⟨lb,0,none⟩) 1 1),(7,I 1),(8,I (xs.length:Int))] aB fun h65_=>(rn st31 4 h65_ [] [(56,.slice (some ⟨bg,0,none⟩) xs.length cp),(59,I ((xs.length:Int)+1))] [qad (xs.length:Int) 1] aB fun f64 h64_=>(sg (xE (h:=(xs.length)+1) sl_EntryS (h64_.at 56) (h64_.at 59) aA aA aA (sg (bZ (v := .slice (some ⟨bg,0,none⟩) ((xs.length)+1) cp) rfl (bG (wp_seq (wp_seq (aO (rn st31 5 h64_.put.put [] [(61,.slice (some ⟨lb,0,none⟩) 1 1),(62,.slice (some ⟨bg,0,none⟩) ((xs.length)+1) cp),(65,I ((k:Int)+1))] [qad (k:Int) 1] aB fun f69 h69_=>?_)))))))))))));refine sg (sD (l:=k+1) sl_EntryS (h69_.at 62) (h69_.at 65) aA aA aA (sg (stp_callx (h69_.at 61) rfl (overlaps_E st31.f1 (i:=0) rfl aA) (sg (aM8 rfl (bG (sx_t rfl rfl (wp_seq (pO 8 [] [(true,.is (.slice (some ⟨bg,0,none⟩) ((xs.length)+1) cp)),(true,.is (I (k:Int))),(true,.is (I 1)),(true,.is (I ((k:Int)+1))),(true,.is (.slice (some ⟨bg,0+(k+1)*4,none⟩) (((xs.length)+1)-(k+1)) (cp-(k+1)))),(true,.is (.slice (some ⟨bg,0,none⟩) ((xs.length)+1) cp)),(true,.is (I (k:Int))),(true,.is (.slice (some ⟨bg,0+k*4,none⟩) (((xs.length)+1)-k) (cp-k)))] mix aB aB aB aB (rs0:=[]) rfl st31.f1 (Below.refl _ _) ⟨(mq_ (h69_.at 0)),(mq_ (h69_.at 1)),(mq_ (h69_.at 7)),(fun f W hst hbl hd hf=>sE (hd 1 70 rfl rfl) (hd 2 71 rfl rfl) i6q_ brq),(fun f W hst hbl hd hf=>sD (l:=k+1) sl_EntryS (hd 0 69 rfl rfl) (hd 3 72 rfl rfl) aA aA aA brq),(mq_ (h69_.at 0)),(mq_ (h69_.at 1)),(fun f W hst hbl hd hf=>sD (l:=k) sl_EntryS (hd 5 74 rfl rfl) (hd 6 75 rfl rfl) aA aA aA brq),trivial⟩ ?_)))))))));intro f74 W75 rs_ hAL_ st78 hbl79 hv76 hf77;have hn_:rs_=[]:=hAL_;subst hn_
 try simp only[cap_,aZ8]at st78
 have st81:=st78.f1;refine sg (uO (α:=Entry) (C:=Cg) (cs:=((Cg.drop (k*4)).take ((xs.length-k)*4))) sl_EntryS (hv76 4 73 fL rfl) (hv76 7 76 fL rfl) (by rw[show Nat.min (((xs.length)+1)-k) (((xs.length)+1)-(k+1))=xs.length-k from bV1 aA aA];rw[length_take,length_drop,hCl4,show Shape.size Entry=4 from rfl];omega) (fun j v hj=>(by rw[Addr.add_mid,Nat.add_assoc];exact bO (st81.get 0 rfl) _ v (bO1 hj))) (cK8 hel) st81 (by simp only[length_append,length_take,length_drop,eH,show Shape.size Entry=4 from rfl];omega) ?_);intro _ W82 st83;refine bG (wp_seq (aO (sg (cI (v := .slice (some ⟨bg,0,none⟩) ((xs.length)+1) cp) ((hf77 0 rfl).trans (h69_.at 0)) (sg (cI (v:=I (k:Int)) ((hf77 1 rfl).trans (h69_.at 1)) (sg (sD (l:=k) sl_EntryS rfl rfl aA aA aA (sg (cI (v := .slice (some ⟨lb,0,none⟩) 1 1) ((hf77 2 rfl).trans (h69_.at 2)) ?_))))))))));refine sg (uO (α:=Entry) (C:=(aN Cg (0+(k+1)*4) ((Cg.drop (k*4)).take ((xs.length-k)*4)))) (cs:=[I y.prio,I y.seq,I y.run,I y.task]) sl_EntryS rfl rfl (by rw[show Nat.min 1 (((xs.length)+1)-k)=1 from Nat.min_eq_left aA];rfl) (fun j v hj=>(by rw[Addr.add_mid];exact bO (st83.get 1 rfl) j v hj)) (by intro v hv;simp only[mem_cons,not_mem_nil,or_false]at hv;rcases hv with rfl | rfl | rfl | rfl<;>rfl) st83 (by simp only[length_cons,length_nil,length_append,length_take,eH,show Shape.size Entry=4 from rfl];omega) ?_);intro _ W88 st89;refine bG (wp_seq (aO (sg (cI (v := .slice (some ⟨bg,0,none⟩) ((xs.length)+1) cp) ((hf77 0 rfl).trans (h69_.at 0)) (sg (bZ (v := .slice (some ⟨bg,0,none⟩) ((xs.length)+1) cp) rfl (bG (wr (bT2 results307 rfl ?_)))))))));have hel_:Elems _ (Cg.take (xs.length*4)) xs []:=hel;have hYe:Elems W88 [I y.prio,I y.seq,I y.run,I y.task] [y] []:=Elems.one1 ⟨rfl,rfl,hy⟩;have hq_:=ins_in (D:=Cg) (a:=k*4) (Y:=[I y.prio,I y.seq,I y.run,I y.task]) (M:=(Cg.drop (k*4)).take ((xs.length-k)*4)) rfl (by simp only[length_append,length_take,length_drop,length_cons,length_nil,eH,show Shape.size Entry=4 from rfl];omega);obtain⟨T,hT⟩:=hq_;have hfin:=bF0 (W:=_) (W':=W88) (y:=y) (k:=k) aA (hel_) aA hYe hT;have hCe:(aN (aN Cg (0+(k+1)*4) ((Cg.drop (k*4)).take ((xs.length-k)*4))) (0+k*4) [I y.prio,I y.seq,I y.run,I y.task])=aN (aN Cg (k*4+4) ((Cg.drop (k*4)).take ((xs.length-k)*4))) (k*4) [I y.prio,I y.seq,I y.run,I y.task]:=by simp only[Nat.zero_add,Nat.add_mul,Nat.one_mul]
 have stz:St w W88 (Res.bx bg (aN (aN Cg (0+(k+1)*4) ((Cg.drop (k*4)).take ((xs.length-k)*4))) (0+k*4) [I y.prio,I y.seq,I y.run,I y.task]) 173::_):=st89;rw[hCe]at stz;have hl4:(aN (aN Cg (k*4+4) ((Cg.drop (k*4)).take ((xs.length-k)*4))) (k*4) [I y.prio,I y.seq,I y.run,I y.task]).length=cp*Shape.size Entry:=by rw[<- hCe];simp only[length_append,length_take,length_drop,eH,show Shape.size Entry=4 from rfl];omega
 have stf:=St.rowShut (α:=Entry) (xs:=xs.take k++y::xs.drop k) (m:=xs.length+1) (cap:=cp) stz (by rw[length_append,length_cons,length_take,length_drop];omega) aA aA hl4 hfin;exact⟨_,rfl,stf.d1⟩
def fN (sh:Nat) (prio rid:Int):List Int->List (List Entry)->Int->List (List Entry)
 | [],xss,_=>xss
 | t::ts,xss,seq=>fN sh prio rid ts (xss.set sh (gM (xss.getD sh []) ⟨prio,seq,rid,t⟩)) (seq+1)
theorem aI8 (sh:Nat) (prio rid t:Int):∀(ts:List Int) (xss:List (List Entry)) (seq:Int),fN sh prio rid (ts++[t]) xss seq=(fN sh prio rid ts xss seq).set sh (gM ((fN sh prio rid ts xss seq).getD sh []) ⟨prio,seq+ts.length,rid,t⟩)
 | [],xss,seq=>by simp[fN]
 | u::ts,xss,seq=>by
  have h:=aI8 sh prio rid t ts (xss.set sh (gM (xss.getD sh []) ⟨prio,seq,rid,u⟩)) (seq+1);simp only[cons_append,fN];rw[h,show seq+1+(ts.length:Int)=seq+((u::ts).length:Int) by simp;omega]
theorem kG (sh:Nat) (prio rid:Int):∀(ts:List Int) (xss:List (List Entry)) (seq:Int),(fN sh prio rid ts xss seq).length=xss.length
 | [],xss,seq=>rfl
 | u::ts,xss,seq=>by simp only[fN];rw[kG];simp
theorem oP (sh:Nat) (prio rid:Int):∀(ts:List Int) (xss:List (List Entry)) (seq:Int),sh<xss.length->((fN sh prio rid ts xss seq).getD sh []).length=(xss.getD sh []).length+ts.length
 | [],xss,seq,h=>rfl
 | u::ts,xss,seq,h=>by
  simp only[fN];rw[oP sh prio rid ts _ _ (by simpa using h)];rw[getD_eq_getElem?_getD,getElem?_set_self h];simp[bU1];omega
theorem getD_some {α:Type}{xss:List (List α)}{k:Nat}(h:k<xss.length):xss[k]? = some (xss.getD k []):=by
 rw[getD_eq_getElem?_getD,getElem?_eq_getElem h];rfl

def dU (r r':Run):List Int:=(aK r'.tasks 2).filter (fun t=> !decide (t∈aK r.tasks 2))
theorem nE (r r':Run):(dU r r').length<=r'.tasks.length:=Nat.le_trans (length_filter_le _ _) (iY _ _ _)
theorem set_self {α:Type}{xs:List α}{k:Nat}{x:α}(h:xs[k]? = some x) (y:α):(xs.set k y)[k]? = some y:=getElem?_set_self (gsi_.1 h).1
def dV (y:Yard) (k:Nat) (r r':Run):Yard:=⟨y.now,y.seq+((dU r r').length:Int),fN (aX r'.id).toNat r'.plan.prio r'.id (dU r r') y.shelf y.seq,y.runs.set k r'⟩
def kM (out:Yard) (k i:Nat):Yard:=match out.runs[k]? with
 | none=>out
 | some r=>match r.tasks[i]? with
  | none=>out
  | some t=>if t.state=3 then dV out k r (bP r i) else out
def qX (y:Yard) (k:Nat):Nat->Yard
 | 0=>y
 | i+1=>kM (qX y k i) k i
def sB (y:Yard) (k:Nat):Nat:=match y.runs[k]? with | some r=>r.tasks.length | none=>0
def mZ (y:Yard):Nat->Yard
 | 0=>y
 | k+1=>qX (mZ y k) k (sB y k)
noncomputable def dO (y:Yard):Yard:=if aG y then mZ y y.runs.length else y
theorem aC8 {y:Yard}{k:Nat}{r:Run}(h:y.runs[k]? = some r):sB y k=r.tasks.length:=by unfold sB;rw[h]

structure YardIs (y:Yard):Prop where
 now:0<=y.now/\y.now<=999999980
 seq:1<=y.seq/\y.seq<=1000000000
 shelf:y.shelf.length=4
 runs:y.runs.length<=8
 each:∀l∈y.shelf,dL l=true
 run:∀(j:Nat) (r:Run),y.runs[j]? = some r->RunIs r/\cJ y r.id=some j
theorem kE {y:Yard}(h:aG y=true):YardIs y:=by
 unfold aG at h;rw[pB_iff]at h;obtain⟨h1,h2,h3,h4,h5,h6,h7,h8,h9⟩:=h;refine⟨h1,h2,h3,h4,h5,fun j r hj=>?_⟩;obtain⟨hl,rfl⟩:=gsi_.1 hj;obtain⟨a,b,_⟩:=h8 j hl hl;refine⟨runIs.1 a,?_⟩;unfold aI at b;cases hq:cJ y y.runs[j].id with
 | none=>rw[hq]at b;simp only[ixI]at b;omega
 | some k=>rw[hq]at b;simp only[ixI]at b;congr 1;omega
theorem RunIs.small {r:Run}(h:RunIs r):r.ok/\r.tasks.length<=12/\r.plan.edges.length<=30:=by
 have h2:=(jV h.plan).1;have hl:=h.len;have hs:=h.state;have hid:=h.id;unfold aR at h2;have hst:0<=bK r.tasks/\bK r.tasks<=4:=by
  unfold bK;split
  ·omega
  split
  ·omega
  split
  ·omega
  split<;>omega
 refine⟨⟨by unfold I64;omega,?_,by unfold I64;omega⟩,by omega,by omega⟩;unfold Plan.ok;refine⟨?_,?_,?_,?_⟩<;>(unfold I64;omega)
theorem aJ0 {xs:List Entry}(h:dL xs=true):xs.length<=80:=by
 unfold dL at h
 first | exact(pB_iff.1 h).1 | exact(pB_iff.1 h).2 | (simp at h;omega)
theorem bE8 {α β:Type}{p:α->Bool}{q:β->Bool}:∀{xs:List α}{ys:List β},xs.length=ys.length->(∀(j:Nat) (x:α) (y:β),xs[j]? = some x->ys[j]? = some y->p x=q y)->kV p xs=kV q ys
 | [],[],_,_=>rfl
 | x::xs,y::ys,hl,h=>by
  have h0:=h 0 x y rfl rfl;have ih:=bE8 (xs:=xs) (ys:=ys) (by simpa using hl) (fun j a b ha hb=>h (j+1) a b (by simpa using ha) (by simpa using hb));unfold kV;rw[h0,ih]
 | [],_::_,hl,_=>by simp at hl
 | _::_,[],hl,_=>by simp at hl
structure RI (y out:Yard) (n:Nat):Prop where
 now:out.now=y.now
 seq:y.seq<=out.seq/\out.seq<=y.seq+12*(n:Int)
 shelf:out.shelf.length=y.shelf.length
 each:∀s,s<4->(out.shelf.getD s []).length<=80+12*n
 runs:out.runs.length=y.runs.length
 run:∀(j:Nat) (r:Run),y.runs[j]? = some r->∃r2:Run,out.runs[j]? = some r2/\RunIs r2/\r2.id=r.id/\r2.tasks.length=r.tasks.length/\∀(i:Nat) (t:Task),r.tasks[i]? = some t->∃t2,r2.tasks[i]? = some t2/\t2.try_=t.try_
theorem RI.start {y:Yard}(h:YardIs y):RI y y 0:=by
 refine⟨rfl,by omega,rfl,fun s hs=>?_,rfl,fun j r hj=>⟨r,hj,(h.run j r hj).1,rfl,rfl,fun i t ht=>⟨t,ht,rfl⟩⟩⟩;have hl:=h.shelf;rw[getD_eq_getElem?_getD,getElem?_eq_getElem aA];have:=aJ0 (h.each y.shelf[s] (getElem_mem _));simpa using this
theorem RI.mono {y out:Yard}{n m:Nat}(h:RI y out n) (hm:n<=m):RI y out m:=
 ⟨h.now,by have:=h.seq;omega,h.shelf,fun s hs=>by have:=h.each s hs;omega,h.runs,h.run⟩
theorem nV (sh:Nat) (prio rid:Int) (s:Nat) (hs:s≠sh):∀(ts:List Int) (xss:List (List Entry)) (seq:Int),(fN sh prio rid ts xss seq).getD s []=xss.getD s []
 | [],xss,seq=>rfl
 | u::ts,xss,seq=>by
  simp only[fN];rw[nV sh prio rid s hs ts];rw[getD_eq_getElem?_getD,getElem?_set_ne (fun e=>hs e.symm),getD_eq_getElem?_getD]
theorem RI.change {y out:Yard}{n k i:Nat}{r:Run}{t:Task}(hy:YardIs y) (h:RI y out n) (hr:out.runs[k]? = some r) (ht:r.tasks[i]? = some t) (h3:t.state=3) (hR:RunIs r):RI y (dV out k r (bP r i)) (n+1):=by
 obtain⟨hk1,hk2,hk3,hk4⟩:=lP r i;have hsm:=hR.small;have hfl:=nE r (bP r i);have hsh:=hy.shelf;have hsr:=gE (bP r i).id;have hkl:=(gsi_.1 hr).1;refine⟨h.now,?_,?_,?_,?_,?_⟩
 ·show y.seq<=out.seq+_/\out.seq+_<=_;have:=h.seq;omega
 ·show (fN _ _ _ _ _ _).length=_;rw[kG];exact h.shelf
 ·intro s hs;show ((fN _ _ _ _ _ _).getD s []).length<=_;by_cases e:s=(aX (bP r i).id).toNat
  ·subst e;rw[oP _ _ _ _ _ _ (by rw[h.shelf];omega)];have:=h.each _ hs;omega
  rw[nV _ _ _ s e];have:=h.each s hs;omega
 ·show (out.runs.set k _).length=_;rw[length_set];exact h.runs
 intro j r0 hj;obtain⟨r2,h1,h2,h4,h5,h6⟩:=h.run j r0 hj;show ∃r2,(out.runs.set k _)[j]? = some r2/\_;by_cases e:k=j
 ·subst e;rw[hr]at h1;have e2:=Option.some.inj h1;subst e2;refine⟨bP r i,getElem?_set_self hkl,hR.fails ht h3,by rw[hk1];exact h4,by rw[hk3];exact h5,fun a u hu=>?_⟩;obtain⟨u2,g1,g2⟩:=h6 a u hu;obtain⟨u3,g3,g4⟩:=hk4 a u2 g1;exact⟨u3,g3,by rw[g4];exact g2⟩
 exact⟨r2,by rw[getElem?_set_ne e];exact h1,h2,h4,h5,h6⟩
theorem RI.turn {y out:Yard}{n:Nat}(hy:YardIs y) (h:RI y out n) {k i:Nat}(hk:k<y.runs.length):RI y (kM out k i) (n+1):=by
 obtain⟨r2,h1,h2,_⟩:=h.run k _ (getElem?_eq_getElem hk);unfold kM;rw[h1];simp only;cases ht:r2.tasks[i]? with
 | none=>exact h.mono aA
 | some t=>
  simp only;split
  ·next h3=>exact h.change hy h1 ht h3 h2
  exact h.mono aA
theorem RI.inner {y out:Yard}{n:Nat}(hy:YardIs y) (h:RI y out n) {k:Nat}(hk:k<y.runs.length):∀i,RI y (qX out k i) (n+i)
 | 0=>h
 | i+1=>(RI.inner hy h hk i).turn hy hk
theorem RI.outer {y:Yard}(hy:YardIs y):∀k,k<=y.runs.length->RI y (mZ y k) (12*k)
 | 0,_=>RI.start hy
 | k+1,hk=>by
  have ih:=RI.outer hy k aA;have hr:y.runs[k]? = some y.runs[k]:=getElem?_eq_getElem aA;have hs:=(hy.run k _ hr).1.small;have:=ih.inner hy (k:=k) aA (sB y k);rw[aC8 hr]at this;show RI y (qX (mZ y k) k (sB y k)) _;rw[aC8 hr];exact this.mono aA
theorem RI.at {y:Yard}(hy:YardIs y) {k i:Nat}(hk:k<y.runs.length):RI y (qX (mZ y k) k i) (12*k+i):=(RI.outer hy k aA).inner hy hk i
theorem RI.ix {y out:Yard}{n:Nat}(hy:YardIs y) (h:RI y out n) {k:Nat}{r:Run}(hr:y.runs[k]? = some r):cJ out r.id=some k:=by
 rw[<- (hy.run k r hr).2];unfold cJ;rw[h.runs];congr 1;exact bE8 h.runs (fun j a b ha hb=>by
  obtain⟨r2,h1,_,h3,_⟩:=h.run j b hb;rw[ha]at h1;have:=Option.some.inj h1;subst this;rw[h3])
def fX (y:Yard) (id task try_:Int):Bool:=
 match cJ y id with
 | none=>false
 | some k=>match y.runs[k]? with
  | none=>false
  | some r=>inB task 0 ((r.tasks.length:Int)-1) && (match r.tasks[task.toNat]? with | some t=>decide (t.state=3) && decide (t.try_=try_) | none=>false)
theorem RI.holds {y out:Yard}{n:Nat}(hy:YardIs y) (h:RI y out n) {k i:Nat}{r:Run}{t:Task}(hr:y.runs[k]? = some r) (ht:r.tasks[i]? = some t) :
  ∃r2 t2,out.runs[k]? = some r2/\RunIs r2/\r2.tasks[i]? = some t2/\fX out r.id (i:Int) t.try_=decide (t2.state=3):=by
 obtain⟨r2,h1,h2,h3,h4,h5⟩:=h.run k r hr;obtain⟨t2,h6,h7⟩:=h5 i t ht;refine⟨r2,t2,h1,h2,h6,?_⟩;have hl:=(gsi_.1 ht).1;unfold fX;rw[h.ix hy hr];simp only[h1,Int.toNat_natCast,h6,h7,decide_true,Bool.and_true];have:inB (i:Int) 0 ((r2.tasks.length:Int)-1)=true:=inB_iff'.2 aA;rw[this];rfl
theorem cF9 {out:Yard}{k i:Nat}{r:Run}{t:Task}(hr:out.runs[k]? = some r) (ht:r.tasks[i]? = some t) (h3:t.state=3):kM out k i=dV out k r (bP r i):=by unfold kM;rw[hr];simp only[ht,h3,if_true]
theorem aM2 {out:Yard}{k i:Nat}{r:Run}{t:Task}(hr:out.runs[k]? = some r) (ht:r.tasks[i]? = some t) (h3:¬t.state=3):kM out k i=out:=by unfold kM;rw[hr];simp only[ht,h3,if_false]
theorem aV8 {y y':Yard}(h:y'.runs=y.runs) (e:Entry):fresh y' e=fresh y e:=by
 unfold fresh cJ;rw[h]
theorem fresh_at {y:Yard}{e:Entry}(h:fresh y e=true):∃k r t,cJ y e.run=some k/\y.runs[k]? = some r/\0<=e.task/\r.tasks[e.task.toNat]? = some t/\t.state=2:=by
 unfold fresh at h;cases h1:cJ y e.run with
 | none=>rw[h1]at h;cases h
 | some k=>
  rw[h1]at h;simp only at h;cases h2:y.runs[k]? with
  | none=>rw[h2]at h;cases h
  | some r=>
   rw[h2]at h;simp only[Bool.and_eq_true]at h;obtain⟨h3,h4⟩:=h;cases h5:r.tasks[e.task.toNat]? with
   | none=>rw[h5]at h4;cases h4
   | some t=>rw[h5]at h4;exact⟨k,r,t,rfl,h2,(inB_iff'.1 h3).1,h5,by simpa using h4⟩
def nH (y:Yard) (s:Nat) (l:List Entry):Yard:=⟨y.now,y.seq,y.shelf.set s l,y.runs⟩
def aW (y:Yard) (s:Int):Yard:=if inB s 0 ((y.shelf.length:Int)-1) then nH y s.toNat ((y.shelf.getD s.toNat []).filter (fresh y)) else y
def bN (xs:List Entry):Nat:=(xs.length+1) / 2
def dS (a b:List Entry):List Entry:=if 80<a.length+b.length then a else b.foldl gM a
theorem wS (b:List Entry):∀a:List Entry,(b.foldl gM a).length=a.length+b.length:=by
 induction b with
 | nil=>intro a;rfl
 | cons e b ih=>intro a;rw[foldl_cons,ih,bU1,length_cons];omega
theorem foldl_put_to {a b:List Entry}{k:Nat}(h:k<b.length):(b.take (k+1)).foldl gM a=gM ((b.take k).foldl gM a) b[k]:=by
 rw[take_succ_eq_append_getElem h,foldl_append];rfl
theorem merged_len {a b:List Entry}(h:a.length<=80):(dS a b).length<=80:=by
 unfold dS;split
 ·exact h
 rw[wS];omega
theorem putE_mem {xs:List Entry}{e x:Entry}(h:x∈gM xs e):x∈xs∨x=e:=by
 unfold gM at h;rw[mem_append,mem_cons]at h;rcases h with h | h | h
 ·exact .inl (mem_of_mem_take h)
 ·exact .inr h
 exact .inl (mem_of_mem_drop h)
theorem foldl_put_mem (b:List Entry):∀{a:List Entry}{x:Entry},x∈b.foldl gM a->x∈a∨x∈b:=by
 induction b with
 | nil=>intro a x h;exact .inl h
 | cons e b ih=>
  intro a x h;rcases ih h with h | h
  ·rcases putE_mem h with h | h
   ·exact .inl h
   exact .inr (by simp[h])
  exact .inr (by simp[h])
theorem merged_mem {a b:List Entry}{x:Entry}(h:x∈dS a b):x∈a∨x∈b:=by
 unfold dS at h;split at h
 ·exact .inl h
 exact foldl_put_mem b h
def qD (home draw:Int) (i:Nat):Int:=(home+1+(max draw 0 % 3+(i:Int)) % 3) % 4
def bU (home draw:Int):List Int:=[qD home draw 0,qD home draw 1,qD home draw 2]
theorem aO9 (home draw:Int) (i:Nat) (hh:0<=home/\home<=3):0<=qD home draw i/\qD home draw i<=3/\qD home draw i≠home:=by unfold qD;omega
theorem mU {home draw:Int}(hh:0<=home/\home<=3):∀o∈bU home draw,0<=o/\o<=3/\o≠home:=by
 intro o ho;simp only[bU,mem_cons,not_mem_nil,or_false]at ho;rcases ho with rfl | rfl | rfl<;>exact aO9 _ _ _ hh
def aL7 (y:Yard) (home o:Nat):Yard:=nH (nH y home (dS (y.shelf.getD home []) ((y.shelf.getD o []).take (bN (y.shelf.getD o []))))) o ((y.shelf.getD o []).drop (bN (y.shelf.getD o [])))
theorem robY_comm {y:Yard}{home o:Nat}(h:home≠o):aL7 y home o=nH (nH y o ((y.shelf.getD o []).drop (bN (y.shelf.getD o [])))) home (dS (y.shelf.getD home []) ((y.shelf.getD o []).take (bN (y.shelf.getD o [])))):=by
 unfold aL7 nH;simp only[Yard.mk.injEq,true_and,and_true];rw[set_comm _ _ h]
def zL (home:Nat) (y:Yard) (o:Int):Yard:=if y.shelf.getD home []=[] then aL7 (aW y o) home o.toNat else y
def eV (home:Nat) (y:Yard) (l:List Int):Yard:=l.foldl (zL home) y
theorem aJ3 (home:Nat) (y:Yard) (l:List Int):eV home y (l.take 0)=y:=rfl
theorem bC5 {home:Nat}{y:Yard}{l:List Int}{k:Nat}{o:Int}(h:l[k]? = some o) (he:(eV home y (l.take k)).shelf.getD home []=[]):eV home y (l.take (k+1))=aL7 (aW (eV home y (l.take k)) o) home o.toNat:=by
 obtain⟨hj,rfl⟩:=gsi_.1 h;rw[take_succ_eq_append_getElem hj];unfold eV at he ⊢;rw[foldl_append,foldl_cons,foldl_nil];have hz:∀(z:Yard) (o:Int),z.shelf.getD home []=[]->zL home z o=aL7 (aW z o) home o.toNat:=fun z o h=>by unfold zL;rw[if_pos h]
 exact hz _ _ he
theorem aJ4 {home:Nat}{y:Yard}:∀{l:List Int},¬y.shelf.getD home []=[]->eV home y l=y
 | [],_=>rfl
 | o::l,h=>by
  show eV home (zL home y o) l=y;have:zL home y o=y:=by unfold zL;rw[if_neg h]
  rw[this];exact aJ4 h
theorem aS0 {home:Nat}{y:Yard}{l:List Int}{k:Nat}(h:¬(eV home y (l.take k)).shelf.getD home []=[]):eV home y l=eV home y (l.take k):=by
 have e:eV home y l=eV home (eV home y (l.take k)) (l.drop k):=by
  unfold eV;rw[<- foldl_append,take_append_drop]
 rw[e];exact aJ4 h
theorem aS1 {home:Nat}{y:Yard}{l:List Int}{k:Nat}(h:k=l.length):eV home y (l.take k)=eV home y l:=by rw[h,take_length]
structure PI (y out:Yard) (home:Nat):Prop where
 now:out.now=y.now
 seq:out.seq=y.seq
 runs:out.runs=y.runs
 len:out.shelf.length=4
 each:∀s,s<4->(out.shelf.getD s []).length<=80
 fresh:∀e∈out.shelf.getD home [],fresh y e=true
theorem mQ {xss:List (List Entry)}{s:Nat}(h:s<xss.length) (l:List Entry):(xss.set s l).getD s []=l:=by rw[getD_eq_getElem?_getD,getElem?_set_self h];rfl
theorem pV {xss:List (List Entry)}{s j:Nat}(h:s≠j) (l:List Entry):(xss.set s l).getD j []=xss.getD j []:=by rw[getD_eq_getElem?_getD,getElem?_set_ne h,getD_eq_getElem?_getD]
theorem uN {y:Yard}{s:Int}(h:0<=s/\s<=3) (h4:y.shelf.length=4):aW y s=nH y s.toNat ((y.shelf.getD s.toNat []).filter (Go.Proofs.YtjihdmlkpkkpbaaGreat.fresh y)):=by
 unfold aW;rw[if_pos (inB_iff'.2 aA)]
theorem mR {y:Yard}(h:YardIs y):∀s,s<4->(y.shelf.getD s []).length<=80:=by
 intro s hs;have hl:=h.shelf;rw[getD_eq_getElem?_getD,getElem?_eq_getElem aA];have:=aJ0 (h.each y.shelf[s] (getElem_mem _));simpa using this
theorem pE {xss:List (List Entry)}{n s:Nat}{l:List Entry}(h:∀j,j<4->(xss.getD j []).length<=n) (hl:l.length<=n) (h4:xss.length=4):∀j,j<4->((xss.set s l).getD j []).length<=n:=by
 intro j hj;by_cases e:s=j
 ·subst e;rw[mQ aA];exact hl
 rw[pV e];exact h j hj
theorem PI.start {y:Yard}(h:YardIs y) {home:Nat}(hh:home<4):PI y (aW y (home:Int)) home:=by
 have h4:=h.shelf;rw[uN aA h4];simp only[Int.toNat_natCast];refine⟨rfl,rfl,rfl,by show (y.shelf.set _ _).length=4;rw[length_set];exact h4,?_,?_⟩
 ·exact pE (mR h) (Nat.le_trans (length_filter_le _ _) (mR h home hh)) h4
 intro e he;have:e∈(y.shelf.set home ((y.shelf.getD home []).filter (Go.Proofs.YtjihdmlkpkkpbaaGreat.fresh y))).getD home []:=he;rw[mQ aA]at this;exact(mem_filter.1 this).2
theorem PI.rob {y out:Yard}{home:Nat}(h:PI y out home) (hh:home<4) {o:Int}(ho:0<=o/\o<=3/\o≠(home:Int)):PI y (aL7 (aW out o) home o.toNat) home:=by
 have h4:=h.len;have e4:(out.shelf.set o.toNat ((out.shelf.getD o.toNat []).filter (Go.Proofs.YtjihdmlkpkkpbaaGreat.fresh out))).length=4:=by rw[length_set];exact h4
 have e0:(out.shelf.set o.toNat ((out.shelf.getD o.toNat []).filter (Go.Proofs.YtjihdmlkpkkpbaaGreat.fresh out))).getD o.toNat []=(out.shelf.getD o.toNat []).filter (Go.Proofs.YtjihdmlkpkkpbaaGreat.fresh out):=mQ aA _;have e1:(out.shelf.set o.toNat ((out.shelf.getD o.toNat []).filter (Go.Proofs.YtjihdmlkpkkpbaaGreat.fresh out))).getD home []=out.shelf.getD home []:=pV aA _;have hfl:((out.shelf.getD o.toNat []).filter (Go.Proofs.YtjihdmlkpkkpbaaGreat.fresh out)).length<=80:=Nat.le_trans (length_filter_le _ _) (h.each _ aA);rw[uN aA h4];refine⟨h.now,h.seq,h.runs,?_,?_,?_⟩
 ·unfold aL7 nH;simp only[length_set];exact h4
 ·refine pE (pE (pE h.each hfl h4) ?_ e4) ?_ (by unfold nH;simp only[length_set];exact h4)
  ·exact merged_len (by show ((List.set _ _ _).getD home []).length<=80;rw[e1];exact h.each _ hh)
  show (List.drop _ ((List.set _ _ _).getD _ [])).length<=80;rw[e0,length_drop];omega
 intro e he;have he':e∈(((out.shelf.set o.toNat ((out.shelf.getD o.toNat []).filter (Go.Proofs.YtjihdmlkpkkpbaaGreat.fresh out))).set home (dS ((out.shelf.set o.toNat ((out.shelf.getD o.toNat []).filter (Go.Proofs.YtjihdmlkpkkpbaaGreat.fresh out))).getD home []) (((out.shelf.set o.toNat ((out.shelf.getD o.toNat []).filter (Go.Proofs.YtjihdmlkpkkpbaaGreat.fresh out))).getD o.toNat []).take (bN ((out.shelf.set o.toNat ((out.shelf.getD o.toNat []).filter (Go.Proofs.YtjihdmlkpkkpbaaGreat.fresh out))).getD o.toNat []))))).set o.toNat _).getD home []:=he;rw[pV aA,mQ aA,e0,e1]at he';rcases merged_mem he' with h1 | h1
 ·exact h.fresh e h1
 have:=(mem_filter.1 (mem_of_mem_take h1)).2
 rwa [aV8 h.runs]at this
theorem PI.all {y:Yard}(h:YardIs y) {home:Nat}(hh:home<4) {l:List Int}(hl:∀o∈l,0<=o/\o<=3/\o≠(home:Int)):∀{out:Yard},PI y out home->PI y (eV home out l) home:=by
 induction l with
 | nil=>intro out ho;exact ho
 | cons o l ih=>
  intro out ho;refine ih (fun a ha=>hl a (by simp[ha])) (out:=zL home out o) ?_;unfold zL;split
  ·exact ho.rob hh (hl o (by simp))
  exact ho
theorem PI.take {y:Yard}(h:YardIs y) {home:Nat}(hh:home<4) {l:List Int}(hl:∀o∈l,0<=o/\o<=3/\o≠(home:Int)) (k:Nat):PI y (eV home (aW y (home:Int)) (l.take k)) home:=PI.all h hh (fun o ho=>hl o (mem_of_mem_take ho)) (PI.start h hh)
def gK (r:Run) (i:Nat) (t:Task) (now:Int):Run:=⟨r.id,r.plan,r.state,r.tasks.set i ⟨3,t.need,t.try_+1,now+r.plan.wait⟩⟩
def qJ (out:Yard) (home:Nat):Yard×Reply:=match out.shelf.getD home [] with
 | []=>(out,⟨9,0,0,0⟩)
 | e::rest=>match cJ out e.run with
  | none=>(out,⟨9,0,0,0⟩)
  | some k=>match out.runs[k]? with
   | none=>(out,⟨9,0,0,0⟩)
   | some r=>match r.tasks[e.task.toNat]? with
    | none=>(out,⟨9,0,0,0⟩)
    | some t=>(⟨out.now,out.seq,out.shelf.set home rest,out.runs.set k (gK r e.task.toNat t out.now)⟩,⟨0,e.run,e.task,t.try_+1⟩)
noncomputable def gB (y:Yard) (worker draw:Int):Yard×Reply:=
 if ¬aG y=true then (y,⟨8,0,0,0⟩) else if ¬inB worker 0 99=true then (y,⟨5,0,0,0⟩)
 else qJ (eV (worker % 4).toNat (aW y (worker % 4)) (bU (worker % 4) draw)) (worker % 4).toNat
theorem aV7 {out:Yard}{home:Nat}(h:out.shelf.getD home []=[]):qJ out home=(out,⟨9,0,0,0⟩):=by unfold qJ;rw[h]
theorem bF3 {out:Yard}{home k:Nat}{e:Entry}{rest:List Entry}{r:Run}{t:Task}(h:out.shelf.getD home []=e::rest) (hk:cJ out e.run=some k) (hr:out.runs[k]? = some r) (ht:r.tasks[e.task.toNat]? = some t):qJ out home=(⟨out.now,out.seq,out.shelf.set home rest,out.runs.set k (gK r e.task.toNat t out.now)⟩,⟨0,e.run,e.task,t.try_+1⟩):=by
 unfold qJ;rw[h];simp only[hk,hr,ht]
def dH (ns:List Nat):List UInt8:=ns.flatMap aP
def gW (ns:List Nat):Prop:=∀n∈ns,n<=1000000000
theorem varBytes_inj_pre {m n:Nat}{l:List UInt8}(h1:aP m <+: l) (h2:aP n <+: l):m=n:=by
 have e:=nS (bH m).1 (bH n).1 h1 h2;rw[<- (bH m).2,e,(bH n).2]
theorem nT:∀{ns ms:List Nat}{r:List UInt8},dH ns++r=dH ms->∃ms',ms=ns++ms'/\r=dH ms'
 | [],ms,r,h=>⟨ms,rfl,h⟩
 | n::ns,[],r,h=>by
  have h2:=qO (bH n).1;cases hv:aP n with
  | nil=>exact absurd hv h2
  | cons b l=>simp[dH,hv]at h
 | n::ns,m::ms,r,h=>by
  have h1:aP n++(dH ns++r)=aP m++dH ms:=by simpa [dH] using h
  have e:n=m:=varBytes_inj_pre (l:=aP n++(dH ns++r)) (prefix_append _ _) (by rw[h1];exact prefix_append _ _);subst e;obtain⟨ms',e1,e2⟩:=nT (append_cancel_left h1);exact⟨ms',by rw[e1];rfl,e2⟩
theorem varsB_inj {ns ms:List Nat}(h:dH ns=dH ms):ns=ms:=by
 obtain⟨ms',e1,e2⟩:=nT (ns:=ns) (ms:=ms) (r:=[]) (by simpa using h);cases ms' with
 | nil=>simpa using e1.symm
 | cons m ms'=>
  have h2:=qO (bH m).1;cases hv:aP m with
  | nil=>exact absurd hv h2
  | cons b l=>simp[dH,hv]at e2
noncomputable def eR (s:ByteArray):List Int×Bool := @dite _ (∃ns:List Nat,gW ns/\dH ns=s.data.toList) (Classical.propDecidable _) (fun h=>((Classical.choose h).map fun n:Nat=>(n:Int),true)) (fun _=>([],false))
theorem xA {s:ByteArray}{ns:List Nat}(h:gW ns) (e:dH ns=s.data.toList):(ns.map (fun n:Nat=>(n:Int)),true)=eR s:=by
 have hx:∃ns:List Nat,gW ns/\dH ns=s.data.toList:=⟨ns,h,e⟩;unfold eR;rw[dif_pos hx,varsB_inj ((Classical.choose_spec hx).2.trans e.symm)]
theorem varsR_none {s:ByteArray}(h:∀ns:List Nat,gW ns->dH ns≠s.data.toList):([],false)=eR s:=by
 unfold eR;rw[dif_neg fun ⟨ns,h1,h2⟩=>h ns h1 h2]
theorem aP0 {s:ByteArray}{l:List Int}(h:(l,true)=eR s):∃ns:List Nat,gW ns/\dH ns=s.data.toList/\l=ns.map fun n:Nat=>(n:Int):=by
 unfold eR at h;split at h
 ·next hx=>
  have:=Classical.choose_spec hx;exact⟨_,this.1,this.2,by simpa using congrArg Prod.fst h⟩
 simp at h
structure RJ (s:ByteArray) (a:Nat) (out:List Int):Prop where
 le:a<=s.size
 len:out.length<=a
 ex:∃ns:List Nat,gW ns/\dH ns=s.data.toList.take a/\out=ns.map fun n:Nat=>(n:Int)
theorem RJ.start (s:ByteArray):RJ s 0 []:=⟨Nat.zero_le _,Nat.le_refl _,[],by simp[gW],by simp[dH],rfl⟩
theorem RJ.done {s:ByteArray}{a:Nat}{out:List Int}(h:RJ s a out) (hn:¬(a:Int)<s.size):(out,true)=eR s:=by
 obtain⟨ns,h1,h2,rfl⟩:=h.ex;rw[take_of_length_le (by have:s.data.toList.length=s.size:=rfl;omega)]at h2;exact xA h1 h2
theorem cF6 {s:ByteArray}{a:Nat}(h:(vAt s a).2<0):fM (s.data.toList.drop a)=none:=by
 cases hv:fM (s.data.toList.drop a) with
 | none=>rfl
 | some p=>
  obtain⟨n,k⟩:=p;rw[<- qP hv]at h;simp only at h;omega
theorem RJ.bad {s:ByteArray}{a:Nat}{out:List Int}(h:RJ s a out) (hlt:(a:Int)<s.size) (hv:(vAt s a).2<0):([],false)=eR s:=by
 have hv:=cF6 hv;refine varsR_none fun ms h1 h2=>?_
 obtain⟨ns,h3,h4,rfl⟩:=h.ex;have h5:dH ns++s.data.toList.drop a=dH ms:=by rw[h4,take_append_drop,h2]
 obtain⟨ms',e1,e2⟩:=nT h5;cases ms' with
 | nil=>
  have:=congrArg List.length e2;rw[jY]at this;simp[dH]at this;omega
 | cons m ms'=>
  have hm:m<=1000000000:=h1 m (by rw[e1];simp);have:=sA hm (l:=s.data.toList.drop a) (by rw[e2];exact⟨dH ms',by simp[dH]⟩);rw[this]at hv;cases hv
theorem RJ.next {s:ByteArray}{a:Nat}{out:List Int}(h:RJ s a out) (hv:¬(vAt s a).2<0):∃b:Nat,(vAt s a).2=(b:Int)/\a<b/\RJ s b (out++[(vAt s a).1])/\I64 (vAt s a).1:=by
 cases hh:fM (s.data.toList.drop a) with
 | none=>
  rw[<- iG hh]at hv;simp at hv
 | some p=>
  obtain⟨n,k⟩:=p;obtain⟨h1,h2,h3⟩:=jG hh;rw[<- qP hh];obtain⟨ns,h4,h5,rfl⟩:=h.ex;have hp:=qO (bH n).1;have hk:0<k:=by rw[h3];exact length_pos_iff.2 hp
  have hle:=h2.length_le;rw[jY]at hle;refine⟨a+k,by simp,by omega,⟨by have:=h.le;omega,?_,ns++[n],?_,?_,by simp⟩,by simp only;unfold I64;omega⟩
  ·have:=h.len;simp only[length_append,length_map,length_singleton]at *;omega
  ·intro m hm;rcases mem_append.1 hm with hm | hm
   ·exact h4 m hm
   simp at hm;subst hm;exact h1
  rw[take_add];show (ns++[n]).flatMap aP=_;rw[flatMap_append];have e:(s.data.toList.drop a).take k=aP n:=by
   obtain⟨t,ht⟩:=h2;rw[<- ht,h3];simp
  rw[e];congr 1;simp
theorem bJ2 (s:ByteArray) (hs:s.size<=1048576):Ct1 prog 297 [.T s] [.L (eR s).1,.B (eR s).2]:=
 .one (eR s) (rk:=fun a=>[.L a.1,.B a.2])<|vc func297 (fun hg=>.w Int 3 4<|.l (Γ:=Nat×List Int) (fun g=>RJ s g.1 g.2) (fun g=>s.size-g.1) [0] [] [] (fun g=>[vR 4 0,vI 5 g.1]) (fun g=>[oR 0 3 g.2]) (0,[]) (h:=RJ.start s) fun g hJ t=>
  .s ((g.1:Int)<s.size)
   (fun h=>.c func310 (cF0 s g.1 hs aA) fun _=>.s ((vAt s g.1).2<0)
    (fun hb=>.rt ([],false) ⟨hJ.bad h hb,trivial⟩)
    (fun hb=>.ex (hJ.next hb) fun b hx=>.rv 7 (I (b:Int)) (congrArg I hx.1)<|.a g.2 (vAt s g.1).1 8 (hy:=hx.2.2.2) (h63:=by have:=hJ.len;unfold maxLen;omega) (hby:=by have:=hJ.len;omega) <|
     .n t (b,g.2++[(vAt s g.1).1]) [] hx.2.2.1 (by have:=hx.2.1;have:=hx.2.2.1.le;dsimp only;omega)))
   (fun h=>.rt (g.2,true) ⟨hJ.done h,trivial⟩)) aB
structure Numb where
 list:List Int
 bad:Bool
instance:Shape Numb where
 size:=2
 C:=fun w cs x fp=>∃(v1:Value) (f1:List Nat),cs=[v1,.bool x.bad]/\Sl w v1 x.list f1/\fp=f1
 len:=fun ⟨v1,f1,h,h1,hfp⟩=>by rw[h];rfl
 loc:=fun hs hk ⟨v1,f1,h,h1,hfp⟩=>⟨v1,f1,h,h1.loc (fun b hb=>hk b (by rw[hfp];simp[hb])) hs,hfp⟩
 one:=fun ⟨v1,f1,h,h1,hfp⟩ u hu=>by
  obtain⟨ao0,cap0,rfl,_⟩:=h1;subst h;simp at hu;rcases hu with rfl | rfl<;>rfl
 lt:=fun ⟨v1,f1,h,h1,hfp⟩ b hb=>by
  subst hfp;exact h1.lt b hb
instance:Dsh Numb where
 lv:=fun x=>[lS x.list,.v (.bool x.bad)]
 good:=fun _=>True
 out:=fun {w cs x fp} h=>by
  obtain⟨v0,f0,hcs,h0,hfp⟩:=h;refine⟨trivial,?_⟩;rw[hcs,hfp];exact⟨f0,[],h0,⟨rfl,rfl⟩,by simp⟩
 inn:=fun hg h=>by
  obtain⟨c0,r0,f0,g0,e0,h0,z0,p0⟩:=eP h;obtain⟨r1,e1,z1⟩:=aE z0;obtain⟨e2,p1⟩:=eQ z1;subst e2 e1 e0 p1 p0;exact⟨c0,f0,rfl,h0,by simp⟩
structure LIn where
 s:ByteArray
 at_:Nat
 bad:Bool
def LIn.ok (x:LIn):Prop:=x.s.size<=maxLen/\x.at_<=1048576
def LIn.cells (x:LIn):List Value:=[.string x.s,I x.at_,.bool x.bad]
instance:Shape LIn:=Shape.flat 3 LIn.cells LIn.ok (fun _=>rfl) (fun _ v hv=>by simp[LIn.cells]at hv;rcases hv with rfl | rfl | rfl<;>rfl)
instance:Dsh LIn where
 lv:=fun x=>[.v (.string x.s),.v (I x.at_),.v (.bool x.bad)]
 good:=LIn.ok
 out:=fun {w cs x fp} h=>by obtain⟨h1,h2,h3⟩:=h;subst h1;subst h2;exact⟨h3,rfl,rfl,rfl,rfl⟩
 inn:=fun hg h=>by
  obtain⟨r0,e0,z0⟩:=aE h;obtain⟨r1,e1,z1⟩:=aE z0;obtain⟨r2,e2,z2⟩:=aE z1;obtain⟨e3,p1⟩:=eQ z2;subst e3 e2 e1 e0 p1;exact⟨rfl,rfl,hg⟩
noncomputable def aD (x:LIn):LIn×Int:=
 if x.bad=true then (x,0) else match fM (x.s.data.toList.drop x.at_) with
  | none=>(⟨x.s,x.at_,true⟩,0)
  | some (n,k)=>(⟨x.s,x.at_+k,x.bad⟩,(n:Int))
theorem nextL_bad {x:LIn}(h:x.bad=true):(x,(0:Int))=aD x:=by unfold aD;rw[if_pos h]
theorem nextL_none {x:LIn}(h:x.bad=false) (h2:(vAt x.s x.at_).2<0):((⟨x.s,x.at_,true⟩:LIn),(0:Int))=aD x:=by
 unfold aD;rw[if_neg (by rw[h];simp),cF6 h2]
theorem nextL_some {x:LIn}(h:x.bad=false) (h2:¬(vAt x.s x.at_).2<0):∃b:Nat,(vAt x.s x.at_).2=(b:Int)/\((⟨x.s,b,x.bad⟩:LIn),(vAt x.s x.at_).1)=aD x:=by
 cases hh:fM (x.s.data.toList.drop x.at_) with
 | none=>rw[<- iG hh]at h2;simp at h2
 | some p=>
  obtain⟨n,k⟩:=p;rw[<- qP hh];refine⟨x.at_+k,by simp,?_⟩;unfold aD;rw[if_neg (by rw[h];simp),hh]
theorem NumL (x:LIn) (hs:x.s.size<=1048576) (ha:x.at_<=1048576):Cm prog 278 [] inferInstance x (fun _:Unit=>True) (fun _=>(aD x).1) (fun _=>[.I (aD x).2]):=
 Cm.one (aD x) (y:=fun a=>a.1) (rk:=fun a=>[.I a.2])<|vcm func278 (fun hg hn=>.sb x.bad
  (fun h=>.rt (x,0) ⟨nextL_bad h,trivial⟩)
  (fun h=>.c func301 (cE9 x.s x.at_ hs ha) fun _=>.s ((vAt x.s x.at_).2<0)
   (fun hb=>.rt (⟨x.s,x.at_,true⟩,0) ⟨nextL_none h hb,trivial⟩)
   (fun hb=>.ex (nextL_some h hb) fun b hx=>.rv 4 (I (b:Int)) (congrArg I hx.1)<|.rt (⟨x.s,b,x.bad⟩,(vAt x.s x.at_).1) ⟨hx.2,trivial⟩))) aB
def aM (x:Numb):Numb×Int:=(⟨x.list.drop 1,x.bad || x.list.isEmpty⟩,x.list.headD 0)
theorem NextD (x:Numb):Cm prog 298 [] inferInstance x (fun _:Unit=>True) (fun _=>(aM x).1) (fun _=>[.I (aM x).2]):=
 Cm.one (aM x) (y:=fun a=>a.1) (rk:=fun a=>[.I a.2])<|vcm func298 (fun hg hn=>.s ((x.list.length:Int)=0)
  (fun h=>.rt (⟨x.list,true⟩,0) ⟨by
   have hl:x.list=[]:=eq_nil_of_length_eq_zero aA;simp[aM,hl],trivial⟩)
  (fun h=>.x x.list 0 (h:=by omega) fun z hz gz=>.dq inferInstance fS x.list 1 aA 1 rfl<|.rt (⟨x.list.drop 1,x.bad⟩,z) ⟨by
   cases hl:x.list with
   | nil=>rw[hl]at h;simp at h
   | cons a l=>rw[hl]at hz;simp at hz;simp[aM,hl,hz],trivial⟩)) aB
def LIn.in_ (x:LIn):Prop:=x.s.size<=1048576/\x.at_<=x.s.size
theorem bB {x:LIn}(h:x.in_):(aD x).1.in_:=by
 unfold aD;split
 ·exact h
 split
 ·exact h
 next n k hh=>
 obtain⟨_,h2,h3⟩:=jG hh;have:=h2.length_le;rw[jY]at this;exact⟨h.1,by show x.at_+k<=x.s.size;have:=h.2;omega⟩
theorem cB (x:LIn):I64 (aD x).2:=by
 unfold aD;split
 ·simp only;unfold I64;omega
 split
 ·simp only;unfold I64;omega
 next n k hh=>
 have:=(jG hh).1;simp only;unfold I64;omega
theorem rA (x:LIn):(aD x).2<=1000000000:=by
 unfold aD;split
 ·simp
 split
 ·simp
 next n k hh=>
 have:=(jG hh).1;simp only;omega
noncomputable def sR (x:LIn):LIn×Entry:=
 let a:=aD x
 let b:=aD a.1
 let c:=aD b.1
 let d:=aD c.1
 (d.1,⟨a.2,b.2,c.2,d.2⟩)
theorem entryL_in {x:LIn}(h:x.in_):(sR x).1.in_:=bB (bB (bB (bB h)))
noncomputable def fG (x:LIn):Nat->LIn×List Entry
 | 0=>(x,[])
 | i+1=>if (fG x i).1.bad=true then fG x i else ((sR (fG x i).1).1,(fG x i).2++[(sR (fG x i).1).2])
theorem shelfUp_bad {x:LIn}{i:Nat}(h:(fG x i).1.bad=true):∀j,i<=j->fG x j=fG x i:=by
 intro j hj
 induction j with
 | zero=>rw[show i=0 by omega]
 | succ j ih=>
  rcases Nat.lt_or_ge i (j+1) with h1 | h1
  ·have e:=ih aA;show (if (fG x j).1.bad=true then fG x j else _)=_;rw[e,if_pos h]
  rw[show i=j+1 by omega]
noncomputable def sF (x:LIn):LIn×List Entry:=fG (if 80<(aD x).2 then ⟨(aD x).1.s,(aD x).1.at_,true⟩ else (aD x).1) (aD x).2.toNat
structure ShJ (x0:LIn) (m:Int) (g:Nat×LIn×List Entry):Prop where
 le:g.1<=m.toNat
 eq:(g.2.1,g.2.2)=fG x0 g.1
 inn:g.2.1.in_
 len:g.2.2.length<=g.1
theorem ShJ.next {x0:LIn}{m:Int}{g:Nat×LIn×List Entry}(h:ShJ x0 m g) (hi:x0.in_) (hm:(g.1:Int)<m) (hb:g.2.1.bad=false):ShJ x0 m (g.1+1,(sR g.2.1).1,g.2.2++[(sR g.2.1).2]):=by
 have e1:(fG x0 g.1).1=g.2.1:=by rw[<- h.eq]
 have e2:(fG x0 g.1).2=g.2.2:=by rw[<- h.eq]
 refine⟨by show g.1+1<=m.toNat;omega,?_,entryL_in h.inn,by have:=h.len;simp only[length_append,length_singleton];omega⟩;show _=(if (fG x0 g.1).1.bad=true then _ else _);rw[e1,e2,if_neg (by rw[hb];simp)]
theorem ShJ.all {x0:LIn}{m:Int}{g:Nat×LIn×List Entry}(h:ShJ x0 m g) (hm:¬(g.1:Int)<m):(g.2.1,g.2.2)=fG x0 m.toNat:=by
 rw[h.eq,show g.1=m.toNat by have:=h.le;omega]
theorem ShJ.stop {x0:LIn}{m:Int}{g:Nat×LIn×List Entry}(h:ShJ x0 m g) (hb:g.2.1.bad=true):(g.2.1,g.2.2)=fG x0 m.toNat:=by
 have e1:(fG x0 g.1).1=g.2.1:=by rw[<- h.eq]
 rw[h.eq,shelfUp_bad (by rw[e1];exact hb) _ h.le]
theorem entry64 {x:LIn}:(sR x).2.ok:=⟨cB _,cB _,cB _,cB _⟩
section
variable {A:Type}{R:A->Prop}
noncomputable def cmL (x:LIn) (h:x.in_) (k:D prog R):D prog R := .cm 278 func278 (NumL x h.1 (Nat.le_trans h.2 h.1)) trivial fun _ _ _ _=>k
noncomputable def cU3 (x x0:LIn) (m:Int) (hm:m<=1000000000) (hi:x0.in_) (e:fG x0 m.toNat=sF x):D prog (fun a:LIn×List Entry=>a=sF x/\rgd [Rk.L a.2]):=
 .lp (Γ:=Nat×LIn×List Entry) (fun g=>ShJ x0 m g) (fun g=>m.toNat-g.1) [0,4] [1000000] [] (fun g=>[vR 3 1,vI 5 g.1]) (fun g=>[oR 1 173 g.2.2,oB 0 [.v (.string g.2.1.s),.v (I g.2.1.at_),.b g.2.1.bad]]) (0,x0,[]) ⟨Nat.zero_le _,rfl,hi,Nat.le_refl _⟩ [] fun g hJ t=>
  .s ((g.1:Int)<m)
   (fun h=>.sb (!g.2.1.bad)
    (fun hb=>let x1:=(aD g.2.1).1
     let x2:=(aD x1).1
     let x3:=(aD x2).1
     cmL g.2.1 hJ.inn<|cmL x1 (bB hJ.inn)<|cmL x2 (bB (bB hJ.inn))<|cmL x3 (bB (bB (bB hJ.inn))) <|
     .a g.2.2 (sR g.2.1).2 32 (hy:=entry64) (h63:=by have:=hJ.len;have:=hJ.le;unfold maxLen;omega) (hby:=by have:=hJ.len;have:=hJ.le;omega)<|.p g.1 1 (h:=by unfold I64;omega) <|
     .n t (g.1+1,(sR g.2.1).1,g.2.2++[(sR g.2.1).2]) [] (hJ.next hi h (bnT hb)) (by dsimp only;omega))
    (fun hb=>.rt (g.2.1,g.2.2) ⟨(hJ.stop (bnF hb)).trans e,trivial⟩))
   (fun h=>.rt (g.2.1,g.2.2) ⟨(hJ.all h).trans e,trivial⟩)
end
theorem ShelfL (x:LIn) (h:x.in_):Cm prog 302 [] inferInstance x (fun _:Unit=>True) (fun _=>(sF x).1) (fun _=>[.L (sF x).2]):=
 Cm.one (sF x) (y:=fun a=>a.1) (rk:=fun a=>[.L a.2])<|vcm func302 (fun hg hn=>.e Entry<|cmL x h<|.s ((80:Int)<(aD x).2)
  (fun h8=>cU3 x ⟨(aD x).1.s,(aD x).1.at_,true⟩ (aD x).2 (rA x) (bB h) (by unfold sF;rw[if_pos h8]))
  (fun h8=>cU3 x (aD x).1 (aD x).2 aA (bB h) (by unfold sF;rw[if_neg h8]))) aB
def oS (p:Plan):List Int:=[p.prio,p.most,p.wait,p.tasks,(p.edges.length:Int)]
def iT (p:Plan) (k:Nat):List Int:=oS p++(p.edges.take k).flatMap fun e=>[e.from_,e.to_]
def jN (p:Plan):List Int:=iT p p.edges.length
theorem sH (p:Plan) (k:Nat):(iT p k).length<=5+2*k:=by
 have key:∀es:List Edge,(es.flatMap fun e=>[e.from_,e.to_]).length=2*es.length:=by
  intro es
  induction es with
  | nil=>rfl
  | cons e es ih=>rw[flatMap_cons,length_append,ih];simp only[length_cons,length_nil];omega
 unfold iT;rw[length_append,key,length_take];simp only[oS,length_cons,length_nil];omega
theorem aK0 {p:Plan}{k:Nat}{e:Edge}(h:p.edges[k]? = some e):iT p k++[e.from_,e.to_]=iT p (k+1):=by
 obtain⟨hk,rfl⟩:=gsi_.1 h;unfold iT;rw[take_succ_eq_append_getElem hk,flatMap_append,append_assoc];rfl
theorem bD2 {p:Plan}(h:p.ok) (hl:p.edges.length<=1048576):∀y∈oS p,(inferInstance:Dsh Int).good y:=by
 obtain⟨h1,h2,h3,h4⟩:=h;intro y hy;simp only[oS,mem_cons,not_mem_nil,or_false]at hy;rcases hy with rfl | rfl | rfl | rfl | rfl
 ·exact h1
 ·exact h2
 ·exact h3
 ·exact h4
 show I64 _;unfold I64;omega
theorem bG3 {e:Edge}(h:e.ok):∀y∈[e.from_,e.to_],(inferInstance:Dsh Int).good y:=bA3 h.1 h.2
theorem PlanNumbersI (p:Plan) (hl:p.edges.length<=1048576):Ct1 prog 293 [.S p] [.L (jN p)]:=
 .one (jN p) (rk:=fun a=>[.L a])<|vc func293 (fun hg=>.lr (inferInstance:Dsh Int) fS 17 (oS p) (by simp[oS]) (bD2 hg.1.1 hl)<|.ex (p:=fun x:List Int=>x=iT p 0) ⟨_,rfl⟩ fun _ _=>
  .oc (p:=True) (q:=False) (.inl trivial) (fun _=>.lp (Γ:=Nat) (fun k=>k<=p.edges.length) (fun k=>p.edges.length-k) [1,19,20] [1] [0] (fun k=>[vR 3 2,vI 21 k]) (fun k=>[oR 2 3 (iT p k)]) 0 (Nat.zero_le _) [] fun k hk t=>
   .s ((k:Int)<p.edges.length)
    (fun h=>.x p.edges k (h:=by omega) fun e he ge=>.ap (inferInstance:Dsh Int) (iT p k) [e.from_,e.to_] (bG3 ge) 8 (by have:=sH p k;simp only[length_cons,length_nil];unfold maxLen;omega) (by have:=sH p k;simp only[length_cons,length_nil];omega) <|
     .g 2 (aK0 he)<|.p k 1<|.n t (k+1) [] aA aA)
    (fun h=>.g 2 (show iT p k=jN p by unfold jN;rw[show k=p.edges.length by omega])<|.rt (jN p) ⟨rfl,trivial⟩)) (fun h=>.ab h)) aB
structure Rdr (σ:Type) where
 next:σ->σ×Int
 bad:σ->Bool
 lim:Int->Int->σ->σ
def bA {σ β:Type}(bad:σ->Bool) (one:σ->σ×β) (x:σ):Nat->σ×List β
 | 0=>(x,[])
 | i+1=>if bad (bA bad one x i).1=true then bA bad one x i else ((one (bA bad one x i).1).1,(bA bad one x i).2++[(one (bA bad one x i).1).2])
section
variable {σ:Type}(r:Rdr σ)
def jD (x:σ):σ×Edge:=
 let a:=r.next x
 let b:=r.next a.1
 (b.1,⟨a.2,b.2⟩)
def kK (x:σ):σ×Entry:=
 let a:=r.next x
 let b:=r.next a.1
 let c:=r.next b.1
 let d:=r.next c.1
 (d.1,⟨a.2,b.2,c.2,d.2⟩)
def iU (x:σ):σ×Task:=
 let a:=r.next x
 let b:=r.next a.1
 let c:=r.next b.1
 let d:=r.next c.1
 (d.1,⟨a.2,b.2,c.2,d.2⟩)
def fA (x:σ):σ×Plan:=
 let a:=r.next x
 let b:=r.next a.1
 let c:=r.next b.1
 let d:=r.next c.1
 let m:=r.next d.1
 let e:=bA r.bad (jD r) (r.lim 31 m.2 m.1) m.2.toNat
 (e.1,⟨a.2,b.2,c.2,d.2,e.2⟩)
def dX (x:σ):σ×List Entry:=
 let m:=r.next x
 bA r.bad (kK r) (r.lim 80 m.2 m.1) m.2.toNat
def iL (x:σ):σ×Run:=
 let a:=r.next x
 let p:=fA r a.1
 let b:=r.next p.1
 let t:=bA r.bad (iU r) (r.lim 12 p.2.tasks b.1) p.2.tasks.toNat
 (t.1,⟨a.2,p.2,b.2,t.2⟩)
def tG (sb:σ->Bool) (x:σ):σ×Yard:=
 let a:=r.next x
 let b:=r.next a.1
 let s:=bA sb (dX r) b.1 4
 let m:=r.next s.1
 let q:=bA r.bad (iL r) (r.lim 8 m.2 m.1) m.2.toNat
 (q.1,⟨a.2,b.2,s.2,q.2⟩)
end
def pD (e:Edge):List Int:=[e.from_,e.to_]
def eX (e:Entry):List Int:=[e.prio,e.seq,e.run,e.task]
def fT (t:Task):List Int:=[t.state,t.need,t.try_,t.until_]
def gT (l:List Entry):List Int:=(l.length:Int)::l.flatMap eX
def kR (x:Run):List Int:=x.id::(jN x.plan++(x.state::x.tasks.flatMap fT))
def dA (y:Yard):List Int:=y.now::y.seq::(y.shelf.flatMap gT++((y.runs.length:Int)::y.runs.flatMap kR))
theorem qZ (p:Plan):jN p=p.prio::p.most::p.wait::p.tasks::(p.edges.length:Int)::p.edges.flatMap pD:=by
 unfold jN iT oS;rw[take_length];rfl
structure Fwd {σ:Type}(r:Rdr σ) (Rd:σ->List Int->Prop):Prop where
 next:∀{x n ns},Rd x (n::ns)->(r.next x).2=n/\Rd (r.next x).1 ns
 ok:∀{x ns},Rd x ns->r.bad x=false
 lim:∀{k m x},m<=k->r.lim k m x=x
section
variable {σ:Type}{r:Rdr σ}{Rd:σ->List Int->Prop}
theorem tS {β:Type}{sb:σ->Bool}{one:σ->σ×β}{nums:β->List Int}{bs:List β}{ns:List Int}{x:σ}(hs:∀{x ns},Rd x ns->sb x=false)
  (h1:∀b∈bs,∀x ns,Rd x (nums b++ns)->(one x).2=b/\Rd (one x).1 ns) (h:Rd x (bs.flatMap nums++ns)):(bA sb one x bs.length).2=bs/\Rd (bA sb one x bs.length).1 ns:=by
 have key:∀i,i<=bs.length->(bA sb one x i).2=bs.take i/\Rd (bA sb one x i).1 ((bs.drop i).flatMap nums++ns):=by
  intro i
  induction i with
  | zero=>exact fun _=>⟨rfl,h⟩
  | succ i ih=>
   intro hi;obtain⟨e1,e2⟩:=ih aA;have hd:bs.drop i=bs[i]::bs.drop (i+1):=drop_eq_getElem_cons aA;rw[hd,flatMap_cons,append_assoc]at e2;have hb:=hs e2;obtain⟨e3,e4⟩:=h1 _ (getElem_mem aA) _ _ e2;unfold bA;rw[if_neg (by rw[hb];simp)];refine⟨?_,e4⟩;show _++[_]=_;rw[e1,e3,take_succ_eq_append_getElem aA]
 obtain⟨e1,e2⟩:=key _ (Nat.le_refl _);rw[take_length]at e1;rw[drop_length]at e2;exact⟨e1,e2⟩
variable (F:Fwd r Rd)
include F
theorem edge_fwd {e:Edge}{x:σ}{ns:List Int}(h:Rd x (pD e++ns)):(jD r x).2=e/\Rd (jD r x).1 ns:=by
 obtain⟨a1,h⟩:=F.next h;obtain⟨a2,h⟩:=F.next h;exact⟨by show (⟨_,_⟩:Edge)=_;rw[a1,a2],h⟩
theorem entry_fwd {e:Entry}{x:σ}{ns:List Int}(h:Rd x (eX e++ns)):(kK r x).2=e/\Rd (kK r x).1 ns:=by
 obtain⟨a1,h⟩:=F.next h;obtain⟨a2,h⟩:=F.next h;obtain⟨a3,h⟩:=F.next h;obtain⟨a4,h⟩:=F.next h;exact⟨by show (⟨_,_,_,_⟩:Entry)=_;rw[a1,a2,a3,a4],h⟩
theorem task_fwd {e:Task}{x:σ}{ns:List Int}(h:Rd x (fT e++ns)):(iU r x).2=e/\Rd (iU r x).1 ns:=by
 obtain⟨a1,h⟩:=F.next h;obtain⟨a2,h⟩:=F.next h;obtain⟨a3,h⟩:=F.next h;obtain⟨a4,h⟩:=F.next h;exact⟨by show (⟨_,_,_,_⟩:Task)=_;rw[a1,a2,a3,a4],h⟩
theorem bU4 {p:Plan}{x:σ}{ns:List Int}(hp:p.edges.length<=31) (h:Rd x (jN p++ns)):(fA r x).2=p/\Rd (fA r x).1 ns:=by
 rw[qZ]at h;obtain⟨a1,h⟩:=F.next h;obtain⟨a2,h⟩:=F.next h;obtain⟨a3,h⟩:=F.next h;obtain⟨a4,h⟩:=F.next h;obtain⟨a5,h⟩:=F.next h;have h:=tS (Rd:=Rd) (one:=jD r) (nums:=pD) (bs:=p.edges) (ns:=ns) (sb:=r.bad) F.ok (fun b _ x ns h=>edge_fwd F h) h;unfold fA;simp only;rw[a5,F.lim aA,Int.toNat_natCast,a1,a2,a3,a4,h.1];exact⟨rfl,h.2⟩
theorem shelf_fwd {l:List Entry}{x:σ}{ns:List Int}(hp:l.length<=80) (h:Rd x (gT l++ns)):(dX r x).2=l/\Rd (dX r x).1 ns:=by
 obtain⟨a5,h⟩:=F.next h;have h:=tS (Rd:=Rd) (one:=kK r) (nums:=eX) (bs:=l) (ns:=ns) (sb:=r.bad) F.ok (fun b _ x ns h=>entry_fwd F h) h;unfold dX;simp only;rw[a5,F.lim aA,Int.toNat_natCast];exact h
theorem run_fwd {q:Run}{x:σ}{ns:List Int}(hp:q.plan.edges.length<=31) (h12:q.plan.tasks<=12) (ht:(q.tasks.length:Int)=q.plan.tasks) (h:Rd x (kR q++ns)):(iL r x).2=q/\Rd (iL r x).1 ns:=by
 unfold kR at h;obtain⟨a1,h⟩:=F.next (ns:=(jN q.plan++(q.state::q.tasks.flatMap fT))++ns) h;rw[append_assoc]at h;obtain⟨a2,h⟩:=bU4 F hp h;obtain⟨a3,h⟩:=F.next (ns:=q.tasks.flatMap fT++ns) h;have h:=tS (Rd:=Rd) (one:=iU r) (nums:=fT) (bs:=q.tasks) (ns:=ns) (sb:=r.bad) F.ok (fun b _ x ns h=>task_fwd F h) h;unfold iL;simp only;rw[a1,a2,a3,F.lim h12,<- ht,Int.toNat_natCast,h.1];exact⟨rfl,h.2⟩
structure YFits (y:Yard):Prop where
 four:y.shelf.length=4
 eighty:∀l∈y.shelf,l.length<=80
 eight:y.runs.length<=8
 runs:∀q∈y.runs,q.plan.edges.length<=31/\q.plan.tasks<=12/\(q.tasks.length:Int)=q.plan.tasks
theorem yQ {sb:σ->Bool}(hs:∀{x ns},Rd x ns->sb x=false) {y:Yard}{x:σ}{ns:List Int}(hy:YFits y) (h:Rd x (dA y++ns)):(tG r sb x).2=y/\Rd (tG r sb x).1 ns:=by
 unfold dA at h;obtain⟨a1,h⟩:=F.next (ns:=(y.seq::(y.shelf.flatMap gT++((y.runs.length:Int)::y.runs.flatMap kR)))++ns) h;obtain⟨a2,h⟩:=F.next (ns:=(y.shelf.flatMap gT++((y.runs.length:Int)::y.runs.flatMap kR))++ns) h;rw[append_assoc]at h;have h:=tS (Rd:=Rd) (one:=dX r) (nums:=gT) (bs:=y.shelf) (sb:=sb) hs (fun b hb x ns h=>shelf_fwd F (hy.eighty b hb) h) h;rw[hy.four]at h;obtain⟨a3,h⟩:=h;obtain⟨a4,h⟩:=F.next (ns:=y.runs.flatMap kR++ns) h;have h:=tS (Rd:=Rd) (one:=iL r) (nums:=kR) (bs:=y.runs) (ns:=ns) (sb:=r.bad) F.ok (fun b hb x ns h=>run_fwd F (hy.runs b hb).1 (hy.runs b hb).2.1 (hy.runs b hb).2.2 h) h;unfold tG;simp only;rw[a1,a2,a3,a4,F.lim (by have:=hy.eight;omega),Int.toNat_natCast,h.1];exact⟨rfl,h.2⟩
end
structure Bwd {σ:Type}(r:Rdr σ) (In:σ->Prop) (Cs:σ->σ->List Int->Prop):Prop where
 refl:∀{x},Cs x x []
 trans:∀{x y z a b},Cs x y a->Cs y z b->Cs x z (a++b)
 next:∀{x},r.bad (r.next x).1=false->r.bad x=false/\Cs x (r.next x).1 [(r.next x).2]
 lim:∀{k m x},r.bad (r.lim k m x)=false->r.lim k m x=x
 inn:∀{x},In x->In (r.next x).1/\0<=(r.next x).2/\(r.next x).2<=1000000000
 limI:∀{k m x},In x->In (r.lim k m x)
section
variable {σ:Type}{r:Rdr σ}{In:σ->Prop}{Cs:σ->σ->List Int->Prop}
theorem nX {β:Type}{sb:σ->Bool}{one:σ->σ×β}(h1:∀x,In x->In (one x).1) {x:σ}(h:In x):∀i,In (bA sb one x i).1/\(bA sb one x i).2.length<=i
 | 0=>⟨h,Nat.le_refl _⟩
 | i+1=>by
  have ih:=nX (sb:=sb) h1 h i;unfold bA;split
  ·exact⟨ih.1,by omega⟩
  ·exact⟨h1 _ ih.1,by simp only[length_append,length_singleton];omega⟩
theorem many_bad {β:Type}{sb:σ->Bool}{one:σ->σ×β}{x:σ}{i:Nat}(h:sb (bA sb one x i).1=true):∀j,i<=j->bA sb one x j=bA sb one x i:=by
 intro j hj
 induction j with
 | zero=>rw[show i=0 by omega]
 | succ j ih=>
  rcases Nat.lt_or_ge i (j+1) with h1 | h1
  ·have e:=ih aA;show (if sb (bA sb one x j).1=true then bA sb one x j else _)=_;rw[e,if_pos h]
  rw[show i=j+1 by omega]
variable (B:Bwd r In Cs)
include B
theorem rG {β:Type}{sb:σ->Bool}{one:σ->σ×β}{nums:β->List Int}{p:β->Prop}(hs:∀{x},sb x=true->r.bad x=true) (hI:∀x,In x->In (one x).1)
  (h1:∀x,In x->r.bad (one x).1=false->r.bad x=false/\Cs x (one x).1 (nums (one x).2)/\p (one x).2) {x:σ}(hx:In x) :
  ∀i,r.bad (bA sb one x i).1=false->r.bad x=false/\Cs x (bA sb one x i).1 ((bA sb one x i).2.flatMap nums)/\(bA sb one x i).2.length=i/\∀b∈(bA sb one x i).2,p b
 | 0,h=>⟨h,B.refl,rfl,fun b hb=>by cases hb⟩
 | i+1,h=>by
  have ih:=rG (sb:=sb) hs hI h1 hx i;unfold bA at h ⊢;split at h
  ·next hb=>rw[hs hb]at h;cases h
  ·next hb=>
   rw[if_neg hb];obtain⟨g1,g2,g3⟩:=h1 _ (nX hI hx i).1 h;obtain⟨k1,k2,k3,k4⟩:=ih g1;refine⟨k1,?_,by simp[k3],fun b hm=>?_⟩
   ·rw[flatMap_append];simpa using B.trans k2 g2
   ·rcases mem_append.1 hm with hm | hm
    ·exact k4 b hm
    ·simp only[mem_singleton]at hm;rw[hm];exact g3
theorem aO2 (x:σ) (h:In x):In (jD r x).1:=(B.inn (B.inn h).1).1
theorem aW7 (x:σ) (h:In x):In (kK r x).1:=(B.inn (B.inn (B.inn (B.inn h).1).1).1).1
theorem aM5 (x:σ) (h:In x):In (iU r x).1:=(B.inn (B.inn (B.inn (B.inn h).1).1).1).1
theorem n64 {x:σ}(h:In x):I64 (r.next x).2:=by have:=B.inn h;unfold I64;omega
theorem cN6 (x:σ) (h:In x):(jD r x).2.ok:=⟨n64 B h,n64 B (B.inn h).1⟩
theorem entry_ok (x:σ) (h:In x):(kK r x).2.ok:=⟨n64 B h,n64 B (B.inn h).1,n64 B (B.inn (B.inn h).1).1,n64 B (B.inn (B.inn (B.inn h).1).1).1⟩
theorem cG5 (x:σ) (h:In x):(iU r x).2.ok:=⟨n64 B h,n64 B (B.inn h).1,n64 B (B.inn (B.inn h).1).1,n64 B (B.inn (B.inn (B.inn h).1).1).1⟩
theorem zO (x:σ) (h:In x):In (fA r x).1:=(nX (aO2 B) (B.limI (B.inn (B.inn (B.inn (B.inn (B.inn h).1).1).1).1).1) _).1
theorem uY (x:σ) (h:In x):(fA r x).2.ok:=⟨n64 B h,n64 B (B.inn h).1,n64 B (B.inn (B.inn h).1).1,n64 B (B.inn (B.inn (B.inn h).1).1).1⟩
theorem xL (x:σ) (h:In x):0<=(fA r x).2.tasks/\(fA r x).2.tasks<=1000000000:=(B.inn (B.inn (B.inn (B.inn h).1).1).1).2
theorem lG (x:σ) (h:In x):In (dX r x).1:=(nX (aW7 B) (B.limI (B.inn h).1) _).1
theorem bL6 (x:σ) (h:In x):In (iL r x).1:=(nX (aM5 B) (B.limI (B.inn (zO B _ (B.inn h).1)).1) _).1
theorem cU5 (x:σ) (h:In x):(iL r x).2.ok:=⟨n64 B h,uY B _ (B.inn h).1,n64 B (zO B _ (B.inn h).1)⟩
theorem edge_bwd (x:σ) (hx:In x) (h:r.bad (jD r x).1=false):r.bad x=false/\Cs x (jD r x).1 (pD (jD r x).2)/\True:=by
 obtain⟨h2,c2⟩:=B.next h;obtain⟨h1,c1⟩:=B.next h2;exact⟨h1,B.trans c1 c2,trivial⟩
theorem tU {x:σ}(h:r.bad (r.next (r.next (r.next (r.next x).1).1).1).1=false):r.bad x=false/\Cs x (r.next (r.next (r.next (r.next x).1).1).1).1 [(r.next x).2,(r.next (r.next x).1).2,(r.next (r.next (r.next x).1).1).2,(r.next (r.next (r.next (r.next x).1).1).1).2]:=by
 obtain⟨h4,c4⟩:=B.next h;obtain⟨h3,c3⟩:=B.next h4;obtain⟨h2,c2⟩:=B.next h3;obtain⟨h1,c1⟩:=B.next h2;exact⟨h1,B.trans c1 (B.trans c2 (B.trans c3 c4))⟩
theorem entry_bwd (x:σ) (hx:In x) (h:r.bad (kK r x).1=false):r.bad x=false/\Cs x (kK r x).1 (eX (kK r x).2)/\True:=⟨(tU B h).1,(tU B h).2,trivial⟩
theorem task_bwd (x:σ) (hx:In x) (h:r.bad (iU r x).1=false):r.bad x=false/\Cs x (iU r x).1 (fT (iU r x).2)/\True:=⟨(tU B h).1,(tU B h).2,trivial⟩
theorem plan_bwd (x:σ) (hx:In x) (h:r.bad (fA r x).1=false):r.bad x=false/\Cs x (fA r x).1 (jN (fA r x).2):=by
 have i4:=(B.inn (B.inn (B.inn (B.inn hx).1).1).1).1;have i5:=B.inn i4;obtain⟨g1,g2,g3,_⟩:=rG B (sb:=r.bad) (p:=fun _=>True) (fun h=>h) (aO2 B) (edge_bwd B) (B.limI i5.1) _ h;have e:=B.lim g1;rw[e]at g1;obtain⟨h5,c5⟩:=B.next g1;obtain⟨h4,c4⟩:=tU B h5;refine⟨h4,?_⟩;rw[qZ];have g2':Cs (r.next (r.next (r.next (r.next (r.next x).1).1).1).1).1 (fA r x).1 ((fA r x).2.edges.flatMap pD):=by rw[<- e];exact g2
 have:=B.trans c4 (B.trans c5 g2');have e2:((fA r x).2.edges.length:Int)=(r.next (r.next (r.next (r.next (r.next x).1).1).1).1).2:=by
  show ((bA r.bad (jD r) _ _).2.length:Int)=_;rw[g3];have:=i5.2.1;omega
 rw[e2];exact this
theorem shelf_bwd (x:σ) (hx:In x) (h:r.bad (dX r x).1=false):r.bad x=false/\Cs x (dX r x).1 (gT (dX r x).2)/\True:=by
 have i1:=B.inn hx;obtain⟨g1,g2,g3,_⟩:=rG B (sb:=r.bad) (p:=fun _=>True) (fun h=>h) (aW7 B) (entry_bwd B) (B.limI i1.1) _ h;have e:=B.lim g1;rw[e]at g1;obtain⟨h1,c1⟩:=B.next g1;refine⟨h1,?_,trivial⟩;have g2':Cs (r.next x).1 (dX r x).1 ((dX r x).2.flatMap eX):=by rw[<- e];exact g2
 have e2:((dX r x).2.length:Int)=(r.next x).2:=by
  show ((bA r.bad (kK r) _ _).2.length:Int)=_;rw[g3];have:=i1.2.1;omega
 unfold gT;rw[e2];exact B.trans c1 g2'
theorem run_bwd (x:σ) (hx:In x) (h:r.bad (iL r x).1=false):r.bad x=false/\Cs x (iL r x).1 (kR (iL r x).2)/\True:=by
 have i1:=(B.inn hx).1;have i2:=zO B _ i1;have i3:=B.inn i2;obtain⟨g1,g2,g3,_⟩:=rG B (sb:=r.bad) (p:=fun _=>True) (fun h=>h) (aM5 B) (task_bwd B) (B.limI i3.1) _ h;have e:=B.lim g1;rw[e]at g1;obtain⟨h3,c3⟩:=B.next g1;obtain⟨h2,c2⟩:=plan_bwd B _ i1 h3;obtain⟨h1,c1⟩:=B.next h2;have g2':Cs (r.next (fA r (r.next x).1).1).1 (iL r x).1 ((iL r x).2.tasks.flatMap fT):=by rw[<- e];exact g2
 exact⟨h1,B.trans c1 (B.trans c2 (B.trans c3 g2')),trivial⟩
theorem bR0 {sb:σ->Bool}(hs:∀{x},sb x=true->r.bad x=true) (x:σ) (hx:In x) (h:r.bad (tG r sb x).1=false):r.bad x=false/\Cs x (tG r sb x).1 (dA (tG r sb x).2):=by
 have i2:=(B.inn (B.inn hx).1).1;have i3:=(nX (sb:=sb) (lG B) i2 4).1;have i4:=B.inn i3;obtain⟨g1,g2,g3,_⟩:=rG B (sb:=r.bad) (p:=fun _=>True) (fun h=>h) (bL6 B) (run_bwd B) (B.limI i4.1) _ h;have e:=B.lim g1;rw[e]at g1;obtain⟨h4,c4⟩:=B.next g1;obtain⟨h3,c3,l3,_⟩:=rG B (sb:=sb) (p:=fun _=>True) hs (lG B) (shelf_bwd B) i2 4 h4;obtain⟨h2,c2⟩:=B.next h3;obtain⟨h1,c1⟩:=B.next h2;refine⟨h1,?_⟩;have g2':Cs (r.next (bA sb (dX r) (r.next (r.next x).1).1 4).1).1 (tG r sb x).1 ((tG r sb x).2.runs.flatMap kR):=by rw[<- e];exact g2
 have e2:((tG r sb x).2.runs.length:Int)=(r.next (bA sb (dX r) (r.next (r.next x).1).1 4).1).2:=by
  show ((bA r.bad (iL r) _ _).2.length:Int)=_;rw[g3];have:=i4.2.1;omega
 unfold dA;rw[e2];exact B.trans c1 (B.trans c2 (B.trans c3 (B.trans c4 g2')))
end
noncomputable def linR:Rdr LIn:=⟨aD,LIn.bad,fun k m x=>if k<m then ⟨x.s,x.at_,true⟩ else x⟩
def fU:Rdr Numb:=⟨aM,Numb.bad,fun _ _ x=>x⟩
def gS (ns:List Nat):List Int:=ns.map fun n:Nat=>(n:Int)
def LRd (x:LIn) (l:List Int):Prop:=x.bad=false/\∃ns,gW ns/\l=gS ns/\dH ns=x.s.data.toList.drop x.at_
theorem linF:Fwd linR LRd where
 next:=by
  rintro x n l ⟨h,ns,h1,h2,h3⟩;cases ns with
  | nil=>cases h2
  | cons m ns=>
   simp only[gS,map_cons,List.cons.injEq]at h2;obtain⟨rfl,rfl⟩:=h2;have hm:m<=1000000000:=h1 m mem_cons_self;have e:=sA hm (l:=x.s.data.toList.drop x.at_) (by rw[<- h3];exact⟨dH ns,by simp[dH]⟩);have e2:aD x=(⟨x.s,x.at_+(aP m).length,x.bad⟩,(m:Int)):=by
    unfold aD;rw[if_neg (by rw[h];simp),e]
   show (aD x).2=_/\LRd (aD x).1 _;rw[e2];refine⟨rfl,h,ns,fun k hk=>h1 k (mem_cons_of_mem _ hk),rfl,?_⟩;show _=x.s.data.toList.drop (x.at_+(aP m).length);rw[<- drop_drop,<- h3];simp[dH]
 ok:=fun h=>h.1
 lim:=fun h=>by
  show (if _ then _ else _)=_;rw[if_neg aA]
def NRd (x:Numb) (l:List Int):Prop:=x.bad=false/\x.list=l
theorem numF:Fwd fU NRd where
 next:=by
  rintro x n l ⟨h,h2⟩;show (aM x).2=_/\NRd (aM x).1 _;unfold aM NRd;simp[h,h2]
 ok:=fun h=>h.1
 lim:=fun _=>rfl
def LCs (x y:LIn) (l:List Int):Prop:=y.s=x.s/\∃ns,gW ns/\l=gS ns/\x.s.data.toList.drop x.at_=dH ns++x.s.data.toList.drop y.at_
theorem small9_app {a b:List Nat}(h:gW a) (k:gW b):gW (a++b):=fun n hn=>(mem_append.1 hn).elim (h n) (k n)
theorem varsB_app (a b:List Nat):dH (a++b)=dH a++dH b:=by unfold dH;rw[flatMap_append]
theorem linB:Bwd linR LIn.in_ LCs where
 refl:=⟨rfl,[],fun _ h=>(by cases h),rfl,rfl⟩
 trans:=by
  rintro x y z a b ⟨h1,ns,h2,rfl,h3⟩ ⟨g1,ms,g2,rfl,g3⟩;rw[h1]at g1 g3;exact⟨g1,ns++ms,small9_app h2 g2,by simp[gS],by rw[h3,g3,varsB_app,append_assoc]⟩
 next:=by
  intro x h;have h:(aD x).1.bad=false:=h;show x.bad=false/\LCs x (aD x).1 [(aD x).2];unfold aD at h ⊢;split at h
  ·next hb=>rw[hb]at h;cases h
  next hb=>
  rw[if_neg hb];have hb:x.bad=false:=by cases h:x.bad<;>simp_all
  split at h
  ·cases h
  next n k hv=>
  obtain⟨h1,h2,h3⟩:=jG hv;refine⟨hb,rfl,[n],fun m hm=>?_,rfl,?_⟩
  ·simp at hm;subst hm;exact h1
  obtain⟨t,ht⟩:=h2;show x.s.data.toList.drop x.at_=dH [n]++x.s.data.toList.drop (x.at_+k);rw[<- drop_drop,<- ht,h3];simp[dH]
 lim:=by
  intro k m x h;show (if _ then _ else _)=_;by_cases hk:k<m
  ·have h:(if k<m then (⟨x.s,x.at_,true⟩:LIn) else x).bad=false:=h;rw[if_pos hk]at h;cases h
  rw[if_neg hk]
 inn:=fun {x} h=>by
  refine⟨bB h,?_,rA x⟩;show 0<=(aD x).2;unfold aD;split
  ·simp
  split<;>simp
 limI:=by
  intro k m x h;show (if k<m then (⟨x.s,x.at_,true⟩:LIn) else x).in_;split
  ·exact h
  exact h
def Numb.in_ (x:Numb):Prop:=∀n∈x.list,0<=n/\n<=1000000000
def NCs (x y:Numb) (l:List Int):Prop:=x.list=l++y.list
theorem numB:Bwd fU Numb.in_ NCs where
 refl:=rfl
 trans:=by
  rintro x y z a b h g;unfold NCs at *;rw[h,g,append_assoc]
 next:=by
  intro x h;have h:(x.bad || x.list.isEmpty)=false:=h;rw[Bool.or_eq_false_iff]at h;refine⟨h.1,?_⟩;show x.list=[x.list.headD 0]++x.list.drop 1;cases hl:x.list with
  | nil=>rw[hl]at h;simp at h
  | cons a l=>rfl
 lim:=fun _=>rfl
 inn:=fun {x} h=>by
  refine⟨fun n hn=>h n (mem_of_mem_drop hn),?_⟩;show 0<=x.list.headD 0/\x.list.headD 0<=1000000000;cases hl:x.list with
  | nil=>simp
  | cons a l=>exact h a (by rw[hl];simp)
 limI:=fun h=>h
theorem bO5 {P:Program}{t:TypeId}{s:ByteArray}{a:Nat}(hu:P.underlying t=some .string) (h1:a<=s.size):LOk P t (.string s) (some (I a)) none (.string (s.extract a s.size)):=by
 intro n f W Q K d ty pos af g xo lo hi hx hl hh k;cases lo with
 | none=>cases hl
 | some lo=>
  cases hi with
  | some hi=>cases hh
  | none=>
   simp only[Option.map_some,Option.some.injEq]at hl;refine Stp.run (v := .string (s.extract a s.size)) ?_ k;have:=run_slice_string_l (P:=P) (w:=W) (t:=t) (s:=s) (ht:=hu) .i64 a aA aA;simp only[execOp,hx,hl,Sem.run_bind,Option.map_some,Option.map_none];rw[run_sliceAt_string (h:=hu)];have e:Sem.run P (Instr.slice t (Value.string s) (some (I a)) none none) W=Result.ok (Value.string (s.extract a s.size)) W:=by simpa using this
   rw[e];rfl
def yard0:Yard:=⟨0,0,[],[]⟩
theorem dB:yard0.ok:=by
 have z:I64 0:=by unfold I64;omega
 exact⟨z,z⟩
def rmI (ry:ByteArray->Yard×Bool) (yt:Yard->ByteArray) (s:ByteArray):Yard×Int×Bool:=
 if (bR s 0).2=true/\8<=s.size/\(ry (s.extract 8 s.size)).2=true/\iP (bR s 0).1 (yt (ry (s.extract 8 s.size)).1)=s then ((ry (s.extract 8 s.size)).1,(bR s 0).1,true) else (yard0,0,false)
theorem bL8 {ry:ByteArray->Yard×Bool}{yt:Yard->ByteArray}{s:ByteArray}(h:¬((bR s 0).2=true/\8<=s.size/\(ry (s.extract 8 s.size)).2=true/\iP (bR s 0).1 (yt (ry (s.extract 8 s.size)).1)=s)):(yard0,0,false)=rmI ry yt s:=by unfold rmI;rw[if_neg h]
theorem bY7 (s:ByteArray) (a:Nat):I64 (bR s a).1:=by
 unfold bR;split
 ·have:=sP (s.data.toList.drop a) (Nat.le_refl 4);simp only;unfold I64;omega
 simp only;unfold I64;omega
theorem ReadMarkI (ry:ByteArray->Yard×Bool) (yt:Yard->ByteArray) (s:ByteArray) (hs:s.size<=1048576) (hR:∀t:ByteArray,t.size<=1048576->Ct1 prog 309 [.T t] [.S (ry t).1,.B (ry t).2]) (hW:∀t:ByteArray,t.size<=1048576->(ry t).2=true->(ry t).1.wt<=1048576) (hY:∀y:Yard,y.wt<=1048576->Ct1 prog 256 [.S y] [.T (yt y)]) (hz:∀y,y.wt<=1048576->(yt y).size<=1000000000):Ct1 prog 294 [.T s] [.S (rmI ry yt s).1,.I (rmI ry yt s).2.1,.B (rmI ry yt s).2.2]:=
 .one (rmI ry yt s) (rk:=fun a=>[.S a.1,.I a.2.1,.B a.2.2])<|vc func294 (fun hg=>.c func308 (cQ2 s 0 hs aA) fun _=>.v (bR s 0).2
  (fun hb=>.rt (yard0,0,false) ⟨bL8 (fun h=>by rw[h.1]at hb;cases hb),dB,trivial⟩)
  (fun hb=>.s ((s.size:Int)<8)
   (fun h1=>.rt (yard0,0,false) ⟨bL8 (fun h=>by omega),dB,trivial⟩)
   (fun h1=>.pl (bO5 (t:=9) (s:=s) (a:=8) underlying9 aA)<|.c func309 (hR (s.extract 8 s.size) (by rw[ByteArray.size_extract];omega)) fun gd=>.v (ry (s.extract 8 s.size)).2
    (fun h2=>.rt (yard0,0,false) ⟨bL8 (fun h=>by rw[h.2.2.1]at h2;cases h2),dB,trivial⟩)
    (fun h2=>let hw:(ry (s.extract 8 s.size)).1.wt<=1048576:=hW _ (by rw[ByteArray.size_extract];omega) h2
     .c func177 (bJ5 (bR s 0).1 (ry (s.extract 8 s.size)).1 (yt (ry (s.extract 8 s.size)).1) (bY7 s 0) (hY _ hw) (hz _ hw)) (hg:=⟨gd.1.1,trivial⟩) fun _=>.u (iP (bR s 0).1 (yt (ry (s.extract 8 s.size)).1)=s)
     (fun h3=>.rt (yard0,0,false) ⟨bL8 (fun h=>h3 h.2.2.2),dB,trivial⟩)
     (fun h3=>.rt ((ry (s.extract 8 s.size)).1,(bR s 0).1,true) ⟨by unfold rmI;rw[if_pos ⟨hb,by omega,h2,h3⟩],gd.1.1,trivial⟩))))) aB
def rmS (ry:ByteArray->Yard×Bool) (s:ByteArray):Yard×Int×Bool:=
 if (bR s 0).2=true/\(bR s 4).2=true/\inB (bR s 0).1 0 1000000000=true/\s.size<=60000/\cA (s.extract 8 s.size)=(bR s 4).1/\(ry (s.extract 8 s.size)).2=true then ((ry (s.extract 8 s.size)).1,(bR s 0).1,true) else (yard0,0,false)
theorem aD7 {ry:ByteArray->Yard×Bool}{s:ByteArray}(h:¬((bR s 0).2=true/\(bR s 4).2=true/\inB (bR s 0).1 0 1000000000=true/\s.size<=60000/\cA (s.extract 8 s.size)=(bR s 4).1/\(ry (s.extract 8 s.size)).2=true)):(yard0,0,false)=rmS ry s:=by unfold rmS;rw[if_neg h]
theorem oI {s:ByteArray}{a:Nat}(h:(bR s a).2=true):a+4<=s.size:=by
 unfold bR at h;split at h
 ·assumption
 cases h
theorem ReadMarkS (ry:ByteArray->Yard×Bool) (s:ByteArray) (hs:s.size<=1048576) (hR:∀t:ByteArray,t.size<=1048576->Ct1 prog 281 [.T t] [.S (ry t).1,.B (ry t).2]):Ct1 prog 218 [.T s] [.S (rmS ry s).1,.I (rmS ry s).2.1,.B (rmS ry s).2.2]:=
 .one (rmS ry s) (rk:=fun a=>[.S a.1,.I a.2.1,.B a.2.2])<|vc func218 (fun hg=>.c func280 (bQ5 s 0 hs aA) fun _=>.c func280 (bQ5 s 4 hs aA) fun _=>.v (bR s 0).2
  (fun hb=>.rt (yard0,0,false) ⟨aD7 (fun h=>by rw[h.1]at hb;cases hb),dB,trivial⟩)
  (fun hb=>.v (bR s 4).2
   (fun h1=>.rt (yard0,0,false) ⟨aD7 (fun h=>by rw[h.2.1]at h1;cases h1),dB,trivial⟩)
   (fun h1=>.c func197 (cB1 (bR s 0).1) fun _=>.v (inB (bR s 0).1 0 1000000000)
    (fun h2=>.rt (yard0,0,false) ⟨aD7 (fun h=>by rw[h.2.2.1]at h2;cases h2),dB,trivial⟩)
    (fun h2=>.s ((60000:Int)<s.size)
     (fun h3=>.rt (yard0,0,false) ⟨aD7 (fun h=>by omega),dB,trivial⟩)
     (fun h3=>.pl (bO5 (t:=9) (s:=s) (a:=8) underlying9 (oI h1))<|.c func129 (cP2 (s.extract 8 s.size) (by rw[ByteArray.size_extract];omega)) fun _=>.u (cA (s.extract 8 s.size)=(bR s 4).1)
      (fun h4=>.rt (yard0,0,false) ⟨aD7 (fun h=>h4 h.2.2.2.2.1),dB,trivial⟩)
      (fun h4=>.pl (bO5 (t:=9) (s:=s) (a:=8) underlying9 (oI h1))<|.c func281 (hR (s.extract 8 s.size) (by rw[ByteArray.size_extract];omega)) fun gd=>.v (ry (s.extract 8 s.size)).2
       (fun h5=>.rt (yard0,0,false) ⟨aD7 (fun h=>by rw[h.2.2.2.2.2]at h5;cases h5),dB,trivial⟩)
       (fun h5=>.rt ((ry (s.extract 8 s.size)).1,(bR s 0).1,true) ⟨by unfold rmS;rw[if_pos ⟨hb,h1,h2,by omega,h4,h5⟩],gd.1.1,trivial⟩))))))) aB
theorem fourL_B {n:Int}(h:0<=n/\n<=4294967295):(jB (kT n):Int)=n:=by
 have e:jB (kT n)=256*(256*(256*(256*0+(cC (n / 16777216)).toNat)+(cC (n / 65536)).toNat)+(cC (n / 256)).toNat)+(cC n).toNat:=rfl;have h3:=mH (n / 16777216);have h2:=mH (n / 65536);have h1:=mH (n / 256);have h0:=mH n;rw[e];omega
theorem tV {n:Int}(h:0<=n/\n<=4294967295):(bV n).data.toList=kT n:=by
 unfold bV;rw[if_pos (inB_iff'.2 h)]
theorem rX (a b:ByteArray):(a++b).data.toList=a.data.toList++b.data.toList:=by
 simp[ByteArray.data_append]
theorem bF9 (n:Int):(kT n).length=4:=rfl
theorem fourR_app {n:Int}(h:0<=n/\n<=4294967295) {s p t:ByteArray}(e:s=p++(bV n++t)):bR s p.size=(n,true):=by
 have hd:s.data.toList=p.data.toList++(kT n++t.data.toList):=by rw[e,rX,rX,tV h]
 have hp:p.data.toList.length=p.size:=rfl;have hl:s.size=p.size+(4+t.data.toList.length):=by
  have h1:s.data.toList.length=s.size:=rfl;rw[hd,length_append,length_append,bF9,hp]at h1;exact h1.symm
 unfold bR;rw[if_pos aA];have e2:(s.data.toList.drop p.size).take 4=kT n:=by
  rw[hd,<- hp,drop_left,<- bF9 n,take_left]
 rw[e2,fourL_B h]
def cQ8 (n:Int):List UInt8:=(aU n).data.toList
def gI (l:List Int):List UInt8:=l.flatMap cQ8
theorem bR5 {n:Nat}(h:n<=1000000000):cQ8 (n:Int)=aP n:=by
 unfold cQ8 aU;rw[if_pos (inB_iff'.2 ⟨by omega,by omega⟩)];simp
theorem mV:∀{ns:List Nat},gW ns->gI (gS ns)=dH ns
 | [],_=>rfl
 | n::ns,h=>by
  have ih:=mV (ns:=ns) fun m hm=>h m (mem_cons_of_mem _ hm)
  show cQ8 (n:Int)++gI (gS ns)=aP n++dH ns;rw[ih,bR5 (h n mem_cons_self)]
theorem castN_app (a b:List Nat):gS (a++b)=gS a++gS b:=by simp[gS]
theorem castN_pre {a b:List Int}{ns:List Nat}(h:a++b=gS ns):∃ms ks,ns=ms++ks/\a=gS ms/\b=gS ks:=by
 refine⟨ns.take a.length,ns.drop a.length,(take_append_drop _ _).symm,?_,?_⟩
 ·have:=congrArg (List.take a.length) h;rw[take_left]at this;rw[this];simp[gS,map_take]
 have:=congrArg (List.drop a.length) h;rw[drop_left]at this;rw[this];simp[gS,map_drop]
theorem cF1 {y:Yard}(h:aG y=true):(0<=y.now/\y.now<=999999980)/\(1<=y.seq/\y.seq<=1000000000)/\y.shelf.length=4/\y.runs.length<=8/\(∀l∈y.shelf,dL l=true) /\
  (∀e∈y.shelf.flatten,1<=e.seq/\e.seq<=y.seq-1)/\(y.shelf.flatten.map (·.seq)).Nodup/\(∀j,j<y.runs.length->aN1 y j)/\dK y<=40:=pB_iff.1 h
theorem sQ {y:Yard}(h:aG y=true):YFits y:=by
 obtain⟨_,_,h3,h4,h5,_,_,h8,_⟩:=cF1 h;refine⟨h3,fun l hl=>(pB_iff.1 (h5 l hl)).1,h4,fun q hq=>?_⟩;obtain⟨j,hj,rfl⟩:=getElem_of_mem hq;obtain⟨hr,_⟩:=h8 j hj hj;obtain⟨_,hp,ht,_⟩:=pB_iff.1 hr;obtain⟨hm,_⟩:=jV hp;have hm:=pM hm;exact⟨by omega,by omega,ht⟩
noncomputable def dW (y:Yard):ByteArray:=if aG y=true then ⟨(gI (dA y)).toArray⟩ else ⟨#[]⟩
noncomputable def jL (s:ByteArray):Numb×Yard:=tG fU (fun _=>false) ⟨(eR s).1,false⟩
noncomputable def iX (s:ByteArray):LIn×Yard:=tG linR LIn.bad ⟨s,0,false⟩
noncomputable def eN (s:ByteArray):Yard×Bool:=if (eR s).2=true/\(jL s).1.bad=false/\aG (jL s).2=true/\dW (jL s).2=s then ((jL s).2,true) else (yard0,false)
noncomputable def eB (s:ByteArray):Yard×Bool:=if s.size<=60000/\(iX s).1.bad=false/\(iX s).1.at_=s.size/\aG (iX s).2=true then ((iX s).2,true) else (yard0,false)
def YTx (y:Yard) (s:ByteArray):Prop:=aG y=true/\∃ns,gW ns/\dA y=gS ns/\dH ns=s.data.toList
theorem aP1 (s:ByteArray):Numb.in_ ⟨(eR s).1,false⟩:=by
 intro n hn;have hn:n∈(eR s).1:=hn;cases h:(eR s).2 with
 | false=>
  unfold eR at h hn;split at h
  ·cases h
  next hx=>rw[dif_neg hx]at hn;cases hn
 | true=>
  obtain⟨ns,h1,_,h3⟩:=aP0 (s:=s) (l:=(eR s).1) (by rw[<- h]);rw[h3]at hn;obtain⟨m,hm,rfl⟩:=mem_map.1 hn;have:=h1 m hm;exact⟨by omega,by omega⟩
theorem bA5 {s:ByteArray}(h1:(eR s).2=true) (h2:(jL s).1.bad=false):∃ns ms,gW (ns++ms)/\dA (jL s).2=gS ns/\dH (ns++ms)=s.data.toList:=by
 obtain⟨ns,k1,k2,k3⟩:=aP0 (s:=s) (l:=(eR s).1) (by rw[<- h1]);obtain⟨_,hc⟩:=bR0 numB (sb:=fun _=>false) (fun h=>by cases h) _ (aP1 s) h2;have hc:(eR s).1=dA (jL s).2++(jL s).1.list:=hc;rw[k3]at hc;obtain⟨a,b,rfl,e1,_⟩:=castN_pre hc.symm;exact⟨a,b,k1,e1,k2⟩
theorem aG7 {a b:ByteArray}(h:a.data.toList=b.data.toList):a=b:=by
 cases a;cases b;simp only[ByteArray.mk.injEq];exact Array.toList_inj.1 h
theorem readYI_iff {s:ByteArray}{y:Yard}:eN s=(y,true)↔YTx y s:=by
 constructor
 ·intro h;unfold eN at h;split at h
  ·next hc=>
   obtain⟨h1,h2,h3,h4⟩:=hc;simp only[Prod.mk.injEq,and_true]at h;subst h;obtain⟨ns,ms,k1,k2,k3⟩:=bA5 h1 h2;have k1':gW ns:=fun m hm=>k1 m (mem_append_left _ hm)
   refine⟨h3,ns,k1',k2,?_⟩;have h5:(dW (jL s).2).data.toList=s.data.toList:=congrArg (fun b:ByteArray=>b.data.toList) h4;rw[<- h5];unfold dW;rw[if_pos h3,k2,mV k1']
  cases h
 rintro⟨h,ns,h1,h2,h3⟩;have e:(gS ns,true)=eR s:=xA h1 h3;have hf:=yQ numF (sb:=fun _=>false) (fun _=>rfl) (sQ h) (x:=⟨(eR s).1,false⟩) (ns:=[]) ⟨rfl,by rw[<- e,h2,append_nil]⟩;have e1:(jL s).2=y:=hf.1;have e2:(jL s).1.bad=false:=hf.2.1;unfold eN;have e3:dW (jL s).2=s:=by
  rw[e1];refine aG7 ?_;unfold dW;rw[if_pos h,<- h3,h2];exact mV h1
 rw[if_pos ⟨by rw[<- e],e2,by rw[e1];exact h,e3⟩,e1]
theorem yardL_in {s:ByteArray}(hs:s.size<=1048576):(iX s).1.in_:=
 (nX (bL6 linB) (linB.limI (linB.inn (nX (sb:=LIn.bad) (lG linB) (linB.inn (linB.inn (x:=⟨s,0,false⟩) ⟨hs,Nat.zero_le _⟩).1).1 4).1).1) _).1
theorem aC5 {s:ByteArray}(hs:s.size<=1048576) (h2:(iX s).1.bad=false):(iX s).1.s=s/\∃ns,gW ns/\dA (iX s).2=gS ns/\s.data.toList=dH ns++s.data.toList.drop (iX s).1.at_:=by
 obtain⟨_,hc⟩:=bR0 linB (sb:=LIn.bad) (fun h=>h) ⟨s,0,false⟩ ⟨hs,Nat.zero_le _⟩ h2;exact hc
theorem xI {s:ByteArray}{y:Yard}(hs:s.size<=60000):eB s=(y,true)↔YTx y s:=by
 constructor
 ·intro h;unfold eB at h;split at h
  ·next hc=>
   obtain⟨h1,h2,h3,h4⟩:=hc;simp only[Prod.mk.injEq,and_true]at h;subst h;obtain⟨_,ns,k1,k2,k3⟩:=aC5 aA h2;refine⟨h4,ns,k1,k2,?_⟩;have hd:s.data.toList.drop s.size=[]:=drop_eq_nil_of_le (Nat.le_of_eq rfl);rw[h3,hd,append_nil]at k3;exact k3.symm
  cases h
 rintro⟨h,ns,h1,h2,h3⟩;have hf:=yQ linF (sb:=LIn.bad) (fun h=>h.1) (sQ h) (x:=⟨s,0,false⟩) (ns:=[]) ⟨rfl,ns,h1,by rw[h2,append_nil],by rw[h3];rfl⟩;have e1:(iX s).2=y:=hf.1;obtain⟨e2,ms,_,e3,e4⟩:=hf.2;have hin:=yardL_in (s:=s) aA;have e2:(iX s).1.bad=false:=e2;have es:=(aC5 aA e2).1;cases ms with
 | cons m ms=>cases e3
 | nil=>
  have e4:[]=(iX s).1.s.data.toList.drop (iX s).1.at_:=e4;have e5:=congrArg List.length e4;rw[jY]at e5;have hle:=hin.2;rw[es]at e5 hle;unfold eB;rw[if_pos ⟨hs,e2,by simp at e5;omega,by rw[e1];exact h⟩,e1]
theorem bT8 {s:ByteArray}(hs:s.size<=60000):eN s=eB s:=by
 have z1:∀{b:Bool},(eN s).2=b->b=false->eN s=(yard0,false):=fun {b} h hb=>by
  subst hb;unfold eN at h ⊢;split at h
  ·cases h
  next hc=>rw[if_neg hc]
 have z2:∀{b:Bool},(eB s).2=b->b=false->eB s=(yard0,false):=fun {b} h hb=>by
  subst hb;unfold eB at h ⊢;split at h
  ·cases h
  next hc=>rw[if_neg hc]
 cases h:(eN s).2 with
 | true=>
  have e:eN s=((eN s).1,true):=by rw[<- h]
  rw[(xI hs).2 (readYI_iff.1 e)];exact e
 | false=>
  rw[z1 h rfl];cases h2:(eB s).2 with
  | false=>rw[z2 h2 rfl]
  | true=>
   have e:eB s=((eB s).1,true):=by rw[<- h2]
   have:=readYI_iff.2 ((xI hs).1 e);rw[this]at h;cases h
theorem aO0 {α β:Type}{f:α->List β}{g:α->Nat}(h:∀x,g x+1<=(f x).length):∀xs:List α,xs.length+(xs.map g).sum<=(xs.flatMap f).length
 | []=>by simp
 | x::xs=>by
  have ih:=aO0 h xs;have:=h x;rw[flatMap_cons,length_append,map_cons,sum_cons,length_cons];omega
theorem aA5 {α β:Type}{f:α->List β}(h:∀x,1<=(f x).length) (xs:List α):xs.length<=(xs.flatMap f).length:=by
 have:=aO0 (f:=f) (g:=fun _=>0) h xs;omega
theorem wt_le (y:Yard):y.wt<=(dA y).length:=by
 have h1:y.shelf.length+(y.shelf.map fun l=>l.length).sum<=(y.shelf.flatMap gT).length:=aO0 (fun l=>by
  have:=aA5 (f:=eX) (fun _=>by simp[eX]) l;simp only[gT,length_cons];omega) _
 have h2:y.runs.length+(y.runs.map fun q:Run=>q.wt).sum<=(y.runs.flatMap kR).length:=aO0 (fun q=>by
  have a:=aA5 (f:=fT) (fun _=>by simp[fT]) q.tasks;have b:=aA5 (f:=pD) (fun _=>by simp[pD]) q.plan.edges;rw[kR,qZ];simp only[Run.wt,Plan.wt,length_cons,length_append];omega) _
 unfold Yard.wt wtL dA;simp only[length_cons,length_append];omega
theorem bB1 (ns:List Nat):ns.length<=(dH ns).length:=aA5 (fun n=>length_pos_iff.2 (qO (bH n).1)) ns
theorem bH2 (ns:List Nat):(gS ns).length=ns.length:=by simp[gS]
theorem bR3 {s:ByteArray}(h1:(eR s).2=true) (h2:(jL s).1.bad=false):(jL s).2.wt<=s.size:=by
 obtain⟨ns,ms,_,k2,k3⟩:=bA5 h1 h2;have a:=wt_le (jL s).2;have b:=bB1 (ns++ms);have c:s.data.toList.length=s.size:=rfl;rw[k2,bH2]at a;rw[k3,length_append]at b;omega
theorem bR2 {s:ByteArray}(hs:s.size<=1048576) (h2:(iX s).1.bad=false):(iX s).2.wt<=s.size:=by
 obtain⟨_,ns,_,k2,k3⟩:=aC5 hs h2;have a:=wt_le (iX s).2;have b:=bB1 ns;have c:s.data.toList.length=s.size:=rfl;rw[k2,bH2]at a;have d:=congrArg List.length k3;rw[length_append,c]at d;omega
theorem readYI_wt {s:ByteArray}(h:(eN s).2=true):(eN s).1.wt<=s.size:=by
 unfold eN at h ⊢;split at h
 ·next hc=>rw[if_pos hc];exact bR3 hc.1 hc.2.1
 cases h
theorem fourB_L {a b c d:UInt8}:kT (jB [a,b,c,d]:Int)=[a,b,c,d]:=by
 have ha:=gH a;have hb:=gH b;have hc:=gH c;have hd:=gH d;have e:(jB [a,b,c,d]:Int)=256*(256*(256*(a.toNat:Int)+b.toNat)+c.toNat)+d.toNat:=by
  show ((256*(256*(256*(256*0+a.toNat)+b.toNat)+c.toNat)+d.toNat:Nat):Int)=_;omega
 have key:∀(x:Int) (u:UInt8),x % 256=u.toNat->cC x=u:=fun x u h=>by
  have:=mH x;rw[h]at this;exact UInt8.toNat_inj.1 aA
 unfold kT;rw[e,key _ a aA,key _ b aA,key _ c aA,key _ d aA]
theorem aF1 {s:ByteArray}{a:Nat}(h:(bR s a).2=true):(0<=(bR s a).1/\(bR s a).1<=4294967295)/\bV (bR s a).1=s.extract a (a+4):=by
 have hl:=oI h;have e4:=aO1 hl;rw[aA8]at e4;have e:bR s a=((jB ((s.data.toList.drop a).take 4):Int),true):=by unfold bR;rw[if_pos hl]
 rw[e];have hb:=sP (s.data.toList.drop a) (Nat.le_refl 4);have hr:0<=(jB ((s.data.toList.drop a).take 4):Int)/\(jB ((s.data.toList.drop a).take 4):Int)<=4294967295:=by omega
 refine⟨hr,aG7 ?_⟩;rw[tV hr,aA8]
 match hq:(s.data.toList.drop a).take 4,e4 with
 | [p,q,r,t],_=>exact fourB_L
theorem cN3 {s:ByteArray}{a b c:Nat}(h1:a<=b) (h2:b<=c):s.extract a b++s.extract b c=s.extract a c:=by
 refine aG7 ?_;rw[rX,Lib.extract_data,Lib.extract_data,Lib.extract_data];have:=take_add (l:=s.data.toList.drop a) (i:=b-a) (j:=c-b);rw[drop_drop,show a+(b-a)=b by omega,show b-a+(c-b)=c-a by omega]at this;exact this.symm
theorem ext_all (s:ByteArray):s.extract 0 s.size=s:=by
 refine aG7 ?_;rw[Lib.extract_data,drop_zero];exact take_of_length_le (by show s.data.toList.length<=_;exact Nat.le_of_eq rfl)
theorem cH1 (t:ByteArray):0<=cA t/\cA t<=4294967295:=by have:=aD1 t;omega
theorem aF2 {n:Int}(h:0<=n/\n<=4294967295):(bV n).size=4:=by
 have:(bV n).data.toList.length=(bV n).size:=rfl;rw[tV h]at this;exact this.symm
theorem yardT_ne {y:Yard}(h:aG y=true):¬dW y=⟨#[]⟩:=by
 intro e;unfold dW at e;rw[if_pos h]at e;have h2:=(cF1 h).1;have e2:=congrArg (fun b:ByteArray=>b.data.toList) e;have e3:cQ8 y.now++gI (y.seq::(y.shelf.flatMap gT++((y.runs.length:Int)::y.runs.flatMap kR)))=[]:=e2;have e4:=(append_eq_nil_iff.1 e3).1;rw[show y.now=((y.now.toNat:Nat):Int) by omega,bR5 aA]at e4;exact qO (bH _).1 e4
theorem aJ7 {s:ByteArray}(h:(eN s).2=true):dW (eN s).1=s/\aG (eN s).1=true:=by
 unfold eN at h ⊢;split at h
 ·next hc=>rw[if_pos hc];exact⟨hc.2.2.2,hc.2.2.1⟩
 cases h
theorem rm_eq (s:ByteArray):rmI eN dW s=rmS eB s:=by
 by_cases h:(bR s 0).2=true/\(bR s 4).2=true/\inB (bR s 0).1 0 1000000000=true/\s.size<=60000/\cA (s.extract 8 s.size)=(bR s 4).1/\(eB (s.extract 8 s.size)).2=true
 ·obtain⟨h1,h2,h3,h4,h5,h6⟩:=h;have hl:=oI h2;have hz:(s.extract 8 s.size).size<=60000:=by rw[ByteArray.size_extract];omega
  have he:=bT8 hz;have ht:=aJ7 (s:=s.extract 8 s.size) (by rw[he];exact h6);have hm:iP (bR s 0).1 (dW (eN (s.extract 8 s.size)).1)=s:=by
   rw[ht.1];have hne:¬s.extract 8 s.size=⟨#[]⟩:=fun e=>by
    have:=yardT_ne ht.2;rw[ht.1]at this;exact this e
   rw[<- rF h3 hne (by rw[ByteArray.size_extract];omega),(aF1 h1).2,h5,(aF1 h2).2,cN3 aA aA,cN3 aA aA,ext_all]
  unfold rmI rmS;rw[if_pos ⟨h1,by omega,by rw[he];exact h6,hm⟩,if_pos ⟨h1,h2,h3,h4,h5,h6⟩,he]
 unfold rmS;rw[if_neg h];unfold rmI;rw[if_neg];rintro⟨h1,h2,h3,h4⟩;apply h;have ht:=aJ7 h3;rw[ht.1]at h4;have hm:inB (bR s 0).1 0 1000000000=true/\¬s.extract 8 s.size=⟨#[]⟩/\(s.extract 8 s.size).size+8<=60000:=by
  apply Classical.byContradiction;intro hn;rw[<- nD hn]at h4;rw[<- h4]at h2;exact absurd h2 fL
 obtain⟨m1,m2,m3⟩:=hm;rw[<- rF m1 m2 m3]at h4;have hr:=inB_iff'.1 m1;have e4:bR s 4=(cA (s.extract 8 s.size),true):=by
  have:=fourR_app (n:=cA (s.extract 8 s.size)) (cH1 _) (s:=s) (p:=bV (bR s 0).1) (t:=s.extract 8 s.size) (by rw[<- ByteArray.append_assoc];exact h4.symm);rw[aF2 ⟨hr.1,by omega⟩]at this;exact this
 have hsz:s.size<=60000:=by rw[ByteArray.size_extract]at m3;omega
 refine⟨h1,by rw[e4],m1,hsz,by rw[e4],?_⟩;rw[<- bT8 aA];exact h3
def qH (y:Yard) (i:Nat):List Int:=y.now::y.seq::(y.shelf.take i).flatMap gT
def xN (y:Yard) (i:Nat) (l:List Entry) (k:Nat):List Int:=qH y i++((l.length:Int)::(l.take k).flatMap eX)
def nK (y:Yard) (i:Nat):List Int:=qH y y.shelf.length++((y.runs.length:Int)::(y.runs.take i).flatMap kR)
def xM (y:Yard) (i:Nat) (r:Run) (k:Nat):List Int:=nK y i++(r.id::(jN r.plan++(r.state::(r.tasks.take k).flatMap fT)))
theorem aT2 (y:Yard):nK y y.runs.length=dA y:=by
 unfold nK qH dA;rw[take_length,take_length];rfl
theorem rK {α β:Type}{f:α->List β}{xs:List α}{i:Nat}{x:α}(h:xs[i]? = some x):(xs.take (i+1)).flatMap f=(xs.take i).flatMap f++f x:=by
 obtain⟨hi,rfl⟩:=gsi_.1 h;rw[take_succ_eq_append_getElem hi,flatMap_append];simp
theorem bD7 {y:Yard}{i:Nat}{l:List Entry}{k:Nat}{e:Entry}(h:l[k]? = some e):xN y i l k++eX e=xN y i l (k+1):=by
 unfold xN;rw[rK h];simp[append_assoc]
theorem aT3 {y:Yard}{i:Nat}{l:List Entry}(h:y.shelf[i]? = some l):xN y i l l.length=qH y (i+1):=by
 unfold xN qH;rw[rK h,take_length];simp[gT]
theorem bD6 {y:Yard}{i:Nat}{r:Run}{k:Nat}{e:Task}(h:r.tasks[k]? = some e):xM y i r k++fT e=xM y i r (k+1):=by
 unfold xM;rw[rK h];simp[append_assoc]
theorem aT1 {y:Yard}{i:Nat}{r:Run}(h:y.runs[i]? = some r):xM y i r r.tasks.length=nK y (i+1):=by
 unfold xM nK;rw[rK h,take_length];simp[kR,append_assoc]
theorem bM6 (y:Yard) (i:Nat) (r:Run):((nK y i++[r.id])++jN r.plan)++[r.state]=xM y i r 0:=by
 unfold xM;simp[append_assoc]
theorem cW0 (y:Yard) (i:Nat) (l:List Entry):qH y i++[(l.length:Int)]=xN y i l 0:=by
 unfold xN;simp
theorem cV9 (y:Yard):qH y y.shelf.length++[(y.runs.length:Int)]=nK y 0:=by
 unfold nK;simp
theorem aA4 {α β:Type}{f:α->List β}{g:α->Nat}{c:Nat}(h:∀x,(f x).length<=c*(g x+1)):∀xs:List α,(xs.flatMap f).length<=c*(xs.length+(xs.map g).sum)
 | []=>by simp
 | x::xs=>by
  have ih:=aA4 h xs;have h1:=h x;rw[flatMap_cons,length_append,map_cons,sum_cons,length_cons];have e:c*(xs.length+1+(g x+(xs.map g).sum))=c*(g x+1)+c*(xs.length+(xs.map g).sum):=by
   rw[<- Nat.mul_add];congr 1;omega
  omega
theorem bO8 {α β:Type}{f:α->List β}{c:Nat}(h:∀x,(f x).length<=c) (xs:List α):(xs.flatMap f).length<=c*xs.length:=by
 have h1:=aA4 (f:=f) (g:=fun _=>0) (c:=c) (fun x=>by simpa using h x) xs;have h2:(xs.map fun _=>0).sum=0:=by
  induction xs with
  | nil=>rfl
  | cons a xs ih=>rw[map_cons,sum_cons,ih (aA4 (f:=f) (g:=fun _=>0) (c:=c) (fun x=>by simpa using h x) xs)]
 rw[h2]at h1;exact h1
theorem uL (y:Yard):(dA y).length<=3+8*y.wt:=by
 have h1:(y.shelf.flatMap gT).length<=8*(y.shelf.length+(y.shelf.map fun l=>l.length).sum):=aA4 (fun l=>by
  have:=bO8 (f:=eX) (c:=4) (fun _=>by simp[eX]) l;simp only[gT,length_cons];omega) _
 have h2:(y.runs.flatMap kR).length<=8*(y.runs.length+(y.runs.map fun q:Run=>q.wt).sum):=aA4 (fun q=>by
  have a:=bO8 (f:=fT) (c:=4) (fun _=>by simp[fT]) q.tasks;have b:=bO8 (f:=pD) (c:=2) (fun _=>by simp[pD]) q.plan.edges;rw[kR,qZ];simp only[Run.wt,Plan.wt,length_cons,length_append];omega) _
 unfold Yard.wt wtL dA;simp only[length_cons,length_append];omega
theorem zU (y:Yard) (i:Nat):nK y i <+: dA y:=by
 rw[<- aT2];unfold nK;rw[take_length];refine⟨(y.runs.drop i).flatMap kR,?_⟩;rw[append_assoc,cons_append,<- flatMap_append,take_append_drop]
theorem oU (y:Yard) (i:Nat):qH y i <+: dA y:=by
 refine List.IsPrefix.trans ?_ (zU y 0);unfold nK qH;rw[take_length];refine⟨(y.shelf.drop i).flatMap gT++((y.runs.length:Int)::(y.runs.take 0).flatMap kR),?_⟩;simp only[cons_append,<- append_assoc,<- flatMap_append,take_append_drop]
theorem bU5 {y:Yard}{i:Nat}{l:List Entry}(h:y.shelf[i]? = some l) (k:Nat):xN y i l k <+: dA y:=by
 refine List.IsPrefix.trans ?_ (oU y (i+1));rw[<- aT3 h];unfold xN;rw[take_length];refine⟨(l.drop k).flatMap eX,?_⟩;rw[append_assoc,cons_append,<- flatMap_append,take_append_drop]
theorem zT {y:Yard}{i:Nat}{r:Run}(h:y.runs[i]? = some r) (k:Nat):xM y i r k <+: dA y:=by
 refine List.IsPrefix.trans ?_ (zU y (i+1));rw[<- aT1 h];unfold xM;rw[take_length];refine⟨(r.tasks.drop k).flatMap fT,?_⟩;simp only[append_assoc,cons_append,<- flatMap_append,take_append_drop]
theorem lH {a:List Int}{y:Yard}(h:a <+: dA y) (hw:y.wt<=1048576):a.length<=8388611:=by
 have:=h.length_le;have:=uL y;omega
theorem yW {α:Type}{g:α->Nat}:∀{xs:List α}{x:α},x∈xs->g x<=(xs.map g).sum
 | a::xs,x,h=>by
  rw[map_cons,sum_cons];rcases mem_cons.1 h with rfl | h
  ·omega
  ·have:=yW (g:=g) h;omega
theorem bC3 {y:Yard}{r:Run}(h:r∈y.runs):r.wt<=y.wt:=by
 have:=yW (g:=fun q:Run=>q.wt) h;unfold Yard.wt wtL;omega
theorem aI9 {y:Yard}{l:List Entry}(h:l∈y.shelf):l.length<=y.wt:=by
 have:=yW (g:=fun q:List Entry=>q.length) h;unfold Yard.wt wtL;omega
theorem qN (y:Yard):y.shelf.length<=y.wt/\y.runs.length<=y.wt:=by unfold Yard.wt wtL;omega
theorem xC (l:List Int):(gI l).length<=5*l.length:=bO8 (fun n=>by
 have:=eW n;unfold cQ8;exact this) l
theorem aI1 {l:List Int}{k:Nat}{z:Int}(h:l[k]? = some z):gI (l.take k)++(aU z).data.toList=gI (l.take (k+1)):=(rK h).symm
theorem wX {y:Yard}(hw:y.wt<=1048576):(dW y).size<=1000000000:=by
 unfold dW;split
 ·have h1:=xC (dA y);have h2:=uL y;show (gI (dA y)).toArray.size<=_;rw[size_toArray];omega
 decide
theorem bP9 (y:Yard) (hw:y.wt<=1048576):Ct1 prog 91 [.S y] [.B (aG y)]:=lT y hw
theorem aY4 (y:Yard) (hw:y.wt<=1048576):Ct1 prog 74 [.S y] [.B (aG y)]:=lR y hw
def yardNew:Yard:=⟨0,1,List.replicate 4 [],[]⟩
def vM:Engine:=⟨yardNew,⟨[]⟩,1,0,[],1,false⟩
def worldNew:WorldD:=⟨vM,[],[],0,0⟩

theorem yn_ok:yardNew.ok:=⟨by show I64 0;unfold I64;omega,by show I64 1;unfold I64;omega⟩
theorem cA9:Ct1 prog 88 [] [.S yardNew]:=vc func88 (fun _=>.ma ([]:List Entry) 4 24 (hz:=trivial)<|.rt () ⟨trivial,yn_ok,trivial⟩) aB
theorem yn_to (k:Nat):List.replicate k ([]:List Entry)++[[]]=List.replicate (k+1) []:=replicate_succ'.symm
theorem yn_all {k:Nat}(h:k<=4) (h2:¬(k:Int)<4):List.replicate k ([]:List Entry)=List.replicate 4 []:=by rw[show k=4 by omega]
theorem bI6:Ct1 prog 72 [] [.S yardNew]:=vc func72 (fun _=>
 .wt 1<|.r0 (inferInstance:Shape (List Entry)) 139<|.l (Γ:=Nat) (fun k=>k<=4) (fun k=>4-k) [0,1] [0] [] (fun k=>[vI 2 k]) (fun k=>[oR 2 139 (List.replicate k ([]:List Entry)),oB 1 [.v (I 0),.v (I 1),.r 2,.v (.slice none 0 0)]]) 0 (h:=by omega) fun k hk t=>
  .s ((k:Int)<4)
   (fun h=>.e Entry<|.a (List.replicate k ([]:List Entry)) ([]:List Entry) 24 (hy:=trivial) (h63:=by rw[length_replicate];unfold maxLen;omega) (hby:=by rw[length_replicate];omega)<|.g 2 (yn_to k)<|.p k 1<|.n t (k+1) [])
   (fun h=>.g 2 (yn_all hk h)<|.rt () ⟨trivial,yn_ok,trivial⟩)) aB
structure waitP (e:Engine) (k:Nat) (w:Wait):Prop where
 rng:inB w.call 1 e.calls=true
 up:∀j v,k=j+1->e.waits[j]? = some v->v.call<w.call
structure engH (e:Engine):Prop where
 yard:aG e.yard=true
 disk:aS e.disk=true
 next:inB e.next 1 999999999=true
 calls:inB e.calls 0 999999999=true
 waits:¬(60:Int)<e.waits.length
 state:inB e.state 1 3=true
structure engP (e:Engine):Prop extends engH e where
 ok:∀k w,e.waits[k]? = some w->waitP e k w
noncomputable def dQ (e:Engine):Bool:=pB (engP e)
theorem engOk_iff {e:Engine}:dQ e=true↔engP e:=pB_iff
structure EgJ (e:Engine) (k:Nat):Prop extends engH e where
 le:k<=e.waits.length
 ok:∀j w,j<k->e.waits[j]? = some w->waitP e j w
theorem tE {e:Engine}(h:¬engH e):false=dQ e:=(nJ fun hp=>h hp.toengH).symm
theorem bP1 {e:Engine}{k:Nat}{w:Wait}(hw:e.waits[k]? = some w) (h:¬waitP e k w):false=dQ e:=(nJ fun hp=>h (hp.ok k w hw)).symm
theorem EgJ.start {e:Engine}(h:engH e):EgJ e 0:=⟨h,Nat.zero_le _,fun j w h=>by omega⟩
theorem EgJ.step {e:Engine}{k:Nat}{w:Wait}(h:EgJ e k) (hw:e.waits[k]? = some w) (hok:waitP e k w):EgJ e (k+1):=by
 refine⟨h.toengH,(gsi_.1 hw).1,fun j g hj hg=>?_⟩;rcases Nat.lt_succ_iff_lt_or_eq.1 hj with h1 | rfl
 ·exact h.ok j g h1 hg
 rw[hw]at hg;cases hg;exact hok
theorem dA0 {e:Engine}{k:Nat}(h:EgJ e k) (hk:¬(k:Int)<e.waits.length):true=dQ e:=(tK ⟨h.toengH,fun j w hj=>h.ok j w (by have:=(gsi_.1 hj).1;omega) hj⟩).symm
theorem aO8 {e:Engine}{k:Nat}{w:Wait}(h1:inB w.call 1 e.calls=true) (h:¬(0:Int)<k):waitP e k w:=⟨h1,fun j v e1 _=>by omega⟩
theorem bA7 {e:Engine}{k:Nat}{w v:Wait}(h1:inB w.call 1 e.calls=true) (hv:e.waits[k-1]? = some v) (h:¬w.call<=v.call):waitP e k w:=⟨h1,fun j u e1 hu=>by subst e1;rw[Nat.add_sub_cancel,hu]at hv;cases hv;omega⟩
theorem bR4 {e:Engine}{k:Nat}{w v:Wait}(hk:(0:Int)<k) (hv:e.waits[k-1]? = some v) (h:w.call<=v.call):¬waitP e k w:=fun hp=>by
 have:=hp.up (k-1) v aA hv;omega
theorem rZ (e:Engine) (hw:e.yard.wt<=1048576):Ct1 prog 51 [.S e] [.B (dQ e)]:=
 .one (dQ e) (rk:=fun a=>[.B a])<|vc func51 (fun hg=>.c func91 (bP9 e.yard hw) (hg:=⟨hg.1.1.1,trivial⟩) fun _=>.v (aG e.yard)
  (fun h=>.rt false ⟨tE (fun e=>by have:=e.yard;simp_all),trivial⟩)
  (fun g1=>.c func92 (qB e.disk) fun _=>.v (aS e.disk)
  (fun h=>.rt false ⟨tE (fun e=>by have:=e.disk;simp_all),trivial⟩)
  (fun g2=>.c func50 (bL e.next 1 999999999) fun _=>.v (inB e.next 1 999999999)
  (fun h=>.rt false ⟨tE (fun e=>by have:=e.next;simp_all),trivial⟩)
  (fun g3=>.c func50 (bL e.calls 0 999999999) fun _=>.v (inB e.calls 0 999999999)
  (fun h=>.rt false ⟨tE (fun e=>by have:=e.calls;simp_all),trivial⟩)
  (fun g4=>.s ((60:Int)<e.waits.length)
  (fun h=>.rt false ⟨tE (fun e=>e.waits h),trivial⟩)
  (fun g5=>.c func50 (bL e.state 1 3) fun _=>.v (inB e.state 1 3)
  (fun h=>.rt false ⟨tE (fun e=>by have:=e.state;simp_all),trivial⟩)
  (fun g6=>.l (Γ:=Nat) (fun k=>EgJ e k) (fun k=>e.waits.length-k) [1,40,41] [4] [0,1,2,3] (fun k=>[vI 42 k]) (fun _=>[]) 0 (h:=EgJ.start ⟨g1,g2,g3,g4,g5,g6⟩) fun k hJ t=>let hkl:k<=e.waits.length:=hJ.le
   .s ((k:Int)<e.waits.length)
    (fun h=>.x e.waits k (h:=by omega) fun w hw0 gw=>.c func50 (bL w.call 1 e.calls) fun _=>.v (inB w.call 1 e.calls)
     (fun h1=>.rt false ⟨bP1 hw0 (fun h=>by have:=h.rng;simp_all),trivial⟩)
     (fun h1=>.s ((0:Int)<(k:Int))
      (fun h2=>.m (k:Int) 1 (h:=by unfold I64;omega)<|.xe e.waits (k-1) ((k:Int)-1) (h:=by omega) (he:=by omega) fun v hv gv=>.s (w.call<=v.call)
       (fun h3=>.rt false ⟨bP1 hw0 (bR4 h2 hv h3),trivial⟩)
       (fun h3=>.p k 1<|.n t (k+1) [] (hJ.step hw0 (bA7 h1 hv h3)) aA))
      (fun h2=>.p k 1<|.n t (k+1) [] (hJ.step hw0 (aO8 h1 h2)) aA)))
    (fun h=>.rt true ⟨dA0 hJ h,trivial⟩)))))))) aB
theorem rY (e:Engine) (hw:e.yard.wt<=1048576):Ct1 prog 38 [.S e] [.B (dQ e)]:=
 .one (dQ e) (rk:=fun a=>[.B a])<|vc func38 (fun hg=>.c func74 (aY4 e.yard hw) (hg:=⟨hg.1.1.1,trivial⟩) fun _=>.v (aG e.yard)
  (fun h=>.rt false ⟨tE (fun e=>by have:=e.yard;simp_all),trivial⟩)
  (fun g1=>.c func75 (jZ e.disk) fun _=>.v (aS e.disk)
  (fun h=>.rt false ⟨tE (fun e=>by have:=e.disk;simp_all),trivial⟩)
  (fun g2=>.c func37 (InV e.next 1 999999999) fun _=>.v (inB e.next 1 999999999)
  (fun h=>.rt false ⟨tE (fun e=>by have:=e.next;simp_all),trivial⟩)
  (fun g3=>.c func37 (InV e.calls 0 999999999) fun _=>.v (inB e.calls 0 999999999)
  (fun h=>.rt false ⟨tE (fun e=>by have:=e.calls;simp_all),trivial⟩)
  (fun g4=>.s ((60:Int)<e.waits.length)
  (fun h=>.rt false ⟨tE (fun e=>e.waits h),trivial⟩)
  (fun g5=>.c func37 (InV e.state 1 3) fun _=>.v (inB e.state 1 3)
  (fun h=>.rt false ⟨tE (fun e=>by have:=e.state;simp_all),trivial⟩)
  (fun g6=>.l (Γ:=Nat) (fun k=>EgJ e k) (fun k=>e.waits.length-k) [1] [4] [0,1,2,3] (fun k=>[vI 3 k]) (fun _=>[]) 0 (h:=EgJ.start ⟨g1,g2,g3,g4,g5,g6⟩) fun k hJ t=>let hkl:k<=e.waits.length:=hJ.le
   .s ((k:Int)<e.waits.length)
    (fun h=>.x e.waits k (h:=by omega) fun w hw0 gw=>.c func37 (InV w.call 1 e.calls) fun _=>.v (inB w.call 1 e.calls)
     (fun h1=>.rt false ⟨bP1 hw0 (fun h=>by have:=h.rng;simp_all),trivial⟩)
     (fun h1=>.s ((0:Int)<(k:Int))
      (fun h2=>.m (k:Int) 1 (h:=by unfold I64;omega)<|.xe e.waits (k-1) ((k:Int)-1) (h:=by omega) (he:=by omega) fun v hv gv=>.y hw0 fun _=>.s (w.call<=v.call)
       (fun h3=>.rt false ⟨bP1 hw0 (bR4 h2 hv h3),trivial⟩)
       (fun h3=>.p k 1<|.n t (k+1) [] (hJ.step hw0 (bA7 h1 hv h3)) aA))
      (fun h2=>.p k 1<|.n t (k+1) [] (hJ.step hw0 (aO8 h1 h2)) aA)))
    (fun h=>.rt true ⟨dA0 hJ h,trivial⟩)))))))) aB
theorem aZ1 (y:Yard) (hw:y.wt<=1048576):Ct1 prog 149 [.S y] [.S y]:=fK y hw
theorem aZ0 (y:Yard) (hw:y.wt<=1048576):Ct1 prog 117 [.S y] [.S y]:=fJ y hw
theorem jF (e:Engine) (hw:e.yard.wt<=1048576) (hd:e.disk.files.length<=1048576) (hs:e.waits.length<=1048576):Ct1 prog 89 [.S e] [.S e]:=
 vc func89 (fun hg=>.c func149 (aZ1 e.yard hw) (hg:=⟨hg.1.1.1,trivial⟩) fun _=>.c func150 (iR e.disk aA) fun _=>.as (inferInstance:Shape Wait) oT [] e.waits 40 (by simp only[length_nil];unfold maxLen;omega) (by simp only[length_nil];omega)<|.wt 15<|.sh 8<|.sh 9<|.rt () ⟨trivial,hg.1.1,trivial⟩) aB
theorem fD (e:Engine) (hw:e.yard.wt<=1048576) (hd:e.disk.files.length<=1048576) (hs:e.waits.length<=1048576):Ct1 prog 73 [.S e] [.S e]:=
 vc func73 (fun hg=>.c func117 (aZ0 e.yard hw) (hg:=⟨hg.1.1.1,trivial⟩) fun _=>.c func118 (dN e.disk aA) fun _=>.e Wait<|.as (inferInstance:Shape Wait) oT [] e.waits 40 (by simp only[length_nil];unfold maxLen;omega) (by simp only[length_nil];omega)<|.wt 16<|.sh 8<|.sh 9<|.rt () ⟨trivial,hg.1.1,trivial⟩) aB
def brk (e:Engine):Engine:=⟨e.yard,e.disk,e.next,e.calls,e.waits,2,false⟩
theorem bQ8 (e:Engine) (hw:e.yard.wt<=1048576) (hd:e.disk.files.length<=1048576) (hs:e.waits.length<=1048576):Ct1 prog 96 [.S e] [.S (brk e)]:=
 vc func96 (fun hg=>.c func89 (jF e hw hd hs) (hg:=⟨hg.1.1,trivial⟩) fun _=>.rt () ⟨trivial,⟨hg.1.1.1,hg.1.1.2.1,hg.1.1.2.2.1,by show I64 2;unfold I64;omega⟩,trivial⟩) aB
theorem DeleteRun {w W0:World}{rs:List Res}{v:Value}{xs:List Run}{fp:List Nat}{k:Nat}(hst:St w W0 (Res.own v xs fp::rs)) (hk:k<xs.length) (hxl:xs.length<=1048576:=by omega) :
  Calls prog 252 #[v,I (k:Int),I ((k:Int)+1)] W0 fun e w'=>∃(v':Value) (fp':List Nat),e = .returned v'/\St w w' (Res.own v' (xs.eraseIdx k) fp'::rs):=by
 refine cD9 func252 rfl ntmps252 fL (wp_seq ?_);have hq_:=St.ownOpen' hst fL aA;obtain⟨bD,oD,cD,CD,eD,feD,hvD,hcD,hmD,hlD,st1⟩:=hq_;subst hvD;refine aO (sg (bZ (v := .slice none 0 0) rfl (bG (wp_seq (aO (rn st1 5 Ag.nil.put.put.put.put [] [(8,.slice (some ⟨bD,oD,none⟩) xs.length cD),(9,I (k:Int)),(10,I ((k:Int)+1)),(12,I ((xs.length:Nat):Int))] [.l (.slice (some ⟨bD,oD,none⟩) xs.length cD) xs.length ⟨_,_,rfl⟩] aB fun f5 h5_=>(sg (cT8 (l:=k) (h:=k+1) (mx:=xs.length) lD (h5_.at 8) (h5_.at 9) (h5_.at 10) (h5_.at 12) aA aA aA aA aA aA ?_))))))));intro v3_;refine bG (wp_seq (wp_seq (aO (rn st1 3 h5_.put [] [(16,.bool (decide ((k:Int)=((k:Int)+1))))] [.o] aB fun f7 h7_=>(bG (xD (h7_.at 16) (fun h8p=>?_) (fun h8p=>?_)))))))
 ·omega
 refine wp_skip (wp_seq (aO (rn st1 3 h7_ [] [(7,I ((xs.length:Nat):Int))] [.l (.slice (some ⟨bD,oD,none⟩) xs.length cD) xs.length ⟨_,_,rfl⟩] aB fun f10 h10_=>(bG (wp_seq ?_)))));rcases nem (k+1<cD) with h11p | h11p
 ·refine pO 6 [] [(true,.is (.slice (some ⟨bD,oD,none⟩) xs.length cD)),(true,.is (I (k:Int))),(true,.is (.slice (some ⟨bD,oD,none⟩) k cD)),(true,.is (.slice (some ⟨bD,oD,none⟩) xs.length cD)),(true,.is (I ((k:Int)+1))),(true,.is (.slice (some ⟨bD,oD,none⟩) 0 0))] mix aB aB aB aB (rs0:=[]) rfl st1 (Below.refl _ _) ⟨(mq_ (h10_.at 0)),(mq_ (h10_.at 1)),(fun f W hst hbl hd hf=>xE (h:=k) lD (hd 0 20 rfl rfl) (hd 1 21 rfl rfl) aA aA aA brq),(mq_ (h10_.at 0)),(mq_ (h10_.at 2)),(fun f W hst hbl hd hf=>cT7 (l:=k+1) lD (hd 3 23 rfl rfl) (hd 4 24 rfl rfl) aA aA aA brq),trivial⟩ ?_;intro f12 W13 rs_ hAL_ st16 hbl17 hv14 hf15;have hn_:rs_=[]:=hAL_;subst hn_
  try simp only[cap_,aZ8]at st16
  have h1_:∀v∈(CD.drop (oD+(k+1)*8)).take ((xs.length-(k+1))*8),v.oneCell'=true:=fun v hv=>(st16.get 1 rfl).1.one v (aM7 hv (by show (k+1)*8+(xs.length-(k+1))*8<=xs.length*8;omega))
  have h0_:xs.length-(k+1)=0:=by omega
  refine sg (uR (α:=Run) (i:=k) (m:=xs.length-(k+1)) (oy:=oD+(k+1)*8) (q:=xs.length-1) lD (hv14 2 22 fL rfl) (Eq.trans (hv14 5 25 fL rfl) (by rw[h0_])) (fun hz=>by omega) aA aA (by show oD+(k+1)*8+(xs.length-(k+1))*8<=CD.length;have hl_:oD+xs.length*8<=CD.length:=hlD;omega) (by show oD+k*8+(xs.length-(k+1))*8<=CD.length;have hl_:oD+xs.length*8<=CD.length:=hlD;omega) h1_ st16 ?_);intro W19 st20;refine sg (bZ (v := .slice (some ⟨bD,oD,none⟩) (xs.length-1) cD) rfl (bG (wp_seq (aO (rn st20 4 (Ag.cons (show f12 7=I ((xs.length:Nat):Int) from ((hf15 7 rfl).trans (h10_.at 7))) Ag.nil).put.put [] [(27,.slice (some ⟨bD,oD,none⟩) (xs.length-1) cD),(29,I (((xs.length-1):Nat):Int)),(30,I ((xs.length:Nat):Int))] [.l (.slice (some ⟨bD,oD,none⟩) (xs.length-1) cD) (xs.length-1) ⟨_,_,rfl⟩] aB fun f24 h24_=>(sg (bK9 (l:=xs.length-1) (h:=xs.length) lD (h24_.at 27) (h24_.at 29) (h24_.at 30) aA aA aA aA aA ?_)))))));refine sgn (oN (s:=8) (zs:=[I 0,I 0,I 0,I 0,I 0,.slice none 0 0,I 0,.slice none 0 0]) underlying25 aB rfl aA (by intro v hv;simp only[mem_cons,not_mem_nil,or_false]at hv;rcases hv with rfl | rfl | rfl | rfl | rfl | rfl | rfl | rfl<;>rfl) rfl aA st20 (by rw[eH];have hl_:oD+xs.length*8<=CD.length:=hlD;show oD+(xs.length-1)*8+(xs.length-(xs.length-1))*8<=_;omega) ?_);intro ZD W25 hZD st26;refine bG (wp_seq (aO (sg (cI (h24_.at 0) (sg (bZ (v := .slice (some ⟨bD,oD,none⟩) (xs.length-1) cD) rfl (bG (wr (bT2 results252 rfl ?_)))))))));have hE_:=(st26.get 1 rfl).1.erase hk;obtain⟨f1,f2,f3,hfe_,hE3⟩:=hE_;have hs_:=st26.f1.es_sub (fe':=f1++f3) (by rw[hfe_];exact(List.Sublist.refl _).append (sublist_append_right _ _)) hE3;have hq_:=St.ownShut' (off:=oD) (cap:=cD) (m:=xs.length-1) hs_.f1 (vP hk hlD (by rw[hZD,show xs.length-(xs.length-1)=1 by omega];rfl)).symm (by rw[length_eraseIdx_of_lt hk]) aA hmD;obtain⟨fpz,stz⟩:=hq_;exact⟨_,fpz,rfl,stz⟩
 refine pO 6 [] [(true,.is (.slice (some ⟨bD,oD,none⟩) xs.length cD)),(true,.is (I (k:Int))),(true,.is (.slice (some ⟨bD,oD,none⟩) k cD)),(true,.is (.slice (some ⟨bD,oD,none⟩) xs.length cD)),(true,.is (I ((k:Int)+1))),(true,.is (.slice (some ⟨bD,oD+(k+1)*8,none⟩) (xs.length-(k+1)) (cD-(k+1))))] mix aB aB aB aB (rs0:=[]) rfl st1 (Below.refl _ _) ⟨(mq_ (h10_.at 0)),(mq_ (h10_.at 1)),(fun f W hst hbl hd hf=>xE (h:=k) lD (hd 0 20 rfl rfl) (hd 1 21 rfl rfl) aA aA aA brq),(mq_ (h10_.at 0)),(mq_ (h10_.at 2)),(fun f W hst hbl hd hf=>sD (l:=k+1) lD (hd 3 23 rfl rfl) (hd 4 24 rfl rfl) aA aA aA brq),trivial⟩ ?_;intro f29 W30 rs_ hAL_ st33 hbl34 hv31 hf32;have hn_:rs_=[]:=hAL_;subst hn_
 try simp only[cap_,aZ8]at st33
 have h1_:∀v∈(CD.drop (oD+(k+1)*8)).take ((xs.length-(k+1))*8),v.oneCell'=true:=fun v hv=>(st33.get 1 rfl).1.one v (aM7 hv (by show (k+1)*8+(xs.length-(k+1))*8<=xs.length*8;omega))
 refine sg (uR (α:=Run) (i:=k) (m:=xs.length-(k+1)) (oy:=oD+(k+1)*8) (q:=xs.length-1) lD (hv31 2 22 fL rfl) (hv31 5 25 fL rfl) (fun _=>rfl) aA aA (by show oD+(k+1)*8+(xs.length-(k+1))*8<=CD.length;have hl_:oD+xs.length*8<=CD.length:=hlD;omega) (by show oD+k*8+(xs.length-(k+1))*8<=CD.length;have hl_:oD+xs.length*8<=CD.length:=hlD;omega) h1_ st33 ?_);intro W36 st37;refine sg (bZ (v := .slice (some ⟨bD,oD,none⟩) (xs.length-1) cD) rfl (bG (wp_seq (aO (rn st37 4 (Ag.cons (show f29 7=I ((xs.length:Nat):Int) from ((hf32 7 rfl).trans (h10_.at 7))) Ag.nil).put.put [] [(27,.slice (some ⟨bD,oD,none⟩) (xs.length-1) cD),(29,I (((xs.length-1):Nat):Int)),(30,I ((xs.length:Nat):Int))] [.l (.slice (some ⟨bD,oD,none⟩) (xs.length-1) cD) (xs.length-1) ⟨_,_,rfl⟩] aB fun f41 h41_=>(sg (bK9 (l:=xs.length-1) (h:=xs.length) lD (h41_.at 27) (h41_.at 29) (h41_.at 30) aA aA aA aA aA ?_)))))));refine sgn (oN (s:=8) (zs:=[I 0,I 0,I 0,I 0,I 0,.slice none 0 0,I 0,.slice none 0 0]) underlying25 aB rfl aA (by intro v hv;simp only[mem_cons,not_mem_nil,or_false]at hv;rcases hv with rfl | rfl | rfl | rfl | rfl | rfl | rfl | rfl<;>rfl) rfl aA st37 (by rw[eH];have hl_:oD+xs.length*8<=CD.length:=hlD;show oD+(xs.length-1)*8+(xs.length-(xs.length-1))*8<=_;omega) ?_);intro ZD W42 hZD st43;refine bG (wp_seq (aO (sg (cI (h41_.at 0) (sg (bZ (v := .slice (some ⟨bD,oD,none⟩) (xs.length-1) cD) rfl (bG (wr (bT2 results252 rfl ?_)))))))));have hE_:=(st43.get 1 rfl).1.erase hk;obtain⟨f1,f2,f3,hfe_,hE3⟩:=hE_;have hs_:=st43.f1.es_sub (fe':=f1++f3) (by rw[hfe_];exact(List.Sublist.refl _).append (sublist_append_right _ _)) hE3;have hq_:=St.ownShut' (off:=oD) (cap:=cD) (m:=xs.length-1) hs_.f1 (vP hk hlD (by rw[hZD,show xs.length-(xs.length-1)=1 by omega];rfl)).symm (by rw[length_eraseIdx_of_lt hk]) aA hmD;obtain⟨fpz,stz⟩:=hq_;exact⟨_,fpz,rfl,stz⟩
theorem DeleteFile {w W0:World}{rs:List Res}{v:Value}{xs:List File}{fp:List Nat}{k:Nat}(hst:St w W0 (Res.own v xs fp::rs)) (hk:k<xs.length) (hxl:xs.length<=1048576:=by omega) :
  Calls prog 257 #[v,I (k:Int),I ((k:Int)+1)] W0 fun e w'=>∃(v':Value) (fp':List Nat),e = .returned v'/\St w w' (Res.own v' (xs.eraseIdx k) fp'::rs):=by
 refine cD9 func257 rfl ntmps257 fL (wp_seq ?_);have hq_:=St.ownOpen' hst fL aA;obtain⟨bD,oD,cD,CD,eD,feD,hvD,hcD,hmD,hlD,st1⟩:=hq_;subst hvD;refine aO (sg (bZ (v := .slice none 0 0) rfl (bG (wp_seq (aO (rn st1 5 Ag.nil.put.put.put.put [] [(8,.slice (some ⟨bD,oD,none⟩) xs.length cD),(9,I (k:Int)),(10,I ((k:Int)+1)),(12,I ((xs.length:Nat):Int))] [.l (.slice (some ⟨bD,oD,none⟩) xs.length cD) xs.length ⟨_,_,rfl⟩] aB fun f5 h5_=>(sg (cT8 (l:=k) (h:=k+1) (mx:=xs.length) lE (h5_.at 8) (h5_.at 9) (h5_.at 10) (h5_.at 12) aA aA aA aA aA aA ?_))))))));intro v3_;refine bG (wp_seq (wp_seq (aO (rn st1 3 h5_.put [] [(16,.bool (decide ((k:Int)=((k:Int)+1))))] [.o] aB fun f7 h7_=>(bG (xD (h7_.at 16) (fun h8p=>?_) (fun h8p=>?_)))))))
 ·omega
 refine wp_skip (wp_seq (aO (rn st1 3 h7_ [] [(7,I ((xs.length:Nat):Int))] [.l (.slice (some ⟨bD,oD,none⟩) xs.length cD) xs.length ⟨_,_,rfl⟩] aB fun f10 h10_=>(bG (wp_seq ?_)))));rcases nem (k+1<cD) with h11p | h11p
 ·refine pO 6 [] [(true,.is (.slice (some ⟨bD,oD,none⟩) xs.length cD)),(true,.is (I (k:Int))),(true,.is (.slice (some ⟨bD,oD,none⟩) k cD)),(true,.is (.slice (some ⟨bD,oD,none⟩) xs.length cD)),(true,.is (I ((k:Int)+1))),(true,.is (.slice (some ⟨bD,oD,none⟩) 0 0))] mix aB aB aB aB (rs0:=[]) rfl st1 (Below.refl _ _) ⟨(mq_ (h10_.at 0)),(mq_ (h10_.at 1)),(fun f W hst hbl hd hf=>xE (h:=k) lE (hd 0 20 rfl rfl) (hd 1 21 rfl rfl) aA aA aA brq),(mq_ (h10_.at 0)),(mq_ (h10_.at 2)),(fun f W hst hbl hd hf=>cT7 (l:=k+1) lE (hd 3 23 rfl rfl) (hd 4 24 rfl rfl) aA aA aA brq),trivial⟩ ?_;intro f12 W13 rs_ hAL_ st16 hbl17 hv14 hf15;have hn_:rs_=[]:=hAL_;subst hn_
  try simp only[cap_,aZ8]at st16
  have h1_:∀v∈(CD.drop (oD+(k+1)*3)).take ((xs.length-(k+1))*3),v.oneCell'=true:=fun v hv=>(st16.get 1 rfl).1.one v (aM7 hv (by show (k+1)*3+(xs.length-(k+1))*3<=xs.length*3;omega))
  have h0_:xs.length-(k+1)=0:=by omega
  refine sg (uR (α:=File) (i:=k) (m:=xs.length-(k+1)) (oy:=oD+(k+1)*3) (q:=xs.length-1) lE (hv14 2 22 fL rfl) (Eq.trans (hv14 5 25 fL rfl) (by rw[h0_])) (fun hz=>by omega) aA aA (by show oD+(k+1)*3+(xs.length-(k+1))*3<=CD.length;have hl_:oD+xs.length*3<=CD.length:=hlD;omega) (by show oD+k*3+(xs.length-(k+1))*3<=CD.length;have hl_:oD+xs.length*3<=CD.length:=hlD;omega) h1_ st16 ?_);intro W19 st20;refine sg (bZ (v := .slice (some ⟨bD,oD,none⟩) (xs.length-1) cD) rfl (bG (wp_seq (aO (rn st20 4 (Ag.cons (show f12 7=I ((xs.length:Nat):Int) from ((hf15 7 rfl).trans (h10_.at 7))) Ag.nil).put.put [] [(27,.slice (some ⟨bD,oD,none⟩) (xs.length-1) cD),(29,I (((xs.length-1):Nat):Int)),(30,I ((xs.length:Nat):Int))] [.l (.slice (some ⟨bD,oD,none⟩) (xs.length-1) cD) (xs.length-1) ⟨_,_,rfl⟩] aB fun f24 h24_=>(sg (bK9 (l:=xs.length-1) (h:=xs.length) lE (h24_.at 27) (h24_.at 29) (h24_.at 30) aA aA aA aA aA ?_)))))));refine sgn (oN (s:=3) (zs:=[.string ByteArray.empty,.string ByteArray.empty,I 0]) underlying28 aB rfl aA (by intro v hv;simp only[mem_cons,not_mem_nil,or_false]at hv;rcases hv with rfl | rfl | rfl<;>rfl) rfl aA st20 (by rw[eH];have hl_:oD+xs.length*3<=CD.length:=hlD;show oD+(xs.length-1)*3+(xs.length-(xs.length-1))*3<=_;omega) ?_);intro ZD W25 hZD st26;refine bG (wp_seq (aO (sg (cI (h24_.at 0) (sg (bZ (v := .slice (some ⟨bD,oD,none⟩) (xs.length-1) cD) rfl (bG (wr (bT2 results257 rfl ?_)))))))));have hE_:=(st26.get 1 rfl).1.erase hk;obtain⟨f1,f2,f3,hfe_,hE3⟩:=hE_;have hs_:=st26.f1.es_sub (fe':=f1++f3) (by rw[hfe_];exact(List.Sublist.refl _).append (sublist_append_right _ _)) hE3;have hq_:=St.ownShut' (off:=oD) (cap:=cD) (m:=xs.length-1) hs_.f1 (vP hk hlD (by rw[hZD,show xs.length-(xs.length-1)=1 by omega];rfl)).symm (by rw[length_eraseIdx_of_lt hk]) aA hmD;obtain⟨fpz,stz⟩:=hq_;exact⟨_,fpz,rfl,stz⟩
 refine pO 6 [] [(true,.is (.slice (some ⟨bD,oD,none⟩) xs.length cD)),(true,.is (I (k:Int))),(true,.is (.slice (some ⟨bD,oD,none⟩) k cD)),(true,.is (.slice (some ⟨bD,oD,none⟩) xs.length cD)),(true,.is (I ((k:Int)+1))),(true,.is (.slice (some ⟨bD,oD+(k+1)*3,none⟩) (xs.length-(k+1)) (cD-(k+1))))] mix aB aB aB aB (rs0:=[]) rfl st1 (Below.refl _ _) ⟨(mq_ (h10_.at 0)),(mq_ (h10_.at 1)),(fun f W hst hbl hd hf=>xE (h:=k) lE (hd 0 20 rfl rfl) (hd 1 21 rfl rfl) aA aA aA brq),(mq_ (h10_.at 0)),(mq_ (h10_.at 2)),(fun f W hst hbl hd hf=>sD (l:=k+1) lE (hd 3 23 rfl rfl) (hd 4 24 rfl rfl) aA aA aA brq),trivial⟩ ?_;intro f29 W30 rs_ hAL_ st33 hbl34 hv31 hf32;have hn_:rs_=[]:=hAL_;subst hn_
 try simp only[cap_,aZ8]at st33
 have h1_:∀v∈(CD.drop (oD+(k+1)*3)).take ((xs.length-(k+1))*3),v.oneCell'=true:=fun v hv=>(st33.get 1 rfl).1.one v (aM7 hv (by show (k+1)*3+(xs.length-(k+1))*3<=xs.length*3;omega))
 refine sg (uR (α:=File) (i:=k) (m:=xs.length-(k+1)) (oy:=oD+(k+1)*3) (q:=xs.length-1) lE (hv31 2 22 fL rfl) (hv31 5 25 fL rfl) (fun _=>rfl) aA aA (by show oD+(k+1)*3+(xs.length-(k+1))*3<=CD.length;have hl_:oD+xs.length*3<=CD.length:=hlD;omega) (by show oD+k*3+(xs.length-(k+1))*3<=CD.length;have hl_:oD+xs.length*3<=CD.length:=hlD;omega) h1_ st33 ?_);intro W36 st37;refine sg (bZ (v := .slice (some ⟨bD,oD,none⟩) (xs.length-1) cD) rfl (bG (wp_seq (aO (rn st37 4 (Ag.cons (show f29 7=I ((xs.length:Nat):Int) from ((hf32 7 rfl).trans (h10_.at 7))) Ag.nil).put.put [] [(27,.slice (some ⟨bD,oD,none⟩) (xs.length-1) cD),(29,I (((xs.length-1):Nat):Int)),(30,I ((xs.length:Nat):Int))] [.l (.slice (some ⟨bD,oD,none⟩) (xs.length-1) cD) (xs.length-1) ⟨_,_,rfl⟩] aB fun f41 h41_=>(sg (bK9 (l:=xs.length-1) (h:=xs.length) lE (h41_.at 27) (h41_.at 29) (h41_.at 30) aA aA aA aA aA ?_)))))));refine sgn (oN (s:=3) (zs:=[.string ByteArray.empty,.string ByteArray.empty,I 0]) underlying28 aB rfl aA (by intro v hv;simp only[mem_cons,not_mem_nil,or_false]at hv;rcases hv with rfl | rfl | rfl<;>rfl) rfl aA st37 (by rw[eH];have hl_:oD+xs.length*3<=CD.length:=hlD;show oD+(xs.length-1)*3+(xs.length-(xs.length-1))*3<=_;omega) ?_);intro ZD W42 hZD st43;refine bG (wp_seq (aO (sg (cI (h41_.at 0) (sg (bZ (v := .slice (some ⟨bD,oD,none⟩) (xs.length-1) cD) rfl (bG (wr (bT2 results257 rfl ?_)))))))));have hE_:=(st43.get 1 rfl).1.erase hk;obtain⟨f1,f2,f3,hfe_,hE3⟩:=hE_;have hs_:=st43.f1.es_sub (fe':=f1++f3) (by rw[hfe_];exact(List.Sublist.refl _).append (sublist_append_right _ _)) hE3;have hq_:=St.ownShut' (off:=oD) (cap:=cD) (m:=xs.length-1) hs_.f1 (vP hk hlD (by rw[hZD,show xs.length-(xs.length-1)=1 by omega];rfl)).symm (by rw[length_eraseIdx_of_lt hk]) aA hmD;obtain⟨fpz,stz⟩:=hq_;exact⟨_,fpz,rfl,stz⟩
end Go.Proofs.YtjihdmlkpkkpbaaGreat
