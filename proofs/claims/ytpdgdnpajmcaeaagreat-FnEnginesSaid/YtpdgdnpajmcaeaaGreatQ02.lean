/-
  Regions and parts of regions whose operations only read or call, walked at once. Theory alone.
  States of a call as data: what slots hold, what is owned, what is borrowed; and traces of what is to be equal. Theory alone.
  Contracts as data; what is told of a walk, as data. Theory alone.
  One operation, reckoned: those that only read. Theory alone.
  A store into an element of an owned slice; a made slice, all zeros.
  Parts of slices, whose values are known ahead; three results, the first in a cell.
  One operation that only reads, of whatever kind. Theory alone.
  Operations that make memory, write, or call; a region's list; what goes out of use. Theory alone.
  Operations that make memory, write, or call. Theory alone.
  Rows handled by their block: cap, parts, copies, and what is appended of zeros.
  Slices of entries owned, by their block; clear.
  Slices owned, by their block, whatever their elements lead to; an append within the block; clear; elements that go over to another row. Theory alone.
  Appending to a row's front; to what is left of a row whose room is cut; a row's elements that go to another row. Theory alone.
-/
import Derived.Lib.AppendZerosOnto
import Derived.Lib.Overlaps
import Derived.Laws.IdiomCopy
import Derived.ArgAppend
import Derived.Test.YtpdgdnpajmcaeaaGreatQ01
universe u
set_option linter.unusedSimpArgs false
set_option linter.unusedVariables false
namespace Go.Proofs.YtpdgdnpajmcaeaaGreat
set_option maxRecDepth 100000
set_option maxHeartbeats 2000000
open Go.RowKit Go.Proofs.Tryz List
def gdB (n:Nat) (l:List Oper) (E:List (Nat×Value)) (o:Oper):Option Bool:=
 match o.guard with
 | none=>some true
 | some (j,w)=>(aW l j).bind fun d=>cond (Nat.ble (d+1) n) ((jQ E d).bind fun v=>some (yl v == some w)) none
def push:Option Tmp->Value->List (Nat×Value)->List (Nat×Value)
 | some d,v,E=>(d,v)::E
 | none,_,E=>E
def lkR (n:Nat) (ok:Nat->Nat->Bool) (i:Nat) (E:List (Nat×Value)):Operand->Option Value
 | .tmp t=>cond (ok i t) (lkO n E (.tmp t)) none
 | x=>lkO n E x
def bS3:Nat->Nat->Bool:=fun _ _=>true
def okD (l:List Oper) (i t:Nat):Bool:=
 (List.range i).any (fun j=>(match aW l j with | some d=>Nat.beq d t | none=>false) && dep l i j) || kY l i t
section
variable {P:Program}{w0 Ws:World}{rs:List Res}
def opC (lk:Operand->Option Value) (o:Op) (hs:List (Hn P w0 Ws rs)):R1 P w0 Ws rs:=
 match o with
 | .call ⟨.value (.func F),xs,_⟩=>match hs with
  | .c F' _ _ _ args v _::hs=>cond (Nat.beq F F') ((lks lk xs.toList).bind fun vs=>some (v,(vs,args),hs)) none
  | _=>none
 | o=>op1 lk o hs
def mX (step:(Operand->Option Value)->Op->List (Hn P w0 Ws rs)->R1 P w0 Ws rs) (n:Nat) (l:List Oper) (ok:Nat->Nat->Bool):List Oper->Nat->Nat->List (Nat×Value)->List (Hn P w0 Ws rs)->Option (List Value×List (Nat×Value)×(List (List Value)×List (List Value)))
 | _,0,_,E,_=>some ([],E,([],[]))
 | [],_+1,_,_,_=>none
 | o::os,m+1,i,E,hs=>(gdB n l E o).bind fun b=>cond b
   ((step (lkR n ok i E) o.op hs).bind fun r=>(mX step n l ok os m (i+1) (push o.dst r.1 E) r.2.2).bind fun q=>some (r.1::q.1,q.2.1,(r.2.1.1::q.2.2.1,r.2.1.2::q.2.2.2)))
   ((mX step n l ok os m (i+1) (push o.dst undef E) hs).bind fun q=>some (undef::q.1,q.2.1,q.2.2))
end
def cut:List Nat->List (Nat×Value)->List (Nat×Value)
 | [],E=>E
 | t::ws,E=>cut ws (aJ9 t E)
def side (b:Bool) (r:Option (List Value×List (Nat×Value)×(List (List Value)×List (List Value)))) (E':List (Nat×Value)):Option (List (List Value)×List (Option Value)):=
 match r with
 | none=>cond b none (some ([],[]))
 | some q=>cond b (some (q.2.2.1,E'.map (fun p=>jQ q.2.1 p.1))) (some (q.2.2.2,E'.map (fun p=>some p.2)))
theorem zD {r:Option (List Value×List (Nat×Value)×(List (List Value)×List (List Value)))}{E':List (Nat×Value)}(h:side true r E'=side false r E'):∃vs E1 L,r=some (vs,E1,(L,L))/\∀f,Ag E1 f->Ag E' f:=by
 cases r with
 | none=>cases h
 | some q=>
  obtain⟨vs,E1,L,R⟩:=q;simp only[side,cond_true,cond_false,Option.some.injEq,Prod.mk.injEq]at h;obtain⟨rfl,h⟩:=h;exact⟨vs,E1,L,rfl,fun f hf=>hf.to h⟩
section
variable {P:Program}{n:Nat}{f:Nat->Value}{W w0 Ws:World}{rs:List Res}{Q:Exit->Act->World->Prop}
theorem Ag.push {E:List (Nat×Value)}{d:Option Tmp}{v:Value}(h:Ag E f):Ag (push d v E) (dF f d v):=by
 cases d with
 | none=>exact h
 | some d=>
  intro x u hx;unfold Go.Proofs.YtpdgdnpajmcaeaaGreat.push jQ at hx;simp only[dF,upd];cases hb:Nat.beq x d with
  | true=>rw[hb]at hx;simpa using hx
  | false=>rw[hb]at hx;exact h x u hx
theorem cA8 {ok:Nat->Nat->Bool}{i:Nat}{E:List (Nat×Value)}(h:Ag E f) (x:Operand) (v:Value) (e:lkR n ok i E x=some v):ev n f x=v:=by
 cases x with
 | tmp t=>
  simp only[lkR]at e;cases hb:ok i t with
  | true=>rw[hb]at e;exact lY h _ _ e
  | false=>rw[hb]at e;cases e
 | const u=>exact lY h _ _ e
 | global g=>exact lY h _ _ e
 | func g=>exact lY h _ _ e
theorem bH8 {lk:Operand->Option Value}{d:Option Tmp}{ty:TypeId}{pos:String}{af:Array Go.Edge}{g:Option (Nat×Bool)}{hs hs':List (Hn P w0 Ws rs)}{v:Value}{L R:List Value}
  (hl:∀x v,lk x=some v->ev n f x=v) (h1:St w0 W rs) (h2:Below Ws.heap.size Ws W) {o:Op}(h:opC lk o hs=some (v,(L,R),hs')) (e:L=R):Stp P n ⟨d,o,ty,pos,af,g⟩ f W Q (fun u W'=>u=v/\St w0 W' rs/\Below W.heap.size W W'):=by
 unfold opC at h;split at h
 ·next F xs ts=>
  split at h
  ·next F' fn hf ho args u hc hs2=>
   cases hb:Nat.beq F F' with
   | false=>rw[hb]at h;cases h
   | true=>
    rw[hb]at h;simp only[cond_true]at h;obtain⟨vs,hvs,h⟩:=Option.bind_eq_some_iff.1 h;simp only[Option.some.injEq,Prod.mk.injEq]at h;obtain⟨rfl,⟨rfl,rfl⟩,_⟩:=h;subst e;have:=Nat.eq_of_beq_eq_true hb;subst this;have hx:=bI2 hl hvs;have hq:xs=xs.toList.toArray:=by simp
    rw[hq];refine gT hf ho hx ((hc W h1 h2).mono ?_);rintro en W' ⟨rfl,hst⟩;exact⟨_,rfl,rfl,h1.call hst,hst.below⟩
  cases h
 exact bY8 hl h1 h2 h e ⟨rfl,h1,Below.refl _ _⟩
theorem gd_on {l rest:List Oper}{E:List (Nat×Value)}{o:Oper}(hA:Ag E f) (hg:gdB n l E o=some true) (h:Stp P n o f W Q (fun v W'=>Wl P l.toArray Q rest n (dF f o.dst v) W')):Wl P l.toArray Q (o::rest) n f W:=by
 unfold gdB at hg;split at hg
 ·next hn=>exact sx hn h
 next j w hn=>
 obtain⟨dd,hd,hg⟩:=Option.bind_eq_some_iff.1 hg;cases hb:Nat.ble (dd+1) n with
 | false=>rw[hb]at hg;cases hg
 | true=>
  rw[hb]at hg;obtain⟨v,hv,hg⟩:=Option.bind_eq_some_iff.1 hg;simp only[Option.some.injEq]at hg;refine bW3 hn (dd:=dd) ?_ (Nat.le_of_ble_eq_true hb) ?_ h
  ·simpa [aW] using hd
  rw[hA dd v hv];simpa using hg
theorem cB5 {l rest:List Oper}{E:List (Nat×Value)}{o:Oper}(hA:Ag E f) (hg:gdB n l E o=some false) (h:Wl P l.toArray Q rest n (dF f o.dst undef) W):Wl P l.toArray Q (o::rest) n f W:=by
 unfold gdB at hg;split at hg
 ·cases hg
 next j w hn=>
 obtain⟨dd,hd,hg⟩:=Option.bind_eq_some_iff.1 hg;cases hb:Nat.ble (dd+1) n with
 | false=>rw[hb]at hg;cases hg
 | true=>
  rw[hb]at hg;obtain⟨v,hv,hg⟩:=Option.bind_eq_some_iff.1 hg;simp only[Option.some.injEq]at hg;refine bG6 hn (dd:=dd) ?_ (Nat.le_of_ble_eq_true hb) ?_ h
  ·simpa [aW] using hd
  rw[hA dd v hv];exact hg
theorem aC0 {l:List Oper}{ok:Nat->Nat->Bool}(hst:St w0 W rs) (hbl:Below Ws.heap.size Ws W):∀(m:Nat) {rest:List Oper}{i:Nat}{E E1:List (Nat×Value)}{f:Nat->Value}{hs:List (Hn P w0 Ws rs)}{vs:List Value}{L R:List (List Value)},
  mX op1 n l ok rest m i E hs=some (vs,E1,(L,R))->L=R->Ag E f->(∀f',Ag E1 f'->Wl P l.toArray Q (rest.drop m) n f' W)->Wl P l.toArray Q rest n f W
 | 0,rest,i,E,E1,f,hs,vs,L,R,h,e,hA,k=>by
  have h':some (([]:List Value),E,(([]:List (List Value)),([]:List (List Value))))=some (vs,E1,(L,R)):=by cases rest<;>exact h
  simp only[Option.some.injEq,Prod.mk.injEq]at h';obtain⟨_,rfl,_⟩:=h';simpa using k f hA
 | m+1,[],i,E,E1,f,hs,vs,L,R,h,e,hA,k=>by simp only[mX]at h;cases h
 | m+1,o::os,i,E,E1,f,hs,vs,L,R,h,e,hA,k=>by
  simp only[mX]at h;obtain⟨b,hg,h⟩:=Option.bind_eq_some_iff.1 h;cases b with
  | false=>
   simp only[cond_false]at h;obtain⟨q,hq,h⟩:=Option.bind_eq_some_iff.1 h;simp only[Option.some.injEq,Prod.mk.injEq]at h;obtain⟨_,rfl,h3⟩:=h;obtain⟨qv,qE,qL,qR⟩:=q;simp only[Prod.mk.injEq]at h3;exact cB5 hA hg (aC0 hst hbl m hq (by rw[h3.1,h3.2];exact e) hA.push (fun f' hf=>by simpa using k f' hf))
  | true=>
   simp only[cond_true]at h;obtain⟨r,hr,h⟩:=Option.bind_eq_some_iff.1 h;obtain⟨q,hq,h⟩:=Option.bind_eq_some_iff.1 h;simp only[Option.some.injEq,Prod.mk.injEq]at h;obtain⟨_,rfl,rfl,rfl⟩:=h;obtain⟨rv,⟨rL,rR⟩,rh⟩:=r;simp only[List.cons.injEq]at e;exact gd_on hA hg (bY8 (cA8 hA) hst hbl hr e.1 (aC0 hst hbl m hq e.2 hA.push (fun f' hf=>by simpa using k f' hf)))
theorem aC1 {l:List Oper}{ok:Nat->Nat->Bool}:∀(m:Nat) {rest:List Oper}{i:Nat}{W:World}{E E1:List (Nat×Value)}{f:Nat->Value}{hs:List (Hn P w0 Ws rs)}{vs:List Value}{L R:List (List Value)},St w0 W rs->Below Ws.heap.size Ws W ->
  mX opC n l ok rest m i E hs=some (vs,E1,(L,R))->L=R->Ag E f->(∀f' W',Ag E1 f'->St w0 W' rs->Below Ws.heap.size Ws W'->Wl P l.toArray Q (rest.drop m) n f' W')->Wl P l.toArray Q rest n f W
 | 0,rest,i,W,E,E1,f,hs,vs,L,R,hst,hbl,h,e,hA,k=>by
  have h':some (([]:List Value),E,(([]:List (List Value)),([]:List (List Value))))=some (vs,E1,(L,R)):=by cases rest<;>exact h
  simp only[Option.some.injEq,Prod.mk.injEq]at h';obtain⟨_,rfl,_⟩:=h';simpa using k f W hA hst hbl
 | m+1,[],i,W,E,E1,f,hs,vs,L,R,hst,hbl,h,e,hA,k=>by simp only[mX]at h;cases h
 | m+1,o::os,i,W,E,E1,f,hs,vs,L,R,hst,hbl,h,e,hA,k=>by
  simp only[mX]at h;obtain⟨b,hg,h⟩:=Option.bind_eq_some_iff.1 h;cases b with
  | false=>
   simp only[cond_false]at h;obtain⟨q,hq,h⟩:=Option.bind_eq_some_iff.1 h;simp only[Option.some.injEq,Prod.mk.injEq]at h;obtain⟨_,rfl,h3⟩:=h;obtain⟨qv,qE,qL,qR⟩:=q;simp only[Prod.mk.injEq]at h3;exact cB5 hA hg (aC1 m hst hbl hq (by rw[h3.1,h3.2];exact e) hA.push (fun f' W' hf=>by simpa using k f' W' hf))
  | true=>
   simp only[cond_true]at h;obtain⟨r,hr,h⟩:=Option.bind_eq_some_iff.1 h;obtain⟨q,hq,h⟩:=Option.bind_eq_some_iff.1 h;simp only[Option.some.injEq,Prod.mk.injEq]at h;obtain⟨_,rfl,rfl,rfl⟩:=h;obtain⟨rv,⟨rL,rR⟩,rh⟩:=r;simp only[List.cons.injEq]at e;refine gd_on hA hg ((bH8 (cA8 hA) hst hbl hr e.1).mono ?_);rintro u W' ⟨rfl,h1,h2⟩;exact aC1 m h1 (hbl.trans (h2.mono hbl.size)) hq e.2 hA.push (fun f' W' hf=>by simpa using k f' W' hf)
theorem lw {ops:Array Oper}{rest:List Oper}{E:List (Nat×Value)}(hA:Ag E f) (E':List (Nat×Value)) (e:E'.map (fun p=>jQ E p.1)=E'.map (fun p=>some p.2)) (k:Ag E' f->Wl P ops Q rest n f W):Wl P ops Q rest n f W:=k (hA.to e)
theorem rn {l rest:List Oper}{E:List (Nat×Value)}(hst:St w0 W rs) (m:Nat) (hA:Ag E f) (ws:List Nat) (X:List (Nat×Value)) (hs:List (Hn P w0 W rs)) (h:side true (mX op1 n l bS3 rest m 0 E hs) (X++cut ws E)=side false (mX op1 n l bS3 rest m 0 E hs) (X++cut ws E))
  (k:∀f',Ag (X++cut ws E) f'->Wl P l.toArray Q (rest.drop m) n f' W):Wl P l.toArray Q rest n f W:=by
 obtain⟨vs,E1,L,hr,hE⟩:=zD h;exact aC0 hst (Below.refl _ _) m hr rfl hA (fun f' hf=>k f' (hE f' hf))
theorem rc {l rest:List Oper}{E:List (Nat×Value)}(hst:St w0 W rs) (m:Nat) (hA:Ag E f) (ws:List Nat) (X:List (Nat×Value)) (hs:List (Hn P w0 W rs)) (h:side true (mX opC n l bS3 rest m 0 E hs) (X++cut ws E)=side false (mX opC n l bS3 rest m 0 E hs) (X++cut ws E))
  (k:∀f' W',Ag (X++cut ws E) f'->St w0 W' rs->Below W.heap.size W W'->Wl P l.toArray Q (rest.drop m) n f' W'):Wl P l.toArray Q rest n f W:=by
 obtain⟨vs,E1,L,hr,hE⟩:=zD h;exact aC1 m hst (Below.refl _ _) hr rfl hA (fun f' W' hf=>k f' W' (hE f' hf))
def Pl.any (v:Value):Pl:=⟨fun u _=>u=v,yl v,fun h _=>h,fun {_ _} e=>by rw[e]⟩
def Inl (l:List Oper) (V:List Value) (E0:List (Nat×Value)) (i:Nat) (E:List (Nat×Value)):Prop:=
 ∀t v,jQ E t=some v->(∃j,j<i/\aW l j=some t/\V[j]? = some v)∨((∀j,j<i->aW l j≠some t)/\jQ E0 t=some v)
theorem Inl.push {l:List Oper}{V:List Value}{E0 E:List (Nat×Value)}{o:Oper}{v:Value}(h:Inl l V E0 V.length E) (ho:l[V.length]? = some o):Inl l (V++[v]) E0 (V.length+1) (push o.dst v E):=by
 have hdo:aW l V.length=o.dst:=by simp[aW,ho]
 intro t u hu;have old:jQ E t=some u->o.dst≠some t->(∃j,j<V.length+1/\aW l j=some t/\(V++[v])[j]? = some u)∨((∀j,j<V.length+1->aW l j≠some t)/\jQ E0 t=some u):=by
  intro hu hne;rcases h t u hu with⟨j,hj,hd,hv⟩ | ⟨hn,he⟩
  ·exact .inl ⟨j,by omega,hd,by rw[getElem?_append_left hj];exact hv⟩
  refine .inr ⟨fun j hj=>?_,he⟩;by_cases e:j=V.length
  ·subst e;rw[hdo];exact hne
  exact hn j aA
 cases hd:o.dst with
 | none=>rw[hd]at hu;exact old hu (by rw[hd];exact fun e=>by cases e)
 | some d=>
  rw[hd]at hu;unfold Go.Proofs.YtpdgdnpajmcaeaaGreat.push jQ at hu;cases hb:Nat.beq t d with
  | true=>
   rw[hb]at hu;simp only[cond_true,Option.some.injEq]at hu;subst hu;refine .inl ⟨V.length,by omega,?_,by simp⟩;rw[hdo,hd,Nat.eq_of_beq_eq_true hb]
  | false=>
   rw[hb]at hu;refine old hu (fun e=>?_);rw[hd]at e;simp only[Option.some.injEq]at e;rw[e,eG]at hb;cases hb
theorem aG0 {V:List Value}{j:Nat}{v:Value}(h:V[j]? = some v):(V.map Pl.any).getD j Pl.off=Pl.any v:=by
 rw[getD_eq_getElem?_getD,getElem?_map,h];rfl
theorem rG {l:List Oper}{f0:Nat->Value}{E0:List (Nat×Value)}(ho:OrdOk n l) (hA:Ag E0 f0):∀(os:List Oper) {V vs:List Value}{E E1:List (Nat×Value)}{hs:List (Hn P w0 Ws rs)}{L R:List (List Value)},
  (∀k,os[k]? = l[V.length+k]?)->mX opC n l (okD l) os os.length V.length E hs=some (vs,E1,(L,R))->L=R->Inl l V E0 V.length E ->
  AllSteps P n Ws w0 rs Q l ((V++vs).map Pl.any) f0 V.length os (vs.map Pl.any)/\Inl l (V++vs) E0 (V.length+os.length) E1/\vs.length=os.length
 | [],V,vs,E,E1,hs,L,R,hos,h,e,hI=>by
  simp only[length_nil,mX,Option.some.injEq,Prod.mk.injEq]at h;obtain⟨rfl,rfl,_⟩:=h;exact⟨trivial,by simpa using hI,rfl⟩
 | o::os,V,vs,E,E1,hs,L,R,hos,h,e,hI=>by
  have hol:l[V.length]? = some o:=by have:=hos 0;simpa using this.symm
  have hil:V.length<l.length:=(gsi_.1 hol).1;simp only[length_cons,mX]at h;obtain⟨b,hg,h⟩:=Option.bind_eq_some_iff.1 h;have hon:∀us:List Value,bU6 l ((V++us).map Pl.any) o=b:=by
   intro us;unfold gdB at hg;unfold bU6;split at hg
   ·next hn=>simp only[Option.some.injEq]at hg;first | rw[<- hg,hn] | rw[<- hg]
   next j w hn=>
   obtain⟨dd,hd,hg1⟩:=Option.bind_eq_some_iff.1 hg;cases hb:Nat.ble (dd+1) n with
   | false=>rw[hb]at hg1;cases hg1
   | true=>
    rw[hb]at hg1;obtain⟨v,hv,hg2⟩:=Option.bind_eq_some_iff.1 hg1;simp only[Option.some.injEq]at hg2;obtain⟨hdp,dd',hdd'⟩:=ho.guard _ o j w hol hn;have hji:=ho.lt _ _ hil hdp;rcases hI dd v hv with⟨j',hj',hd',hv'⟩ | ⟨hno,_⟩
    ·have:j'=j:=by
      apply Classical.byContradiction;intro hne;exact ho.ne j' j dd aA aA hne hd' hd
     subst this;rw[hn];show ((((V++us).map Pl.any).getD j' Pl.off).b == some w)=b;rw[aG0 (v:=v) (by rw[getElem?_append_left hj'];exact hv')];exact hg2
    exact absurd hd (hno j hji)
  have hlk:∀(us:List Value) (f:Nat->Value) (W:World),(∀j d,dep l V.length j=true->aW l j=some d->(((V++us).map Pl.any).getD j Pl.off).p (f d) W)->(∀t,kY l V.length t=true->f t=f0 t)->∀x v,lkR n (okD l) V.length E x=some v->ev n f x=v:=by
   intro us f W hd hf x v hx;cases x with
   | tmp t=>
    simp only[lkR]at hx;cases hb:okD l V.length t with
    | false=>rw[hb]at hx;cases hx
    | true=>
     rw[hb]at hx;simp only[cond_true,lkO]at hx;cases hn:Nat.ble (t+1) n with
     | false=>rw[hn]at hx;cases hx
     | true=>
      rw[hn]at hx;simp only[cond_true]at hx;simp only[ev,hn,cond_true];unfold okD at hb;rw[Bool.or_eq_true]at hb;rcases hb with hb | hb
      ·rw[any_eq_true]at hb;obtain⟨j,hj,hb⟩:=hb;rw[mem_range]at hj;rw[Bool.and_eq_true]at hb;have hjd:aW l j=some t:=by
        have:=hb.1;split at this
        ·next d hd=>rw[hd,Nat.eq_of_beq_eq_true this]
        cases this
       rcases hI t v hx with⟨j',hj',hd',hv'⟩ | ⟨hno,_⟩
       ·have:j'=j:=by
         apply Classical.byContradiction;intro hne;exact ho.ne j' j t aA aA hne hd' hjd
        subst this;have:=hd j' t hb.2 hjd;rw[aG0 (v:=v) (by rw[getElem?_append_left hj'];exact hv')]at this;exact this
       exact absurd hjd (hno j hj)
      rcases hI t v hx with⟨j',hj',hd',hv'⟩ | ⟨hno,he⟩
      ·exfalso;unfold kY at hb;rw[all_eq_true]at hb;have:=hb j' (by rw[mem_range];omega);rw[hd']at this;simp only[eG,Bool.not_true,Bool.or_false,Bool.or_eq_true]at this;rcases this with h | h
       ·have:=Nat.eq_of_beq_eq_true h;omega
       have:=ho.lt _ _ aA h;omega
      rw[hf t hb];exact hA t v he
   | const u=>exact lY (f:=f) (E:=[]) Ag.nil _ _ hx
   | global g=>exact lY (f:=f) (E:=[]) Ag.nil _ _ hx
   | func g=>exact lY (f:=f) (E:=[]) Ag.nil _ _ hx
  have hos':∀(v:Value) k,os[k]? = l[(V++[v]).length+k]? := by
   intro v k;have:=hos (k+1);rw[getElem?_cons_succ]at this;rw[this,length_append,length_singleton,Nat.add_assoc,Nat.add_comm 1 k]
  cases b with
  | false=>
   simp only[cond_false]at h;obtain⟨q,hq,h⟩:=Option.bind_eq_some_iff.1 h;simp only[Option.some.injEq,Prod.mk.injEq]at h;obtain⟨rfl,rfl,h3⟩:=h;obtain⟨qv,qE,qL,qR⟩:=q;simp only[Prod.mk.injEq]at h3;have hq':mX opC n l (okD l) os os.length (V++[undef]).length (Go.Proofs.YtpdgdnpajmcaeaaGreat.push o.dst undef E) hs=some (qv,qE,(qL,qR)):=by rw[length_append,length_singleton];exact hq
   obtain⟨a1,a2,a3⟩:=rG ho hA os (hos' undef) hq' (by rw[h3.1,h3.2];exact e) (by have:=hI.push (v:=undef) hol;rw[length_append,length_singleton];exact this);simp only[append_assoc,singleton_append,length_append,length_singleton]at a1 a2;refine⟨⟨fun f W _ _ hd hf=>?_,a1⟩,by rw[length_cons,show V.length+(os.length+1)=V.length+1+os.length by omega];exact a2,by simp[a3]⟩;rw[hon (undef::qv)];exact rfl
  | true=>
   simp only[cond_true]at h;obtain⟨r,hr,h⟩:=Option.bind_eq_some_iff.1 h;obtain⟨q,hq,h⟩:=Option.bind_eq_some_iff.1 h;simp only[Option.some.injEq,Prod.mk.injEq]at h;obtain⟨rfl,rfl,rfl,rfl⟩:=h;obtain⟨rv,⟨rL,rR⟩,rh⟩:=r;obtain⟨qv,qE,qL,qR⟩:=q;simp only[List.cons.injEq]at e;have hq':mX opC n l (okD l) os os.length (V++[rv]).length (Go.Proofs.YtpdgdnpajmcaeaaGreat.push o.dst rv E) rh=some (qv,qE,(qL,qR)):=by rw[length_append,length_singleton];exact hq
   obtain⟨a1,a2,a3⟩:=rG ho hA os (hos' rv) hq' e.2 (by have:=hI.push (v:=rv) hol;rw[length_append,length_singleton];exact this);simp only[append_assoc,singleton_append,length_append,length_singleton]at a1 a2;refine⟨⟨fun f W hst hbl hd hf=>?_,a1⟩,by rw[length_cons,show V.length+(os.length+1)=V.length+1+os.length by omega];exact a2,by simp[a3]⟩;rw[hon (rv::qv)];exact(bH8 (hlk (rv::qv) f W hd hf) hst hbl hr e.1).mono (fun u W' hu=>⟨hu.2.2,hu.1⟩)
theorem bS2 {l:List Oper}{V:List Value}{E0 E1:List (Nat×Value)}{f0 f:Nat->Value}{W:World}(hA:Ag E0 f0) (hI:Inl l V E0 l.length E1) (hv:∀i d,i<l.length->aW l i=some d->((V.map Pl.any).getD i Pl.off).p (f d) W) (hk:∀t,gL l t=true->f t=f0 t):Ag E1 f:=by
 intro t v h;rcases hI t v h with⟨j,hj,hd,hvj⟩ | ⟨hn,he⟩
 ·have:=hv j t hj hd;rw[aG0 hvj]at this;exact this
 rw[hk t ?_]
 ·exact hA t v he
 unfold gL;rw[all_eq_true];intro o ho;obtain⟨j,hj,rfl⟩:=getElem_of_mem ho;have:=hn j hj;unfold aW at this;rw[getElem?_eq_getElem hj,Option.bind_some]at this;cases hd:l[j].dst with
 | none=>rfl
 | some d=>
  rw[hd]at this;simp only;rw[iP (fun e=>this (by rw[e]))];rfl
theorem rd {id:Nat}{l:List Oper}{f0:Nat->Value}{E:List (Nat×Value)}(hst:St w0 W rs) (hA:Ag E f0) (ws:List Nat) (X:List (Nat×Value)) (hs:List (Hn P w0 W rs)) (hc:(P.follows .mixedOrders && sC n l)=true)
  (h:side true (mX opC n l (okD l) l l.length 0 E hs) (X++cut ws E)=side false (mX opC n l (okD l) l l.length 0 E hs) (X++cut ws E))
  (k:∀f W',Ag (X++cut ws E) f->St w0 W' rs->Below W.heap.size W W'->Q .normal (act n f) W'):(Code.region id l.toArray true).wp P Q (act n f0) W:=by
 rw[Bool.and_eq_true]at hc;obtain⟨vs,E1,L,hr,hE⟩:=zD h;obtain⟨a1,a2,a3⟩:=rG (Q:=Q) (OrdOk.of hc.2) hA l (V:=[]) (by simp) hr rfl (fun t v h=>.inr ⟨fun j hj=>absurd hj (Nat.not_lt_zero j),h⟩);exact sx_anyQ0 _ hc.1 hc.2 hst (by simpa using a1) (fun f W' s b hv hk=>k f W' (hE f (bS2 hA (by simpa using a2) (by simpa using hv) hk)) s b)
theorem rk {id:Nat}{l:List Oper}{f0:Nat->Value}{E:List (Nat×Value)}(m:Nat) (hst:St w0 W rs) (hA:Ag E f0) (ws:List Nat) (X:List (Nat×Value)) (hs:List (Hn P w0 W rs)) (hc:(P.follows .mixedOrders && (sC n (l.take m) && pJ (l.take m) (l.drop m)))=true)
  (h:side true (mX opC n (l.take m) (okD (l.take m)) (l.take m) (l.take m).length 0 E hs) (X++cut ws E)=side false (mX opC n (l.take m) (okD (l.take m)) (l.take m) (l.take m).length 0 E hs) (X++cut ws E))
  (k:∀f W',Ag (X++cut ws E) f->St w0 W' rs->Below W.heap.size W W'->Wl P l.toArray Q (l.drop m) n f W'):(Code.region id l.toArray true).wp P Q (act n f0) W:=by
 rw[Bool.and_eq_true,Bool.and_eq_true]at hc;obtain⟨vs,E1,L,hr,hE⟩:=zD h;obtain⟨a1,a2,a3⟩:=rG (Q:=Q) (OrdOk.of hc.2.1) hA (l.take m) (V:=[]) (by simp) hr rfl (fun t v h=>.inr ⟨fun j hj=>absurd hj (Nat.not_lt_zero j),h⟩);exact bK9 m _ hc.1 hc.2.1 (by rw[hc.2.2,Bool.or_true]) hst (by simpa using a1) (fun f W' s b hv hk=>k f W' (hE f (bS2 hA (by simpa using a2) (by simpa using hv) hk)) s b)
end
section
variable {P:Program}{n:Nat}{f:Nat->Value}{W:World}{Q:Exit->Act->World->Prop}
def jn (n:Nat) (J:(Nat->Value)->World->Prop) (Q:Exit->Act->World->Prop):Exit->Act->World->Prop
 | .normal,a,w=>∃f,a=act n f/\J f w
 | e,a,w=>Q e a w
end
section
variable {P:Program}{n:Nat}{f:Nat->Value}{W:World}{Q:Exit->Act->World->Prop}
end
section
variable {P:Program}{n:Nat}{f:Nat->Value}{W:World}{Q:Exit->Act->World->Prop}
theorem jn_ret {J:(Nat->Value)->World->Prop}{a:Act}{w:World}(h:Q .ret a w):jn n J Q .ret a w:=h
theorem wr {fn:Func}{R:Ending->World->Prop}(h:bodyPost P fn R .ret (act n f) W) (hq:bodyPost P fn R .ret (act n f) W->Q .ret (act n f) W:=by intro h_;repeat (first | exact h_ | refine then_ret ?_ | refine blk_ret ?_ | refine jn_ret ?_)):Code.ret.wp P Q (act n f) W:=wp_ret (hq h)
theorem nem (p:Prop) [Decidable p]:¬p∨p:=(Decidable.em p).symm
theorem vY {c:Operand}{x y:Code}{p:Prop}[Decidable p] (hc:ev n f c = .bool (decide p)) (ht:p->x.wp P Q (act n f) W) (hf:¬p->y.wp P Q (act n f) W):(Code.cond c x y).wp P Q (act n f) W:=
 bK8 hc (fun h=>ht (of_decide_eq_true h)) (fun h=>hf (of_decide_eq_false h))
end
section
variable {P:Program}{w0 Ws:World}{rs:List Res}
def qb (i:Nat) {b:Nat}{cs:List Value}{t:TypeId}(h:rs[i]? = some (Res.bx b cs t)) (j:Nat):Hn P w0 Ws rs := .m b 0 cs (fun _ s _=>bE (s.get i h)) j
theorem range_lent {W:World}{b:Nat}{pre cs post:List Value}{t:TypeId}(h:(Res.bx b (pre++cs++post) t).holds W):W.rangeAt b pre.length cs:=by
 intro j v hj;have h1:=bE h (pre.length+j) v (by
  rw[append_assoc,getElem?_append_right aA,Nat.add_sub_cancel_left,getElem?_append_left (gsi_.1 hj).1];exact hj)
 rwa [Nat.zero_add]at h1
theorem Sl.lis {α:Type}[Shape α] {w:World}{v:Value}{xs:List α}{fp:List Nat}(h:Sl w v xs fp):Lis v xs.length:=by
 obtain⟨ao,cap,rfl,_⟩:=h;exact⟨ao,cap,rfl⟩
def ql {α:Type}[Shape α] {w:World}{v:Value}{xs:List α}{fp:List Nat}(h:Sl w v xs fp):Hn P w0 Ws rs := .l v xs.length h.lis
def qad (x y:Int) (h:I64 (x+y):=by first | (unfold I64;omega) | (simp only[I64]at *;omega)):Hn P w0 Ws rs := .ad x y h
def qsb (x y:Int) (h:I64 (x-y):=by first | (unfold I64;omega) | (simp only[I64]at *;omega)):Hn P w0 Ws rs := .sb x y h
end

inductive Tr:Type 2
 | ok
 | no
 | e0 {α:Type}(a b:α) (k:Tr)
 | e1 {α:Type 1}(a b:α) (k:Tr)
 | fn {α:Type}(f:α->Tr)
 | f1 {α:Type 1}(f:α->Tr)
 | fp (p:Prop) (f:p->Tr)
 | an (a b:Tr)
def Tr.holds:Tr->Prop
 | .ok=>True
 | .no=>False
 | .e0 a b k=>a=b/\k.holds
 | .e1 a b k=>a=b/\k.holds
 | .fn f=>∀x,(f x).holds
 | .f1 f=>∀x,(f x).holds
 | .fp _ f=>∀h,(f h).holds
 | .an a b=>a.holds/\b.holds
inductive T2:Type 2
 | ok
 | no (b:Bool)
 | e0 {α:Type}(a:α) (k:T2)
 | e1 {α:Type 1}(a:α) (k:T2)
 | fn {α:Type}(f:α->T2)
 | f1 {α:Type 1}(f:α->T2)
 | fp (p:Prop) (f:p->T2)
 | an (a b:T2)
def Tr.side (c:Bool):Tr->T2
 | .ok=>.ok
 | .no=>.no c
 | .e0 a b k=>.e0 (cond c a b) (k.side c)
 | .e1 a b k=>.e1 (cond c a b) (k.side c)
 | .fn f=>.fn fun x=>(f x).side c
 | .f1 f=>.f1 fun x=>(f x).side c
 | .fp p f=>.fp p fun h=>(f h).side c
 | .an a b=>.an (a.side c) (b.side c)
theorem Tr.of_side:∀{t:Tr},t.side true=t.side false->t.holds
 | .ok,_=>trivial
 | .no,h=>by simp[Tr.side]at h
 | .e0 a b k,h=>by
  simp only[Tr.side,cond_true,cond_false,T2.e0.injEq,heq_eq_eq,true_and]at h;exact⟨h.1,Tr.of_side h.2⟩
 | .e1 a b k,h=>by
  simp only[Tr.side,cond_true,cond_false,T2.e1.injEq,heq_eq_eq,true_and]at h;exact⟨h.1,Tr.of_side h.2⟩
 | .fn f,h=>by
  simp only[Tr.side,T2.fn.injEq,heq_eq_eq,true_and]at h;exact fun x=>Tr.of_side (congrFun h x)
 | .f1 f,h=>by
  simp only[Tr.side,T2.f1.injEq,heq_eq_eq,true_and]at h;exact fun x=>Tr.of_side (congrFun h x)
 | .fp p f,h=>by
  simp only[Tr.side,T2.fp.injEq,heq_eq_eq,true_and]at h;exact fun x=>Tr.of_side (congrFun h x)
 | .an a b,h=>by
  simp only[Tr.side,T2.an.injEq]at h;exact⟨Tr.of_side h.1,Tr.of_side h.2⟩

structure Hd where
 ao:Option Addr
 n:Nat
 cap:Nat
def Hd.val (h:Hd):Value := .slice h.ao h.n h.cap
inductive Sc
 | vl (x:Value)
 | bo (e:Bool)
 | pt (j b k o:Nat)
 | rf (j:Nat) (h:Hd)
 | lt (j b n:Nat)
 | fn (F:FuncId) (l:List (Nat×Nat×Nat×Nat))
def ptS (p:Nat×Nat×Nat×Nat):Sc := .pt p.1 p.2.1 p.2.2.1 p.2.2.2
def Sc.val:Sc->Value
 | .vl x=>x
 | .bo e=>.bool e
 | .pt _ b k o=>.pointer (some ⟨b,k+o,none⟩)
 | .rf _ h=>h.val
 | .lt _ b n=>.slice (some ⟨b,0,none⟩) n n
 | .fn F l=>.func (.func F) #[] (l.map fun p=>.pointer (some ⟨p.2.1,p.2.2.1+p.2.2.2,none⟩)).toArray
def sc:Value->Sc
 | .bool e=>.bo e
 | x=>.vl x
theorem kW (x:Value):(sc x).val=x:=by
 unfold sc;split<;>rfl
theorem Sl.hd {α:Type}[Shape α] {w:World}{v:Value}{xs:List α}{fp:List Nat}(h:Sl w v xs fp):∃hd:Hd,v=hd.val/\hd.n=xs.length:=by
 obtain⟨ao,cap,rfl,_⟩:=h;exact⟨⟨ao,xs.length,cap⟩,rfl,rfl⟩
inductive TV
 | ce (x:Sc)
 | ag (l:List Sc)
def TV.val:TV->Value
 | .ce x=>x.val
 | .ag l=>.agg (l.map Sc.val).toArray
inductive SV
 | on (t:TV)
 | tu (l:List TV)
def SV.val:SV->Value
 | .on t=>t.val
 | .tu l=>.tuple (l.map TV.val).toArray

inductive Lf:Type 1
 | v (x:Value)
 | s (β:Type) (i:Shape β) (ys:List β)
def cW (w:World):List Value->List Lf->List Nat->Prop
 | [],[],fp=>fp=[]
 | c::cs,.v u::ls,fp=>c=u/\cW w cs ls fp
 | c::cs,.s β _ ys::ls,fp=>∃f1 f2,Sl w c ys f1/\cW w cs ls f2/\fp=f1++f2
 | _,_,_=>False
class Dsh (α:Type) extends Shape α where
 lv:α->List Lf
 good:α->Prop
 out:∀{w cs x fp},C w cs x fp->good x/\cW w cs (lv x) fp
 inn:∀{w cs x fp},good x->cW w cs (lv x) fp->C w cs x fp

structure Gr where
 p:World->Prop
 up:∀{w w':World},Below w.heap.size w w'->p w->p w'
def Gin (G:Option Gr) (w:World):Prop:=
 match G with
 | none=>True
 | some g=>g.p w
theorem Gin.up {G:Option Gr}{w w':World}(h:Gin G w) (hb:Below w.heap.size w w'):Gin G w':=by
 cases G with
 | none=>trivial
 | some g=>exact g.up hb h
inductive Bo:Type 1
 | rg (b k:Nat) (cs:List Sc)
 | el (h:Hd) (z n b k:Nat) (cs:List Sc)
 | sl {α:Type}(i:Shape α) (h:Hd) (xs:List α) (fp:List Nat)
 | gr (g:Gr)
 | al (j k:Nat)
 | dv (h2 h1:Hd) (a sz:Nat)
def Bo.holds (w:World):Bo->Prop
 | .rg b k cs=>w.rangeAt b k (cs.map Sc.val)
 | .el h z n b k cs=>PA h.val z n b k/\w.rangeAt b k (cs.map Sc.val)
 | .sl _ h xs fp=>Sl w h.val xs fp
 | .gr g=>g.p w
 | .al _ _=>True
 | .dv h2 h1 a sz=>h2.val=sliced h1.ao a h1.n h1.cap sz
theorem Bo.up {w w':World}(hb:Below w.heap.size w w'):∀{b:Bo},b.holds w->b.holds w'
 | .rg _ _ _,h=>gU h hb
 | .el _ _ _ _ _ _,h=>⟨h.1,gU h.2 hb⟩
 | .sl _ _ _ _,h=>Sl.below h hb
 | .gr g,h=>g.up hb h
 | .al _ _,h=>h
 | .dv _ _ _ _,h=>h
inductive Ob:Type 1
 | bx (b:Nat) (pre:List Value) (cs:List Sc) (post:List Value) (t:TypeId)
 | own {α:Type}(i:Shape α) (h:Hd) (xs:List α) (fp:List Nat)
 | row {α:Type}(i:Shape α) (e:TypeId) (h:Hd) (xs:List α) (fe:List Nat)
 | rs {α:Type}(i:Shape α) (h:Hd) (b:Nat) (pre post:List Value) (xs:List α) (n:Nat) (fr:List Nat) (r:Nat)
 | rz {α:Type}(i:Dsh α) (e:TypeId) (h:Hd) (xs:List α) (fe:List Nat) (cs:List Sc) (z:α) (fz:List Nat)
 | raw (r:Res)
def Ob.res:Ob->Res
 | .bx b pre cs post t=>Res.bx b (pre++cs.map Sc.val++post) t
 | .own _ h xs fp=>Res.own h.val xs fp
 | .row _ e h xs fe=>Res.row e h.val xs fe
 | .rs _ h b pre post xs n fr _=>Res.rest h.val b pre post xs n fr
 | .rz i e h xs fe cs z fz=>@Res.rowz _ i.toShape e h.val xs fe (cs.map Sc.val) z fz
 | .raw r=>r
structure S where
 E:List (Nat×SV)
 O:List (Nat×Ob)
 B:List (Nat×Bool×Bo)
 nx:Nat
def S.rs (s:S):List Res:=s.O.map fun p=>p.2.res
def lku {α:Type u}:List (Nat×α)->Nat->Option α
 | [],_=>none
 | (t,v)::E,x=>cond (Nat.beq x t) (some v) (lku E x)
theorem kI {α:Type u}:∀{E:List (Nat×α)}{x:Nat}{v:α},lku E x=some v->(x,v)∈E
 | [],_,_,h=>by cases h
 | (t,v)::E,x,u,h=>by
  unfold lku at h;cases hb:Nat.beq x t with
  | true=>rw[hb]at h;simp only[cond_true,Option.some.injEq]at h;subst h;rw[Nat.eq_of_beq_eq_true hb];exact mem_cons_self
  | false=>rw[hb]at h;exact mem_cons_of_mem _ (kI h)
def Fr (E:List (Nat×SV)) (f:Nat->Value):Prop:=∀t x,lku E t=some x->f t=x.val
def Facts (w0 W:World) (B:List (Nat×Bool×Bo)):Prop:=∀e∈B,e.2.2.holds (cond e.2.1 w0 W)
theorem Facts.up {w0 W W':World}{B:List (Nat×Bool×Bo)}(h:Facts w0 W B) (hb:Below W.heap.size W W'):Facts w0 W' B:=by
 intro e he;have:=h e he;cases hl:e.2.1 with
 | true=>rw[hl]at this;exact this
 | false=>rw[hl]at this;exact Bo.up hb this
theorem Facts.now {w0 W:World}{B:List (Nat×Bool×Bo)}(h:Facts w0 W B) (hb:Below w0.heap.size w0 W) {j:Nat}{l:Bool}{b:Bo}(hj:lku B j=some (l,b)):b.holds W:=by
 have:=h _ (kI hj);cases l with
 | true=>exact Bo.up hb this
 | false=>exact this
def lasting:List (Nat×Bool×Bo)->List (Nat×Bool×Bo)
 | []=>[]
 | (j,l,b)::B=>cond l ((j,l,b)::lasting B) (lasting B)
theorem Facts.lasting {w0 W W':World}:∀{B:List (Nat×Bool×Bo)},Facts w0 W B->Facts w0 W' (lasting B)
 | [],_=>fun e he=>by cases he
 | (j,l,b)::B,h=>by
  have ih:=Facts.lasting (W':=W') (fun e he=>h e (mem_cons_of_mem _ he));cases l with
  | true=>
   intro e he;rcases mem_cons.1 he with rfl | he
   ·exact h _ mem_cons_self
   ·exact ih e he
  | false=>exact ih
structure Den (w0:World) (s:S) (f:Nat->Value) (W:World):Prop where
 fr:Fr s.E f
 st:St w0 W s.rs
 fa:Facts w0 W s.B
theorem Fr.put {E:List (Nat×SV)}{f:Nat->Value}(h:Fr E f) (d:Nat) (x:SV):Fr ((d,x)::E) (dF f (some d) x.val):=by
 intro t u hx;unfold lku at hx;simp only[dF,upd];cases hb:Nat.beq t d with
 | true=>rw[hb]at hx;simp only[cond_true,Option.some.injEq]at hx;rw[<- hx];rfl
 | false=>rw[hb]at hx;exact h t u hx
theorem Fr.know {E:List (Nat×SV)}{f:Nat->Value}(h:Fr E f) (d:Nat) (x:SV) (he:f d=x.val):Fr ((d,x)::E) f:=by
 intro t u hx;unfold lku at hx;cases hb:Nat.beq t d with
 | true=>rw[hb]at hx;simp only[cond_true,Option.some.injEq]at hx;rw[<- hx,Nat.eq_of_beq_eq_true hb];exact he
 | false=>rw[hb]at hx;exact h t u hx

def Res.pc (cs:List Value) (ls:List Lf) (fp:List Nat):Res where
 fp:=fp
 holds:=fun W=>cW W cs ls fp/\∀b∈fp,Wr W b
 loc:=by
  intro W W' hs hb ⟨h,hw⟩;refine⟨?_,fun c hc=>(hw c hc).loc (hb c hc)⟩;clear hw
  induction ls generalizing cs fp with
  | nil=>cases cs with
   | nil=>exact h
   | cons c cs=>exact h.elim
  | cons l ls ih=>
   cases cs with
   | nil=>cases l<;>exact h.elim
   | cons c cs=>
    cases l with
    | v x=>exact⟨h.1,ih cs fp hb h.2⟩
    | s β i ys=>
     obtain⟨f1,f2,h1,h2,rfl⟩:=h;exact⟨f1,f2,h1.loc (fun b hm o=>fM (hb b (by simp[hm])) o) hs,ih cs f2 (fun b hm=>hb b (by simp[hm])) h2,rfl⟩
 wr:=fun h=>h.2
inductive Par:Type 1
 | v (x:Value)
 | b (e:Bool)
 | st {α:Type}(i:Dsh α) (x:α)
 | sl {β:Type}(i:Shape β) (xs:List β)
 | ag (l:List Value)
def Par.at (w:World) (u:Value):Par->Prop
 | .v x=>u=x
 | .b e=>u = .bool e
 | .st i x=>∃cs fp,u = .agg cs.toArray/\i.C w cs x fp
 | .sl i xs=>∃fp,Sl w u xs fp
 | .ag l=>u = .agg l.toArray
def Pars (w:World):List Value->List Par->Prop
 | [],[]=>True
 | u::us,p::ps=>p.at w u/\Pars w us ps
 | _,_=>False
inductive Lr:Type 1
 | v (x:Value)
 | o {β:Type}(i:Shape β) (xs:List β)
 | r {β:Type}(i:Shape β) (e:TypeId) (xs:List β)
def LvR:List Value->List Lr->List Res->Prop
 | [],[],rs=>rs=[]
 | c::cs,.v x::ls,rs=>c=x/\LvR cs ls rs
 | c::cs,.o i xs::ls,rs=>∃fp r2,rs=Res.own c xs fp::r2/\LvR cs ls r2
 | c::cs,.r i e xs::ls,rs=>∃fe r2,rs=Res.row e c xs fe::r2/\LvR cs ls r2
 | _,_,_=>False
def lrs:List Lr->Prop
 | []=>True
 | .v _::ls=>lrs ls
 | .o _ xs::ls=>xs.length<=9223372036854775807/\lrs ls
 | .r _ _ xs::ls=>xs.length<=9223372036854775807/\lrs ls
inductive Rk:Type 1
 | cl (ls:List Lr)
 | v (x:Value)
 | own {α:Type}(i:Dsh α) (x:α)
 | sl {β:Type}(i:Shape β) (xs:List β)
 | rw {β:Type}(i:Shape β) (e:TypeId) (xs:List β)
def Rk.at (u:Value) (rs:List Res):Rk->Prop
 | .cl ls=>∃cs,u = .agg cs.toArray/\LvR cs ls rs
 | .v x=>u=x/\rs=[]
 | .own i x=>∃cs fp,u = .agg cs.toArray/\rs=[@Res.cs _ i.toShape cs x fp]
 | .sl i xs=>∃fp,rs=[Res.own u xs fp]
 | .rw i e xs=>∃fe,rs=[Res.row e u xs fe]
def Rks:List Value->List Rk->List Res->Prop
 | [],[],rs=>rs=[]
 | u::us,k::ks,rs=>∃r1 r2,k.at u r1/\Rks us ks r2/\rs=r1++r2
 | _,_,_=>False
def uE:List Value->Value
 | [u]=>u
 | us=>.tuple us.toArray
structure Cg (P:Program) (F:FuncId) (G:Option Gr) (ps:List Par) {A:Type}(R:A->Prop) (rk:A->List Rk):Prop where
 run:∀w us,Gin G w->Pars w us ps->Calls P F us.toArray w fun e W=>∃a vs rs,R a/\e = .returned (uE vs)/\Rks vs (rk a) rs/\St w W rs
abbrev Ct (P:Program) (F:FuncId) (ps:List Par) {A:Type}(R:A->Prop) (rk:A->List Rk):Prop:=Cg P F none ps R rk
abbrev Ct1 (P:Program) (F:FuncId) (ps:List Par) (rk:List Rk):Prop:=Ct P F ps (fun _:Unit=>True) (fun _=>rk)
structure Cm (P:Program) (F:FuncId) (ps:List Par) {α:Type}(i:Dsh α) (x:α) {A:Type}(R:A->Prop) (y:A->α) (rk:A->List Rk):Prop where
 run:∀w W0 b pre post t cs fp us rs,St w W0 (Res.bx b (pre++cs++post) t::Res.pc cs (i.lv x) fp::rs)->Pars w us ps->Calls P F (Value.pointer (some ⟨b,pre.length,none⟩)::us).toArray W0 fun e W=>
  ∃a vs cs' fp' rr,R a/\e = .returned (uE vs)/\Rks vs (rk a) rr/\St w W (Res.bx b (pre++cs'++post) t::Res.pc cs' (i.lv (y a)) fp'::(rr++rs))
structure Co (P:Program) (F:FuncId) (ow:List Lr) (ag:Bool) (ps:List Par) {A:Type}(R:A->Prop) (rk:A->List Rk):Prop where
 run:∀w W0 cs r us rs,LvR cs ow r->St w W0 (r++rs)->Pars w us ps->Calls P F (cond ag (.agg cs.toArray) (cs.headD undef)::us).toArray W0 fun e W=>
  ∃a vs rr,R a/\e = .returned (uE vs)/\Rks vs (rk a) rr/\St w W (rr++rs)
structure Cb (P:Program) (F:FuncId) (ps:List Par) {α:Type}(i:Dsh α) (x:α):Prop where
 run:∀w us,Pars w us ps->Calls P F us.toArray w fun e W=>∃cs fp,i.C w cs x fp/\e = .returned (.agg cs.toArray)/\St w W []
structure Cur where
 i:Int
 h:Int
structure Cv (P:Program) (F:FuncId) (i:Shape UInt8) (code:List UInt8) (ps:List Par) (c:Cur) {A:Type}(R:A->Prop) (y:A->Cur) (rk:A->List Rk):Prop where
 run:∀w W0 b t (hd:Hd) fp us rs,Sl w hd.val code fp->St w W0 (Res.bx b [hd.val,I c.i,I c.h] t::rs)->Pars w us ps->Calls P F (Value.pointer (some ⟨b,0,none⟩)::us).toArray W0 fun e W=>
  ∃a vs rr,R a/\e = .returned (uE vs)/\Rks vs (rk a) rr/\St w W (Res.bx b [hd.val,I (y a).i,I (y a).h] t::(rr++rs))
inductive Pw:Type 1
 | bw (p:Par)
 | ow {α:Type}(i:Dsh α) (x:α)
def PwAt (w:World):List Value->List Pw->List Res->Prop
 | [],[],rs=>rs=[]
 | u::us,.bw p::ps,rs=>p.at w u/\PwAt w us ps rs
 | u::us,.ow i x::ps,rs=>∃cs fp r2,u = .agg cs.toArray/\rs=Res.pc cs (i.lv x) fp::r2/\PwAt w us ps r2
 | _,_,_=>False
structure Cw (P:Program) (F:FuncId) (ps:List Pw) {A:Type}(R:A->Prop) (rk:A->List Rk):Prop where
 run:∀w W0 us r rs,PwAt w us ps r->St w W0 (r++rs)->Calls P F us.toArray W0 fun e W=>∃a vs rr,R a/\e = .returned (uE vs)/\Rks vs (rk a) rr/\St w W (rr++rs)
def lns:List Lf->Prop
 | []=>True
 | .v _::ls=>lns ls
 | .s _ _ ys::ls=>ys.length<=9223372036854775807/\lns ls
def Rk.gd:Rk->Prop
 | .cl ls=>lrs ls
 | .v _=>True
 | .own i x=>i.good x/\lns (i.lv x)
 | .sl _ xs=>xs.length<=9223372036854775807
 | .rw _ _ xs=>xs.length<=9223372036854775807
def gds:List Rk->Prop
 | []=>True
 | .v _::ks=>gds ks
 | k::ks=>k.gd/\gds ks
def gin:List Par->Prop
 | []=>True
 | .st i x::ps=>(i.good x/\lns (i.lv x))/\gin ps
 | .sl _ xs::ps=>xs.length<=9223372036854775807/\gin ps
 | _::ps=>gin ps
def gps:List Par->Prop
 | []=>True
 | .st i x::ps=>i.good x/\gps ps
 | _::ps=>gps ps

def gpw:List Pw->Prop
 | []=>True
 | .bw p::ps=>gps [p]/\gpw ps
 | .ow _ _::ps=>gpw ps

inductive Tc
 | v (x:Value)
 | b (e:Bool)
 | p (j o:Nat)
 | r (j:Nat)
inductive Tv
 | c (x:Tc)
 | a (l:List Tc)
inductive To:Type 1
 | own {α:Type}(i:Shape α) (xs:List α)
 | row {α:Type}(i:Shape α) (e:TypeId) (xs:List α)
 | bx (cs:List Tc)
 | oh {α:Type}(i:Shape α) (xs:List α)

def BOk (P:Program) (b:BinOp) (x y z:Value):Prop:=∀{n:Nat}{f:Nat->Value}{W:World}{Q:Exit->Act->World->Prop}{K:Value->World->Prop}{d:Option Tmp}{ty:TypeId}{pos:String}{af:Array Go.Edge}{g:Option (Nat×Bool)}{t t':TypeId}{xo yo:Operand},ev n f xo=x->ev n f yo=y->K z W->Stp P n ⟨d,.binOp b t xo yo t',ty,pos,af,g⟩ f W Q K
def NOk (P:Program) (t:TypeId) (x:Value) (r:Bool):Prop:=∀{n:Nat}{f:Nat->Value}{W:World}{Q:Exit->Act->World->Prop}{K:Value->World->Prop}{d:Option Tmp}{ty:TypeId}{pos:String}{af:Array Go.Edge}{g:Option (Nat×Bool)}{t':TypeId}{xo:Operand},ev n f xo=x->K (.bool r) W->Stp P n ⟨d,.binOp .neq t xo (.const .nilIface) t',ty,pos,af,g⟩ f W Q K
def UOk (P:Program) (u:UnOp) (x z:Value):Prop:=∀{n:Nat}{f:Nat->Value}{W:World}{Q:Exit->Act->World->Prop}{K:Value->World->Prop}{d:Option Tmp}{ty:TypeId}{pos:String}{af:Array Go.Edge}{g:Option (Nat×Bool)}{t:TypeId}{xo:Operand},ev n f xo=x->K z W->Stp P n ⟨d,.unOp u t xo,ty,pos,af,g⟩ f W Q K
def COk (P:Program) (t t':TypeId) (x z:Value):Prop:=∀{n:Nat}{f:Nat->Value}{W:World}{Q:Exit->Act->World->Prop}{K:Value->World->Prop}{d:Option Tmp}{ty:TypeId}{pos:String}{af:Array Go.Edge}{g:Option (Nat×Bool)}{xo:Operand},ev n f xo=x->K z W->Stp P n ⟨d,.convert t t' xo,ty,pos,af,g⟩ f W Q K
def XOk (P:Program) (t:TypeId) (x y z:Value):Prop:=∀{n:Nat}{f:Nat->Value}{W:World}{Q:Exit->Act->World->Prop}{K:Value->World->Prop}{d:Option Tmp}{ty:TypeId}{pos:String}{af:Array Go.Edge}{g:Option (Nat×Bool)}{xo yo:Operand},ev n f xo=x->ev n f yo=y->K z W->Stp P n ⟨d,.index t xo yo,ty,pos,af,g⟩ f W Q K
def LOk (P:Program) (t:TypeId) (x:Value) (lo hi:Option Value) (z:Value):Prop:=∀{n:Nat}{f:Nat->Value}{W:World}{Q:Exit->Act->World->Prop}{K:Value->World->Prop}{d:Option Tmp}{ty:TypeId}{pos:String}{af:Array Go.Edge}{g:Option (Nat×Bool)}{xo:Operand}{lo' hi':Option Operand},ev n f xo=x->lo'.map (ev n f)=lo->hi'.map (ev n f)=hi->K z W->Stp P n ⟨d,.slice t xo lo' hi' none,ty,pos,af,g⟩ f W Q K
structure Tok {Γ:Type}(J:Γ->Prop) (m:Γ->Nat) (c:Nat)
structure Lsp:Type 1 where
 {Γ:Type}
 J:Γ->Prop
 m:Γ->Nat
 c:Nat
structure Jsp:Type 1 where
 {Γ:Type}
 J:Γ->Prop
structure Inc (P:Program) (F:FuncId) {A:Type}(R:A->Prop):Type 2 where
 T:S->List SV->(A->SV->S->Tr)->Tr
 ok:∀{w0 W:World}{s:S}{us:List SV}{K:A->SV->S->Tr},(T s us K).holds->St w0 W s.rs->Facts w0 W s.B ->
  Calls P F (us.map SV.val).toArray W fun e W'=>∃a v s',R a/\(K a v s').holds/\e = .returned v.val/\St w0 W' s'.rs/\Facts w0 W' s'.B
structure Rgn (P:Program) (n:Nat) (ops:Array Oper) (dr:Bool):Type 2 where
 T:S->(S->Tr)->Tr
 ok:∀{w0 W:World}{s:S}{f:Nat->Value}{K:S->Tr}{id:Nat}{Q:Exit->Act->World->Prop},(T s K).holds->Den w0 s f W ->
  (∀s' f' W',(K s').holds->Den w0 s' f' W'->Q .normal (act n f') W')->(Code.region id ops dr).wp P Q (act n f) W
inductive D (P:Program) {A:Type}(R:A->Prop):Type 2
 | sp (p:Prop) (i:Decidable p) (t:p->D P R) (f:¬p->D P R)
 | sn (p:Prop) (i:Decidable p) (t:¬p->D P R) (f:p->D P R)
 | sb (e:Bool) (t:e=true->D P R) (f:e=false->D P R)
 | kn (e r:Bool) (h:e=r) (k:D P R)
 | ad (x y:Int) (h:I64 (x+y)) (k:D P R)
 | su (x y:Int) (h:I64 (x-y)) (k:D P R)
 | mu (x y:Int) (h:I64 (x*y)) (k:D P R)
 | qu (x y:Int) (h:(0<=x/\x<=9223372036854775807)/\0<y) (k:D P R)
 | ix {α:Type}(i:Dsh α) (xs:List α) (n:Nat) (x:α) (h:xs[n]? = some x) (e:Int) (he:e=n) (k:i.good x->D P R)
 | iy (j n:Nat) (e:Int) (he:e=n) (k:D P R)
 | cl {ps:List Par}{A':Type}{R':A'->Prop}{rk:A'->List Rk}{G:Option Gr}(F:FuncId) {fn:Func}(hf:P.funcs[F]? = some fn) (h:Cg P F G ps R' rk) (hg:gps ps) (k:∀a,R' a->gds (rk a)->D P R)
 | lp {Γ:Type}(J:Γ->Prop) (m:Γ->Nat) (ks ko kb:List Nat) (TE:Γ->List (Nat×Tv)) (TO:Γ->List (Nat×To)) (g:Γ) (h:J g) (sg:List (Nat×Nat)) (k:∀g,J g->Tok J m (m g)->D P R)
 | nx {Γ:Type}{J:Γ->Prop}{m:Γ->Nat}{c:Nat}(t:Tok J m c) (g:Γ) (h1:J g) (h2:m g<c) (sg:List (Nat×Nat))
 | rt (a:A) (h:R a)
 | ex {α:Type}{p:α->Prop}(h:∃x,p x) (k:∀x,p x->D P R)
 | oc {p q:Prop}(h:p∨q) (a:p->D P R) (b:q->D P R)
 | ab (h:False)
 | em {α:Type}(i:Shape α) (k:D P R)
 | li {α:Type}(i:Dsh α) (t:Nat) (ys:List α) (hne:ys≠[]) (hl:ys.length<=1000000) (h:∀y∈ys,i.good y) (k:D P R)
 | lr {α:Type}(i:Dsh α) (hp : @lF α i.toShape) (t:Nat) (ys:List α) (hl:ys.length<=1000000) (h:∀y∈ys,i.good y) (k:D P R)
 | rd {α:Type}(i:Shape α) (r j:Nat) (xs:List α) (n:Nat) (h:n<=xs.length) (k:D P R)
 | re {α:Type}(i:Shape α) (r j:Nat) (xs:List α) (n:Nat) (h:n<=xs.length) (k:D P R)
 | td {α:Type}(i:Shape α) (xs:List α) (a b:Nat) (h:a<=b/\b<=xs.length) (ea eb:Int) (hea:ea=a) (heb:eb=b) (k:D P R)
 | ap {α:Type}(i:Dsh α) (xs ys:List α) (h:∀y∈ys,i.good y) (bytes:Nat) (h63:xs.length+ys.length<=maxLen) (hby:(xs.length+ys.length)*bytes<=140737488355328) (k:D P R)
 | cq {ps:List Par}{rk:List Rk}{G:Option Gr}(F:FuncId) {fn:Func}(hf:P.funcs[F]? = some fn) (h:Cg P F G ps (fun _:Unit=>True) (fun _=>rk)) (hg:gps ps) (k:gds rk->D P R)
 | sa (x y:ByteArray) (h:x.size+y.size<=9223372036854775807) (k:D P R)
 | qe {cs ds:List Value}{t:TypeId}{b:Bool}(h:SEq P t cs ds b) (hg:P.eqGuardType P.depth t=false) (k:D P R)
 | tk {α:Type}(i:Shape α) (xs:List α) (n:Nat) (h:n<=xs.length) (e:Int) (he:e=n) (k:D P R)
 | dp {α:Type}(i:Shape α) (xs:List α) (n:Nat) (h:n<=xs.length) (e:Int) (he:e=n) (k:D P R)
 | as {α:Type}(i:Shape α) (hp:lF α) (xs ys:List α) (bytes:Nat) (h63:xs.length+ys.length<=maxLen) (hby:(xs.length+ys.length)*bytes<=140737488355328) (k:D P R)
 | pb (b:BinOp) {x y z:Value}(h:BOk P b x y z) (k:D P R)
 | pn (t:TypeId) (x:Value) (r:Bool) (h:NOk P t x r) (k:D P R)
 | pu (u:UnOp) {x z:Value}(h:UOk P u x z) (k:D P R)
 | pc {t t':TypeId}{x z:Value}(h:COk P t t' x z) (k:D P R)
 | px {t:TypeId}{x y z:Value}(h:XOk P t x y z) (k:D P R)
 | pl {t:TypeId}{x:Value}{lo hi:Option Value}{z:Value}(h:LOk P t x lo hi z) (k:D P R)
 | so (bs:List UInt8) (k:D P R)
 | by_ (s:ByteArray) (h:s.size<=maxLen) (k:D P R)
 | le {α:Type}(i:Dsh α) (j:Nat) (xs:List α) (n:Nat) (x:α) (h:xs[n]? = some x) (k:i.good x->D P R)
 | gi {α:Type}(i:Dsh α) (j:Nat) (xs:List α) (y:α) (h:i.good y) (k:D P R)
 | il (n:Nat) (e:Int) (he:e=n) (k:D P R)
 | cm {ps:List Par}{α:Type}{i:Dsh α}{x:α}{A':Type}{R':A'->Prop}{y:A'->α}{rk:A'->List Rk}(F:FuncId) {fn:Func}(hf:P.funcs[F]? = some fn) (h:Cm P F ps i x R' y rk) (hg:gps ps) (k:∀a,R' a->lns (i.lv (y a))->gds (rk a)->D P R)
 | rw {α:Type}(i:Shape α) (j:Nat) (xs ys:List α) (h:xs=ys) (k:D P R)
 | r0 {α:Type}(i:Shape α) (e:TypeId) (k:D P R)
 | dq {α:Type}(i:Shape α) (hp:lF α) (xs:List α) (n:Nat) (h:n<=xs.length) (e:Int) (he:e=n) (k:D P R)
 | rv (t:Nat) (x:Value) {y:Value}(h:y=x) (k:D P R)
 | rn {α:Type}(i:Shape α) (e:TypeId) (t:Nat) (k:D P R)
 | ul (n:Nat) (k:D P R)
 | sh (j:Nat) (k:D P R)
 | wt (t:Nat) (k:D P R)
 | pm (f:Nat->D P R)
 | co {ps:List Par}{ow:List Lr}{ag:Bool}{A':Type}{R':A'->Prop}{rk:A'->List Rk}(F:FuncId) {fn:Func}(hf:P.funcs[F]? = some fn) (h:Co P F ow ag ps R' rk) (hg:gps ps) (k:∀a,R' a->gds (rk a)->D P R)
 | cv {i:Shape UInt8}{code:List UInt8}{ps:List Par}{c:Cur}{A':Type}{R':A'->Prop}{y:A'->Cur}{rk:A'->List Rk}(F:FuncId) {fn:Func}(hf:P.funcs[F]? = some fn) (h:Cv P F i code ps c R' y rk) (hg:gps ps) (k:∀a,R' a->gds (rk a)->D P R)
 | cw {ps:List Pw}{A':Type}{R':A'->Prop}{rk:A'->List Rk}(F:FuncId) {fn:Func}(hf:P.funcs[F]? = some fn) (h:Cw P F ps R' rk) (hg:gpw ps) (k:∀a,R' a->gds (rk a)->D P R)
 | lx {Γ:Type}(J:Γ->Prop) (m:Γ->Nat) (ks ko kb:List Nat) (TE:Γ->List (Nat×Tv)) (TO:Γ->List (Nat×To)) (g:Γ) (h:J g) (sg:List (Nat×Nat)) (k:∀g,J g->Tok J m (m g)->D P R)
   {Δ:Type}(Je:Δ->Prop) (ex:Nat) (ks2 ko2 kb2:List Nat) (TE2:Δ->List (Nat×Tv)) (TO2:Δ->List (Nat×To)) (k2:∀g,Je g->D P R)
 | jc {Δ:Type}(Je:Δ->Prop) (ks2 ko2 kb2:List Nat) (TE2:Δ->List (Nat×Tv)) (TO2:Δ->List (Nat×To)) (k:D P R) (k2:∀g,Je g->D P R)
 | xt {Δ:Type}(Je:Δ->Prop) (g:Δ) (h:Je g) (sg:List (Nat×Nat))
 | bs (xs:List UInt8) (b:ByteArray) (h63:xs.length+b.size<=maxLen) (hby:xs.length+b.size<=140737488355328) (k:D P R)
 | lj {α:Type}(i:Dsh α) (r o:Nat) (ys:List α) (hne:ys≠[]) (hl:ys.length<=1000000) (h:∀y∈ys,i.good y) (k:D P R)
 | mk {α:Type}(i:Dsh α) (z:α) (n:Nat) (e:Int) (he:e=n) (bytes:Nat) (hn:n<=67108864) (hb:n*bytes<=140737488355328) (hz:i.good z) (k:D P R)
 | iv {A':Type}{R':A'->Prop}(F:FuncId) {fn:Func}(hf:P.funcs[F]? = some fn) (h:Inc P F R') (k:∀a,R' a->D P R)
 | hr {n:Nat}{ops:Array Oper}{dr:Bool}(h:Rgn P n ops dr) (k:D P R)
 | hx (j:Nat) (k:Hd->D P R)
 | az {α:Type}(i:Dsh α) (xs:List α) (z:α) (hg:i.good z) (bytes:Nat) (h63:xs.length+1<=maxLen) (hby:(xs.length+1)*bytes<=140737488355328) (k:D P R)
 | zr (j:Nat) (k:D P R)
 | w1 (k:D P R)
 | lo {α:Type}(i:Dsh α) (ys:List α) (hne:ys≠[]) (hl:ys.length<=1000000) (h:∀y∈ys,i.good y) (k:D P R)
 | cz {α:Type}(i:Dsh α) (j:Nat) (xs:List α) (a:Nat) (h:a<xs.length) (k:D P R)
 | dz (k:D P R)
 | lq (t j:Nat) (k:D P R)
 | cb {ps:List Par}{α:Type}(i:Dsh α) (x:α) (F:FuncId) {fn:Func}(hf:P.funcs[F]? = some fn) (h:Cb P F ps i x) (hg:gps ps) (k:i.good x->D P R)
 | rc (t c j:Nat) (k:D P R)
 | rb (r c j:Nat) (k:D P R)
 | ac {α:Type}(i:Dsh α) (cut:Bool) (j:Nat) (xs:List α) (m:Nat) (hm:m<=xs.length) (ys:List α) (hne:ys≠[]) (h:∀y∈ys,i.good y) (bytes:Nat) (h63:m+ys.length<=maxLen) (hby:(m+ys.length)*bytes<=140737488355328) (k:D P R)
 | ar {α:Type}(i:Shape α) (xs ys:List α) (hne:ys≠[]) (bytes:Nat) (h63:xs.length+ys.length<=maxLen) (hby:(xs.length+ys.length)*bytes<=140737488355328) (k:D P R)
 | lb {α:Type}(i:Dsh α) (ys:List α) (hne:ys≠[]) (hl:ys.length<=1000000) (h:∀y∈ys,i.good y) (k:D P R)
section
variable {P:Program}{A:Type}{R:A->Prop}
def nrm:D P R->(D P R->Tr)->Tr
 | .ex (p:=p) _ k,K=>.fn fun x=>.fp (p x) fun hx=>nrm (k x hx) K
 | .oc (p:=p) (q:=q) _ a b,K=>.an (.fp p fun h=>nrm (a h) K) (.fp q fun h=>nrm (b h) K)
 | .ab _,_=>.ok
 | d,K=>K d
theorem cG {G:Prop}:∀{d:D P R}{K:D P R->Tr},(nrm d K).holds->(∀d',(K d').holds->G)->G:=by
 intro d
 induction d with
 | ex h k ih=>
  intro K hh kk;obtain⟨x,hx⟩:=h;exact ih x hx (hh x hx) kk
 | oc h a b iha ihb=>
  intro K hh kk;rcases h with h | h
  ·exact iha h (hh.1 h) kk
  exact ihb h (hh.2 h) kk
 | ab h=>exact fun _ _=>h.elim
 | _=>exact fun hh kk=>kk _ hh
def bl (c:Sc) (d:D P R) (K:Bool->D P R->Tr):Tr:=
 match c with
 | .vl (.bool true)=>K true d
 | .vl (.bool false)=>K false d
 | .bo e=>nrm d fun d=>match d with
  | .sp p i t f=>.e0 e (@decide p i) (.an (.fp p fun h=>K true (t h)) (.fp (¬p) fun h=>K false (f h)))
  | .sn p i t f=>.e0 e (!@decide p i) (.an (.fp (¬p) fun h=>K true (t h)) (.fp p fun h=>K false (f h)))
  | .sb e' t f=>.e0 e e' (.an (.fp (e'=true) fun h=>K true (t h)) (.fp (e'=false) fun h=>K false (f h)))
  | .kn e' r _ k=>.e0 e e' (K r k)
  | _=>.no
 | _=>.no
theorem bR9 {G:Prop}{c:Sc}{d:D P R}{K:Bool->D P R->Tr}(h:(bl c d K).holds) (k:∀r d',c.val = .bool r->(K r d').holds->G):G:=by
 unfold bl at h;split at h
 ·exact k true _ rfl h
 ·exact k false _ rfl h
 ·next e=>
  refine cG h fun d' h=>?_
  split at h
  ·next p i t f=>
   obtain⟨rfl,h1,h2⟩:=h;by_cases hp:p
   ·exact k true _ (by simp[Sc.val,hp]) (h1 hp)
   exact k false _ (by simp[Sc.val,hp]) (h2 hp)
  ·next p i t f=>
   obtain⟨rfl,h1,h2⟩:=h;by_cases hp:p
   ·exact k false _ (by simp[Sc.val,hp]) (h2 hp)
   exact k true _ (by simp[Sc.val,hp]) (h1 hp)
  ·next e' t f=>
   obtain⟨rfl,h1,h2⟩:=h;cases he:e
   ·exact k false _ (by rw[he];rfl) (h2 he)
   exact k true _ (by rw[he];rfl) (h1 he)
  ·next e' r hr kk=>
   obtain⟨rfl,h1⟩:=h;exact k r _ (by simp[Sc.val,hr]) h1
  exact h.elim
 exact h.elim
end
end Go.Proofs.YtpdgdnpajmcaeaaGreat
namespace Go.Proofs.YtpdgdnpajmcaeaaGreat
set_option maxHeartbeats 1000000
set_option maxHeartbeats 2000000
open Go.RowKit Go.Proofs.Tryz List

structure Dat:Type 1 where
 {α:Type}
 i:Shape α
 xs:List α
def rK (s:S) (j:Nat):Option (Bool×Hd×Dat):=
 match lku s.O j with
 | some (.own i h xs _)=>some (false,h,⟨i,xs⟩)
 | some (.row i _ h xs _)=>some (false,h,⟨i,xs⟩)
 | some _=>none
 | none=>match lku s.B j with
  | some (l,.sl i h xs _)=>some (l,h,⟨i,xs⟩)
  | some (_,.al jz k)=>match lku s.O jz with
   | some (.rz i _ _ _ _ cs z _)=>match cs[k]?,(i.lv z)[k]? with
    | some (.rf _ h),some (.s _ i' ys)=>some (false,h,⟨i',ys⟩)
    | _,_=>none
   | _=>none
  | _=>none
theorem aH7 {w:World}:∀{cs:List Value}{ls:List Lf}{fp:List Nat}{k:Nat}{c:Value}{β:Type}{i:Shape β}{ys:List β},cW w cs ls fp->cs[k]? = some c->ls[k]? = some (.s β i ys)->∃f,Sl w c ys f
 | [],_,_,_,_,_,_,_,_,h,_=>by simp at h
 | _::_,[],_,_,_,_,_,_,_,_,h=>by simp at h
 | c::cs,.v u::ls,fp,0,_,_,_,_,h,h1,h2=>by simp at h2
 | c::cs,.s β i ys::ls,fp,0,_,_,_,_,h,h1,h2=>by
  simp only[getElem?_cons_zero,Option.some.injEq,Lf.s.injEq]at h1 h2;obtain⟨rfl,h3,h4⟩:=h2;obtain⟨rfl,rfl⟩:=And.intro (eq_of_heq h3) (eq_of_heq h4);obtain⟨f1,f2,h5,_⟩:=h;exact⟨f1,h1▸h5⟩
 | c::cs,.v u::ls,fp,k+1,_,_,_,_,h,h1,h2=>aH7 (k:=k) h.2 (by simpa using h1) (by simpa using h2)
 | c::cs,.s β i ys::ls,fp,k+1,_,_,_,_,h,h1,h2=>by
  obtain⟨f1,f2,_,h6,_⟩:=h;exact aH7 (k:=k) h6 (by simpa using h1) (by simpa using h2)
def grT (s:S) (G:Option Gr) (k:Tr):Tr:=
 match G with
 | none=>k
 | some g=>match lku s.B 999999 with
  | some (_,.gr g')=>.e0 g' g k
  | _=>.no
theorem aF8 {s:S}{G:Option Gr}{k:Tr}{w0 W:World}(h:(grT s G k).holds) (hb:Below w0.heap.size w0 W) (fa:Facts w0 W s.B):Gin G W/\k.holds:=by
 cases G with
 | none=>exact⟨trivial,h⟩
 | some g=>
  unfold grT at h;simp only at h;split at h
  ·next l g' hj=>
   obtain⟨rfl,hk⟩:=h;exact⟨fa.now hb hj,hk⟩
  exact h.elim
theorem oG {O:List (Nat×Ob)}{j:Nat}{o:Ob}(h:lku O j=some o):o.res∈O.map fun p=>p.2.res:=mem_map.2 ⟨_,kI h,rfl⟩
theorem jB {s:S}{j:Nat}{l:Bool}{h:Hd}{d:Dat}{w0 W:World}(e:rK s j=some (l,h,d)) (st:St w0 W s.rs) (fa:Facts w0 W s.B):∃fp,@Sl d.α d.i (cond l w0 W) h.val d.xs fp:=by
 unfold rK at e;split at e
 ·next i h' xs fp hj=>
  simp only[Option.some.injEq,Prod.mk.injEq]at e;obtain⟨rfl,rfl,rfl⟩:=e;exact⟨_,gQ (st.holds _ (oG hj))⟩
 ·next i te h' xs fp hj=>
  simp only[Option.some.injEq,Prod.mk.injEq]at e;obtain⟨rfl,rfl,rfl⟩:=e;exact⟨_,gO (st.holds _ (oG hj))⟩
 ·cases e
 split at e
 ·next l' i h' xs fp hj=>
  simp only[Option.some.injEq,Prod.mk.injEq]at e;obtain⟨rfl,rfl,rfl⟩:=e;exact⟨fp,fa _ (kI hj)⟩
 ·split at e
  ·next i te h' xs fe cs z fz hO=>
   split at e
   ·next hc hl=>
    simp only[Option.some.injEq,Prod.mk.injEq]at e;obtain⟨rfl,rfl,rfl⟩:=e;have h1:=(st.holds _ (oG hO)).2;exact aH7 (i.out h1).2 (by rw[getElem?_map,hc];rfl) hl
   cases e
  cases e
 cases e
def rgOf (s:S) (j:Nat):Option (Nat×Nat×List Sc):=
 match lku s.O j with
 | some (.bx b pre cs _ _)=>some (b,pre.length,cs)
 | some _=>none
 | none=>match lku s.B j with
  | some (_,.rg b k cs)=>some (b,k,cs)
  | some (_,.el _ _ _ b k cs)=>some (b,k,cs)
  | _=>none
theorem aS9 {s:S}{j b k:Nat}{cs:List Sc}{w0 W:World}(e:rgOf s j=some (b,k,cs)) (st:St w0 W s.rs) (fa:Facts w0 W s.B):W.rangeAt b k (cs.map Sc.val):=by
 unfold rgOf at e;split at e
 ·next hj=>
  simp only[Option.some.injEq,Prod.mk.injEq]at e;obtain⟨rfl,rfl,rfl⟩:=e;exact range_lent (st.holds _ (oG hj))
 ·cases e
 split at e
 ·next hj=>
  simp only[Option.some.injEq,Prod.mk.injEq]at e;obtain⟨rfl,rfl,rfl⟩:=e;exact fa.now st.below hj
 ·next hj=>
  simp only[Option.some.injEq,Prod.mk.injEq]at e;obtain⟨rfl,rfl,rfl⟩:=e;exact(fa.now st.below hj).2
 cases e

section
variable {P:Program}{A:Type}{R:A->Prop}
def sX (l:Bool):List Lf->S->(List Sc->S->Tr)->Tr
 | [],s,K=>K [] s
 | .v x::ls,s,K=>sX l ls s fun cs s=>K (sc x::cs) s
 | .s _ i ys::ls,s,K=>.fn fun g:Hd×List Nat=>sX l ls ⟨s.E,s.O,(s.nx,l,.sl i g.1 ys g.2)::s.B,s.nx+1⟩ fun cs s'=>K (.rf s.nx g.1::cs) s'
theorem lN {G:Prop}{l:Bool}{w0 W:World}:∀{ls:List Lf}{s:S}{K:List Sc->S->Tr}{cs:List Value}{fp:List Nat},(sX l ls s K).holds->cW (cond l w0 W) cs ls fp->Facts w0 W s.B ->
  (∀scs s',(K scs s').holds->scs.map Sc.val=cs->s'.E=s.E->s'.O=s.O->Facts w0 W s'.B->G)->G
 | [],s,K,[],fp,h,hc,fa,k=>k [] s h rfl rfl rfl fa
 | [],s,K,c::cs,fp,h,hc,fa,k=>hc.elim
 | .v x::ls,s,K,[],fp,h,hc,fa,k=>hc.elim
 | .s _ _ _::ls,s,K,[],fp,h,hc,fa,k=>hc.elim
 | .v x::ls,s,K,c::cs,fp,h,hc,fa,k=>by
  refine lN (K:=fun cs s=>K (sc x::cs) s) h hc.2 fa fun scs s' h' e1 e2 e3 fa'=>k _ s' h' ?_ e2 e3 fa'
  rw[map_cons,kW,e1,hc.1]
 | .s _ i ys::ls,s,K,c::cs,fp,h,hc,fa,k=>by
  obtain⟨f1,f2,h1,h2,_⟩:=hc;obtain⟨hd,rfl,hn⟩:=h1.hd;refine lN (K:=fun cs s'=>K (.rf s.nx hd::cs) s') (h (hd,f1)) h2 ?_ fun scs s' h' e1 e2 e3 fa'=>k _ s' h' ?_ e2 e3 fa'
  ·intro e he;rcases mem_cons.1 he with rfl | he
   ·exact h1
   ·exact fa e he
  ·rw[map_cons,e1];rfl
def slT {α:Type}(s:S) (c:Sc) (i:Shape α) (ys:List α) (k:Tr):Tr:=
 match c with
 | .rf j h=>match rK s j with
  | some (_,h',d)=>.e0 h h' (.e1 d ⟨i,ys⟩ k)
  | none=>.no
 | .vl (.slice none 0 0)=>.e1 (⟨i,[]⟩:Dat) ⟨i,ys⟩ k
 | _=>.no
theorem bH0 {α:Type}{s:S}{c:Sc}{i:Shape α}{ys:List α}{k:Tr}{w0 W:World}(h:(slT s c i ys k).holds) (st:St w0 W s.rs) (fa:Facts w0 W s.B):(∃fp,Sl W c.val ys fp)/\k.holds:=by
 unfold slT at h;split at h
 ·next j hd=>
  split at h
  ·next l h' d hj=>
   obtain⟨rfl,rfl,hk⟩:=h;obtain⟨fp,hs⟩:=jB hj st fa;refine⟨⟨fp,?_⟩,hk⟩;cases l with
   | true=>exact Sl.below hs st.below
   | false=>exact hs
  exact h.elim
 ·obtain⟨h1,hk⟩:=h;simp only[Dat.mk.injEq,heq_eq_eq,true_and]at h1;subst h1;exact⟨⟨[],bH9⟩,hk⟩
 exact h.elim
def xB (s:S):List Sc->List Lf->Tr->Tr
 | [],[],k=>k
 | c::cs,.v u::ls,k=>.e0 c.val u (xB s cs ls k)
 | c::cs,.s _ i ys::ls,k=>slT s c i ys (xB s cs ls k)
 | _,_,_=>.no
theorem nU {s:S}{w0 W:World}(st:St w0 W s.rs) (fa:Facts w0 W s.B):∀{cs:List Sc}{ls:List Lf}{k:Tr},(xB s cs ls k).holds->(∃fp,cW W (cs.map Sc.val) ls fp)/\k.holds
 | [],[],k,h=>⟨⟨[],rfl⟩,h⟩
 | c::cs,.v u::ls,k,h=>by
  obtain⟨h1,h2⟩:=h;obtain⟨⟨fp,h3⟩,hk⟩:=nU st fa h2;exact⟨⟨fp,h1,h3⟩,hk⟩
 | c::cs,.s _ i ys::ls,k,h=>by
  obtain⟨⟨f1,h1⟩,h2⟩:=bH0 h st fa;obtain⟨⟨f2,h3⟩,hk⟩:=nU st fa h2;exact⟨⟨f1++f2,f1,f2,h1,h3,rfl⟩,hk⟩
 | [],.v _::_,_,h=>h.elim
 | [],.s _ _ _::_,_,h=>h.elim
 | _::_,[],_,h=>h.elim
def jT (s:S):List SV->List Par->Tr->Tr
 | [],[],k=>k
 | .on (.ce c)::us,.v x::ps,k=>.e0 c.val x (jT s us ps k)
 | .on (.ce c)::us,.b e::ps,k=>.e0 c.val (.bool e) (jT s us ps k)
 | .on (.ag l)::us,.st i x::ps,k=>xB s l (i.lv x) (jT s us ps k)
 | .on (.ce c)::us,.sl i xs::ps,k=>slT s c i xs (jT s us ps k)
 | .on (.ag l)::us,.ag l'::ps,k=>.e0 (l.map Sc.val) l' (jT s us ps k)
 | _,_,_=>.no
theorem fO {s:S}{w0 W:World}(st:St w0 W s.rs) (fa:Facts w0 W s.B):∀{us:List SV}{ps:List Par}{k:Tr},(jT s us ps k).holds->gps ps->Pars W (us.map SV.val) ps/\k.holds:=by
 intro us
 induction us with
 | nil=>
  intro ps k h hg;cases ps with
  | nil=>exact⟨trivial,h⟩
  | cons p ps=>exact h.elim
 | cons u us ih=>
  intro ps k h hg;unfold jT at h;split at h
  ·next heq1=>first | cases heq1 | (rename_i heq2;cases heq2)
  ·next c us' x ps' k' heq=>
   simp only[List.cons.injEq]at heq;obtain⟨rfl,rfl⟩:=heq;obtain⟨h1,h2⟩:=h;obtain⟨a,b⟩:=ih h2 hg;exact⟨⟨h1,a⟩,b⟩
  ·next c us' x ps' k' heq=>
   simp only[List.cons.injEq]at heq;obtain⟨rfl,rfl⟩:=heq;obtain⟨h1,h2⟩:=h;obtain⟨a,b⟩:=ih h2 hg;exact⟨⟨h1,a⟩,b⟩
  ·next _ _ _ l us' α i x ps' heq=>
   simp only[List.cons.injEq]at heq;obtain⟨rfl,rfl⟩:=heq;obtain⟨⟨fp,hc⟩,h2⟩:=nU st fa h;obtain⟨a,b⟩:=ih h2 hg.2;exact⟨⟨⟨_,fp,rfl,i.inn hg.1 hc⟩,a⟩,b⟩
  ·next c us' β i xs ps' k' heq=>
   simp only[List.cons.injEq]at heq;obtain⟨rfl,rfl⟩:=heq;obtain⟨hs,h2⟩:=bH0 h st fa;obtain⟨a,b⟩:=ih h2 hg;exact⟨⟨hs,a⟩,b⟩
  ·next l us' l' ps' k' heq=>
   simp only[List.cons.injEq]at heq;obtain⟨rfl,rfl⟩:=heq;obtain⟨h1,h2⟩:=h;obtain⟨a,b⟩:=ih h2 hg;exact⟨⟨by show Value.agg _=_;rw[<- h1],a⟩,b⟩
  exact h.elim

def QS (P:Program) (lk:Operand->Option SV) (o:Op) (w0 W:World) (rs:List Res) (v:SV):Prop:=
 ∀{n:Nat}{f:Nat->Value}{W':World}{Q:Exit->Act->World->Prop}{KK:Value->World->Prop}{d:Option Tmp}{ty:TypeId}{pos:String}{af:Array Go.Edge}{g:Option (Nat×Bool)},
  (∀x u,lk x=some u->ev n f x=u.val)->St w0 W' rs->Below W.heap.size W W'->(∀W'',St w0 W'' rs->Below W'.heap.size W' W''->KK v.val W'')->Stp P n ⟨d,o,ty,pos,af,g⟩ f W' Q KK
def opt {α:Type u}(o:Option α) (K:α->Tr):Tr:=
 match o with
 | some x=>K x
 | none=>.no
theorem aD {G:Prop}{α:Type u}{o:Option α}{K:α->Tr}(h:(opt o K).holds) (k:∀x,o=some x->(K x).holds->G):G:=by
 unfold opt at h;split at h
 ·exact k _ rfl h
 exact h.elim
def asC (v:SV) (K:Sc->Tr):Tr:=
 match v with
 | .on (.ce c)=>K c
 | _=>.no
theorem bT {G:Prop}{v:SV}{K:Sc->Tr}(h:(asC v K).holds) (k:∀c,v = .on (.ce c)->(K c).holds->G):G:=by
 unfold asC at h;split at h
 ·exact k _ rfl h
 exact h.elim
abbrev one (c:Sc):SV := .on (.ce c)
def arT (b:BinOp) (x y:Sc) (d:D P R) (K:SV->D P R->Tr):Tr:=
 nrm d fun d=>match b,d with
  | .add,.ad a c _ k=>.e0 x.val (I a) (.e0 y.val (I c) (K (one (.vl (I (a+c)))) k))
  | .sub,.su a c _ k=>.e0 x.val (I a) (.e0 y.val (I c) (K (one (.vl (I (a-c)))) k))
  | .mul,.mu a c _ k=>.e0 x.val (I a) (.e0 y.val (I c) (K (one (.vl (I (a*c)))) k))
  | .quo,.qu a c _ k=>.e0 x.val (I a) (.e0 y.val (I c) (K (one (.vl (I (a / c)))) k))
  | .rem,.qu a c _ k=>.e0 x.val (I a) (.e0 y.val (I c) (K (one (.vl (I (a % c)))) k))
  | _,_=>.no
theorem arT_ok {G:Prop}{lk:Operand->Option SV}{b:BinOp}{x y:Operand}{t t':TypeId}{cx cy:Sc}{d:D P R}{K:SV->D P R->Tr}(hx:lk x=some (one cx)) (hy:lk y=some (one cy)) (h:(arT b cx cy d K).holds)
  (k:∀v d',(K v d').holds->(∀w1 W1 rs1,QS P lk (.binOp b t x y t') w1 W1 rs1 v)->G):G:=by
 unfold arT at h;refine cG h fun d' h=>?_
 split at h
 ·obtain⟨h1,h2,h3⟩:=h;refine k _ _ h3 ?_;intro w1 W1 rs1 n f W' Q KK d ty pos af g hl hst hb hk;exact nY ((hl _ _ hx).trans h1) ((hl _ _ hy).trans h2) (by assumption) (hk W' hst (Below.refl _ _))
 ·obtain⟨h1,h2,h3⟩:=h;refine k _ _ h3 ?_;intro w1 W1 rs1 n f W' Q KK d ty pos af g hl hst hb hk;exact bL3 ((hl _ _ hx).trans h1) ((hl _ _ hy).trans h2) (by assumption) (hk W' hst (Below.refl _ _))
 ·obtain⟨h1,h2,h3⟩:=h;refine k _ _ h3 ?_;intro w1 W1 rs1 n f W' Q KK d ty pos af g hl hst hb hk;exact bL7 ((hl _ _ hx).trans h1) ((hl _ _ hy).trans h2) (by assumption) (hk W' hst (Below.refl _ _))
 ·obtain⟨h1,h2,h3⟩:=h;refine k _ _ h3 ?_;intro w1 W1 rs1 n f W' Q KK d ty pos af g hl hst hb hk;have hi := ‹(_/\_)/\_›;exact bL5 ((hl _ _ hx).trans h1) ((hl _ _ hy).trans h2) hi.1 hi.2 (hk W' hst (Below.refl _ _))
 ·obtain⟨h1,h2,h3⟩:=h;refine k _ _ h3 ?_;intro w1 W1 rs1 n f W' Q KK d ty pos af g hl hst hb hk;have hi := ‹(_/\_)/\_›;exact bL4 ((hl _ _ hx).trans h1) ((hl _ _ hy).trans h2) hi.1 hi.2 (hk W' hst (Below.refl _ _))
 exact h.elim
def boT (P:Program) {A:Type}{R:A->Prop}(b:BinOp) (t:TypeId) (x y:Sc) (d:D P R) (K:SV->D P R->Tr):Tr:=
 cond (isAr b) (arT b x y d K) (opt (cmp P t b x.val y.val) fun e=>K (one (.bo e)) d)
theorem boT_ok {G:Prop}{lk:Operand->Option SV}{b:BinOp}{x y:Operand}{t t':TypeId}{cx cy:Sc}{d:D P R}{K:SV->D P R->Tr}(hx:lk x=some (one cx)) (hy:lk y=some (one cy)) (h:(boT P b t cx cy d K).holds)
  (k:∀v d',(K v d').holds->(∀w1 W1 rs1,QS P lk (.binOp b t x y t') w1 W1 rs1 v)->G):G:=by
 unfold boT at h;cases hb:isAr b with
 | true=>rw[hb]at h;exact arT_ok hx hy h k
 | false=>
  rw[hb]at h;refine aD h fun e he h=>k _ _ h ?_
  intro w1 W1 rs1 n f W' Q KK d ty pos af g hl hst hb hk;exact cD4 he (hl _ _ hx) (hl _ _ hy) (hk W' hst (Below.refl _ _))
def ldT (P:Program) (s:S) (t:TypeId) (c:Sc) (K:SV->Tr):Tr:=
 match c with
 | .pt j b k o=>opt (rgOf s j) fun r=>.e0 b r.1<|.e0 k r.2.1<|opt (ldK P t) fun z=>match z with
  | none=>opt (r.2.2[o]?) fun v=>K (one v)
  | some z=>.e0 ((r.2.2.drop o).take z).length z (K (.on (.ag ((r.2.2.drop o).take z))))
 | _=>.no
theorem ldT_ok {G:Prop}{lk:Operand->Option SV}{w0 W:World}{s:S}{x:Operand}{t:TypeId}{c:Sc}{K:SV->Tr}(hx:lk x=some (one c)) (h:(ldT P s t c K).holds) (fa:Facts w0 W s.B)
  (k:∀v,(K v).holds->QS P lk (.load t x) w0 W s.rs v->G):G:=by
 unfold ldT at h;split at h
 ·next j b0 k0 o=>
  refine aD h fun r hr h=>?_
  obtain⟨b,kk,cs⟩:=r;obtain⟨h1,h2,h⟩:=h;simp only at h1 h2;subst h1 h2;refine aD h fun z hz h=>?_
  have hv:∀{n f},(∀x u,lk x=some u->ev n f x=u.val)->ev n f x = .pointer (some ⟨b0,k0+o,none⟩):=fun hl=>hl _ _ hx
  cases z with
  | none=>
   refine aD h fun v hvv h=>k _ h ?_
   intro n f W' Q KK d ty pos af g hl hst hb hk;refine nD (cs:=[v.val]) hz (hv hl) ?_ rfl (hk W' hst (Below.refl _ _));have hrg:=aS9 hr hst (fa.up hb);intro q u hj;cases q with
   | zero=>
    simp at hj;subst hj;exact hrg o _ (by rw[getElem?_map];simp only at hvv;rw[hvv];rfl)
   | succ j=>simp at hj
  | some z=>
   obtain⟨h1,h⟩:=h;simp only at h1;refine k _ h ?_;intro n f W' Q KK d ty pos af g hl hst hb hk;have hrg:=aS9 hr hst (fa.up hb);have:=sU (i:=o) (z:=z) hrg;refine nD (z:=some z) (cs:=((cs.drop o).take z).map Sc.val) hz (hv hl) ?_ (by simpa using h1) (hk W' hst (Below.refl _ _));simpa [map_take,map_drop] using this
 exact h.elim
def ixT0 (P:Program) {A:Type}{R:A->Prop}(s:S) (t:TypeId) (c:Sc) (y:Sc) (d:D P R) (K:SV->S->D P R->Tr):Tr:=
 nrm d fun d=>match c,d with
  | .rf j h,.ix i xs n x _ e _ k=>opt (rK s j) fun q=>.e0 h q.2.1<|.e1 q.2.2 ⟨i.toShape,xs⟩<|.e0 y.val (I e)<|.e0 (elK P t) (some i.size) <|
    .fn fun g:Nat×Nat=>sX q.1 (i.lv x) ⟨s.E,s.O,s.B,s.nx+1⟩ fun cs s'=>.fp (i.good x) fun hg=>K (one (.pt s.nx g.1 g.2 0)) ⟨s'.E,s'.O,(s.nx,q.1,.el h i.size n g.1 g.2 cs)::s'.B,s'.nx⟩ (k hg)
  | .rf j h,.iy r n e _ k=>match lku s.B r with
   | some (l,.el h' z n' b o cs)=>.e0 h h'<|.e0 n n'<|.e0 y.val (I e)<|.e0 (elK P t) (some z)<|K (one (.pt r b o 0)) s k
   | _=>.no
  | .rf j h,.il n e _ k=>match lku s.O j with
   | some (.rs i h' b pre _ _ n' _ r)=>.e0 h h'<|.e0 n n'<|.e0 y.val (I e)<|.e0 (elK P t) (some i.size)<|K (one (.pt r b pre.length 0)) s k
   | _=>.no
  | _,_=>.no
theorem PA_rest {α:Type}[Shape α] {v:Value}{b:Nat}{pre post:List Value}{xs:List α}{i:Nat}{fr:List Nat}{W:World}(h:(Res.rest v b pre post xs i fr).holds W):PA v (Shape.size α) i b pre.length:=by
 obtain⟨⟨off,cap,f1,f2,p0,c1,c2,q0,h1,h2,h3,h4,h5,h6,h7,h8,h9,h10⟩,_⟩:=h;refine⟨off,xs.length,cap,h1,h4,?_⟩;rw[h5,length_append,h6,h8.len,length_take,Nat.min_eq_left aA]
theorem zC {n:Nat}{f:Nat->Value}{W:World}{Q:Exit->Act->World->Prop}{K:Value->World->Prop}{d:Option Tmp}{ty:TypeId}{pos:String}{af:Array Go.Edge}{g:Option (Nat×Bool)}{x y:Operand}{t:TypeId}{kk i b o:Nat}{e:Int}{u:Value}
  (hk':elK P t=some kk) (hx:ev n f x=u) (hp:PA u kk i b o) (hy:ev n f y=I e) (he:e=i) (k:K (.pointer (some ⟨b,o,none⟩)) W):Stp P n ⟨d,.indexAddr t x y,ty,pos,af,g⟩ f W Q K:=by
 unfold elK at hk';split at hk'
 ·next te hu=>
  obtain⟨j,hj,hk'⟩:=Option.bind_eq_some_iff.1 hk';simp only[Option.some.injEq]at hk';obtain⟨off,len,cap,rfl,hi,rfl⟩:=hp;subst he;refine Stp.run (v := .pointer (some ⟨b,off+i*kk,none⟩)) ?_ k;have hel:P.elem t=te:=by simp[Program.elem,hu]
  have hu2:P.underlying t=some (.slice (P.elem t)):=by rw[hel];exact hu
  have hlt:(i:Int)<len:=by omega
  simp[execOp,hx,hy,Sem.run_bind,run_indexAt_slice (h:=hu2),hel,hlt,sizeOf,typeInfo,hj,hk',Addr.add]
 cases hk'
theorem idxG {α:Type}(i:Dsh α) {w:World}{v:Value}{xs:List α}{fp:List Nat}(hs : @Sl α i.toShape w v xs fp) {n:Nat}{x:α}(h:xs[n]? = some x):∃b k cs f1,PA v i.size n b k/\w.rangeAt b k cs/\i.good x/\cW w cs (i.lv x) f1:=by
 obtain⟨hn,rfl⟩:=gsi_.1 h;obtain⟨b,k,cs,f1,h1,h2,h3,_⟩:=idx hs hn;obtain⟨h4,h5⟩:=i.out h3;exact⟨b,k,cs,f1,h1,h2,h4,h5⟩
theorem ixT0_ok {G:Prop}{lk:Operand->Option SV}{w0 W:World}{s:S}{x y:Operand}{t:TypeId}{cx cy:Sc}{d:D P R}{K:SV->S->D P R->Tr}(hx:lk x=some (one cx)) (hy:lk y=some (one cy)) (h:(ixT0 P s t cx cy d K).holds) (st:St w0 W s.rs) (fa:Facts w0 W s.B)
  (k:∀v s' d',(K v s' d').holds->s'.E=s.E->s'.O=s.O->Facts w0 W s'.B->(∀w1 W1 rs1,QS P lk (.indexAddr t x y) w1 W1 rs1 v)->G):G:=by
 unfold ixT0 at h;refine cG h fun d' h=>?_
 split at h
 ·next _ j hd α i xs m z hz e he kk _=>
  refine aD h fun q hq h=>?_
  obtain⟨l,hd',dd⟩:=q;obtain⟨h1,h2,h3,h4,h⟩:=h;simp only at h1 h2;subst h1 h2;obtain⟨fp,hs⟩:=jB hq st fa;obtain⟨b,ko,cs,f1,g1,g2,g3,g4⟩:=idxG i hs hz;refine lN (h (b,ko)) g4 (s:=⟨s.E,s.O,s.B,s.nx+1⟩) fa fun scs s' h' e1 e2 e3 fa'=>(k _ _ _ (h' g3) e2 e3 ?_ ?_)
  ·intro e he;rcases mem_cons.1 he with rfl | he
   ·exact⟨g1,by rw[e1];exact g2⟩
   exact fa' e he
  intro w1 W1 rs1 n f W' Q KK d ty pos af g hl hst hb hk;exact zC h4 (hl _ _ hx) g1 ((hl _ _ hy).trans h3) he (hk W' hst (Below.refl _ _))
 ·next _ _ j hd r m e he kk _=>
  split at h
  ·next l hd' z m' b o cs hr=>
   obtain⟨h1,h2,h3,h4,h⟩:=h;subst h1 h2;have hp:=(fa.now st.below hr).1;refine k _ _ _ h rfl rfl fa ?_;intro w1 W1 rs1 n f W' Q KK d ty pos af g hl hst hb hk;exact zC h4 (hl _ _ hx) hp ((hl _ _ hy).trans h3) he (hk W' hst (Below.refl _ _))
  exact h.elim
 ·next _ _ j hd m e he kk _=>
  split at h
  ·next hj=>
   obtain⟨h1,h2,h3,h4,h⟩:=h;subst h1 h2;have hp:=PA_rest (st.holds _ (oG hj));refine k _ _ _ h rfl rfl fa ?_;intro w1 W1 rs1 n f W' Q KK d ty pos af g hl hst hb hk;exact zC h4 (hl _ _ hx) hp ((hl _ _ hy).trans h3) he (hk W' hst (Below.refl _ _))
  exact h.elim
 exact h.elim
theorem PA_lt {b n q z:Nat}(h:q<n):PA (.slice (some ⟨b,0,none⟩) n n) z q b (0+q*z):=⟨0,n,n,rfl,h,rfl⟩
def ixT (P:Program) {A:Type}{R:A->Prop}(s:S) (t:TypeId) (c:Sc) (y:Sc) (d:D P R) (K:SV->S->D P R->Tr):Tr:=
 match c,y with
 | .lt j b n,.vl (.int .i64 (.ofNat q))=>.e0 (Nat.ble (q+1) n) true<|opt (elK P t) fun z=>K (one (.pt j b 0 (q*z))) s d
 | c,y=>ixT0 P s t c y d K
theorem cB0 {G:Prop}{lk:Operand->Option SV}{w0 W:World}{s:S}{x y:Operand}{t:TypeId}{cx cy:Sc}{d:D P R}{K:SV->S->D P R->Tr}(hx:lk x=some (one cx)) (hy:lk y=some (one cy)) (h:(ixT P s t cx cy d K).holds) (st:St w0 W s.rs) (fa:Facts w0 W s.B)
  (k:∀v s' d',(K v s' d').holds->s'.E=s.E->s'.O=s.O->Facts w0 W s'.B->(∀w1 W1 rs1,QS P lk (.indexAddr t x y) w1 W1 rs1 v)->G):G:=by
 unfold ixT at h;split at h
 ·next j b m q=>
  obtain⟨h4,h⟩:=h;refine aD h fun z hz h=>k _ _ _ h rfl rfl fa ?_
  intro w1 W1 rs1 n f W' Q KK d ty pos af g hl hst hb hk;exact zC (e:=(q:Int)) hz (hl _ _ hx) (PA_lt (Nat.le_of_ble_eq_true h4)) (hl _ _ hy) rfl (hk W' hst (Below.refl _ _))
 exact ixT0_ok hx hy h st fa k
end
end Go.Proofs.YtpdgdnpajmcaeaaGreat
namespace Go.Proofs.YtpdgdnpajmcaeaaGreat
set_option maxRecDepth 100000
set_option maxHeartbeats 2000000
open Go.RowKit Go.Proofs.Tryz List
theorem PA.same {v:Value}{k i b o b' o':Nat}(h:PA v k i b o) (h':PA v k i b' o'):b=b'/\o=o':=by
 obtain⟨off,len,cap,rfl,_,rfl⟩:=h;obtain⟨off',len',cap',e,_,rfl⟩:=h'
 injection e with e1 e2 e3
 injection e1 with e1
 injection e1 with e1 e4
 subst e1 e4;exact⟨rfl,rfl⟩
section
variable {P:Program}{n:Nat}{f:Nat->Value}{W w0:World}{rs:List Res}{Q:Exit->Act->World->Prop}{K:Value->World->Prop}
 {d:Option Tmp}{ty:TypeId}{pos:String}{af:Array Go.Edge}{g:Option (Nat×Bool)}{α:Type}[Shape α]
theorem stp_poke1 {t:TypeId}{x y:Operand}{b o i:Nat}{v u:Value}{xs:List α}{z:α}{fp:List Nat}(hs:Shape.size α=1) (hi:(P.info? t).map (·.size)=some 1) (hx:ev n f x = .pointer (some ⟨b,o,none⟩)) (hPA:PA v (Shape.size α) i b o) (hl:i<xs.length) (hy:ev n f y=u) (h1:u.cells = #[u]) (h2:u.oneCell'=true)
  (hst:St w0 W (Res.own v xs fp::rs)) (hc:∀W,Shape.C W [u] z []) (k:∀fp' W',St w0 W' (Res.own v (xs.set i z) fp'::rs)->K undef W'):Stp P n ⟨d,.store t x y,ty,pos,af,g⟩ f W Q K:=by
 obtain⟨b',e,pre,cs,post,fi,fr,hPA',hC,st⟩:=St.lend (α:=α) aA hst hl;obtain⟨rfl,rfl⟩:=hPA.same hPA';have hcl:=Shape.len hC;rw[hs]at hcl;obtain⟨c,rfl⟩:∃c,cs=[c]:=by
  cases cs with
  | nil=>simp at hcl
  | cons c cs=>cases cs with
   | nil=>exact⟨c,rfl⟩
   | cons _ _=>simp at hcl
 refine tX (i:=0) hi hx hy h1 h2 st rfl (Nat.le_refl _) rfl ?_;intro W' st';have st2:=st'.d1;have st3:=St.cs0 (cs:=[u]) (x:=z) st2 (hc W');have st4:=st3.f1;obtain⟨fp',st5⟩:=St.give (α:=α) st4;exact k fp' W' st5
theorem made_list (v:Value) (m:Nat):(madeCells #[v] m).toList=List.replicate m v:=by
 apply ext_getElem
 ·rw[Array.length_toList,size_madeCells,length_replicate]
 intro j h1 h2;rw[getElem_replicate,Array.getElem_toList];simp[madeCells,Nat.mod_one]
theorem Elems.rep {W:World}{v:Value}{z:α}(h:Shape.C W [v] z []):∀m,Elems W (List.replicate m v) (List.replicate m z) []
 | 0=>⟨rfl,rfl⟩
 | m+1=>⟨[v],List.replicate m v,[],[],rfl,h,Elems.rep h m,rfl⟩
theorem stp_makeZ {t e:TypeId}{bytes:Nat}{x y:Operand}{N:Nat}{v:Value}{z:α}(hT:ApOk P t e α bytes) (hzero:((P.info? e).bind (·.zero)).map (·.cells)=some #[v]) (hx:ev n f x=I (N:Int)) (hy:ev n f y=I (N:Int)) (hN:N<=1048576*64) (hb:N*bytes<=140737488355328) (hst:St w0 W rs) (hz:∀W,Shape.C W [v] z [])
  (k:∀b fp W',Below W.heap.size W W'->St w0 W' (Res.own (.slice (some ⟨b,0,none⟩) N N) (List.replicate N z) fp::rs)->K (.slice (some ⟨b,0,none⟩) N N) W'):Stp P n ⟨d,.makeSlice t x y,ty,pos,af,g⟩ f W Q K:=by
 obtain⟨i,zz,hi,hzz,h1,h2,h3⟩:=hT.info;have hzc:zz.cells = #[v]:=by simpa [hi,hzz] using hzero
 have hs1:Shape.size α=1:=by rw[<- h3,hzc];rfl
 have hb':(N:Int)*(bytes:Int)<=140737488355328:=by have:=Int.ofNat_le.2 hb;rw[Int.natCast_mul]at this;exact this
 have hmk:=run_make (P:=P) W t e i zz hT.desc hi hzz .i64 .i64 N N aA aA (by rw[h2,Int.mul_comm];omega) aA;rw[Int.toNat_natCast,h1,hs1,Nat.mul_one,hzc]at hmk;refine Stp.run (v := .slice (some ⟨W.heap.size,0,none⟩) N N) (W':=W.alloc (.cells (madeCells #[v] N) e)) (by simp only[execOp,hx,hy,Sem.run_bind,hmk,Result.andThen_ok];rfl) ?_;have h:=hst.alloc (madeCells #[v] N).toList e;rw[Array.toArray_toList]at h;have hbl:Below W.heap.size W (W.alloc (.cells (madeCells #[v] N) e)):=fH (Below.refl _ _);have h':St w0 (W.alloc (.cells (madeCells #[v] N) e)) (Res.bx W.heap.size (List.replicate N v) e::rs):=by
  rw[made_list]at h;exact h
 have hr:=St.row_lit (α:=α) (m:=N) (ys:=List.replicate N z) h' (by simp) (by unfold maxLen;omega) (Elems.rep (hz _) N);obtain⟨fp,hr2⟩:=hr.shut;exact k _ fp _ hbl hr2
end
section
variable {α:Type}[Shape α]
theorem slq_h {w:World}{v:Value}{xs:List α}{fp:List Nat}{h:Nat}(hs:Sl w v xs fp) (hh:h<=xs.length):∃u g,Sl w u (xs.take h) g/\(∀ao l cap,v = .slice ao l cap->u=sliced ao 0 h cap (Shape.size α)) /\
  ∀{P:Program}{n:Nat}{f:Nat->Value}{W:World}{Q:Exit->Act->World->Prop}{K:Value->World->Prop}{d:Option Tmp}{ty:TypeId}{pos:String}{af:Array Go.Edge}{gd:Option (Nat×Bool)}{t t':TypeId}{x y:Operand}{e:Int},SlOk P t t' α->ev n f x=v->ev n f y=I e->e=h->K u W->Stp P n ⟨d,.slice t x none (some y) none,ty,pos,af,gd⟩ f W Q K:=by
 obtain⟨ao,cap,fp',rfl,hcap,hs',hf⟩:=hs.part 0 h (Nat.zero_le _) hh;refine⟨sliced ao 0 h cap (Shape.size α),fp',by simpa using hs',fun _ _ _ hv=>by injection hv with a b c;rw[a,c],?_⟩;intro P n f W Q K d ty pos af gd t t' x y e hT hx hy he k;subst he;have hel:P.elem t=t':=by simp[Program.elem,hT.desc]
 have hu:P.underlying t=some (.slice (P.elem t)):=by rw[hel];exact hT.desc
 refine Stp.run (v:=sliced ao 0 h cap (Shape.size α)) ?_ k;simp only[execOp,hx,hy,Sem.run_bind,Option.map_none,Option.map_some];rw[run_sliceAt_slice (h:=hu),run_slice_h (ht:=hu) (h0:=by omega) (h2:=by omega),hel,eT hT.size];simp
theorem slq_l {w:World}{v:Value}{xs:List α}{fp:List Nat}{l:Nat}(hs:Sl w v xs fp) (hh:l<=xs.length):∃u g,Sl w u (xs.drop l) g/\(∀c∈g,c∈fp) /\
  ∀{P:Program}{n:Nat}{f:Nat->Value}{W:World}{Q:Exit->Act->World->Prop}{K:Value->World->Prop}{d:Option Tmp}{ty:TypeId}{pos:String}{af:Array Go.Edge}{gd:Option (Nat×Bool)}{t t':TypeId}{x y:Operand}{e:Int},SlOk P t t' α->ev n f x=v->ev n f y=I e->e=l->K u W->Stp P n ⟨d,.slice t x (some y) none none,ty,pos,af,gd⟩ f W Q K:=by
 obtain⟨ao,cap,fp',rfl,hcap,hs',hf⟩:=hs.part l xs.length hh (Nat.le_refl _);refine⟨sliced ao l xs.length cap (Shape.size α),fp',by simpa using hs',hf,?_⟩;intro P n f W Q K d ty pos af gd t t' x y e hT hx hy he k;subst he;have hel:P.elem t=t':=by simp[Program.elem,hT.desc]
 have hu:P.underlying t=some (.slice (P.elem t)):=by rw[hel];exact hT.desc
 refine Stp.run (v:=sliced ao l xs.length cap (Shape.size α)) ?_ k;simp only[execOp,hx,hy,Sem.run_bind,Option.map_none,Option.map_some];rw[run_sliceAt_slice (h:=hu),run_slice_l (ht:=hu) (h0:=by omega) (h1:=by omega),hel,eT hT.size];simp
end
section
variable {P:Program}{n:Nat}{f:Nat->Value}{W:World}{α:Type}[Shape α] [Agg α]
end
end Go.Proofs.YtpdgdnpajmcaeaaGreat
namespace Go.Proofs.YtpdgdnpajmcaeaaGreat
set_option maxHeartbeats 1000000
set_option maxHeartbeats 2000000
open Go.RowKit Go.Proofs.Tryz List

section
variable {P:Program}{A:Type}{R:A->Prop}
theorem nF {t:TypeId}{α:Type}[Shape α] (h:elK P t=some (Shape.size α)):∃e,SlOk P t e α:=by
 unfold elK at h;split at h
 ·next e hu=>
  obtain⟨j,hj,h⟩:=Option.bind_eq_some_iff.1 h;simp only[Option.some.injEq]at h;exact⟨e,⟨hu,by rw[hj,Option.map_some,h]⟩⟩
 cases h
def cB2 (P:Program) (t:Nat):Bool:=
 match P.underlying t with
 | some .string=>true
 | _=>false
theorem isStr_ok {t:Nat}(h:cB2 P t=true):P.underlying t=some .string:=by
 unfold cB2 at h;split at h
 ·next hu=>exact hu
 cases h
section
variable {n:Nat}{f:Nat->Value}{W:World}{Q:Exit->Act->World->Prop}{K:Value->World->Prop}{d:Option Tmp}{ty:TypeId}{pos:String}{af:Array Go.Edge}{g:Option (Nat×Bool)}
theorem aB4 {x:Operand}{t:TypeId}{ao:Option Addr}{N cap:Nat}(hb:bC9 P t=true) (hx:ev n f x = .slice ao N cap) (k:K (I (N:Int)) W):Stp P n ⟨d,.call { callee := .builtin .len,args := #[x],argTypes := #[t] },ty,pos,af,g⟩ f W Q K:=by
 unfold bC9 at hb;split at hb
 ·next te ht=>
  refine Stp.run (v:=I N) ?_ k;have he:P.elem t=te:=by simp[Program.elem,ht]
  have hu2:P.underlying t=some (.slice (P.elem t)):=by rw[he];exact ht
  simp[execOp,hx,resolve,invoke,builtin,Sem.run_bind,run_len_slice (h:=hu2),goInt]
 cases hb
theorem stp_fld {x:Operand}{t i:Nat}{u v:Value}(hx:ev n f x=u) (hb:(Instr.field t u i).run P W = .ok v W) (k:K v W):Stp P n ⟨d,.field t x i,ty,pos,af,g⟩ f W Q K:=
 Stp.run (v:=v) (by simp[execOp,hx,Sem.run_bind,hb]) k
theorem stp_bld {t:TypeId}{parts:List (Nat×Operand)}{vs:List (Nat×Value)}{v:Value}(hv:parts.map (fun (i,x)=>(i,ev n f x))=vs) (hb:(Instr.build t vs.toArray).run P W = .ok v W) (k:K v W):Stp P n ⟨d,.build t parts.toArray,ty,pos,af,g⟩ f W Q K:=
 Stp.run (v:=v) (by
  have e1:parts.toArray.map (fun (i,x)=>(i,ev n f x))=vs.toArray:=by rw[<- hv];simp
  simp only[execOp,Sem.run_bind,e1,hb];rfl) k
end
def lnT (P:Program) (s:S) (t:TypeId) (c:Sc) (K:SV->Tr):Tr:=
 match c with
 | .rf j h=>opt (rK s j) fun q=>.e0 h q.2.1<|.e0 (bC9 P t) true (K (one (.vl (I (q.2.2.xs.length:Int)))))
 | .lt _ _ n=>.e0 (bC9 P t) true (K (one (.vl (I (n:Int)))))
 | .vl (.slice _ n _)=>.e0 (bC9 P t) true (K (one (.vl (I (n:Int)))))
 | .vl (.string a)=>.e0 (cB2 P t) true (K (one (.vl (I (a.size:Int)))))
 | _=>.no
theorem lnT_ok {G:Prop}{lk:Operand->Option SV}{w0 W:World}{s:S}{x:Operand}{t:TypeId}{c:Sc}{K:SV->Tr}(hx:lk x=some (one c)) (h:(lnT P s t c K).holds) (st:St w0 W s.rs) (fa:Facts w0 W s.B)
  (k:∀v,(K v).holds->QS P lk (.call { callee := .builtin .len,args := #[x],argTypes := #[t] }) w0 W s.rs v->G):G:=by
 unfold lnT at h;split at h
 ·next j hd=>
  refine aD h fun q hq h=>?_
  obtain⟨l,hd',dd⟩:=q;obtain⟨h1,h2,h⟩:=h;simp only at h1;subst h1;obtain⟨fp,hs⟩:=jB hq st fa;obtain⟨ao,cap,e,_⟩:=hs;refine k _ h ?_;intro n f W' Q KK d ty pos af g hl hst hb hk;exact aB4 h2 ((hl _ _ hx).trans e) (hk W' hst (Below.refl _ _))
 ·refine k _ h.2 ?_;intro n f W' Q KK d ty pos af g hl hst hb hk;exact aB4 h.1 (hl _ _ hx) (hk W' hst (Below.refl _ _))
 ·refine k _ h.2 ?_;intro n f W' Q KK d ty pos af g hl hst hb hk;exact aB4 h.1 (hl _ _ hx) (hk W' hst (Below.refl _ _))
 ·refine k _ h.2 ?_;intro n f W' Q KK d ty pos af g hl hst hb hk;exact stp_slen (isStr_ok h.1) (hl _ _ hx) (hk W' hst (Below.refl _ _))
 exact h.elim
def offs (P:Program) (t i:Nat):Option (Nat×Option Nat):=
 match P.underlying t with
 | some (.struct fs)=>(fs[i]?).bind fun fd=>(ldK P fd.type).map fun z=>(fd.offset,z)
 | _=>none
def fldU (P:Program) (t i:Nat) (cs:List Sc):Option SV:=
 (offs P t i).bind fun q=>match q.2 with
  | none=>(cs[q.1]?).map one
  | some z=>some (.on (.ag ((cs.drop q.1).take z)))
def tvC:SV->List Sc
 | .on (.ce c)=>[c]
 | .on (.ag l)=>l
 | .tu _=>[]
def put0:List Sc->Nat->List Sc->List Sc
 | cs,_,[]=>cs
 | [],_,_::_=>[]
 | _::cs,0,v::vs=>v::put0 cs 0 vs
 | c::cs,o+1,vs=>c::put0 cs o vs
def iT (P:Program) (t:Nat):List Sc:=(((P.info? t).bind (·.zero)).map (fun z=>z.cells.toList.map Sc.vl)).getD []
def bldU (P:Program) (t:Nat):List (Nat×SV)->List Sc->List Sc
 | [],cs=>cs
 | (i,v)::ps,cs=>bldU P t ps (match offs P t i with
  | some q=>put0 cs q.1 (tvC v)
  | none=>cs)
def lkp (lk:Operand->Option SV):List (Nat×Operand)->Option (List (Nat×SV))
 | []=>some []
 | (i,x)::ps=>(lk x).bind fun v=>(lkp lk ps).bind fun vs=>some ((i,v)::vs)
theorem aU0 {lk:Operand->Option SV}{n:Nat}{f:Nat->Value}(hl:∀x u,lk x=some u->ev n f x=u.val):∀{ps:List (Nat×Operand)}{vs:List (Nat×SV)},lkp lk ps=some vs->ps.map (fun (i,x)=>(i,ev n f x))=vs.map fun p=>(p.1,p.2.val)
 | [],vs,h=>by simp only[lkp,Option.some.injEq]at h;subst h;rfl
 | (i,x)::ps,vs,h=>by
  simp only[lkp]at h;obtain⟨v,hv,h⟩:=Option.bind_eq_some_iff.1 h;obtain⟨us,hu,h⟩:=Option.bind_eq_some_iff.1 h;simp only[Option.some.injEq]at h;subst h;rw[map_cons,map_cons,aU0 hl hu];simp only[hl x v hv]
def lkv (lk:Operand->Option SV):List Operand->Option (List SV)
 | []=>some []
 | x::xs=>(lk x).bind fun v=>(lkv lk xs).bind fun vs=>some (v::vs)
theorem iF {lk:Operand->Option SV}{n:Nat}{f:Nat->Value}(hl:∀x u,lk x=some u->ev n f x=u.val):∀{xs:List Operand}{vs:List SV},lkv lk xs=some vs->xs.map (ev n f)=vs.map SV.val
 | [],vs,h=>by simp only[lkv,Option.some.injEq]at h;subst h;rfl
 | x::xs,vs,h=>by
  simp only[lkv]at h;obtain⟨v,hv,h⟩:=Option.bind_eq_some_iff.1 h;obtain⟨us,hu,h⟩:=Option.bind_eq_some_iff.1 h;simp only[Option.some.injEq]at h;subst h;rw[map_cons,map_cons,hl x v hv,iF hl hu]
def allv:List Rk->Option (List TV)
 | []=>some []
 | .v x::ks=>(allv ks).map fun l=>.ce (sc x)::l
 | _::_=>none
def svq (ks:List Rk):Option SV:=
 (allv ks).map fun l=>match l with
  | [t]=>.on t
  | l=>.tu l
theorem bS4:∀{ks:List Rk}{l:List TV},allv ks=some l->gds ks/\∀{vs rs},Rks vs ks rs->rs=[]/\vs=l.map TV.val
 | [],l,h=>by
  simp only[allv,Option.some.injEq]at h;subst h;refine⟨trivial,fun {vs rs} hr=>?_⟩;cases vs with
  | nil=>exact⟨hr,rfl⟩
  | cons v vs=>exact hr.elim
 | .v x::ks,l,h=>by
  simp only[allv,Option.map_eq_some_iff]at h;obtain⟨l',h',rfl⟩:=h;obtain⟨h1,h2⟩:=bS4 h';refine⟨h1,fun {vs rs} hr=>?_⟩;cases vs with
  | nil=>exact hr.elim
  | cons v vs=>
   obtain⟨r1,r2,h3,h4,rfl⟩:=hr;obtain⟨rfl,rfl⟩:=h2 h4;obtain⟨rfl,rfl⟩:=h3;exact⟨rfl,by rw[map_cons,TV.val,kW]⟩
 | .own _ _::_,_,h=>by cases h
 | .sl _ _::_,_,h=>by cases h
theorem svq_ok {ks:List Rk}{v:SV}(h:svq ks=some v):gds ks/\∀{vs rs},Rks vs ks rs->rs=[]/\uE vs=v.val:=by
 unfold svq at h;simp only[Option.map_eq_some_iff]at h;obtain⟨l,h1,h2⟩:=h;obtain⟨h3,h4⟩:=bS4 h1;refine⟨h3,fun {vs rs} hr=>?_⟩;obtain⟨rfl,rfl⟩:=h4 hr;refine⟨rfl,?_⟩;split at h2
 ·subst h2;rfl
 next hne=>
 subst h2;clear h1 h4 hr
 match l,hne with
 | [],_=>rfl
 | [t],hne=>exact absurd rfl (hne t)
 | _::_::_,_=>rfl
def clQ (s:S) (lk:Operand->Option SV) (F:FuncId) (xs:List Operand) (d:D P R) (K:SV->D P R->Tr):Tr:=
 nrm d fun d=>match d with
  | .cq (ps:=ps) (rk:=rk) (G:=G) F' (fn:=fn) _ _ _ k=>.e0 F F'<|.e0 ((fn.name == "runtime.NumGoroutine") || fn.body.isNone) false<|opt (lkv lk xs) fun us=>jT s us ps<|grT s G<|opt (svq rk) fun v=>.fp (gds rk) fun hg=>K v (k hg)
  | _=>.no
theorem clQ_ok {G:Prop}{lk:Operand->Option SV}{w0 W:World}{s:S}{F:FuncId}{xs:List Operand}{ats:Array TypeId}{d:D P R}{K:SV->D P R->Tr}(h:(clQ s lk F xs d K).holds) (st:St w0 W s.rs) (fa:Facts w0 W s.B)
  (k:∀v d',(K v d').holds->QS P lk (.call { callee := .value (.func F),args:=xs.toArray,argTypes:=ats }) w0 W s.rs v->G):G:=by
 unfold clQ at h;refine cG h fun d' h=>?_
 split at h
 ·next ps rk G0 F' fn hf hct hg kk=>
  obtain⟨rfl,ho,h⟩:=h;refine aD h fun us hus h=>?_
  obtain⟨_,h'⟩:=fO st fa h hg;obtain⟨hG,h'⟩:=aF8 h' st.below fa;refine aD h' fun v hv h'=>?_
  obtain⟨hgd,hvr⟩:=svq_ok hv;refine k _ _ (h' hgd) ?_;intro n f W' Q KK d ty pos af g hl hst hb hk;obtain⟨hp,_⟩:=fO hst (fa.up hb) h hg;refine gT hf ho (iF hl hus) ((hct.run W' _ (hG.up hb) hp).mono ?_);rintro e W'' ⟨_,vs,rs,_,rfl,hr,hst'⟩;obtain⟨rfl,e⟩:=hvr hr;exact⟨v.val,by rw[e],hk W'' (by simpa using hst.call hst') hst'.below⟩
 exact h.elim
theorem bM3 {α:Type}[Shape α] {w:World}{h:Hd}{xs:List α}{fp:List Nat}{a b:Nat}(hs:Sl w h.val xs fp) (h1:a<=b) (h2:b<=xs.length):h.n=xs.length/\b<=h.cap/\∃g,Sl w (sliced h.ao a b h.cap (Shape.size α)) ((xs.take b).drop a) g/\∀c∈g,c∈fp:=by
 obtain⟨ao,cap,fp',e,hcap,hs',hf⟩:=hs.part a b h1 h2;unfold Hd.val at e
 injection e with e1 e2 e3
 subst e1 e3;exact⟨e2,hcap,fp',hs',hf⟩
theorem bX0 {α:Type}[Shape α] {w:World}{h:Hd}{xs:List α}{fp:List Nat}{a:Nat}(hs:Sl w h.val xs fp) (h1:a<=xs.length):∃g,Sl w (sliced h.ao a h.n h.cap (Shape.size α)) (xs.drop a) g/\∀c∈g,c∈fp:=by
 obtain⟨e,hcap,g,hs',hf⟩:=bM3 hs h1 (Nat.le_refl _);rw[e];exact⟨g,by simpa using hs',hf⟩
theorem stp_sl_l {α:Type}[Shape α] {P:Program}{n:Nat}{f:Nat->Value}{W:World}{Q:Exit->Act->World->Prop}{K:Value->World->Prop}{d:Option Tmp}{ty:TypeId}{pos:String}{af:Array Go.Edge}{gd:Option (Nat×Bool)}{t t':TypeId}{x y:Operand}{h:Hd}{l:Nat}{e:Int}(hT:SlOk P t t' α) (hx:ev n f x=h.val) (hy:ev n f y=I e) (he:e=l) (hl:l<=h.n) (k:K (sliced h.ao l h.n h.cap (Shape.size α)) W):Stp P n ⟨d,.slice t x (some y) none none,ty,pos,af,gd⟩ f W Q K:=by
 subst he;have hel:P.elem t=t':=by simp[Program.elem,hT.desc]
 have hu:P.underlying t=some (.slice (P.elem t)):=by rw[hel];exact hT.desc
 refine Stp.run (v:=sliced h.ao l h.n h.cap (Shape.size α)) ?_ k;simp only[execOp,hx,hy,Sem.run_bind,Option.map_none,Option.map_some,Hd.val];rw[run_sliceAt_slice (h:=hu),run_slice_l (ht:=hu) (h0:=by omega) (h1:=by omega),hel,eT hT.size];simp
theorem stp_sl_lh {α:Type}[Shape α] {P:Program}{n:Nat}{f:Nat->Value}{W:World}{Q:Exit->Act->World->Prop}{K:Value->World->Prop}{d:Option Tmp}{ty:TypeId}{pos:String}{af:Array Go.Edge}{gd:Option (Nat×Bool)}{t t':TypeId}{x y z:Operand}{h:Hd}{a b:Nat}{ea eb:Int}(hT:SlOk P t t' α) (hx:ev n f x=h.val) (hy:ev n f y=I ea) (hz:ev n f z=I eb) (he:ea=a) (he2:eb=b) (h1:a<=b) (h2:b<=h.cap) (k:K (sliced h.ao a b h.cap (Shape.size α)) W):Stp P n ⟨d,.slice t x (some y) (some z) none,ty,pos,af,gd⟩ f W Q K:=by
 subst he he2;have hel:P.elem t=t':=by simp[Program.elem,hT.desc]
 have hu:P.underlying t=some (.slice (P.elem t)):=by rw[hel];exact hT.desc
 refine Stp.run (v:=sliced h.ao a b h.cap (Shape.size α)) ?_ k;simp only[execOp,hx,hy,hz,Sem.run_bind,Option.map_none,Option.map_some,Hd.val];rw[run_sliceAt_slice (h:=hu),run_slice_lh (ht:=hu) (h0:=by omega) (h1:=by omega) (h2:=by omega),hel,eT hT.size];simp
def tdT (P:Program) {A:Type}{R:A->Prop}(s:S) (t:TypeId) (c y z:Sc) (d:D P R) (K:SV->S->D P R->Tr):Tr:=
 nrm d fun d=>match c,d with
  | .rf j h,.td i xs a b _ ea eb _ _ k=>opt (rK s j) fun q=>.e0 h q.2.1<|.e1 q.2.2 ⟨i,xs⟩<|.e0 y.val (I ea)<|.e0 z.val (I eb)<|.e0 (elK P t) (some i.size) <|
    .fn fun g:Hd×List Nat=>K (one (.rf s.nx g.1)) ⟨s.E,s.O,(s.nx,q.1,.sl i g.1 ((xs.take b).drop a) g.2)::s.B,s.nx+1⟩ k
  | _,_=>.no
theorem tdT_ok {G:Prop}{lk:Operand->Option SV}{w0 W:World}{s:S}{x y z:Operand}{t:TypeId}{cx cy cz:Sc}{d:D P R}{K:SV->S->D P R->Tr}(hx:lk x=some (one cx)) (hy:lk y=some (one cy)) (hz:lk z=some (one cz)) (h:(tdT P s t cx cy cz d K).holds) (st:St w0 W s.rs) (fa:Facts w0 W s.B)
  (k:∀v s' d',(K v s' d').holds->s'.E=s.E->s'.O=s.O->Facts w0 W s'.B->(∀w1 W1 rs1,QS P lk (.slice t x (some y) (some z) none) w1 W1 rs1 v)->G):G:=by
 unfold tdT at h;refine cG h fun d' h=>?_
 split at h
 ·next _ j hd α i xs a b hab ea eb hea heb kk _=>
  refine aD h fun q hq h=>?_
  obtain⟨l,hd',dd⟩:=q;obtain⟨h1,h2,h3,h3',h4,h⟩:=h;simp only at h1 h2;subst h1 h2;obtain⟨fp,hs⟩:=jB hq st fa;obtain⟨_,hcap,g,hs',_⟩:=bM3 hs hab.1 hab.2;obtain⟨hd2,e2,_⟩:=hs'.hd;obtain⟨t2,hT⟩:=nF h4;refine k _ _ _ (h (hd2,g)) rfl rfl ?_ ?_
  ·intro e he;rcases mem_cons.1 he with rfl | he
   ·have hs3:=hs';rw[e2]at hs3;exact hs3
   exact fa e he
  intro w1 W1 rs1 n f W' Q KK d ty pos af g hl hst hb hk;refine stp_sl_lh hT (hl _ _ hx) ((hl _ _ hy).trans h3) ((hl _ _ hz).trans h3') hea heb hab.1 hcap ?_;rw[e2];exact hk W' hst (Below.refl _ _)
 exact h.elim
def tkT (P:Program) {A:Type}{R:A->Prop}(s:S) (t:TypeId) (c y:Sc) (d:D P R) (K:SV->S->D P R->Tr):Tr:=
 nrm d fun d=>match c,d with
  | .rf j h,.tk i xs n _ e _ k=>opt (rK s j) fun q=>.e0 h q.2.1<|.e1 q.2.2 ⟨i,xs⟩<|.e0 y.val (I e)<|.e0 (elK P t) (some i.size) <|
    .fn fun g:Hd×List Nat=>K (one (.rf s.nx g.1)) ⟨s.E,s.O,(s.nx,q.1,.sl i g.1 (xs.take n) g.2)::(s.nx+2000000,true,.dv g.1 ⟨h.ao,n,h.cap⟩ 0 i.size)::s.B,s.nx+1⟩ k
  | _,_=>.no
def dpT (P:Program) {A:Type}{R:A->Prop}(s:S) (t:TypeId) (c y:Sc) (d:D P R) (K:SV->S->D P R->Tr):Tr:=
 nrm d fun d=>match c,d with
  | .rf j h,.dp i xs n _ e _ k=>opt (rK s j) fun q=>.e0 h q.2.1<|.e1 q.2.2 ⟨i,xs⟩<|.e0 y.val (I e)<|.e0 (elK P t) (some i.size) <|
    .fn fun g:Hd×List Nat=>K (one (.rf s.nx g.1)) ⟨s.E,s.O,(s.nx,q.1,.sl i g.1 (xs.drop n) g.2)::(s.nx+2000000,true,.dv g.1 h n i.size)::s.B,s.nx+1⟩ k
  | _,_=>.no
theorem tkT_ok {G:Prop}{lk:Operand->Option SV}{w0 W:World}{s:S}{x y:Operand}{t:TypeId}{cx cy:Sc}{d:D P R}{K:SV->S->D P R->Tr}(hx:lk x=some (one cx)) (hy:lk y=some (one cy)) (h:(tkT P s t cx cy d K).holds) (st:St w0 W s.rs) (fa:Facts w0 W s.B)
  (k:∀v s' d',(K v s' d').holds->s'.E=s.E->s'.O=s.O->Facts w0 W s'.B->(∀w1 W1 rs1,QS P lk (.slice t x none (some y) none) w1 W1 rs1 v)->G):G:=by
 unfold tkT at h;refine cG h fun d' h=>?_
 split at h
 ·next _ j hd α i xs m hm e he kk _=>
  refine aD h fun q hq h=>?_
  obtain⟨l,hd',dd⟩:=q;obtain⟨h1,h2,h3,h4,h⟩:=h;simp only at h1 h2;subst h1 h2;obtain⟨fp,hs⟩:=jB hq st fa;obtain⟨u,g,hs',hu,hstep⟩:=slq_h hs hm;obtain⟨hd2,rfl,_⟩:=hs'.hd;obtain⟨e2,hT⟩:=nF h4;refine k _ _ _ (h (hd2,g)) rfl rfl ?_ ?_
  ·intro e he;rcases mem_cons.1 he with rfl | he
   ·exact hs'
   rcases mem_cons.1 he with rfl | he
   ·exact hu _ _ _ rfl
   exact fa e he
  intro w1 W1 rs1 n f W' Q KK d ty pos af g hl hst hb hk;exact hstep hT (hl _ _ hx) ((hl _ _ hy).trans h3) he (hk W' hst (Below.refl _ _))
 exact h.elim
theorem dpT_ok {G:Prop}{lk:Operand->Option SV}{w0 W:World}{s:S}{x y:Operand}{t:TypeId}{cx cy:Sc}{d:D P R}{K:SV->S->D P R->Tr}(hx:lk x=some (one cx)) (hy:lk y=some (one cy)) (h:(dpT P s t cx cy d K).holds) (st:St w0 W s.rs) (fa:Facts w0 W s.B)
  (k:∀v s' d',(K v s' d').holds->s'.E=s.E->s'.O=s.O->Facts w0 W s'.B->(∀w1 W1 rs1,QS P lk (.slice t x (some y) none none) w1 W1 rs1 v)->G):G:=by
 unfold dpT at h;refine cG h fun d' h=>?_
 split at h
 ·next _ j hd α i xs m hm e he kk _=>
  refine aD h fun q hq h=>?_
  obtain⟨l,hd',dd⟩:=q;obtain⟨h1,h2,h3,h4,h⟩:=h;simp only at h1 h2;subst h1 h2;obtain⟨fp,hs⟩:=jB hq st fa;obtain⟨hn,_⟩:=bM3 hs hm (Nat.le_refl _);obtain⟨g,hs',_⟩:=bX0 hs hm;obtain⟨hd2,e2,_⟩:=hs'.hd;obtain⟨t2,hT⟩:=nF h4;refine k _ _ _ (h (hd2,g)) rfl rfl ?_ ?_
  ·intro e he;rcases mem_cons.1 he with rfl | he
   ·have hs3:=hs';rw[e2]at hs3;exact hs3
   rcases mem_cons.1 he with rfl | he
   ·exact e2.symm
   exact fa e he
  intro w1 W1 rs1 n f W' Q KK d ty pos af g hl hst hb hk;refine stp_sl_l hT (hl _ _ hx) ((hl _ _ hy).trans h3) he (by rw[hn];exact hm) ?_;rw[e2];exact hk W' hst (Below.refl _ _)
 exact h.elim
theorem stp_sl_hm {α:Type}[Shape α] {P:Program}{n:Nat}{f:Nat->Value}{W:World}{Q:Exit->Act->World->Prop}{K:Value->World->Prop}{d:Option Tmp}{ty:TypeId}{pos:String}{af:Array Go.Edge}{gd:Option (Nat×Bool)}{t t':TypeId}{x y z:Operand}{h:Hd}{b:Nat}{eb:Int}(hT:SlOk P t t' α) (hx:ev n f x=h.val) (hy:ev n f y=I eb) (hz:ev n f z=I eb) (he2:eb=b) (h2:b<=h.cap) (k:K (sliced h.ao 0 b b (Shape.size α)) W):Stp P n ⟨d,.slice t x none (some y) (some z),ty,pos,af,gd⟩ f W Q K:=by
 subst he2;have hel:P.elem t=t':=by simp[Program.elem,hT.desc]
 have hu:P.underlying t=some (.slice (P.elem t)):=by rw[hel];exact hT.desc
 refine Stp.run (v:=sliced h.ao 0 b b (Shape.size α)) ?_ k;simp only[execOp,hx,hy,hz,Sem.run_bind,Option.map_none,Option.map_some,Hd.val];rw[run_sliceAt_slice (h:=hu),run_slice_hm (ht:=hu) (h0:=by omega) (h2:=by omega) (h3:=by omega),hel,eT hT.size];simp
theorem wD (ao:Option Addr) (h c s:Nat):sliced ao 0 h c s = .slice ao h c:=by
 cases ao with
 | none=>simp[sliced]
 | some a=>by_cases hc:c=0<;>simp[sliced,hc,Addr.add]
def tmT (P:Program) {A:Type}{R:A->Prop}(s:S) (t:TypeId) (c y z:Sc) (d:D P R) (K:SV->S->D P R->Tr):Tr:=
 nrm d fun d=>match c,d with
  | .rf j h,.tk i xs n _ e _ k=>opt (rK s j) fun q=>.e0 h q.2.1<|.e1 q.2.2 ⟨i,xs⟩<|.e0 y.val (I e)<|.e0 z.val (I e)<|.e0 (elK P t) (some i.size) <|
    .fn fun g:Hd×List Nat=>K (one (.rf s.nx g.1)) ⟨s.E,s.O,(s.nx,q.1,.sl i g.1 (xs.take n) g.2)::(s.nx+2000000,true,.dv g.1 ⟨h.ao,n,n⟩ 0 i.size)::s.B,s.nx+1⟩ k
  | _,_=>.no
theorem tmT_ok {G:Prop}{lk:Operand->Option SV}{w0 W:World}{s:S}{x y z:Operand}{t:TypeId}{cx cy cz:Sc}{d:D P R}{K:SV->S->D P R->Tr}(hx:lk x=some (one cx)) (hy:lk y=some (one cy)) (hz:lk z=some (one cz)) (h:(tmT P s t cx cy cz d K).holds) (st:St w0 W s.rs) (fa:Facts w0 W s.B)
  (k:∀v s' d',(K v s' d').holds->s'.E=s.E->s'.O=s.O->Facts w0 W s'.B->(∀w1 W1 rs1,QS P lk (.slice t x none (some y) (some z)) w1 W1 rs1 v)->G):G:=by
 unfold tmT at h;refine cG h fun d' h=>?_
 split at h
 ·next _ j hd α i xs m hm e he kk _=>
  refine aD h fun q hq h=>?_
  obtain⟨l,hd',dd⟩:=q;obtain⟨h1,h2,h3,h3',h4,h⟩:=h;simp only at h1 h2;subst h1 h2;obtain⟨fp,hs⟩:=jB hq st fa;obtain⟨_,hcap,g,hs',_⟩:=bM3 hs (Nat.zero_le m) hm;have hs2 : @Sl α i (cond l w0 W) (Hd.val ⟨hd.ao,m,m⟩) (xs.take m) g:=by
   obtain⟨ao,cap,e1,q1,q2,q3⟩:=hs';rw[wD]at e1;simp only[Value.slice.injEq]at e1;obtain⟨e1,e2,e3⟩:=e1;rw[drop_zero]at q3 q1 e2;exact⟨ao,m,by unfold Hd.val;rw[e1,<- e2],by omega,by omega,q3⟩
  obtain⟨t2,hT⟩:=nF h4;refine k _ _ _ (h (⟨hd.ao,m,m⟩,g)) rfl rfl ?_ ?_
  ·intro e he;rcases mem_cons.1 he with rfl | he
   ·exact hs2
   rcases mem_cons.1 he with rfl | he
   ·exact(wD _ _ _ _).symm
   exact fa e he
  intro w1 W1 rs1 n f W' Q KK d ty pos af g hl hst hb hk;refine stp_sl_hm hT (hl _ _ hx) ((hl _ _ hy).trans h3) ((hl _ _ hz).trans h3') he hcap ?_;rw[wD];exact hk W' hst (Below.refl _ _)
 exact h.elim
def lko (lk:Operand->Option SV) (o:Option Operand):Option (Option SV):=
 match o with
 | none=>some none
 | some x=>(lk x).map some
theorem cA7 {lk:Operand->Option SV}{n:Nat}{f:Nat->Value}(hl:∀x u,lk x=some u->ev n f x=u.val) {o:Option Operand}{v:Option SV}(h:lko lk o=some v):o.map (ev n f)=v.map SV.val:=by
 cases o with
 | none=>simp only[lko,Option.some.injEq]at h;subst h;rfl
 | some x=>
  simp only[lko,Option.map_eq_some_iff]at h;obtain⟨u,hu,rfl⟩:=h;simp[hl x u hu]
def elT0 (P:Program) (t:Nat):Nat:=
 match P.underlying t with
 | some (.slice e)=>e
 | _=>0
def isStrC:Sc->Bool
 | .vl (.string _)=>true
 | _=>false
def slT4 (P:Program) {A:Type}{R:A->Prop}(lk:Operand->Option SV) (s:S) (t:TypeId) (x:Operand) (lo hi mx:Option Operand) (d:D P R) (K:SV->S->D P R->Tr):Tr:=
 opt (lk x) fun v=>asC v fun cx=>match isStrC cx with
  | true=>match mx with
   | none=>opt (lko lk lo) fun l=>opt (lko lk hi) fun h=>nrm d fun d=>match d with
    | .pl (t:=a) (x:=x) (lo:=l') (hi:=h') (z:=z) _ k=>.e0 t a<|.e0 cx.val x<|.e0 (l.map SV.val) l'<|.e0 (h.map SV.val) h'<|K (one (sc z)) s k
    | _=>.no
   | some _=>.no
  | false=>match lo,hi,mx with
   | none,some y,none=>opt (lk y) fun v=>asC v fun cy=>tkT P s t cx cy d K
   | some y,none,none=>opt (lk y) fun v=>asC v fun cy=>dpT P s t cx cy d K
   | some y,some z,none=>opt (lk y) fun v=>asC v fun cy=>opt (lk z) fun v=>asC v fun cz=>tdT P s t cx cy cz d K
   | none,some y,some z=>opt (lk y) fun v=>asC v fun cy=>opt (lk z) fun v=>asC v fun cz=>tmT P s t cx cy cz d K
   | _,_,_=>.no
theorem bM4 {G:Prop}{lk:Operand->Option SV}{w0 W:World}{s:S}{x:Operand}{lo hi mx:Option Operand}{t:TypeId}{d:D P R}{K:SV->S->D P R->Tr}(h:(slT4 P lk s t x lo hi mx d K).holds) (st:St w0 W s.rs) (fa:Facts w0 W s.B)
  (k:∀v s' d',(K v s' d').holds->s'.E=s.E->s'.O=s.O->Facts w0 W s'.B->(∀w1 W1 rs1,QS P lk (.slice t x lo hi mx) w1 W1 rs1 v)->G):G:=by
 unfold slT4 at h;refine aD h fun v hv h1=>bT h1 fun cx hc h2=>?_
 subst hc;split at h2
 ·split at h2
  ·refine aD h2 fun l hl h3=>aD h3 fun u hu h4=>cG h4 fun d' h5=>?_
   split at h5
   ·next hL kk=>
    obtain⟨rfl,e1,e2,e3,h6⟩:=h5;refine k _ _ _ h6 rfl rfl fa ?_;intro w1 W1 rs1 n f W' Q KK d ty pos af g hlk hst hb hk;have hk2:=hk W' hst (Below.refl _ _);rw[show ∀z:Value,(one (sc z)).val=z from fun z=>kW z]at hk2;exact hL ((hlk _ _ hv).trans e1) ((cA7 hlk hl).trans e2) ((cA7 hlk hu).trans e3) hk2
   exact h5.elim
  exact h2.elim
 split at h2
 ·refine aD h2 fun u hu h3=>bT h3 fun cy hy h4=>?_
  subst hy;exact tkT_ok hv hu h4 st fa k
 ·refine aD h2 fun u hu h3=>bT h3 fun cy hy h4=>?_
  subst hy;exact dpT_ok hv hu h4 st fa k
 ·refine aD h2 fun u hu h3=>bT h3 fun cy hy h4=>aD h4 fun u2 hu2 h5=>bT h5 fun cz hz h6=>?_
  subst hy hz;exact tdT_ok hv hu hu2 h6 st fa k
 ·refine aD h2 fun u hu h3=>bT h3 fun cy hy h4=>aD h4 fun u2 hu2 h5=>bT h5 fun cz hz h6=>?_
  subst hy hz;exact tmT_ok hv hu hu2 h6 st fa k
 exact h2.elim
def biT (P:Program) {A:Type}{R:A->Prop}(lk:Operand->Option SV) (b:BinOp) (t:TypeId) (x y:Operand) (d:D P R) (K:SV->D P R->Tr):Tr:=
 opt (lk x) fun vx=>opt (lk y) fun vy=>match vx,vy with
  | .on (.ce cx),.on (.ce cy)=>nrm d fun d=>match d with
   | .pb b' (x:=x) (y:=y) (z:=z) _ k=>.e0 b b'<|.e0 cx.val x<|.e0 cy.val y<|K (one (sc z)) k
   | .pn t0 x r _ k=>match b,y with
    | .neq,.const .nilIface=>.e0 t t0<|.e0 cx.val x<|K (one (.bo r)) k
    | _,_=>.no
   | d=>boT P b t cx cy d K
  | .on (.ag cs),.on (.ag ds)=>nrm d fun d=>match b,d with
   | .eql,.qe (cs:=cs') (ds:=ds') (t:=t') (b:=r) _ _ k=>.e0 t t'<|.e0 (cs.map Sc.val) cs'<|.e0 (ds.map Sc.val) ds'<|K (one (.bo r)) k
   | .neq,.qe (cs:=cs') (ds:=ds') (t:=t') (b:=r) _ _ k=>.e0 t t'<|.e0 (cs.map Sc.val) cs'<|.e0 (ds.map Sc.val) ds'<|K (one (.bo (!r))) k
   | _,_=>.no
  | _,_=>.no
theorem cE3 {G:Prop}{lk:Operand->Option SV}{b:BinOp}{t t':TypeId}{x y:Operand}{d:D P R}{K:SV->D P R->Tr}(h:(biT P lk b t x y d K).holds)
  (k:∀v d',(K v d').holds->(∀w1 W1 rs1,QS P lk (.binOp b t x y t') w1 W1 rs1 v)->G):G:=by
 unfold biT at h;refine aD h fun v hv h=>aD h fun v2 hv2 h=>?_
 split at h
 ·refine cG h fun d1 h1=>?_
  split at h1
  ·obtain⟨rfl,e1,e2,h6⟩:=h1;refine k _ _ h6 ?_;intro w1 W1 rs1 n f W' Q KK d ty pos af g hl hst hb hk;refine(by assumption:BOk P _ _ _ _) ((hl _ _ hv).trans e1) ((hl _ _ hv2).trans e2) ?_;have:=hk W' hst (Below.refl _ _)
   rwa [show (one (sc _)).val=_ from kW _]at this
  ·next t0 x0 r0 hN kk=>
   split at h1
   ·obtain⟨rfl,e1,h6⟩:=h1;refine k _ _ h6 ?_;intro w1 W1 rs1 n f W' Q KK d ty pos af g hl hst hb hk;exact hN ((hl _ _ hv).trans e1) (hk W' hst (Below.refl _ _))
   exact h1.elim
  exact boT_ok hv hv2 h1 k
 ·refine cG h fun d' h=>?_
  split at h
  ·obtain⟨rfl,rfl,rfl,h⟩:=h;refine k _ _ h ?_;intro w1 W1 rs1 n f W' Q KK d ty pos af g hl hst hb hk;exact stp_aeql (by assumption) (by assumption) (hl _ _ hv) (hl _ _ hv2) (hk W' hst (Below.refl _ _))
  ·obtain⟨rfl,rfl,rfl,h⟩:=h;refine k _ _ h ?_;intro w1 W1 rs1 n f W' Q KK d ty pos af g hl hst hb hk;exact stp_aneq (by assumption) (by assumption) (hl _ _ hv) (hl _ _ hv2) (hk W' hst (Below.refl _ _))
  exact h.elim
 exact h.elim
def bN4:List SV->Option (List (Nat×Nat×Nat×Nat))
 | []=>some []
 | .on (.ce (.pt j b k o))::us=>(bN4 us).map fun l=>(j,b,k,o)::l
 | _=>none
theorem aZ6:∀{us:List SV}{l:List (Nat×Nat×Nat×Nat)},bN4 us=some l->us.map SV.val=l.map fun p=>.pointer (some ⟨p.2.1,p.2.2.1+p.2.2.2,none⟩)
 | [],l,h=>by cases h;rfl
 | u::us,l,h=>by
  unfold bN4 at h;split at h
  ·next h0=>cases h0
  ·next j b k o us' heq=>
   cases heq;obtain⟨l',hl',rfl⟩:=Option.map_eq_some_iff.1 h;rw[map_cons,aZ6 hl',map_cons];rfl
  ·cases h
def qop (P:Program) {A:Type}{R:A->Prop}(lk:Operand->Option SV) (s:S) (o:Op) (d:D P R) (K:SV->S->D P R->Tr):Tr:=
 match o with
 | .move x=>opt (lk x) fun v=>K v s d
 | .assign x=>opt (lk x) fun v=>K v s d
 | .pick c a b=>opt (lk c) fun vc=>asC vc fun c=>bl c d fun r d=>opt (lk (cond r a b)) fun v=>K v s d
 | .nilCheck x=>opt (lk x) fun v=>asC v fun c=>match c with
  | .pt j b k o=>K (one (.pt j b k o)) s d
  | _=>.no
 | .fieldAddr t x i=>opt (lk x) fun v=>asC v fun c=>match c with
  | .pt j b k o=>opt (fOff P t i) fun off=>K (one (.pt j b k (o+off))) s d
  | _=>.no
 | .load t x=>opt (lk x) fun v=>asC v fun c=>ldT P s t c fun v=>K v s d
 | .indexAddr t x y=>opt (lk x) fun v=>asC v fun cx=>opt (lk y) fun v=>asC v fun cy=>ixT P s t cx cy d K
 | .binOp b t x y _=>biT P lk b t x y d fun v d=>K v s d
 | .unOp .not _ x=>opt (lk x) fun v=>asC v fun c=>match c with
  | .vl (.bool b)=>K (one (.vl (.bool (!b)))) s d
  | .bo e=>K (one (.bo (!e))) s d
  | _=>.no
 | .unOp u _ x=>opt (lk x) fun v=>asC v fun c=>nrm d fun d=>match d with
  | .pu u' (x:=x) (z:=z) _ k=>.e0 u u'<|.e0 c.val x<|K (one (sc z)) s k
  | _=>.no
 | .convert t t' x=>opt (lk x) fun v=>asC v fun c=>nrm d fun d=>match d with
  | .pc (t:=a) (t':=b) (x:=x) (z:=z) _ k=>.e0 t a<|.e0 t' b<|.e0 c.val x<|K (one (sc z)) s k
  | .so bs k=>match c with
   | .rf j h=>opt (rK s j) fun q=>.e0 h q.2.1<|.e1 q.2.2 ⟨inferInstance,bs⟩<|.e0 (P.underlying t) (some (.slice (elT0 P t)))<|.e0 (P.underlying (elT0 P t)) (some (.int .u8))<|.e0 (P.underlying t') (some .string)<|K (one (.vl (.string ⟨bs.toArray⟩))) s k
   | _=>.no
  | _=>.no
 | .index t x y=>opt (lk x) fun v=>asC v fun cx=>opt (lk y) fun v=>asC v fun cy=>nrm d fun d=>match d with
  | .px (t:=a) (x:=x) (y:=y) (z:=z) _ k=>.e0 t a<|.e0 cx.val x<|.e0 cy.val y<|K (one (sc z)) s k
  | _=>.no
 | .extract x i=>opt (lk x) fun v=>match v with
  | .tu l=>opt (l[i]?) fun t=>K (.on t) s d
  | _=>.no
 | .field t x i=>opt (lk x) fun v=>match v with
  | .on (.ag cs)=>opt (fldU P t i cs) fun u=>.e0 (fun W=>(Instr.field t (.agg (cs.map Sc.val).toArray) i).run P W) (fun W=>.ok u.val W) (K u s d)
  | _=>.no
 | .build t ps=>opt (lkp lk ps.toList) fun vs=>.e0 (fun W=>(Instr.build t (vs.map fun p=>(p.1,p.2.val)).toArray).run P W) (fun W=>.ok (TV.ag (bldU P t vs (iT P t))).val W) (K (.on (.ag (bldU P t vs (iT P t)))) s d)
 | .slice t x lo hi mx=>slT4 P lk s t x lo hi mx d K
 | .call ⟨.builtin .len,xs,ts⟩=>match xs.toList,ts.toList with
  | [x],[t]=>opt (lk x) fun v=>asC v fun c=>lnT P s t c fun v=>K v s d
  | _,_=>.no
 | .call ⟨.builtin .min,xs,ts⟩=>match xs.toList with
  | [x,y]=>opt (lk x) fun v=>asC v fun cx=>opt (lk y) fun v=>asC v fun cy=>match cx,cy with
   | .vl (.int .i64 a),.vl (.int .i64 c)=>K (one (.vl (I (min a c)))) s d
   | _,_=>.no
  | _=>.no
 | .call ⟨.builtin .max,xs,ts⟩=>match xs.toList with
  | [x,y]=>opt (lk x) fun v=>asC v fun cx=>opt (lk y) fun v=>asC v fun cy=>match cx,cy with
   | .vl (.int .i64 a),.vl (.int .i64 c)=>K (one (.vl (I (max a c)))) s d
   | _,_=>.no
  | _=>.no
 | .call ⟨.value (.func F),xs,_⟩=>clQ s lk F xs.toList d fun v d=>K v s d
 | .makeFunc (.func F) fs cs=>match fs.toList with
  | []=>opt (lkv lk cs.toList) fun us=>opt (bN4 us) fun l=>K (one (.fn F l)) s d
  | _=>.no
 | _=>.no
theorem aD2 {G:Prop}{lk:Operand->Option SV}{w0 W:World}{s:S}{o:Op}{d:D P R}{K:SV->S->D P R->Tr}(h:(qop P lk s o d K).holds) (st:St w0 W s.rs) (fa:Facts w0 W s.B)
  (k:∀v s' d',(K v s' d').holds->s'.E=s.E->s'.O=s.O->Facts w0 W s'.B->QS P lk o w0 W s.rs v->G):G:=by
 unfold qop at h;split at h
 ·refine aD h fun v hv h=>k _ _ _ h rfl rfl fa ?_
  intro n f W' Q KK d ty pos af g hl hst hb hk;exact bY (hl _ _ hv) (hk W' hst (Below.refl _ _))
 ·refine aD h fun v hv h=>k _ _ _ h rfl rfl fa ?_
  intro n f W' Q KK d ty pos af g hl hst hb hk;exact cC (hl _ _ hv) (hk W' hst (Below.refl _ _))
 ·refine aD h fun v hv h'=>bT h' fun c hc h=>bR9 h fun r d' hr h=>aD h fun u hu h=>k _ _ _ h rfl rfl fa ?_
  subst hc;intro n f W' Q KK d ty pos af g hl hst hb hk;cases r with
  | true=>exact sN ((hl _ _ hv).trans hr) (hl _ _ hu) (hk W' hst (Below.refl _ _))
  | false=>exact sO ((hl _ _ hv).trans hr) (hl _ _ hu) (hk W' hst (Below.refl _ _))
 ·refine aD h fun v hv h'=>bT h' fun c hc h=>?_
  subst hc;split at h
  ·refine k _ _ _ h rfl rfl fa ?_;intro n f W' Q KK d ty pos af g hl hst hb hk;exact tY (hl _ _ hv) (hk W' hst (Below.refl _ _))
  exact h.elim
 ·refine aD h fun v hv h'=>bT h' fun c hc h=>?_
  subst hc;split at h
  ·refine aD h fun off ho h=>k _ _ _ h rfl rfl fa ?_
   intro n f W' Q KK d ty pos af g hl hst hb hk;refine eV (bQ8 ho) (hl _ _ hv) ?_;have:=hk W' hst (Below.refl _ _);simp only[SV.val,TV.val,Sc.val,<- Nat.add_assoc]at this;exact this
  exact h.elim
 ·refine aD h fun v hv h'=>bT h' fun c hc h=>?_
  subst hc;exact ldT_ok hv h fa fun v h q=>k _ _ _ h rfl rfl fa q
 ·refine aD h fun v hv h'=>bT h' fun c hc h=>aD h fun v2 hv2 h''=>bT h'' fun c2 hc2 h=>?_
  subst hc hc2;exact cB0 hv hv2 h st fa fun v s' d' a b c e q=>k v s' d' a b c e (q _ _ _)
 ·exact cE3 h fun v d h q=>k v s d h rfl rfl fa (q _ _ _)
 ·refine aD h fun v hv h'=>bT h' fun c hc h=>?_
  subst hc;split at h
  ·refine k _ _ _ h rfl rfl fa ?_;intro n f W' Q KK d ty pos af g hl hst hb hk;exact zB (hl _ _ hv) (hk W' hst (Below.refl _ _))
  ·refine k _ _ _ h rfl rfl fa ?_;intro n f W' Q KK d ty pos af g hl hst hb hk;exact zB (hl _ _ hv) (hk W' hst (Below.refl _ _))
  exact h.elim
 ·refine aD h fun v hv h'=>bT h' fun c hc h=>cG h fun d1 h1=>?_
  subst hc;split at h1
  ·obtain⟨rfl,e1,h6⟩:=h1;refine k _ _ _ h6 rfl rfl fa ?_;intro n f W' Q KK d ty pos af g hl hst hb hk;refine(by assumption:UOk P _ _ _) ((hl _ _ hv).trans e1) ?_;have:=hk W' hst (Below.refl _ _)
   rwa [show (one (sc _)).val=_ from kW _]at this
  exact h1.elim
 ·refine aD h fun v hv h'=>bT h' fun c hc h=>cG h fun d1 h1=>?_
  subst hc;split at h1
  ·obtain⟨rfl,rfl,e1,h6⟩:=h1;refine k _ _ _ h6 rfl rfl fa ?_;intro n f W' Q KK d ty pos af g hl hst hb hk;refine(by assumption:COk P _ _ _ _) ((hl _ _ hv).trans e1) ?_;have:=hk W' hst (Below.refl _ _)
   rwa [show (one (sc _)).val=_ from kW _]at this
  ·split at h1
   ·refine aD h1 fun q hq h2=>?_
    obtain⟨l,hd',dd⟩:=q;obtain⟨e1,e2,e3,e4,e5,h6⟩:=h2;simp only at e1 e2;subst e1 e2;refine k _ _ _ h6 rfl rfl fa ?_;intro n f W' Q KK d ty pos af g hl hst hb hk;obtain⟨fp,hs⟩:=jB hq hst (fa.up hb);cases l with
    | true=>exact aL2 e3 e4 e5 (hl _ _ hv) (Sl.below hs hst.below) (Below.refl _ _) (hk W' hst (Below.refl _ _))
    | false=>exact aL2 e3 e4 e5 (hl _ _ hv) hs (Below.refl _ _) (hk W' hst (Below.refl _ _))
   exact h1.elim
  exact h1.elim
 ·refine aD h fun v hv h'=>bT h' fun c hc h=>aD h fun v2 hv2 h''=>bT h'' fun c2 hc2 h=>cG h fun d1 h1=>?_
  subst hc hc2;split at h1
  ·obtain⟨rfl,e1,e2,h6⟩:=h1;refine k _ _ _ h6 rfl rfl fa ?_;intro n f W' Q KK d ty pos af g hl hst hb hk;refine(by assumption:XOk P _ _ _ _) ((hl _ _ hv).trans e1) ((hl _ _ hv2).trans e2) ?_;have:=hk W' hst (Below.refl _ _)
   rwa [show (one (sc _)).val=_ from kW _]at this
  exact h1.elim
 ·refine aD h fun v hv h=>?_
  split at h
  ·next l=>
   refine aD h fun t ht h=>k _ _ _ h rfl rfl fa ?_
   intro n f W' Q KK d ty pos af g hl hst hb hk;exact xP (hl _ _ hv) (v:=t.val) (by simp[ht]) (hk W' hst (Below.refl _ _))
  exact h.elim
 ·refine aD h fun v hv h=>?_
  split at h
  ·refine aD h fun u hu h=>k _ _ _ h.2 rfl rfl fa ?_
   intro n f W' Q KK d ty pos af g hl hst hb hk;exact stp_fld (hl _ _ hv) (congrFun h.1 W') (hk W' hst (Below.refl _ _))
  exact h.elim
 ·next t ps=>
  refine aD h fun vs hvs h=>k _ _ _ h.2 rfl rfl fa ?_
  intro n f W' Q KK d ty pos af g hl hst hb hk;have:=stp_bld (P:=P) (t:=t) (d:=d) (ty:=ty) (pos:=pos) (af:=af) (g:=g) (Q:=Q) (K:=KK) (aU0 hl hvs) (congrFun h.1 W') (hk W' hst (Below.refl _ _));simpa using this
 ·exact bM4 h st fa fun v s' d' a b c e q=>k v s' d' a b c e (q _ _ _)
 ·next xs ts=>
  split at h
  ·next x t e1 e2=>
   have e1:xs = #[x]:=by rw[<- Array.toArray_toList (xs:=xs),e1]
   have e2:ts = #[t]:=by rw[<- Array.toArray_toList (xs:=ts),e2]
   subst e1 e2;refine aD h fun v hv h'=>bT h' fun c hc h=>?_
   subst hc;exact lnT_ok hv h st fa fun v h q=>k _ _ _ h rfl rfl fa q
  exact h.elim
 ·next xs ts=>
  split at h
  ·next x y e1=>
   have e1:xs = #[x,y]:=by rw[<- Array.toArray_toList (xs:=xs),e1]
   subst e1;refine aD h fun v hv h'=>bT h' fun c hc h=>aD h fun v2 hv2 h''=>bT h'' fun c2 hc2 h=>?_
   subst hc hc2;split at h
   ·refine k _ _ _ h rfl rfl fa ?_;intro n f W' Q KK d ty pos af g hl hst hb hk;exact bL8 (hl _ _ hv) (hl _ _ hv2) (hk W' hst (Below.refl _ _))
   exact h.elim
  exact h.elim
 ·next xs ts=>
  split at h
  ·next x y e1=>
   have e1:xs = #[x,y]:=by rw[<- Array.toArray_toList (xs:=xs),e1]
   subst e1;refine aD h fun v hv h'=>bT h' fun c hc h=>aD h fun v2 hv2 h''=>bT h'' fun c2 hc2 h=>?_
   subst hc hc2;split at h
   ·refine k _ _ _ h rfl rfl fa ?_;intro n f W' Q KK d ty pos af g hl hst hb hk;exact stp_max (hl _ _ hv) (hl _ _ hv2) (hk W' hst (Below.refl _ _))
   exact h.elim
  exact h.elim
 ·next F xs ts=>
  refine clQ_ok (ats:=ts) h st fa fun v d h q=>k _ _ _ h rfl rfl fa ?_
  intro n f W' Q KK d ty pos af g hl hst hb hk;have:=q (n:=n) (f:=f) (W':=W') (Q:=Q) (KK:=KK) (d:=d) (ty:=ty) (pos:=pos) (af:=af) (g:=g) hl hst hb hk;simpa using this
 ·next F fs cs=>
  split at h
  ·next e1=>
   have e1:fs = #[]:=by rw[<- Array.toArray_toList (xs:=fs),e1]
   subst e1;refine aD h fun us hus h=>aD h fun l hl' h=>k _ _ _ h rfl rfl fa ?_
   intro n f W' Q KK d ty pos af g hl hst hb hk;have e2:=iF hl hus;have:=stp_makeFunc (P:=P) (n:=n) (f:=f) (W:=W') (Q:=Q) (K:=KK) (d:=d) (ty:=ty) (pos:=pos) (af:=af) (g:=g) (fnn := .func F) (first:=[]) (captured:=cs.toList) (fv:=[]) rfl (e2.trans (aZ6 hl')) (hk W' hst (Below.refl _ _));simpa using this
  exact h.elim
 exact h.elim
def cB3:Op->Bool
 | .slice _ _ _ _ _=>true
 | .indexAddr _ _ _=>true
 | .binOp _ _ _ _ _=>true
 | _=>false
theorem aT0 {G:Prop}{lk:Operand->Option SV}{w0 W:World}{s:S}{o:Op}{d:D P R}{K:SV->S->D P R->Tr}(h:(qop P lk s o d K).holds) (st:St w0 W s.rs) (fa:Facts w0 W s.B)
  (k:∀v s' d',(K v s' d').holds->s'.E=s.E->s'.O=s.O->Facts w0 W s'.B->QS P lk o w0 W s.rs v->(cB3 o=true->∀w1 W1 rs1,QS P lk o w1 W1 rs1 v)->G):G:=by
 cases hs:cB3 o with
 | false=>exact aD2 h st fa fun v s' d' a b c e q=>k v s' d' a b c e q (fun z=>by rw[hs]at z;cases z)
 | true=>
  match o,hs,h,k with
  | .slice t x lo hi mx,_,h,k=>
   have h:(slT4 P lk s t x lo hi mx d K).holds:=h;exact bM4 h st fa fun v s' d' a b c e q=>k v s' d' a b c e (q _ _ _) (fun _=>q)
  | .indexAddr t x y,_,h,k=>
   have h:(opt (lk x) fun v=>asC v fun cx=>opt (lk y) fun v=>asC v fun cy=>ixT P s t cx cy d K).holds:=h;refine aD h fun v hv h1=>bT h1 fun cx hc h2=>aD h2 fun u hu h3=>bT h3 fun cy hc2 h4=>?_
   subst hc hc2;exact cB0 hv hu h4 st fa fun v s' d' a b c e q=>k v s' d' a b c e (q _ _ _) (fun _=>q)
  | .binOp b t x y t',_,h,k=>
   have h:(biT P lk b t x y d fun v d=>K v s d).holds:=h;exact cE3 h fun v d h q=>k v s d h rfl rfl fa (q _ _ _) (fun _=>q)
end
end Go.Proofs.YtpdgdnpajmcaeaaGreat
namespace Go.Proofs.YtpdgdnpajmcaeaaGreat
set_option maxHeartbeats 1000000
set_option maxHeartbeats 2000000
open Go.RowKit Go.Proofs.Tryz List

def Or (O:List (Nat×Ob)):List Res:=O.map fun p=>p.2.res
def bB:List (Nat×Ob)->Nat->List (Nat×Ob)
 | [],_=>[]
 | (t,v)::O,x=>cond (Nat.beq x t) O ((t,v)::bB O x)
theorem aP2:∀{O:List (Nat×Ob)}{j:Nat}{o:Ob},lku O j=some o->(o.res::Or (bB O j)).Perm (Or O)
 | [],_,_,h=>by cases h
 | (t,v)::O,x,o,h=>by
  unfold lku at h;unfold bB;cases hb:Nat.beq x t with
  | true=>rw[hb]at h;simp only[cond_true,Option.some.injEq]at h;subst h;exact List.Perm.refl _
  | false=>
   rw[hb]at h;exact(List.Perm.swap _ _ _).trans ((aP2 (O:=O) h).cons _)
theorem St.take {w0 W:World}{O:List (Nat×Ob)}{j:Nat}{o:Ob}{rs:List Res}(h:St w0 W (Or O++rs)) (hj:lku O j=some o):St w0 W (o.res::(Or (bB O j)++rs)):=
 h.perm ((aP2 hj).append_right rs)
theorem St.pc_cs {α:Type}(i:Dsh α) {w0 W:World}{cs:List Value}{x:α}{fp:List Nat}{rs:List Res}(h:St w0 W (Res.pc cs (i.lv x) fp::rs)) (hg:i.good x):St w0 W (@Res.cs α i.toShape cs x fp::rs):=
 h.trade1 rfl (fun h=>⟨i.inn hg h.1,h.2⟩)
theorem St.cs_pc {α:Type}(i:Dsh α) {w0 W:World}{cs:List Value}{x:α}{fp:List Nat}{rs:List Res}(h:St w0 W (@Res.cs α i.toShape cs x fp::rs)):St w0 W (Res.pc cs (i.lv x) fp::rs)/\i.good x:=
 ⟨h.trade1 rfl (fun h=>⟨(i.out h.1).2,h.2⟩),(i.out (h.get 0 rfl).1).1⟩
theorem St.pc_nil {w0 W:World}{rs:List Res}(h:St w0 W rs):St w0 W (Res.pc [] [] []::rs):=
 h.trade (rs1:=[]) (rs2:=[Res.pc [] [] []]) (show ([]:List Nat).Nodup from nodup_nil) (fun b hb=>absurd (show b∈([]:List Nat) from hb) (by simp)) (by intro r hr;simp at hr;subst hr;exact⟨rfl,by simp⟩)
theorem St.pc_v {w0 W:World}{rs:List Res}{cs:List Value}{ls:List Lf}{fp:List Nat}{x:Value}(h:St w0 W (Res.pc cs ls fp::rs)):St w0 W (Res.pc (x::cs) (.v x::ls) fp::rs):=
 h.trade1 rfl (fun h=>⟨⟨rfl,h.1⟩,h.2⟩)
theorem St.pc_n {β:Type}{i:Shape β}{w0 W:World}{rs:List Res}{cs:List Value}{ls:List Lf}{fp:List Nat}(h:St w0 W (Res.pc cs ls fp::rs)):St w0 W (Res.pc (.slice none 0 0::cs) (.s β i []::ls) fp::rs):=
 h.trade1 rfl (fun h=>⟨⟨[],fp,bH9,h.1,rfl⟩,h.2⟩)
theorem St.pc_s {β:Type}{i:Shape β}{w0 W:World}{rs:List Res}{cs:List Value}{ls:List Lf}{fp f1:List Nat}{v:Value}{ys:List β}(h:St w0 W (Res.pc cs ls fp::Res.own v ys f1::rs)):St w0 W (Res.pc (v::cs) (.s β i ys::ls) (f1++fp)::rs):=by
 refine St.trade (rs1:=[Res.pc cs ls fp,Res.own v ys f1]) (rs2:=[Res.pc (v::cs) (.s β i ys::ls) (f1++fp)]) h ?_ ?_ ?_
 ·have hn:=h.nodup;simp only[flatMap_cons]at hn;rw[<- append_assoc,nodup_append]at hn;have h2:(fp++f1).Nodup:=hn.1;simp only[flatMap_cons,flatMap_nil,append_nil];exact(perm_append_comm.nodup_iff).1 h2
 ·intro b hb;simp only[flatMap_cons,flatMap_nil,append_nil,Res.pc,Res.own,mem_append]at hb ⊢;exact hb.symm
 intro r hr;simp only[mem_singleton]at hr;subst hr;have h1:=h.get 0 rfl;have h2:=h.get 1 rfl;refine⟨⟨f1,fp,gQ h2,h1.1,rfl⟩,fun b hb=>?_⟩;rcases mem_append.1 hb with hb | hb
 ·exact h2.2 b hb
 exact h1.2 b hb
theorem St.s_pc {β:Type}{i:Shape β}{w0 W:World}{rs:List Res}{cs:List Value}{ls:List Lf}{fp:List Nat}{v:Value}{ys:List β}(h:St w0 W (Res.pc (v::cs) (.s β i ys::ls) fp::rs)):∃f1 f2,St w0 W (Res.pc cs ls f2::Res.own v ys f1::rs):=by
 obtain⟨⟨f1,f2,h1,h2,rfl⟩,hw⟩:=h.get 0 rfl;refine⟨f1,f2,St.trade (rs1:=[Res.pc (v::cs) (.s β i ys::ls) (f1++f2)]) (rs2:=[Res.pc cs ls f2,Res.own v ys f1]) h ?_ ?_ ?_⟩
 ·have hn:=h.nodup;simp only[flatMap_cons]at hn;rw[nodup_append]at hn;have h3:(f1++f2).Nodup:=hn.1;simp only[flatMap_cons,flatMap_nil,append_nil];exact(perm_append_comm.nodup_iff).1 h3
 ·intro b hb;simp only[flatMap_cons,flatMap_nil,append_nil,Res.pc,Res.own,mem_append]at hb ⊢;exact hb.symm
 intro r hr;rcases mem_cons.1 hr with rfl | hr
 ·exact⟨h2,fun b hb=>hw b (mem_append_right _ hb)⟩
 simp only[mem_singleton]at hr;subst hr;exact⟨h1.v,fun b hb=>hw b (mem_append_left _ hb)⟩
theorem St.v_pc {w0 W:World}{rs:List Res}{cs:List Value}{ls:List Lf}{fp:List Nat}{v x:Value}(h:St w0 W (Res.pc (v::cs) (.v x::ls) fp::rs)):v=x/\St w0 W (Res.pc cs ls fp::rs):=
 ⟨(h.get 0 rfl).1.1,h.trade1 rfl (fun h=>⟨h.1.2,h.2⟩)⟩
theorem St.swap {w0 W:World}{a b:Res}{rs:List Res}(h:St w0 W (a::b::rs)):St w0 W (b::a::rs):=h.perm (List.Perm.swap _ _ _)

section
variable {P:Program}{A:Type}{R:A->Prop}
def iI:List (Nat×Ob)->List Sc->List Lf->(List (Nat×Ob)->Tr)->Tr
 | O,[],[],K=>K O
 | O,c::cs,.v u::ls,K=>.e0 c.val u (iI O cs ls K)
 | O,c::cs,.s _ i ys::ls,K=>match c with
  | .rf j h=>match lku O j with
   | some (.own i' h' xs _)=>.e0 h h' (.e1 (⟨i',xs⟩:Dat) ⟨i,ys⟩ (iI (bB O j) cs ls K))
   | some (.row i' _ h' xs _)=>.e0 h h' (.e1 (⟨i',xs⟩:Dat) ⟨i,ys⟩ (iI (bB O j) cs ls K))
   | _=>.no
  | .vl (.slice none 0 0)=>.e1 (⟨i,[]⟩:Dat) ⟨i,ys⟩ (iI O cs ls K)
  | _=>.no
 | _,_,_,_=>.no
theorem dO {G:Prop}{w0 W:World}:∀{cs:List Sc}{ls:List Lf}{O:List (Nat×Ob)}{K:List (Nat×Ob)->Tr}{rs:List Res},(iI O cs ls K).holds->St w0 W (Or O++rs) ->
  (∀O' fp,(K O').holds->St w0 W (Res.pc (cs.map Sc.val) ls fp::(Or O'++rs))->G)->G
 | [],[],O,K,rs,h,st,k=>k O [] h st.pc_nil
 | c::cs,.v u::ls,O,K,rs,h,st,k=>by
  obtain⟨rfl,h⟩:=h;exact dO h st fun O' fp h' st'=>k O' fp h' st'.pc_v
 | c::cs,.s β i ys::ls,O,K,rs,h,st,k=>by
  unfold iI at h;split at h
  ·next j hd=>
   split at h
   ·next i' h' xs fp hj=>
    obtain⟨rfl,h2,h⟩:=h;simp only[Dat.mk.injEq]at h2;obtain⟨rfl,h2,h3⟩:=h2;obtain⟨rfl,rfl⟩:=And.intro (eq_of_heq h2) (eq_of_heq h3);have st2:St w0 W (Or (bB O j)++(Res.own hd.val xs fp::rs)):=(st.take hj).perm perm_middle;refine dO h st2 fun O' fp' h' st'=>k O' _ h' (St.pc_s (f1:=fp) (fp:=fp') (st'.perm ?_))
    exact(perm_middle.symm).cons _
   ·next i' te h' xs fe hj=>
    obtain⟨rfl,h2,h⟩:=h;simp only[Dat.mk.injEq]at h2;obtain⟨rfl,h2,h3⟩:=h2;obtain⟨rfl,rfl⟩:=And.intro (eq_of_heq h2) (eq_of_heq h3);obtain⟨fp,st1⟩:=St.shut (st.take hj);have st2:St w0 W (Or (bB O j)++(Res.own hd.val xs fp::rs)):=st1.perm perm_middle;refine dO h st2 fun O' fp' h' st'=>k O' _ h' (St.pc_s (f1:=fp) (fp:=fp') (st'.perm ?_))
    exact(perm_middle.symm).cons _
   ·exact h.elim
  ·obtain⟨h2,h⟩:=h;simp only[Dat.mk.injEq,heq_eq_eq,true_and]at h2;subst h2;exact dO h st fun O' fp h' st'=>k O' fp h' st'.pc_n
  ·exact h.elim
 | [],.v _::_,_,_,_,h,_,_=>h.elim
 | [],.s _ _ _::_,_,_,_,h,_,_=>h.elim
 | _::_,[],_,_,_,h,_,_=>h.elim
def yI:List Lf->S->(List Sc->S->Tr)->Tr
 | [],s,K=>K [] s
 | .v x::ls,s,K=>yI ls s fun cs s=>K (sc x::cs) s
 | .s _ i ys::ls,s,K=>.fn fun g:Hd×List Nat=>yI ls ⟨s.E,(s.nx,.own i g.1 ys g.2)::s.O,s.B,s.nx+1⟩ fun cs s'=>K (.rf s.nx g.1::cs) s'
theorem mA {G:Prop}{w0 W:World}{rs:List Res}:∀{ls:List Lf}{s:S}{K:List Sc->S->Tr}{cs:List Value}{fp:List Nat},(yI ls s K).holds->St w0 W (Res.pc cs ls fp::(rs++s.rs)) ->
  (∀scs s',(K scs s').holds->scs.map Sc.val=cs->s'.E=s.E->s'.B=s.B->(∃N,s'.O=N++s.O)->St w0 W (rs++s'.rs)->lns ls->G)->G
 | [],s,K,[],fp,h,st,k=>k [] s h rfl rfl rfl ⟨[],rfl⟩ st.d0 trivial
 | [],s,K,c::cs,fp,h,st,k=>(st.get 0 rfl).1.elim
 | .v x::ls,s,K,[],fp,h,st,k=>(st.get 0 rfl).1.elim
 | .s _ _ _::ls,s,K,[],fp,h,st,k=>(st.get 0 rfl).1.elim
 | .v x::ls,s,K,c::cs,fp,h,st,k=>by
  obtain⟨e0,st2⟩:=st.v_pc;subst e0;refine mA (K:=fun cs s=>K (sc c::cs) s) h st2 fun scs s' h' e1 e2 e3 e4 st' hl=>k _ s' h' ?_ e2 e3 e4 st' hl
  rw[map_cons,kW,e1]
 | .s _ i ys::ls,s,K,c::cs,fp,h,st,k=>by
  obtain⟨f1,f2,st⟩:=st.s_pc;have hs:=gQ (st.get 1 rfl);obtain⟨hd,rfl,hn⟩:=hs.hd;refine mA (K:=fun cs s'=>K (.rf s.nx hd::cs) s') (h (hd,f1)) (rs:=rs) (st.perm ((perm_middle (a:=Res.own hd.val ys f1) (l₁:=rs) (l₂:=s.rs)).cons _)) fun scs s' h' e1 e2 e3 e4 st' hl=>k _ s' h' ?_ e2 e3 (e4.elim fun N hN=>⟨N++[(s.nx,.own i hd ys f1)],by rw[hN];simp⟩) st' ⟨?_,hl⟩
  ·rw[map_cons,e1];rfl
  ·exact hs.len_le
end
end Go.Proofs.YtpdgdnpajmcaeaaGreat
namespace Go.Proofs.YtpdgdnpajmcaeaaGreat
set_option maxHeartbeats 1000000
set_option maxHeartbeats 2000000
open Go.RowKit Go.Proofs.Tryz List

section
variable {P:Program}{A:Type}{R:A->Prop}
def aJ7 {α:Type u}:List α->Nat->List α->List α
 | C,0,[]=>C
 | _::C,0,v::vs=>v::aJ7 C 0 vs
 | c::C,n+1,vs=>c::aJ7 C n vs
 | [],_,_=>[]
theorem uK:∀(C:List Sc) (o:Nat) (vs:List Sc),(aJ7 C o vs).map Sc.val=aK (C.map Sc.val) o (vs.map Sc.val)
 | C,0,[]=>by cases C<;>rfl
 | _::C,0,v::vs=>by
  show v.val::(aJ7 C 0 vs).map Sc.val=v.val::aK (C.map Sc.val) 0 (vs.map Sc.val);rw[uK C 0 vs]
 | c::C,n+1,vs=>by
  show c.val::(aJ7 C n vs).map Sc.val=c.val::aK (C.map Sc.val) n (vs.map Sc.val);rw[uK C n vs]
 | [],0,v::vs=>rfl
 | [],n+1,vs=>rfl
theorem aH9 {w0 W:World}{b:Nat}{zs:List Sc}{t:TypeId}{rs:List Res}(h:St w0 W (Res.bx b (zs.map Sc.val) t::rs)):St w0 W ((Ob.bx b [] zs [] t).res::rs):=by
 simpa [Ob.res] using h
def newB (s:S) (zs:List Sc) (t:TypeId) (b:Nat):S:=⟨s.E,(s.nx,.bx b [] zs [] t)::s.O,s.B,s.nx+1⟩
def alT (P:Program) (s:S) (t:TypeId) (K:SV->S->Tr):Tr:=
 .e0 (((P.info? t).bind (·.zero)).map (·.cells.toList)) (some ((iT P t).map Sc.val)) (.fn fun b:Nat=>K (one (.pt s.nx b 0 0)) (newB s (iT P t) t b))
theorem alT_ok {w0 W:World}{s:S}{t:TypeId}{K:SV->S->Tr}{n:Nat}{f:Nat->Value}{Q:Exit->Act->World->Prop}{KK:Value->World->Prop}{d:Option Tmp}{ty:TypeId}{pos:String}{af:Array Go.Edge}{g:Option (Nat×Bool)}
  (h:(alT P s t K).holds) (st:St w0 W s.rs) (fa:Facts w0 W s.B) (k:∀v s' W',(K v s').holds->s'.E=s.E->(∃N,s'.O=N++s.O)->Below W.heap.size W W'->St w0 W' s'.rs->Facts w0 W' s'.B->KK v.val W'):Stp P n ⟨d,.alloc t,ty,pos,af,g⟩ f W Q KK:=by
 obtain⟨h1,h⟩:=h;exact aL4 h1 st fun b W' hb st'=>k _ _ W' (h b) rfl ⟨[_],rfl⟩ hb (aH9 st') (fa.up hb)
def bxT (s:S) (t:TypeId) (v:SV) (K:SV->S->Tr):Tr:=
 match v with
 | .on (.ce c)=>.e0 c.val.cells #[c.val] (.fn fun b:Nat=>K (one (.pt s.nx b 0 0)) (newB s [c] t b))
 | .on (.ag l)=>.fn fun b:Nat=>K (one (.pt s.nx b 0 0)) (newB s l t b)
 | _=>.no
theorem bxT_ok {w0 W:World}{s:S}{t:TypeId}{x:Operand}{v:SV}{K:SV->S->Tr}{n:Nat}{f:Nat->Value}{Q:Exit->Act->World->Prop}{KK:Value->World->Prop}{d:Option Tmp}{ty:TypeId}{pos:String}{af:Array Go.Edge}{g:Option (Nat×Bool)}
  (hx:ev n f x=v.val) (h:(bxT s t v K).holds) (st:St w0 W s.rs) (fa:Facts w0 W s.B) (k:∀v s' W',(K v s').holds->s'.E=s.E->(∃N,s'.O=N++s.O)->Below W.heap.size W W'->St w0 W' s'.rs->Facts w0 W' s'.B->KK v.val W'):Stp P n ⟨d,.box t x,ty,pos,af,g⟩ f W Q KK:=by
 unfold bxT at h;split at h
 ·obtain⟨h1,h⟩:=h;exact stp_box_one hx h1 st fun b W' hb st'=>k _ _ W' (h b) rfl ⟨[_],rfl⟩ hb (aH9 st') (fa.up hb)
 ·exact xQ hx st fun b W' hb st'=>k _ _ W' (h b) rfl ⟨[_],rfl⟩ hb (aH9 st') (fa.up hb)
 exact h.elim
def bsU (k:Nat):List (Nat×SV)->List Sc->List Sc
 | [],cs=>cs
 | (i,v)::ps,cs=>bsU k ps (aJ7 cs (i*k) (tvC v))
def reps {α:Type u}(l:List α):Nat->List α
 | 0=>[]
 | n+1=>l++reps l n
def elT (P:Program) (t:Nat):Nat:=
 match P.underlying t with
 | some (.slice e)=>e
 | _=>0
def bsT (P:Program) {A:Type}{R:A->Prop}(s:S) (t:TypeId) (len:Nat) (vs:List (Nat×SV)) (d:D P R) (K:SV->S->D P R->Tr):Tr:=
 let cs:=bsU (iT P (elT P t)).length vs (reps (iT P (elT P t)) len)
 .e0 (fun W=>(Instr.buildSlice t len (vs.map fun p=>(p.1,p.2.val)).toArray).run P W) (fun W=>.ok (.slice (some ⟨W.heap.size,0,none⟩) len len) (W.alloc (.cells (cs.map Sc.val).toArray (elT P t)))) <|
  match len with
  | 0=>nrm d fun d=>match d with
   | .em i k=>.e0 (cs.map Sc.val) []<|.fn fun b:Nat=>K (one (.rf s.nx ⟨some ⟨b,0,none⟩,0,0⟩)) ⟨s.E,(s.nx,.row i (elT P t) ⟨some ⟨b,0,none⟩,0,0⟩ [] [])::s.O,s.B,s.nx+1⟩ k
   | _=>.no
  | n+1=>.fn fun b:Nat=>K (one (.lt s.nx b (n+1))) (newB s cs (elT P t) b) d
theorem bsT_ok {w0 W:World}{s:S}{t:TypeId}{len:Nat}{ps:List (Nat×Operand)}{vs:List (Nat×SV)}{dd:D P R}{K:SV->S->D P R->Tr}{n:Nat}{f:Nat->Value}{Q:Exit->Act->World->Prop}{KK:Value->World->Prop}{d:Option Tmp}{ty:TypeId}{pos:String}{af:Array Go.Edge}{g:Option (Nat×Bool)}
  (hx:ps.map (fun (i,x)=>(i,ev n f x))=vs.map fun p=>(p.1,p.2.val)) (h:(bsT P s t len vs dd K).holds) (st:St w0 W s.rs) (fa:Facts w0 W s.B) (k:∀v s' d' W',(K v s' d').holds->s'.E=s.E->(∃N,s'.O=N++s.O)->Below W.heap.size W W'->St w0 W' s'.rs->Facts w0 W' s'.B->KK v.val W'):Stp P n ⟨d,.buildSlice t len ps.toArray,ty,pos,af,g⟩ f W Q KK:=by
 obtain⟨h1,h⟩:=h;cases len with
 | zero=>
  refine cG h fun d' h=>?_
  split at h
  ·next i kk=>
   obtain⟨h2,h⟩:=h;refine fE hx (congrFun h1 W) st fun b W' hb st'=>k _ _ _ W' (h b) rfl ⟨[_],rfl⟩ hb ?_ (fa.up hb)
   rw[h2]at st';exact st'.row_empty
  exact h.elim
 | succ m=>exact fE hx (congrFun h1 W) st fun b W' hb st'=>k _ _ _ W' (h b) rfl ⟨[_],rfl⟩ hb (aH9 st') (fa.up hb)
def mkT (P:Program) (s:S) (t:TypeId) (c cy:Sc) (K:SV->S->Tr):Tr:=
 match c with
 | .vl (.int .i64 (.ofNat m))=>.e0 cy.val c.val<|.e0 (P.underlying t) (some (.slice (elT P t))) <|
   opt ((P.info? (elT P t)).bind fun i=>i.zero.map fun z=>(i.size,i.bytes,z.cells)) fun q=>.e0 (Nat.ble m 67108864) true<|.e0 (Nat.ble (m*q.2.1) 140737488355328) true<|.e0 (madeCells q.2.2 (m*q.1)).toList ((reps (iT P (elT P t)) m).map Sc.val) <|
   .fn fun b:Nat=>K (one (.lt s.nx b m)) (newB s (reps (iT P (elT P t)) m) (elT P t) b)
 | _=>.no
theorem mkT_ok {w0 W:World}{s:S}{t:TypeId}{x y:Operand}{c cy:Sc}{K:SV->S->Tr}{n:Nat}{f:Nat->Value}{Q:Exit->Act->World->Prop}{KK:Value->World->Prop}{d:Option Tmp}{ty:TypeId}{pos:String}{af:Array Go.Edge}{g:Option (Nat×Bool)}
  (hx:ev n f x=c.val) (hy:ev n f y=cy.val) (h:(mkT P s t c cy K).holds) (st:St w0 W s.rs) (fa:Facts w0 W s.B) (k:∀v s' W',(K v s').holds->s'.E=s.E->(∃N,s'.O=N++s.O)->Below W.heap.size W W'->St w0 W' s'.rs->Facts w0 W' s'.B->KK v.val W'):Stp P n ⟨d,.makeSlice t x y,ty,pos,af,g⟩ f W Q KK:=by
 unfold mkT at h;split at h
 ·next m=>
  obtain⟨h1,h2,h⟩:=h;refine aD h fun q hq h=>?_
  obtain⟨h3,h4,h5,h⟩:=h;obtain⟨i,hi,hq⟩:=Option.bind_eq_some_iff.1 hq;obtain⟨z,hz,rfl⟩:=Option.map_eq_some_iff.1 hq;have h3:=Nat.le_of_ble_eq_true h3;have h4:=Nat.le_of_ble_eq_true h4;have hb':(m:Int)*(i.bytes:Int)<=140737488355328:=by have:=Int.ofNat_le.2 h4;rw[Int.natCast_mul]at this;exact this
  have hmk:=run_make (P:=P) W t (elT P t) i z h2 hi hz .i64 .i64 m m aA aA (by rw[Int.mul_comm];omega) aA;rw[Int.toNat_natCast]at hmk;have hx':ev n f x = .int .i64 (m:Int):=hx;have hy':ev n f y = .int .i64 (m:Int):=hy.trans h1;refine Stp.run (v := .slice (some ⟨W.heap.size,0,none⟩) m m) (W':=W.alloc (.cells (madeCells z.cells (m*i.size)) (elT P t))) (by simp only[execOp,hx',hy',Sem.run_bind,hmk,Result.andThen_ok];rfl) ?_;have hst:=st.alloc (madeCells z.cells (m*i.size)).toList (elT P t);rw[Array.toArray_toList]at hst;have h5:(madeCells z.cells (m*i.size)).toList=(reps (iT P (elT P t)) m).map Sc.val:=h5;rw[h5]at hst;have hbl:Below W.heap.size W (W.alloc (.cells (madeCells z.cells (m*i.size)) (elT P t))):=fH (Below.refl _ _);exact k _ _ _ (h W.heap.size) rfl ⟨[_],rfl⟩ hbl (aH9 hst) (fa.up hbl)
 exact h.elim
def stT (P:Program) (s:S) (t:TypeId) (c:Sc) (v:SV) (K:S->Tr):Tr:=
 match c with
 | .pt j b k o=>match lku s.O j with
  | some (.bx b' pre cs post t')=>.e0 b b'<|.e0 k pre.length<|.e0 ((P.info? t).map (·.size)) (some (tvC v).length)<|.e0 (Nat.ble (o+(tvC v).length) cs.length) true<|.e0 ((tvC v).all fun c=>c.val.oneCell') true <|
    match v with
    | .on (.ce u)=>.e0 u.val.cells #[u.val] (K ⟨s.E,(j,.bx b' pre (aJ7 cs o (tvC v)) post t')::bB s.O j,lasting s.B,s.nx⟩)
    | .on (.ag _)=>K ⟨s.E,(j,.bx b' pre (aJ7 cs o (tvC v)) post t')::bB s.O j,lasting s.B,s.nx⟩
    | _=>.no
  | _=>.no
 | _=>.no
theorem stT_ok {w0 W:World}{s:S}{t:TypeId}{x y:Operand}{c:Sc}{v:SV}{K:S->Tr}{n:Nat}{f:Nat->Value}{Q:Exit->Act->World->Prop}{KK:Value->World->Prop}{d:Option Tmp}{ty:TypeId}{pos:String}{af:Array Go.Edge}{g:Option (Nat×Bool)}
  (hx:ev n f x=c.val) (hy:ev n f y=v.val) (h:(stT P s t c v K).holds) (st:St w0 W s.rs) (fa:Facts w0 W s.B) (k:∀s' W',(K s').holds->s'.E=s.E->St w0 W' s'.rs->Facts w0 W' s'.B->KK undef W'):Stp P n ⟨d,.store t x y,ty,pos,af,g⟩ f W Q KK:=by
 unfold stT at h;split at h
 ·split at h
  ·next hj=>
   obtain⟨rfl,rfl,h1,h2,h3,h⟩:=h;have st2:=St.take (rs:=[]) (by simpa [Or,S.rs] using st) hj;simp only[append_nil]at st2;replace h2:=Nat.le_of_ble_eq_true h2;rw[all_eq_true]at h3;split at h
   ·next u=>
    obtain⟨h4,h⟩:=h;have h5:=h3 u (by simp[tvC]);refine tX (i:=_) h1 hx hy h4 h5 st2 rfl (by simpa [tvC] using h2) rfl fun W' st'=>k _ W' h rfl ?_ fa.lasting
    show St w0 W' (Res.bx _ (_++(aJ7 _ _ [u]).map Sc.val++_) _::_);rw[uK];exact st'
   ·next l=>
    refine stp_store_bps (cs:=l.map Sc.val) (i:=_) (by simpa [tvC] using h1) hx hy ?_ st2 rfl (by simpa [tvC] using h2) rfl fun W' st'=>k _ W' h rfl ?_ fa.lasting
    ·intro v hv;obtain⟨c,hc,rfl⟩:=mem_map.1 hv;exact h3 c hc
    show St w0 W' (Res.bx _ (_++(aJ7 _ _ l).map Sc.val++_) _::_);rw[uK];exact st'
   exact h.elim
  exact h.elim
 exact h.elim
def crb:List Lr->S->(List Sc->S->Tr)->Tr
 | [],s,K=>K [] s
 | .v x::ls,s,K=>crb ls s fun cs s=>K (sc x::cs) s
 | .o i xs::ls,s,K=>.fn fun g:Hd×List Nat=>crb ls ⟨s.E,(s.nx,.own i g.1 xs g.2)::s.O,s.B,s.nx+1⟩ fun cs s'=>K (.rf s.nx g.1::cs) s'
 | .r i e xs::ls,s,K=>.fn fun g:Hd×List Nat=>crb ls ⟨s.E,(s.nx,.row i e g.1 xs g.2)::s.O,s.B,s.nx+1⟩ fun cs s'=>K (.rf s.nx g.1::cs) s'
theorem aH3 {G:Prop}{w0 W:World}{rs:List Res}:∀{ls:List Lr}{s:S}{K:List Sc->S->Tr}{cs:List Value}{r:List Res},(crb ls s K).holds->LvR cs ls r->St w0 W (r++(rs++s.rs)) ->
  (∀scs s',(K scs s').holds->scs.map Sc.val=cs->s'.E=s.E->s'.B=s.B->(∃N,s'.O=N++s.O)->St w0 W (rs++s'.rs)->lrs ls->G)->G
 | [],s,K,[],r,h,hr,st,k=>by
  have hr:r=[]:=hr;subst hr;exact k [] s h rfl rfl rfl ⟨[],rfl⟩ st trivial
 | [],s,K,c::cs,r,h,hr,st,k=>hr.elim
 | .v _::_,s,K,[],r,h,hr,st,k=>hr.elim
 | .o _ _::_,s,K,[],r,h,hr,st,k=>hr.elim
 | .r _ _ _::_,s,K,[],r,h,hr,st,k=>hr.elim
 | .v x::ls,s,K,c::cs,r,h,hr,st,k=>by
  obtain⟨e0,hr⟩:=hr;subst e0;refine aH3 (K:=fun cs s=>K (sc c::cs) s) h hr st fun scs s' h' e1 e2 e3 e4 st' hg=>k _ s' h' ?_ e2 e3 e4 st' hg
  rw[map_cons,kW,e1]
 | .o i xs::ls,s,K,c::cs,r,h,hr,st,k=>by
  obtain⟨fp,r2,rfl,hr⟩:=hr;have hs:=gQ (st.get 0 rfl);obtain⟨hd,rfl,hn⟩:=hs.hd;refine aH3 (K:=fun cs s'=>K (.rf s.nx hd::cs) s') (h (hd,fp)) hr ?_ fun scs s' h' e1 e2 e3 e4 st' hg=>k _ s' h' ?_ e2 e3 (e4.elim fun N hN=>⟨N++[(s.nx,.own i hd xs fp)],by rw[hN];simp⟩) st' ⟨hs.len_le,hg⟩
  ·refine st.perm ?_;rw[<- append_assoc,<- append_assoc];exact perm_middle (a:=Res.own hd.val xs fp) (l₁:=r2++rs) (l₂:=s.rs)
  ·rw[map_cons,e1];rfl
 | .r i e xs::ls,s,K,c::cs,r,h,hr,st,k=>by
  obtain⟨fe,r2,rfl,hr⟩:=hr;have hs:=gO (st.get 0 rfl);obtain⟨hd,rfl,hn⟩:=hs.hd;refine aH3 (K:=fun cs s'=>K (.rf s.nx hd::cs) s') (h (hd,fe)) hr ?_ fun scs s' h' e1 e2 e3 e4 st' hg=>k _ s' h' ?_ e2 e3 (e4.elim fun N hN=>⟨N++[(s.nx,.row i e hd xs fe)],by rw[hN];simp⟩) st' ⟨hs.len_le,hg⟩
  ·refine st.perm ?_;rw[<- append_assoc,<- append_assoc];exact perm_middle (a:=Res.row e hd.val xs fe) (l₁:=r2++rs) (l₂:=s.rs)
  ·rw[map_cons,e1];rfl
def rkb:List Rk->S->(List TV->S->Tr)->Tr
 | [],s,K=>K [] s
 | .v x::ks,s,K=>rkb ks s fun ts s=>K (.ce (sc x)::ts) s
 | .sl i xs::ks,s,K=>.fn fun g:Hd×List Nat=>rkb ks ⟨s.E,(s.nx,.own i g.1 xs g.2)::s.O,s.B,s.nx+1⟩ fun ts s'=>K (.ce (.rf s.nx g.1)::ts) s'
 | .rw i e xs::ks,s,K=>.fn fun g:Hd×List Nat=>rkb ks ⟨s.E,(s.nx,.row i e g.1 xs g.2)::s.O,s.B,s.nx+1⟩ fun ts s'=>K (.ce (.rf s.nx g.1)::ts) s'
 | .own i x::ks,s,K=>yI (i.lv x) s fun cs s=>rkb ks s fun ts s=>K (.ag cs::ts) s
 | .cl ls::ks,s,K=>crb ls s fun cs s=>rkb ks s fun ts s=>K (.ag cs::ts) s
theorem jZ {G:Prop}{w0 W:World}:∀{ks:List Rk}{s:S}{K:List TV->S->Tr}{vs:List Value}{rs:List Res},(rkb ks s K).holds->Rks vs ks rs->St w0 W (rs++s.rs) ->
  (∀ts s',(K ts s').holds->ts.map TV.val=vs->s'.E=s.E->s'.B=s.B->(∃N,s'.O=N++s.O)->St w0 W s'.rs->gds ks->G)->G
 | [],s,K,[],rs,h,hr,st,k=>by
  have hr:rs=[]:=hr;subst hr;exact k [] s h rfl rfl rfl ⟨[],rfl⟩ st trivial
 | [],s,K,v::vs,rs,h,hr,st,k=>hr.elim
 | .v x::ks,s,K,[],rs,h,hr,st,k=>hr.elim
 | .sl _ _::ks,s,K,[],rs,h,hr,st,k=>hr.elim
 | .own _ _::ks,s,K,[],rs,h,hr,st,k=>hr.elim
 | .cl _::ks,s,K,[],rs,h,hr,st,k=>hr.elim
 | .rw _ _ _::ks,s,K,[],rs,h,hr,st,k=>hr.elim
 | .cl ls::ks,s,K,v::vs,rs,h,hr,st,k=>by
  obtain⟨r1,r2,⟨cs,rfl,hl⟩,h2,rfl⟩:=hr;rw[append_assoc]at st;refine aH3 (K:=fun cs s=>rkb ks s fun ts s=>K (.ag cs::ts) s) h hl st fun scs s1 h1 e1 e2 e3 g1 st2 hlr=>(jZ (K:=fun ts s=>K (.ag scs::ts) s) h1 h2 st2 fun ts s' h' e4 e5 e6 g2 st' hg=>k _ s' h' ?_ (e5.trans e2) (e6.trans e3) (g1.elim fun N hN=>g2.elim fun M hM=>⟨M++N,by rw[hM,hN,append_assoc]⟩) st' ⟨hlr,hg⟩)
  rw[map_cons,e4,TV.val,e1]
 | .v x::ks,s,K,v::vs,rs,h,hr,st,k=>by
  obtain⟨r1,r2,⟨rfl,rfl⟩,h2,rfl⟩:=hr;refine jZ (K:=fun ts s=>K (.ce (sc v)::ts) s) h h2 st fun ts s' h' e1 e2 e3 e4 st' hg=>k _ s' h' ?_ e2 e3 e4 st' hg
  rw[map_cons,e1,TV.val,kW]
 | .sl i xs::ks,s,K,v::vs,rs,h,hr,st,k=>by
  obtain⟨r1,r2,⟨fp,rfl⟩,h2,rfl⟩:=hr;have hs:=gQ (st.get 0 rfl);obtain⟨hd,rfl,hn⟩:=hs.hd;refine jZ (K:=fun ts s'=>K (.ce (.rf s.nx hd)::ts) s') (h (hd,fp)) h2 ?_ fun ts s' h' e1 e2 e3 e4 st' hg=>k _ s' h' ?_ e2 e3 (e4.elim fun N hN=>⟨N++[(s.nx,.own i hd xs fp)],by rw[hN];simp⟩) st' ⟨hs.len_le,hg⟩
  ·exact st.perm (perm_middle (a:=Res.own hd.val xs fp) (l₁:=r2) (l₂:=s.rs))
  ·rw[map_cons,e1];rfl
 | .rw i e xs::ks,s,K,v::vs,rs,h,hr,st,k=>by
  obtain⟨r1,r2,⟨fe,rfl⟩,h2,rfl⟩:=hr;have hs:=gO (st.get 0 rfl);obtain⟨hd,rfl,hn⟩:=hs.hd;refine jZ (K:=fun ts s'=>K (.ce (.rf s.nx hd)::ts) s') (h (hd,fe)) h2 ?_ fun ts s' h' e1 e2 e3 e4 st' hg=>k _ s' h' ?_ e2 e3 (e4.elim fun N hN=>⟨N++[(s.nx,.row i e hd xs fe)],by rw[hN];simp⟩) st' ⟨hs.len_le,hg⟩
  ·exact st.perm (perm_middle (a:=Res.row e hd.val xs fe) (l₁:=r2) (l₂:=s.rs))
  ·rw[map_cons,e1];rfl
 | .own i x::ks,s,K,v::vs,rs,h,hr,st,k=>by
  obtain⟨r1,r2,⟨cs,fp,rfl,rfl⟩,h2,rfl⟩:=hr;obtain⟨st1,hg1⟩:=St.cs_pc i st;refine mA (K:=fun cs s=>rkb ks s fun ts s=>K (.ag cs::ts) s) h st1 fun scs s1 h1 e1 e2 e3 g1 st2 hl=>(jZ (K:=fun ts s=>K (.ag scs::ts) s) h1 h2 st2 fun ts s' h' e4 e5 e6 g2 st' hg=>k _ s' h' ?_ (e5.trans e2) (e6.trans e3) (g1.elim fun N hN=>g2.elim fun M hM=>⟨M++N,by rw[hM,hN,append_assoc]⟩) st' ⟨⟨hg1,hl⟩,hg⟩)
  rw[map_cons,e4,TV.val,e1]
def aA1:List TV->SV
 | [t]=>.on t
 | ts=>.tu ts
theorem iW (ts:List TV):(aA1 ts).val=uE (ts.map TV.val):=by
 match ts with
 | []=>rfl
 | [t]=>rfl
 | _::_::_=>rfl
def clT (s:S) (lk:Operand->Option SV) (F:FuncId) (xs:List Operand) (d:D P R) (K:SV->S->D P R->Tr):Tr:=
 nrm d fun d=>match d with
  | .cq (ps:=ps) (rk:=rk) (G:=G) F' (fn:=fn) _ _ _ k=>.e0 F F'<|.e0 ((fn.name == "runtime.NumGoroutine") || fn.body.isNone) false<|opt (lkv lk xs) fun us=>jT s us ps<|grT s G<|rkb rk s fun ts s'=>.fp (gds rk) fun hg=>K (aA1 ts) s' (k hg)
  | .cl (ps:=ps) (R':=R') (rk:=rk) (G:=G) F' (fn:=fn) _ _ _ k=>.e0 F F'<|.e0 ((fn.name == "runtime.NumGoroutine") || fn.body.isNone) false<|opt (lkv lk xs) fun us=>jT s us ps<|grT s G<|.fn fun a=>.fp (R' a) fun ha=>rkb (rk a) s fun ts s'=>.fp (gds (rk a)) fun hg=>K (aA1 ts) s' (k a ha hg)
  | .cb (ps:=ps) i x F' (fn:=fn) _ _ _ k=>.e0 F F'<|.e0 ((fn.name == "runtime.NumGoroutine") || fn.body.isNone) false<|opt (lkv lk xs) fun us=>jT s us ps<|sX false (i.lv x) s fun cs s'=>.fp (i.good x) fun hg=>K (.on (.ag cs)) ⟨s.E,s.O,s'.B,s'.nx⟩ (k hg)
  | _=>.no
theorem clT_ok {w0 W:World}{s:S}{lk:Operand->Option SV}{F:FuncId}{xs:List Operand}{ats:Array TypeId}{dd:D P R}{K:SV->S->D P R->Tr}{n:Nat}{f:Nat->Value}{Q:Exit->Act->World->Prop}{KK:Value->World->Prop}{d:Option Tmp}{ty:TypeId}{pos:String}{af:Array Go.Edge}{g:Option (Nat×Bool)}
  (hl:∀x u,lk x=some u->ev n f x=u.val) (h:(clT s lk F xs dd K).holds) (st:St w0 W s.rs) (fa:Facts w0 W s.B) (k:∀v s' d' W',(K v s' d').holds->s'.E=s.E->(∃N,s'.O=N++s.O)->Below W.heap.size W W'->St w0 W' s'.rs->Facts w0 W' s'.B->KK v.val W'):Stp P n ⟨d,.call { callee := .value (.func F),args:=xs.toArray,argTypes:=ats },ty,pos,af,g⟩ f W Q KK:=by
 unfold clT at h;refine cG h fun d' h=>?_
 split at h
 ·next ps rk G0 F' fn hf hct hg kk=>
  obtain⟨rfl,ho,h⟩:=h;refine aD h fun us hus h=>?_
  obtain⟨hp,h⟩:=fO st fa h hg;obtain⟨hG,h⟩:=aF8 h st.below fa;refine gT hf ho (iF hl hus) ((hct.run W _ hG hp).mono ?_);rintro e W' ⟨_,vs,rs,_,rfl,hr,hst'⟩;refine jZ h hr (st.call hst') fun ts s' h' e1 e2 e3 e4 st' hgd=>?_
  exact⟨_,rfl,by rw[<- e1,<- iW];exact k _ s' _ W' (h' hgd) e2 e4 hst'.below st' (by rw[e3];exact fa.up hst'.below)⟩
 ·next A' ps R' rk G0 F' fn hf hct hg kk=>
  obtain⟨rfl,ho,h⟩:=h;refine aD h fun us hus h=>?_
  obtain⟨hp,h⟩:=fO st fa h hg;obtain⟨hG,h⟩:=aF8 h st.below fa;refine gT hf ho (iF hl hus) ((hct.run W _ hG hp).mono ?_);rintro e W' ⟨a,vs,rs,ha,rfl,hr,hst'⟩;refine jZ (h a ha) hr (st.call hst') fun ts s' h' e1 e2 e3 e4 st' hgd=>?_
  exact⟨_,rfl,by rw[<- e1,<- iW];exact k _ s' _ W' (h' hgd) e2 e4 hst'.below st' (by rw[e3];exact fa.up hst'.below)⟩
 ·next ps α i x F' fn hf hct hg kk=>
  obtain⟨rfl,ho,h⟩:=h;refine aD h fun us hus h=>?_
  obtain⟨hp,h⟩:=fO st fa h hg;refine gT hf ho (iF hl hus) ((hct.run W _ hp).mono ?_);rintro e W' ⟨cs,fp,hc,rfl,hst'⟩;obtain⟨hgd,hc2⟩:=i.out hc;have hc3:cW W' cs (i.lv x) fp:=(i.out (@zS _ i.toShape _ _ _ _ _ hc hst'.below)).2;have st':St w0 W' s.rs:=by simpa using st.call hst'
  refine lN (l:=false) (w0:=w0) (W:=W') h hc3 (fa.up hst'.below) fun scs s' h' e1 e2 e3 fa'=>?_
  exact⟨_,rfl,by rw[<- e1];exact k (.on (.ag scs)) ⟨s.E,s.O,s'.B,s'.nx⟩ _ W' (h' hgd) rfl ⟨[],rfl⟩ hst'.below st' fa'⟩
 exact h.elim
theorem cfC_ok {w0 W:World}{s:S}{lk:Operand->Option SV}{F:FuncId}{xs:List Operand}{ats:Array TypeId}{dd:D P R}{K:SV->S->D P R->Tr}{n:Nat}{f:Nat->Value}{Q:Exit->Act->World->Prop}{KK:Value->World->Prop}{d:Option Tmp}{ty:TypeId}{pos:String}{af:Array Go.Edge}{g:Option (Nat×Bool)}
  {t:Tmp}(hcv:ev n f (.tmp t) = .func (.func F) #[] #[]) (hl:∀x u,lk x=some u->ev n f x=u.val) (h:(clT s lk F xs dd K).holds) (st:St w0 W s.rs) (fa:Facts w0 W s.B) (k:∀v s' d' W',(K v s' d').holds->s'.E=s.E->(∃N,s'.O=N++s.O)->Below W.heap.size W W'->St w0 W' s'.rs->Facts w0 W' s'.B->KK v.val W'):Stp P n ⟨d,.call { callee := .value (.tmp t),args:=xs.toArray,argTypes:=ats },ty,pos,af,g⟩ f W Q KK:=by
 unfold clT at h;refine cG h fun d' h=>?_
 split at h
 ·next ps rk G0 F' fn hf hct hg kk=>
  obtain⟨rfl,ho,h⟩:=h;refine aD h fun us hus h=>?_
  obtain⟨hp,h⟩:=fO st fa h hg;obtain⟨hG,h⟩:=aF8 h st.below fa;refine qQ (first:=[]) (capt:=[]) hf ho hcv (iF hl hus) ?_;simp only[nil_append,append_nil];refine(hct.run W _ hG hp).mono ?_;rintro e W' ⟨_,vs,rs,_,rfl,hr,hst'⟩;refine jZ h hr (st.call hst') fun ts s' h' e1 e2 e3 e4 st' hgd=>?_
  exact⟨_,rfl,by rw[<- e1,<- iW];exact k _ s' _ W' (h' hgd) e2 e4 hst'.below st' (by rw[e3];exact fa.up hst'.below)⟩
 ·next A' ps R' rk G0 F' fn hf hct hg kk=>
  obtain⟨rfl,ho,h⟩:=h;refine aD h fun us hus h=>?_
  obtain⟨hp,h⟩:=fO st fa h hg;obtain⟨hG,h⟩:=aF8 h st.below fa;refine qQ (first:=[]) (capt:=[]) hf ho hcv (iF hl hus) ?_;simp only[nil_append,append_nil];refine(hct.run W _ hG hp).mono ?_;rintro e W' ⟨a,vs,rs,ha,rfl,hr,hst'⟩;refine jZ (h a ha) hr (st.call hst') fun ts s' h' e1 e2 e3 e4 st' hgd=>?_
  exact⟨_,rfl,by rw[<- e1,<- iW];exact k _ s' _ W' (h' hgd) e2 e4 hst'.below st' (by rw[e3];exact fa.up hst'.below)⟩
 ·next ps α i x F' fn hf hct hg kk=>
  obtain⟨rfl,ho,h⟩:=h;refine aD h fun us hus h=>?_
  obtain⟨hp,h⟩:=fO st fa h hg;refine qQ (first:=[]) (capt:=[]) hf ho hcv (iF hl hus) ?_;simp only[nil_append,append_nil];refine(hct.run W _ hp).mono ?_;rintro e W' ⟨cs,fp,hc,rfl,hst'⟩;obtain⟨hgd,hc2⟩:=i.out hc;have hc3:cW W' cs (i.lv x) fp:=(i.out (@zS _ i.toShape _ _ _ _ _ hc hst'.below)).2;have st':St w0 W' s.rs:=by simpa using st.call hst'
  refine lN (l:=false) (w0:=w0) (W:=W') h hc3 (fa.up hst'.below) fun scs s' h' e1 e2 e3 fa'=>?_
  exact⟨_,rfl,by rw[<- e1];exact k (.on (.ag scs)) ⟨s.E,s.O,s'.B,s'.nx⟩ _ W' (h' hgd) rfl ⟨[],rfl⟩ hst'.below st' fa'⟩
 exact h.elim
def ivT (s:S) (F:FuncId) (us:Option (List SV)) (d:D P R) (K:SV->S->D P R->Tr):Tr:=
 nrm d fun d=>match d with
  | .iv (R':=R') F' (fn:=fn) _ h k=>.e0 F F'<|.e0 ((fn.name == "runtime.NumGoroutine") || fn.body.isNone) false<|opt us fun us=>h.T s us fun a v s'=>.fp (R' a) fun ha=>K v ⟨s.E,s'.O,s'.B,s'.nx⟩ (k a ha)
  | _=>.no
theorem cB1 {G:Prop}{w0 W:World}{s:S}{F:FuncId}{us:Option (List SV)}{dd:D P R}{K:SV->S->D P R->Tr}{KK:Value->World->Prop}
  (h:(ivT s F us dd K).holds) (st:St w0 W s.rs) (fa:Facts w0 W s.B) (k:∀v s' d' W',(K v s' d').holds->s'.E=s.E->St w0 W' s'.rs->Facts w0 W' s'.B->KK v.val W')
  (go:∀{fn:Func}{us':List SV},P.funcs[F]? = some fn->((fn.name == "runtime.NumGoroutine") || fn.body.isNone)=false->us=some us'->(Calls P F (us'.map SV.val).toArray W fun e W'=>∃v,e = .returned v/\KK v W')->G):G:=by
 unfold ivT at h;refine cG h fun d' h1=>?_
 split at h1
 ·next A' R' F' fn hf hI kk=>
  obtain⟨rfl,ho,h1⟩:=h1;refine aD h1 fun us' hus h2=>go hf ho hus ((hI.ok h2 st fa).mono ?_)
  rintro e W' ⟨a,v,s',ha,h3,rfl,st',fa'⟩;exact⟨_,rfl,k v _ _ W' (h3 ha) rfl st' fa'⟩
 exact h1.elim
def cfT (s:S) (lk:Operand->Option SV) (t:Tmp) (xs:List Operand) (d:D P R) (K:SV->S->D P R->Tr):Tr:=
 opt (lk (.tmp t)) fun v=>match v with
  | .on (.ce (.vl (.func (.func F) a c)))=>.e0 a #[]<|.e0 c #[]<|clT s lk F xs d K
  | .on (.ce (.fn F l))=>ivT s F ((lkv lk xs).map fun us=>us++l.map fun p=>one (ptS p)) d K
  | _=>.no
theorem cfT_ok {w0 W:World}{s:S}{lk:Operand->Option SV}{t:Tmp}{xs:List Operand}{ats:Array TypeId}{dd:D P R}{K:SV->S->D P R->Tr}{n:Nat}{f:Nat->Value}{Q:Exit->Act->World->Prop}{KK:Value->World->Prop}{d:Option Tmp}{ty:TypeId}{pos:String}{af:Array Go.Edge}{g:Option (Nat×Bool)}
  (hl:∀x u,lk x=some u->ev n f x=u.val) (h:(cfT s lk t xs dd K).holds) (st:St w0 W s.rs) (fa:Facts w0 W s.B) (k:∀v s' d' W',(K v s' d').holds->s'.E=s.E->St w0 W' s'.rs->Facts w0 W' s'.B->KK v.val W'):Stp P n ⟨d,.call { callee := .value (.tmp t),args:=xs.toArray,argTypes:=ats },ty,pos,af,g⟩ f W Q KK:=by
 unfold cfT at h;refine aD h fun v hv h=>?_
 split at h
 ·next F a c=>
  obtain⟨rfl,rfl,h⟩:=h;exact cfC_ok (hl _ _ hv) hl h st fa fun v s' d' W' h' e _ _ st' fa'=>k v s' d' W' h' e st' fa'
 ·next F l=>
  refine cB1 h st fa k fun {fn us'} hf ho hus hc=>?_
  obtain⟨us,hus2,rfl⟩:=Option.map_eq_some_iff.1 hus;refine qQ (first:=[]) (capt:=(l.map fun p=>one (ptS p)).map SV.val) hf ho ?_ (iF hl hus2) ?_
  ·rw[hl _ _ hv];show Value.func (.func F) #[] (l.map _).toArray=_;rw[map_map];rfl
  rw[nil_append,<- map_append];exact hc
 exact h.elim
end
end Go.Proofs.YtpdgdnpajmcaeaaGreat
namespace Go.Proofs.YtpdgdnpajmcaeaaGreat
set_option maxRecDepth 100000
set_option maxHeartbeats 2000000
open Go.RowKit Go.Proofs.Tryz List
theorem wC:∀(C vs:List Value) (o:Nat),o+vs.length<=C.length->aK C o vs=C.take o++vs++C.drop (o+vs.length)
 | C,[],0,h=>by cases C<;>simp[aK]
 | c::C,v::vs,0,h=>by
  have:=wC C vs 0 (by simp at h ⊢;omega);simp[aK]at this ⊢;rw[this]
 | c::C,vs,o+1,h=>by
  have:=wC C vs o (by simp at h ⊢;omega);rw[show o+1+vs.length=(o+vs.length)+1 by omega];simp[aK]at this ⊢;rw[this]
 | [],v::vs,o,h=>by simp at h
 | [],[],o+1,h=>by simp at h
theorem nE {b o l h c s:Nat}(hne:l<c):sliced (some ⟨b,o,none⟩) l h c s = .slice (some ⟨b,o+l*s,none⟩) (h-l) (c-l):=by
 have:¬c=l:=by omega
 simp[sliced,this,Addr.add]
section
variable {P:Program}{n:Nat}{f:Nat->Value}{w0 W:World}{rs:List Res}{Q:Exit->Act->World->Prop}{d:Option Tmp}{ty:TypeId}{pos:String}{af:Array Go.Edge}{g:Option (Nat×Bool)}{K:Value->World->Prop}{α:Type}[Shape α]
theorem pK {t t':TypeId}{x y:Operand}{b o m c l:Nat}{e:Int}(hT:SlOk P t t' α) (hx:ev n f x = .slice (some ⟨b,o,none⟩) m c) (hy:ev n f y=I e) (he:e=l) (hl:l<=m) (hne:l<c) (k:K (.slice (some ⟨b,o+l*Shape.size α,none⟩) (m-l) (c-l)) W):Stp P n ⟨d,.slice t x (some y) none none,ty,pos,af,g⟩ f W Q K:=by
 subst he;have hel:P.elem t=t':=by simp[Program.elem,hT.desc]
 have hu:P.underlying t=some (.slice (P.elem t)):=by rw[hel];exact hT.desc
 refine Stp.run (v:=sliced (some ⟨b,o,none⟩) l m c (Shape.size α)) ?_ (by rw[nE hne];exact k);simp only[execOp,hx,hy,Sem.run_bind,Option.map_none,Option.map_some];rw[run_sliceAt_slice (h:=hu),run_slice_l (ht:=hu) (h0:=by omega) (h1:=by omega),hel,eT hT.size];simp
theorem aB3 {t t':TypeId}{x y:Operand}{b o m c h:Nat}{e:Int}(hT:SlOk P t t' α) (hx:ev n f x = .slice (some ⟨b,o,none⟩) m c) (hy:ev n f y=I e) (he:e=h) (hl:h<=c) (hc:0<c) (k:K (.slice (some ⟨b,o,none⟩) h c) W):Stp P n ⟨d,.slice t x none (some y) none,ty,pos,af,g⟩ f W Q K:=by
 subst he;have hel:P.elem t=t':=by simp[Program.elem,hT.desc]
 have hu:P.underlying t=some (.slice (P.elem t)):=by rw[hel];exact hT.desc
 refine Stp.run (v:=sliced (some ⟨b,o,none⟩) 0 h c (Shape.size α)) ?_ (by rw[nE hc,Nat.zero_mul];exact k);simp only[execOp,hx,hy,Sem.run_bind,Option.map_none,Option.map_some];rw[run_sliceAt_slice (h:=hu),run_slice_h (ht:=hu) (h0:=by omega) (h2:=by omega),hel,eT hT.size];simp
theorem stp_xcap {t t':TypeId}{x:Operand}{ao:Option Addr}{m c:Nat}(hT:SlOk P t t' α) (hx:ev n f x = .slice ao m c) (k:K (I (c:Int)) W):Stp P n ⟨d,.call { callee := .builtin .cap,args := #[x],argTypes := #[t] },ty,pos,af,g⟩ f W Q K:=by
 refine Stp.run (v:=I (c:Int)) ?_ k;have hr:(Builtin.cap_ #[t] ty #[.slice ao m c]).run P W = .ok (I (c:Int)) W:=by
  simp[Builtin.cap_,run_underlying hT.desc,goInt]
 simp[execOp,hx,resolve,invoke,builtin,Sem.run_bind,hr]
theorem run_copyK (w:World) (dT sT ty elem:TypeId) (b o dLen dCap sz:Nat) (a:Addr) (sLen sCap:Nat) (cs:List Value)
  (hu:P.underlying dT=some (.slice elem)) (hs:(P.info? elem).map (·.size)=some sz) (hn:cs.length=Nat.min sLen dLen*sz)
  (hsrc:∀j v,cs[j]? = some v->w.cell? (a.add j)=some v) (hc:∀j,j<cs.length->(w.cell? ⟨b,o+j,none⟩).isSome=true) (hf:∀j,j<cs.length->w.frozen? ⟨b,o+j,none⟩=false) (h1:∀v∈cs,v.oneCell'=true) :
  (Builtin.copy_ #[dT,sT] ty #[.slice (some ⟨b,o,none⟩) dLen dCap,.slice (some a) sLen sCap]).run P w = .ok (goInt (Nat.min sLen dLen)) (w.setCells b o cs):=by
 have hl:=run_loadCells_list (P:=P) w a cs hsrc;have hst:=run_storeCells_cells (P:=P) b o cs 0 w (by simpa using hc) (by simpa using hf) h1;rw[hn]at hl;cases hq:P.info? elem with
 | none=>simp[hq]at hs
 | some i=>
  have hi:i.size=sz:=by simpa [hq] using hs
  simp[Builtin.copy_,run_underlying hu,Builtin.lenOf,Builtin.firstCells,sizeOf,typeInfo,hq,hi,hl,hst]
theorem qP {t e:TypeId}{x y:Operand}{b o dl dc sl sc:Nat}{a:Addr}{C cs:List Value}(hT:SlOk P t e α) (hx:ev n f x = .slice (some ⟨b,o,none⟩) dl dc) (hy:ev n f y = .slice (some a) sl sc) (hn:cs.length=Nat.min sl dl*Shape.size α)
  (hsrc:∀j v,cs[j]? = some v->W.cell? (a.add j)=some v) (h1:∀v∈cs,v.oneCell'=true) (hst:St w0 W (Res.bx b C e::rs)) (hle:o+cs.length<=C.length) (k:∀v W',St w0 W' (Res.bx b (aK C o cs) e::rs)->K v W') :
  Stp P n ⟨d,.call { callee := .builtin .copy,args := #[x,y],argTypes := #[t,t] },ty,pos,af,g⟩ f W Q K:=by
 have hB:W.heap[b]? = some (.cells C.toArray e (0,0)):=hst.get 0 rfl;have hr:=run_copyK (P:=P) W t t ty e b o dl dc _ a sl sc cs hT.desc hT.size hn hsrc (fun j hj=>by simp[World.cell?,hB];omega) (fun j hj=>by simp[World.frozen?,hB]) h1;refine Stp.run (v:=goInt (Nat.min sl dl)) (W':=W.setCells b o cs) ?_ (k _ _ (hst.store o cs hle));simp only[execOp,resolve,invoke,builtin,Sem.run_bind,Sem.run_pure,Result.andThen_ok,map_toArray,map_cons,map_nil,hx,hy,hr]
theorem stp_appz {t tn e:TypeId}{bytes:Nat}{x y:Operand}{b i c k0 n1:Nat}{e1:Int}{C:List Value}(hT:ApOk P t e α bytes) (htn:P.underlying tn=some (.int .i64)) (hx:ev n f x = .slice (some ⟨b,0,none⟩) i c) (hy:ev n f y=I e1) (he1:e1=k0) (hn1:i+k0=n1) (hst:St w0 W (Res.bx b C e::rs))
  (hC:i*Shape.size α<=C.length) (h0:0<k0) (hg:c<n1) (h63:n1<=maxLen) (hby:n1*bytes<=140737488355328)
  (k:∀b2 cap Z W',n1<=cap->cap<=maxLen->Z.length=(cap-i)*Shape.size α->Below W.heap.size W W'->St w0 W' (Res.bx b2 (C.take (i*Shape.size α)++Z) e::Res.bx b C e::rs)->K (.slice (some ⟨b2,0,none⟩) n1 cap) W') :
  Stp P n ⟨d,.call { callee := .builtin .append,args := #[x,y],argTypes := #[t,tn] },ty,pos,af,g⟩ f W Q K:=by
 subst he1 hn1;obtain⟨i0,z,hi,hz,g1,g2,g3⟩:=hT.info;have hB:W.heap[b]? = some (.cells C.toArray e (0,0)):=hst.get 0 rfl;have hpos:=hT.pos;have hold:(Builtin.firstCells i0.size i (.slice (some ⟨b,0,none⟩) i c)).run P W.drew = .ok (C.take (i*Shape.size α)).toArray W.drew:=by
  rw[g1];exact run_firstCells_some W.drew (Shape.size α) i ⟨b,0,none⟩ i c (C.take (i*Shape.size α)) (by rw[length_take];omega) (fun j v hj=>by
   rw[getElem?_take]at hj;split at hj
   ·rw[Addr.add_mid];exact bE (W:=W.drew) hB j v hj
   cases hj)
 have hfit:Builtin.nextslicecap (i+k0) c*i0.bytes<=281474976710656:=by rw[g2];exact growslice_fits hg hby
 have hk48:k0*i0.bytes<=281474976710656:=by
  rw[g2];have:k0*bytes<=(i+k0)*bytes:=Nat.mul_le_mul_right _ aA;omega
 have h:=Lib.run_append_grow_zeros (P:=P) W t tn ty e i0 z .i64 .i64 hT.desc htn hi hz (some ⟨b,0,none⟩) i c _ hold k0 h0 aA hg (by unfold maxLen at h63;omega) hk48 hfit;have hge:=grownCap_ge W (i+k0) c e;have hcm:=grownCap_le_maxLen W (i+k0) c e h63;refine Stp.run (v := .slice (some ⟨W.heap.size,0,none⟩) (i+k0) (grownCap W (i+k0) c e)) (W':=W.drew.alloc (.cells ((C.take (i*Shape.size α)).toArray++Builtin.zeroCells z.cells k0++Builtin.zeroCells z.cells (grownCap W (i+k0) c e-(i+k0))) e))
  (by simp only[execOp,resolve,invoke,builtin,Sem.run_bind,Sem.run_pure,Result.andThen_ok,map_toArray,map_cons,map_nil,hx,hy,h]) ?_
 have hbd:Below W.heap.size W W.drew:=(Below.refl _ _).drew;refine k W.heap.size (grownCap W (i+k0) c e) ((Builtin.zeroCells z.cells k0).toList++(Builtin.zeroCells z.cells (grownCap W (i+k0) c e-(i+k0))).toList) _ hge hcm ?_ ⟨rfl,rfl,rfl,by simp,fun j hj=>Below.heap_alloc W.drew _ j hj⟩ ?_
 ·rw[length_append,Array.length_toList,Array.length_toList,size_zeroCells,size_zeroCells,g3,<- Nat.add_mul];congr 1;omega
 have h1:St w0 W.drew (Res.bx b C e::rs):=by simpa using hst.call (St.of_below hbd)
 have h2:=h1.alloc (C.take (i*Shape.size α)++((Builtin.zeroCells z.cells k0).toList++(Builtin.zeroCells z.cells (grownCap W (i+k0) c e-(i+k0))).toList)) e;have e5:(C.take (i*Shape.size α)++((Builtin.zeroCells z.cells k0).toList++(Builtin.zeroCells z.cells (grownCap W (i+k0) c e-(i+k0))).toList)).toArray=(C.take (i*Shape.size α)).toArray++Builtin.zeroCells z.cells k0++Builtin.zeroCells z.cells (grownCap W (i+k0) c e-(i+k0)):=by
  apply Array.toList_inj.1;simp
 rw[e5]at h2;exact h2
theorem stp_callx {F:FuncId}{x y:Operand}{v u r:Value}{ats:Array TypeId}(hx:ev n f x=v) (hy:ev n f y=u) (h:(callFunc F #[v,u]).run P W = .ok (.value r) W) (k:K r W):Stp P n ⟨d,.call { callee := .value (.func F),args := #[x,y],argTypes:=ats },ty,pos,af,g⟩ f W Q K:=
 Stp.run (v:=r) (by
  have he:ev n f (.func F) = .func (.func F) #[] #[]:=rfl;simp only[execOp,resolve,invoke,Deferred.ofValue,he,Array.append_empty,Array.empty_append,Sem.run_bind,Sem.run_pure,Result.andThen_ok,map_toArray,map_cons,map_nil,hx,hy,h]) k
end
theorem St.rowOpen {α:Type}[Shape α] {w0 W:World}{rs:List Res}{e:TypeId}{v:Value}{xs:List α}(h:St w0 W (Res.row e v xs []::rs)) (hne:0<xs.length) :
  ∃b cap C,v = .slice (some ⟨b,0,none⟩) xs.length cap/\xs.length<=cap/\cap<=maxLen/\C.length=cap*Shape.size α/\Elems W (C.take (xs.length*Shape.size α)) xs []/\St w0 W (Res.bx b C e::rs):=by
 obtain⟨⟨cells,ho,he⟩,_⟩:=h.get 0 rfl;rcases ho.2 with⟨rfl,h0⟩ | ⟨g,cap,cur,rfl,_,hg,h1,h2,h3,h4⟩
 ·omega
 refine⟨g,cap,cur.toList,rfl,h1,h2,by rw[Array.length_toList];exact h3,by rw[h4];exact he,?_⟩;exact h.turn (r':=Res.bx g cur.toList e) rfl rfl rfl (Nat.le_refl _) (fun _ _ _=>rfl) (by show W.heap[g]? = some (.cells cur.toList.toArray e (0,0));simpa using hg) (by simp[Res.bx]) (fun b hb=>.inl (by simpa [Res.row,Res.bx,Value.ownBlock] using hb))
theorem St.rowShut {α:Type}[Shape α] {w0 W:World}{rs:List Res}{e:TypeId}{b cap m:Nat}{C:List Value}{xs:List α}(h:St w0 W (Res.bx b C e::rs)) (hm:xs.length=m) (h1:m<=cap) (h2:cap<=maxLen) (h3:C.length=cap*Shape.size α) (h4:Elems W (C.take (m*Shape.size α)) xs []) :
  St w0 W (Res.row e (.slice (some ⟨b,0,none⟩) m cap) xs []::rs):=by
 subst hm;have hB:W.heap[b]? = some (.cells C.toArray e (0,0)):=h.get 0 rfl;refine h.turn (r':=Res.row e _ xs []) rfl rfl rfl (Nat.le_refl _) (fun _ _ _=>rfl) ⟨⟨_,⟨?_,.inr ⟨b,cap,C.toArray,rfl,Nat.zero_le _,hB,h1,h2,by simpa using h3,rfl⟩⟩,h4⟩,by simp⟩ (by simp[Res.row,Value.ownBlock]) (fun c hc=>.inl (by simpa [Res.row,Res.bx,Value.ownBlock] using hc));rw[length_take,h3];have:=Nat.mul_le_mul_right (Shape.size α) h1;omega
theorem Elems.parts {α:Type}[Shape α] {W:World}:∀{xs:List α}{cells:List Value}(i:Nat),i<=xs.length->Elems W cells xs []->Elems W (cells.take (i*Shape.size α)) (xs.take i) []/\Elems W (cells.drop (i*Shape.size α)) (xs.drop i) []
 | xs,cells,0,_,h=>by simpa using (show Elems W [] ([]:List α) []/\Elems W cells xs [] from ⟨⟨rfl,rfl⟩,h⟩)
 | x::xs,cells,i+1,hi,⟨cs,rest,f1,f2,h1,h2,h3,h4⟩=>by
  have hf:=append_eq_nil_iff.1 h4.symm;obtain⟨rfl,rfl⟩:=hf;have hl:=Shape.len h2;obtain⟨p1,p2⟩:=Elems.parts i (by simpa using hi) h3;subst h1;have e1:(cs++rest).take ((i+1)*Shape.size α)=cs++rest.take (i*Shape.size α):=by
   rw[Nat.add_mul,Nat.one_mul,Nat.add_comm,<- hl,take_length_add_append]
  have e2:(cs++rest).drop ((i+1)*Shape.size α)=rest.drop (i*Shape.size α):=by
   rw[Nat.add_mul,Nat.one_mul,Nat.add_comm,<- hl,drop_length_add_append]
  rw[e1,e2];exact⟨⟨cs,_,[],[],rfl,h2,p1,rfl⟩,p2⟩
 | [],cells,i+1,hi,_=>by simp at hi
theorem Elems.entry {W W':World}:∀{xs:List Entry}{cells:List Value},Elems W cells xs []->Elems W' cells xs []
 | [],_,h=>h
 | x::xs,_,⟨cs,rest,f1,f2,h1,h2,h3,h4⟩=>by
  have hf:=append_eq_nil_iff.1 h4.symm;obtain⟨rfl,rfl⟩:=hf;exact⟨cs,rest,[],[],h1,h2,Elems.entry h3,rfl⟩
theorem aG3 (D:List Value) (a m:Nat) (h:a+4+m<=D.length):∃B4 Bm T,D=D.take a++B4++Bm++T/\B4.length=4/\Bm.length=m/\(D.take a).length=a:=by
 refine⟨(D.drop a).take 4,((D.drop a).drop 4).take m,((D.drop a).drop 4).drop m,?_,by rw[length_take,length_drop];omega,by rw[length_take,length_drop,length_drop];omega,by rw[length_take];omega⟩;rw[append_assoc,append_assoc,take_append_drop,take_append_drop,take_append_drop]
theorem ins_in {D Y M:List Value}{a:Nat}(hY:Y.length=4) (h:a+4+M.length<=D.length):∃T,aK (aK D (a+4) M) a Y=D.take a++Y++M++T:=by
 obtain⟨B4,Bm,T,hD,h4,hm,ha⟩:=aG3 D a M.length h;refine⟨T,?_⟩;have e1:aK D (a+4) M=D.take a++B4++M++T:=by
  have:=iC (D.take a++B4) Bm T M 0 aA;rw[length_append,ha,h4,Nat.add_zero,jY _ _ hm.symm,<- hD]at this;exact this
 rw[e1];have:=iC (D.take a) B4 (M++T) Y 0 aA;rw[ha,Nat.add_zero,jY _ _ aA]at this;simpa [append_assoc] using this
theorem ins_new {D Y M:List Value}{a:Nat}(hY:Y.length=4) (h:a+4+M.length<=D.length):∃T,aK (aK D a Y) (a+4) M=D.take a++Y++M++T:=by
 obtain⟨B4,Bm,T,hD,h4,hm,ha⟩:=aG3 D a M.length h;refine⟨T,?_⟩;have e1:aK D a Y=D.take a++Y++Bm++T:=by
  have:=iC (D.take a) B4 (Bm++T) Y 0 aA;rw[ha,Nat.add_zero,jY _ _ aA]at this;rw[show D.take a++B4++(Bm++T)=D by rw[<- append_assoc];exact hD.symm]at this;simpa [append_assoc] using this
 rw[e1];have:=iC (D.take a++Y) Bm T M 0 aA;rw[length_append,ha,hY,Nat.add_zero,jY _ _ hm.symm]at this;exact this
theorem aN7 {W W':World}{xs:List Entry}{y:Entry}{C C2 Y T:List Value}{k:Nat}(hk:k<=xs.length) (he:Elems W (C.take (xs.length*4)) xs []) (hl:xs.length*4<=C.length) (hY:Elems W' Y [y] []) (hC2:C2=C.take (k*4)++Y++(C.drop (k*4)).take ((xs.length-k)*4)++T) :
  Elems W' (C2.take ((xs.length+1)*4)) (xs.take k++y::xs.drop k) []:=by
 obtain⟨p1,p2⟩:=Elems.parts (α:=Entry) k hk he;have hs:Shape.size Entry=4:=rfl;rw[hs]at p1 p2;have hYl:Y.length=4:=by have:=hY.len;rw[hs]at this;simpa using this
 have e1:(C.take (xs.length*4)).take (k*4)=C.take (k*4):=by rw[take_take,Nat.min_eq_left aA]
 have e2:(C.take (xs.length*4)).drop (k*4)=(C.drop (k*4)).take ((xs.length-k)*4):=by rw[drop_take,Nat.sub_mul]
 rw[e1]at p1;rw[e2]at p2;have hlen:(C.take (k*4)++Y++(C.drop (k*4)).take ((xs.length-k)*4)).length=(xs.length+1)*4:=by
  rw[length_append,length_append,length_take,length_take,length_drop,hYl];omega
 rw[hC2,<- hlen,take_left];have h3:=(Elems.append (Elems.append (Elems.entry (W':=W') p1) hY) (Elems.entry (W':=W') p2));simpa [append_assoc] using h3
theorem aE5 {C:List Value}{o m j:Nat}{v:Value}(h:((C.drop o).take m)[j]? = some v):C[o+j]? = some v:=by
 rw[getElem?_take]at h;split at h
 ·rwa [getElem?_drop]at h
 cases h
section
variable {P:Program}{n:Nat}{f:Nat->Value}{w0 W:World}{rs:List Res}{Q:Exit->Act->World->Prop}{d:Option Tmp}{ty:TypeId}{pos:String}{af:Array Go.Edge}{g:Option (Nat×Bool)}{K:Value->World->Prop}
end
section
variable {α:Type}[Shape α]
def Res.es (cells:List Value) (xs:List α) (fe:List Nat):Res where
 fp:=fe
 holds:=fun W=>Elems W cells xs fe/\∀b∈fe,Wr W b
 loc:=fun hs hb h=>⟨h.1.loc hs hb,fun b hm=>(h.2 b hm).loc (hb b hm)⟩
 wr:=fun h b hb=>h.2 b hb
theorem Elems.parts' {W:World}:∀{xs:List α}{cells:List Value}{fe:List Nat}(i:Nat),i<=xs.length->Elems W cells xs fe->∃f1 f2,fe=f1++f2/\Elems W (cells.take (i*Shape.size α)) (xs.take i) f1/\Elems W (cells.drop (i*Shape.size α)) (xs.drop i) f2
 | xs,cells,fe,0,_,h=>⟨[],fe,rfl,by simpa using (show Elems W [] ([]:List α) [] from ⟨rfl,rfl⟩),by simpa using h⟩
 | x::xs,cells,fe,i+1,hi,⟨cs,rest,f1,f2,h1,h2,h3,h4⟩=>by
  have hl:=Shape.len h2;obtain⟨g1,g2,e,p1,p2⟩:=Elems.parts' i (by simpa using hi) h3;subst h1 h4 e;have e1:(cs++rest).take ((i+1)*Shape.size α)=cs++rest.take (i*Shape.size α):=by
   rw[Nat.add_mul,Nat.one_mul,Nat.add_comm,<- hl,take_length_add_append]
  have e2:(cs++rest).drop ((i+1)*Shape.size α)=rest.drop (i*Shape.size α):=by
   rw[Nat.add_mul,Nat.one_mul,Nat.add_comm,<- hl,drop_length_add_append]
  refine⟨f1++g1,g2,by rw[append_assoc],?_,?_⟩
  ·rw[e1];exact⟨cs,_,f1,g1,rfl,h2,p1,rfl⟩
  rw[e2];exact p2
 | [],cells,fe,i+1,hi,_=>by simp at hi
theorem St.ownOpen' {w0 W:World}{rs:List Res}{v:Value}{xs:List α}{fp:List Nat}(h:St w0 W (Res.own v xs fp::rs)) (hs:0<Shape.size α) (hne:0<xs.length) :
  ∃b off cap C e fe,v = .slice (some ⟨b,off,none⟩) xs.length cap/\xs.length<=cap/\cap<=9223372036854775807/\off+xs.length*Shape.size α<=C.length/\St w0 W (Res.bx b C e::Res.es ((C.drop off).take (xs.length*Shape.size α)) xs fe::rs):=by
 have hown:=h.get 0 rfl;have hwr:=hown.2;obtain⟨ao,cap,e0,h1,h2,h3⟩:=gQ hown;rcases h3 with⟨h0,_⟩ | ⟨b,off,f,_,e4,rfl,hb,h3⟩
 ·rw[h0]at hne;exact absurd hne (by simp)
 subst e4;obtain⟨cells,he,hr⟩:=Elems.of_at off h3;obtain⟨C,e,hC⟩:=hwr b (by simp);have hcl:cells.length=xs.length*Shape.size α:=he.len;have hpos:0<xs.length*Shape.size α:=Nat.mul_pos hne hs;have hget:∀j v,cells[j]? = some v->C.toList[off+j]? = some v:=fun j v hj=>by
  have:=hr j v hj;simpa [World.cell?,hC] using this
 have hle:off+xs.length*Shape.size α<=C.toList.length:=by
  have hj:=getElem?_eq_getElem (l:=cells) (i:=xs.length*Shape.size α - 1) aA;have:=(gsi_.1 (hget _ _ hj)).1;omega
 have hce:cells=(C.toList.drop off).take (xs.length*Shape.size α):=by
  apply ext_getElem?;intro j;rw[getElem?_take];by_cases hj:j<xs.length*Shape.size α
  ·rw[if_pos hj,getElem?_drop,getElem?_eq_getElem aA];exact(hget j _ (getElem?_eq_getElem aA)).symm
  rw[if_neg hj,getElem?_eq_none aA]
 refine⟨b,off,cap,C.toList,e,f,e0,h1,h2,hle,?_⟩;refine St.trade (rs1:=[Res.own v xs (b::f)]) (rs2:=[Res.bx b C.toList e,Res.es _ xs f]) h ?_ ?_ ?_
 ·have:=h.nodup;rw[flatMap_cons,nodup_append]at this;simpa [Res.own,Res.bx,Res.es] using this.1
 ·intro c hc;simpa [Res.own,Res.bx,Res.es] using hc
 intro r hr2;rcases mem_cons.1 hr2 with rfl | hr2
 ·show W.heap[b]? = some (.cells C.toList.toArray e (0,0));simpa using hC
 rw[mem_singleton]at hr2;subst hr2;exact⟨by rw[<- hce];exact he,fun c hc=>hwr c (mem_cons_of_mem _ hc)⟩
theorem St.ownShut' {w0 W:World}{rs:List Res}{b off cap m:Nat}{C cells:List Value}{e:TypeId}{ys:List α}{fe:List Nat}(h:St w0 W (Res.bx b C e::Res.es cells ys fe::rs)) (hcl:cells=(C.drop off).take (m*Shape.size α)) (hm:ys.length=m) (h1:m<=cap) (h2:cap<=9223372036854775807) :
  ∃fp,St w0 W (Res.own (.slice (some ⟨b,off,none⟩) m cap) ys fp::rs):=by
 have hB:W.heap[b]? = some (.cells C.toArray e (0,0)):=h.get 0 rfl;have hE:=h.get 1 rfl;subst hm;cases ys with
 | nil=>
  refine⟨[],St.trade (rs1:=[Res.bx b C e,Res.es cells [] fe]) (rs2:=[Res.own _ ([]:List α) []]) h (by simp[Res.own]) (by simp[Res.own]) ?_⟩;intro r hr;rw[mem_singleton]at hr;subst hr;exact⟨Sl.v ⟨_,cap,rfl,h1,h2,.inl ⟨rfl,rfl⟩⟩,by simp⟩
 | cons y ys=>
  refine⟨b::fe,St.trade (rs1:=[Res.bx b C e,Res.es cells (y::ys) fe]) (rs2:=[Res.own _ (y::ys) (b::fe)]) h ?_ (by intro c hc;simpa [Res.own,Res.bx,Res.es] using hc) ?_⟩
  ·have hn:=h.nodup;rw[flatMap_cons,flatMap_cons,<- append_assoc,nodup_append]at hn;simpa [Res.own,Res.bx,Res.es] using hn.1
  intro r hr;rw[mem_singleton]at hr;subst hr;refine⟨Sl.v ⟨_,cap,rfl,h1,h2,.inr ⟨b,off,fe,by simp,rfl,rfl,(Array.getElem?_eq_some_iff.1 hB).1,?_⟩⟩,?_⟩
  ·refine hE.1.at off ?_;intro j u hj;rw[hcl]at hj;have:=bE hB (off+j) u (aE5 hj);simpa using this
  intro c hc;rcases mem_cons.1 hc with rfl | hc
  ·exact⟨_,_,hB⟩
  exact hE.2 c hc
theorem St.es_sub {w0 W:World}{rs:List Res}{cells cells':List Value}{xs ys:List α}{fe fe':List Nat}(h:St w0 W (Res.es cells xs fe::rs)) (hs:fe'.Sublist fe) (he:Elems W cells' ys fe'):St w0 W (Res.es cells' ys fe'::rs):=by
 have hh:=h.get 0 rfl;refine St.trade (rs1:=[Res.es cells xs fe]) (rs2:=[Res.es cells' ys fe']) h ?_ ?_ ?_
 ·have:=h.nodup;rw[flatMap_cons,nodup_append]at this;simpa [Res.es] using hs.nodup this.1
 ·intro c hc;simp[Res.es]at hc ⊢;exact hs.subset hc
 intro r hr;rw[mem_singleton]at hr;subst hr;exact⟨he,fun c hc=>hh.2 c (hs.subset hc)⟩
theorem Elems.erase {W:World}{xs:List α}{cells:List Value}{fe:List Nat}{k:Nat}(hk:k<xs.length) (h:Elems W cells xs fe):∃f1 f2 f3,fe=f1++(f2++f3)/\Elems W (cells.take (k*Shape.size α)++cells.drop ((k+1)*Shape.size α)) (xs.eraseIdx k) (f1++f3):=by
 obtain⟨f1,g,rfl,h1,h2⟩:=h.parts' k aA;obtain⟨f2,f3,rfl,h3,h4⟩:=h2.parts' 1 (by rw[length_drop];omega);refine⟨f1,f2,f3,rfl,?_⟩;rw[drop_drop,drop_drop]at h4;rw[eraseIdx_eq_take_drop_succ];have e:k*Shape.size α+1*Shape.size α=(k+1)*Shape.size α:=by rw[Nat.add_mul]
 rw[e]at h4;exact h1.append h4
end
section
variable {P:Program}{n:Nat}{f:Nat->Value}{w0 W:World}{rs:List Res}{Q:Exit->Act->World->Prop}{d:Option Tmp}{ty:TypeId}{pos:String}{af:Array Go.Edge}{g:Option (Nat×Bool)}{K:Value->World->Prop}{α:Type}[Shape α]
theorem stp_x3 {t t':TypeId}{x y z u:Operand}{ao:Option Addr}{m c l h mx:Nat}{e1 e2 e3:Int}(hT:SlOk P t t' α) (hx:ev n f x = .slice ao m c) (hy:ev n f y=I e1) (hz:ev n f z=I e2) (hu:ev n f u=I e3) (h1:e1=l) (h2:e2=h) (h3:e3=mx) (hl:l<=h) (hh:h<=mx) (hm:mx<=c) (k:∀v,K v W) :
  Stp P n ⟨d,.slice t x (some y) (some z) (some u),ty,pos,af,g⟩ f W Q K:=by
 subst h1 h2 h3;have hel:P.elem t=t':=by simp[Program.elem,hT.desc]
 have hu2:P.underlying t=some (.slice (P.elem t)):=by rw[hel];exact hT.desc
 refine Stp.run (v:=sliced ao l h mx (Shape.size α)) ?_ (k _);simp only[execOp,hx,hy,hz,hu,Sem.run_bind,Option.map_none,Option.map_some];rw[run_sliceAt_slice (h:=hu2),run_slice_lhm (ht:=hu2) (h0:=by omega) (h1:=by omega) (h2:=by omega) (h3:=by omega),hel,eT hT.size];simp
theorem bW7 {t t':TypeId}{x y z:Operand}{b o m c l h:Nat}{e1 e2:Int}(hT:SlOk P t t' α) (hx:ev n f x = .slice (some ⟨b,o,none⟩) m c) (hy:ev n f y=I e1) (hz:ev n f z=I e2) (h1:e1=l) (h2:e2=h) (hl:l<=h) (hh:h<=c) (hne:l<c) (k:K (.slice (some ⟨b,o+l*Shape.size α,none⟩) (h-l) (c-l)) W) :
  Stp P n ⟨d,.slice t x (some y) (some z) none,ty,pos,af,g⟩ f W Q K:=by
 subst h1 h2;have hel:P.elem t=t':=by simp[Program.elem,hT.desc]
 have hu2:P.underlying t=some (.slice (P.elem t)):=by rw[hel];exact hT.desc
 refine Stp.run (v:=sliced (some ⟨b,o,none⟩) l h c (Shape.size α)) ?_ (by rw[nE hne];exact k);simp only[execOp,hx,hy,hz,Sem.run_bind,Option.map_none,Option.map_some];rw[run_sliceAt_slice (h:=hu2),run_slice_lh (ht:=hu2) (h0:=by omega) (h1:=by omega) (h2:=by omega),hel,eT hT.size];simp
theorem stp_xe {t t':TypeId}{x y:Operand}{ao:Option Addr}{m c l:Nat}{e:Int}(hT:SlOk P t t' α) (hx:ev n f x = .slice ao m c) (hy:ev n f y=I e) (he:e=l) (hl:l=m) (hc:l=c) (k:K (.slice ao 0 0) W):Stp P n ⟨d,.slice t x (some y) none none,ty,pos,af,g⟩ f W Q K:=by
 subst he hl hc;have hel:P.elem t=t':=by simp[Program.elem,hT.desc]
 have hu:P.underlying t=some (.slice (P.elem t)):=by rw[hel];exact hT.desc
 refine Stp.run (W':=W) (v:=sliced ao l l l (Shape.size α)) ?_ (by simpa [sliced] using k);simp only[execOp,hx,hy,Sem.run_bind,Option.map_none,Option.map_some];rw[run_sliceAt_slice (h:=hu),run_slice_l (ht:=hu) (h0:=by omega) (h1:=by omega),hel,eT hT.size];simp
theorem aL3 {t e e':TypeId}{x y:Operand}{b o i c m c2 oy q:Nat}{ad:Addr}{C:List Value}(hT:SlOk P t e α) (hx:ev n f x = .slice (some ⟨b,o,none⟩) i c) (hy:ev n f y = .slice (some ad) m c2) (had:0<m->ad=⟨b,oy,none⟩) (hq:i+m=q) (hroom:q<=c) (hl1:oy+m*Shape.size α<=C.length) (hl2:o+i*Shape.size α+m*Shape.size α<=C.length)
  (h1:∀v∈(C.drop oy).take (m*Shape.size α),v.oneCell'=true) (hst:St w0 W (Res.bx b C e'::rs)) (k:∀W',St w0 W' (Res.bx b (aK C (o+i*Shape.size α) ((C.drop oy).take (m*Shape.size α))) e'::rs)->K (.slice (some ⟨b,o,none⟩) q c) W') :
  Stp P n ⟨d,.call { callee := .builtin .append,args := #[x,y],argTypes := #[t,t] },ty,pos,af,g⟩ f W Q K:=by
 subst hq;have hB:W.heap[b]? = some (.cells C.toArray e' (0,0)):=hst.get 0 rfl;have hnl:((C.drop oy).take (m*Shape.size α)).length=m*Shape.size α:=by rw[length_take,length_drop];omega
 have hsz:=hT.size;cases hi:P.info? e with
 | none=>simp[hi]at hsz
 | some i0=>
  have hs:i0.size=Shape.size α:=by simpa [hi] using hsz
  have hr:=run_append_room_cells (P:=P) (w:=W) t ty e i0 hT.desc hi b o i c ad m c2 ((C.drop oy).take (m*Shape.size α)) (by rw[hnl,hs]) (fun j u hj=>by
    have hj2:=(gsi_.1 hj).1;rw[hnl]at hj2;have hm:0<m:=Nat.pos_of_ne_zero (fun h0=>by rw[h0]at hj2;simp at hj2);rw[had hm,Addr.add_mid];have:=bE hB (oy+j) u (aE5 hj);simpa using this) h1 hroom (fun j hj=>by rw[hnl]at hj;rw[hs];simp[World.cell?,hB];omega) (fun j hj=>by simp[World.frozen?,hB])
  rw[hs]at hr;refine Stp.run (v := .slice (some ⟨b,o,none⟩) (i+m) c) (W':=W.setCells b (o+i*Shape.size α) ((C.drop oy).take (m*Shape.size α))) ?_ (k _ (hst.store _ _ (by rw[hnl];omega)));simp only[execOp,resolve,invoke,builtin,Sem.run_bind,Sem.run_pure,Result.andThen_ok,map_toArray,map_cons,map_nil,hx,hy,hr]
theorem sP {t e e':TypeId}{x:Operand}{b o m c s:Nat}{C zs:List Value}(hT:P.underlying t=some (.slice e)) (hz:((P.info? e).bind (·.zero)).map (·.cells)=some zs.toArray) (hzl:zs.length=s) (hs:0<s) (hz1:∀v∈zs,v.oneCell'=true) (hx:ev n f x = .slice (some ⟨b,o,none⟩) m c) (hm:0<m) (hst:St w0 W (Res.bx b C e'::rs)) (hle:o+m*s<=C.length)
  (k:∀Z W',Z.length=m*s->St w0 W' (Res.bx b (aK C o Z) e'::rs)->K (.tuple #[]) W'):Stp P n ⟨d,.call { callee := .builtin .clear,args := #[x],argTypes := #[t] },ty,pos,af,g⟩ f W Q K:=by
 have hB:W.heap[b]? = some (.cells C.toArray e' (0,0)):=hst.get 0 rfl;have hZl:(Builtin.zeroCells zs.toArray m).toList.length=m*s:=by rw[Array.length_toList,size_zeroCells,size_toArray,hzl]
 cases hi:P.info? e with
 | none=>simp[hi]at hz
 | some i=>
  cases hzz:i.zero with
  | none=>simp[hi,hzz]at hz
  | some z=>
   have hzc:z.cells=zs.toArray:=by simpa [hi,hzz] using hz
   have h1:∀v∈(Builtin.zeroCells zs.toArray m).toList,v.oneCell'=true:=by
    intro v hv;simp only[Builtin.zeroCells,Array.toList_map,mem_map]at hv;obtain⟨j,_,rfl⟩:=hv;have hj:j % zs.length<zs.length:=Nat.mod_lt _ aA;have hq:zs.toArray[j % zs.toArray.size]! = zs[j % zs.length]:=by simp[hj]
    first | (rw[hq];exact hz1 _ (getElem_mem _)) | (simp only[size_toArray]at *;rw[hq];exact hz1 _ (getElem_mem _))
   have hst2:=run_storeCells_cells (P:=P) b o (Builtin.zeroCells zs.toArray m).toList 0 W (fun j hj=>by simp[World.cell?,hB];omega) (fun j hj=>by simp[World.frozen?,hB]) h1;simp only[Nat.add_zero]at hst2;have hr:(Builtin.clear_ #[t] ty #[.slice (some ⟨b,o,none⟩) m c]).run P W = .ok (.tuple #[]) (W.setCells b o (Builtin.zeroCells zs.toArray m).toList):=by
    obtain⟨m',rfl⟩:∃m',m=m'+1:=⟨m-1,by omega⟩;simp[Builtin.clear_,run_underlying hT,zeroValue,typeInfo,hi,hzz,hzc,hst2]
   refine Stp.run (v := .tuple #[]) (W':=W.setCells b o (Builtin.zeroCells zs.toArray m).toList) ?_ (k _ _ hZl (hst.store o _ (by rw[hZl];exact hle)));simp only[execOp,resolve,invoke,builtin,Sem.run_bind,Sem.run_pure,Result.andThen_ok,map_toArray,map_cons,map_nil,hx,hr]
end
theorem bL2 {C:List Value}{o a b c:Nat}{v:Value}(h:v∈(C.drop (o+a)).take b) (hc:a+b<=c):v∈(C.drop o).take c:=by
 obtain⟨j,hj⟩:=mem_iff_getElem?.1 h;rw[getElem?_take]at hj;split at hj
 ·refine mem_iff_getElem?.2 ⟨a+j,?_⟩;rw[getElem?_take,if_pos aA,getElem?_drop]
  rwa [getElem?_drop,Nat.add_assoc]at hj
 cases hj
theorem aL5 {P Q R V:List Value}(h:Q.length=V.length):aK (P++(Q++R)) P.length V=P++(V++R):=by
 rw[wC _ _ _ (by simp;omega),take_left,append_assoc];congr 2;rw[drop_length_add_append,<- h,drop_left]
theorem aP1 {C Z:List Value}{o s k m:Nat}(hk:k<m) (hle:o+m*s<=C.length) (hZ:Z.length=1*s) :
  ((aK (aK C (o+k*s) ((C.drop (o+(k+1)*s)).take ((m-(k+1))*s))) (o+(m-1)*s) Z).drop o).take ((m-1)*s)=((C.drop o).take (m*s)).take (k*s)++((C.drop o).take (m*s)).drop ((k+1)*s):=by
 obtain⟨p,rfl⟩:∃p,m=k+1+p:=⟨m-(k+1),by omega⟩;have a1:k+1+p-(k+1)=p:=by omega
 have a2:k+1+p-1=k+p:=by omega
 rw[a1,a2];have b1:(k+1+p)*s=k*s+s+p*s:=by rw[Nat.add_mul,Nat.add_mul,Nat.one_mul]
 have b2:(k+p)*s=k*s+p*s:=Nat.add_mul ..;have b3:(k+1)*s=k*s+s:=by rw[Nat.add_mul,Nat.one_mul]
 rw[b1]at hle;rw[b1,b2,b3];rw[Nat.one_mul]at hZ;generalize k*s=A at *;generalize p*s=B at *;obtain⟨P,X,S,Y,T,rfl,rfl,rfl,rfl,rfl⟩:∃P X S Y T:List Value,C=P++(X++(S++(Y++T)))/\P.length=o/\X.length=A/\S.length=s/\Y.length=B:=by
  refine⟨C.take o,(C.drop o).take A,((C.drop o).drop A).take s,(((C.drop o).drop A).drop s).take B,(((C.drop o).drop A).drop s).drop B,?_,?_,?_,?_,?_⟩
  ·simp only[take_append_drop]
  all_goals (simp only[length_take,length_drop];omega)
 have e1:((P++(X++(S++(Y++T)))).drop (P.length+(X.length+S.length))).take Y.length=Y:=by
  rw[drop_length_add_append,drop_length_add_append,drop_left,take_left]
 rw[e1];have hl:Y.length<=(S++(Y++T)).length:=by simp;omega
 have e2:aK (P++(X++(S++(Y++T)))) (P.length+X.length) Y=(P++X)++(Y++(S++(Y++T)).drop Y.length):=by
  have:=aL5 (P:=P++X) (Q:=(S++(Y++T)).take Y.length) (R:=(S++(Y++T)).drop Y.length) (V:=Y) (by rw[length_take];omega);rw[take_append_drop,length_append,append_assoc]at this;exact this
 rw[e2];have hr:((S++(Y++T)).drop Y.length).length=S.length+T.length:=by simp;omega
 generalize (S++(Y++T)).drop Y.length=R at hr;have e3:aK ((P++X)++(Y++R)) (P.length+(X.length+Y.length)) Z=((P++X)++Y)++(Z++R.drop S.length):=by
  have:=aL5 (P:=(P++X)++Y) (Q:=R.take S.length) (R:=R.drop S.length) (V:=Z) (by rw[length_take];omega);rw[take_append_drop,length_append,length_append,append_assoc,Nat.add_assoc]at this;exact this
 rw[e3,append_assoc,append_assoc,drop_left,drop_left,<- append_assoc X Y,<- length_append,take_left];have e4:(X++(S++(Y++T))).take (X.length+S.length+Y.length)=X++(S++Y):=by
  have:X.length+S.length+Y.length=(X++(S++Y)).length:=by simp;omega
  rw[this,show X++(S++(Y++T))=(X++(S++Y))++T by simp,take_left]
 rw[e4,take_left,drop_length_add_append,drop_left]
end Go.Proofs.YtpdgdnpajmcaeaaGreat
namespace Go.Proofs.YtpdgdnpajmcaeaaGreat
set_option maxHeartbeats 1000000
set_option maxHeartbeats 2000000
open Go.RowKit Go.Proofs.Tryz List
section
variable {α:Type}[Shape α]
theorem St.row_front {w0 W:World}{e:TypeId}{h:Hd}{xs:List α}{fe:List Nat}{rs:List Res}{m:Nat}(hm:m<=xs.length) (hst:St w0 W (Res.row e h.val xs fe::rs)):∃fe',St w0 W (Res.row e (.slice h.ao m h.cap) (xs.take m) fe'::rs):=by
 obtain⟨⟨cells,ho,he⟩,hw⟩:=hst.get 0 rfl;obtain⟨f1,f2,rfl,p1,_⟩:=Elems.parts' m hm he;have hl:(xs.take m).length=m:=by rw[length_take];omega
 have hcl:(cells.take (m*Shape.size α)).length=m*Shape.size α:=by
  rw[length_take,ho.1];exact Nat.min_eq_left (Nat.mul_le_mul_right _ hm)
 have hob:(Value.slice h.ao m h.cap).ownBlock=h.val.ownBlock:=by
  unfold Hd.val;cases h.ao<;>rfl
 refine⟨f1,St.trade (rs1:=[Res.row e h.val xs (f1++f2)]) (rs2:=[_]) hst ?_ ?_ ?_⟩
 ·have hn:=hst.nodup;rw[flatMap_cons,nodup_append]at hn;have hn:=hn.1;simp only[Res.row,flatMap_cons,flatMap_nil,append_nil]at hn ⊢;rw[hob];rw[<- append_assoc]at hn;exact(nodup_append.1 hn).1
 ·intro b hb;simp only[Res.row,flatMap_cons,flatMap_nil,append_nil]at hb ⊢;rw[hob]at hb;rcases mem_append.1 hb with hb | hb
  ·exact mem_append_left _ hb
  exact mem_append_right _ (mem_append_left _ hb)
 intro r hr;simp only[mem_singleton]at hr;subst hr;refine⟨⟨cells.take (m*Shape.size α),?_,p1⟩,fun b hb=>hw b (mem_append_left _ hb)⟩;rw[hl];refine⟨hcl,?_⟩;rcases ho.2 with⟨h1,h2⟩ | ⟨g,cap,cur,h1,h2,h3,h4,h5,h6,h7⟩
 ·left;unfold Hd.val at h1
  injection h1 with e1 e2 e3
  have hm0:m=0:=by omega
  rw[e1,e3,hm0];exact⟨rfl,rfl⟩
 right;unfold Hd.val at h1
 injection h1 with e1 e2 e3
 refine⟨g,cap,cur,by rw[e1,e3],h2,h3,by omega,h5,h6,?_⟩;rw[<- h7,take_take,Nat.min_eq_left (Nat.mul_le_mul_right _ hm)]
theorem St.drew {w0 W:World}{rs:List Res}(h:St w0 W rs):St w0 W.drew rs:=
 h.call (rs':=[]) (St.of_below ⟨rfl,rfl,rfl,Nat.le_refl _,fun _ _=>rfl⟩)
section
variable {P:Program}{n:Nat}{f:Nat->Value}{w0 W:World}{rs:List Res}{Q:Exit->Act->World->Prop}{d:Option Tmp}{ty:TypeId}{pos:String}{af:Array Go.Edge}{g:Option (Nat×Bool)}{K:Value->World->Prop}
theorem stp_append_cut {t e:TypeId}{bytes:Nat}{s x:Operand}{h:Hd}{xs ys:List α}{fe fz:List Nat}{b m k:Nat}{cs:List Value}{e':TypeId}{R2:Res}(hT:ApOk P t e α bytes) (hs:ev n f s = .slice h.ao k k) (hx:ev n f x = .slice (some ⟨b,0,none⟩) m m) (hm:ys.length=m) (hm0:0<m) (hk:k<=xs.length)
  (hst:St w0 W (Res.row e h.val xs fe::Res.bx b cs e'::R2::rs)) (hR:R2.fp=fz) (hcs:∀W,R2.holds W->Elems W cs ys fz/\∀b∈fz,Wr W b) (h63:k+m<=maxLen) (hby:(k+m)*bytes<=140737488355328)
  (kk:∀v' fe' W',St w0 W' (Res.row e v' (xs.take k++ys) fe'::rs)->K v' W') :
  Stp P n ⟨d,.call { callee := .builtin .append,args := #[s,x],argTypes := #[t,t] },ty,pos,af,g⟩ f W Q K:=by
 subst hR;obtain⟨⟨cells,ho,he⟩,hw⟩:=hst.get 0 rfl;have hb:=hst.get 1 rfl;obtain⟨hE2,hW2⟩:=hcs W (hst.get 2 rfl);obtain⟨f1,f2,rfl,p1,_⟩:=Elems.parts' k hk he;obtain⟨i,z,hi,hz,h1,h2,h3⟩:=hT.info;have hsmall:k+m<=9223372036854775807:=by simp only[maxLen]at h63;omega
 have hl:(xs.take k).length=k:=by rw[length_take];omega
 have hcl:(cells.take (k*Shape.size α)).length=k*Shape.size α:=by
  rw[length_take,ho.1];exact Nat.min_eq_left (Nat.mul_le_mul_right _ hk)
 have hnl:cs.length=m*Shape.size α:=by rw[hE2.len,hm]
 have hnews:∀j u,cs[j]? = some u->W.cell? ((⟨b,0,none⟩:Addr).add j)=some u:=by
  intro j u hj;rw[Addr.add_mid];exact bE hb j u hj
 have key:∃gc cur,(Builtin.append_ #[t,t] ty #[.slice h.ao k k,.slice (some ⟨b,0,none⟩) m m]).run P W = .ok (.slice (some ⟨W.heap.size,0,none⟩) (k+m) gc) (W.drew.alloc (.cells cur e))/\k+m<=gc/\gc<=maxLen/\cur.size=gc*Shape.size α/\cur.toList.take ((k+m)*Shape.size α)=cells.take (k*Shape.size α)++cs:=by
  rcases ho.2 with⟨q1,q2⟩ | ⟨g,cap,cur,q1,q2,q3,q4,q5,q6,q7⟩
  ·unfold Hd.val at q1
   injection q1 with e1 e2 e3
   have hk0:k=0:=by omega
   subst hk0;have hr:=run_append_nil (P:=P) (ty:=ty) W t e i z hT.desc hi hz ⟨b,0,none⟩ m m cs (by rw[h1];exact hnl) hnews hm0 aA (by rw[h2];have hb:=hby;simp only[Nat.zero_add]at hb;omega);have hge:=grownCap_ge W m 0 e;have hcm:=grownCap_le_maxLen W m 0 e aA;refine⟨grownCap W m 0 e,_,by rw[e1,Nat.zero_add];exact hr,by omega,hcm,?_,?_⟩
   ·simp only[Array.size_append,size_toArray,size_zeroCells,h3,hnl,<- Nat.add_mul];congr 1;omega
   simp only[Array.toList_append,Nat.zero_add,Nat.zero_mul,take_zero,nil_append];rw[<- hnl];exact take_left
  unfold Hd.val at q1
  injection q1 with e1 e2 e3
  have holds:∀j u,(cells.take (k*Shape.size α))[j]? = some u->W.cell? ((⟨g,0,none⟩:Addr).add j)=some u:=by
   intro j u hj;have hj2:cells[j]? = some u:=by
    have hlt:=(gsi_.1 hj).1;rw[getElem?_take_of_lt (by rw[hcl]at hlt;exact hlt)]at hj;exact hj
   have hoc:=ho.cells (g:=g) (by show h.val.ownBlock=some g;unfold Hd.val;rw[e1];rfl) j u hj2;exact hoc
  have hr:=run_append_grow (P:=P) (ty:=ty) W t e i z hT.desc hi hz ⟨g,0,none⟩ k k (cells.take (k*Shape.size α)) (by rw[h1];exact hcl) holds ⟨b,0,none⟩ m m cs (by rw[h1];exact hnl) hnews aA aA (by rw[h2];exact growslice_fits aA hby);have hge:=grownCap_ge W (k+m) k e;have hcm:=grownCap_le_maxLen W (k+m) k e h63;refine⟨grownCap W (k+m) k e,_,by rw[e1];exact hr,hge,hcm,?_,?_⟩
  ·simp only[Array.size_append,size_toArray,size_zeroCells,h3,hcl,hnl,<- Nat.add_mul];congr 1;omega
  simp only[Array.toList_append,append_assoc];rw[<- append_assoc,Nat.add_mul];refine take_left' ?_;rw[length_append,hcl,hnl]
 obtain⟨gc,cur,hrun,g1,g2,g3,g4⟩:=key;refine Stp.run (v := .slice (some ⟨W.heap.size,0,none⟩) (k+m) gc) (W':=W.drew.alloc (.cells cur e)) ?_ (kk _ (f1++R2.fp) _ ?_)
 ·simp only[execOp,resolve,invoke,builtin,Sem.run_bind,Sem.run_pure,Result.andThen_ok,map_toArray,map_cons,map_nil,hs,hx,hrun]
 have hkeep:∀c,c<W.heap.size->(W.drew.alloc (.cells cur e)).heap[c]? = W.heap[c]? := fun c hc=>heap_alloc_old W.drew _ hc
 have hsz:W.heap.size<=(W.drew.alloc (.cells cur e)).heap.size:=by simp
 have st1:=hst.drew.alloc cur.toList e;rw[Array.toArray_toList]at st1;have hlt1:∀c∈f1,c<W.heap.size:=fun c hc=>(hw c (mem_append_left _ hc)).lt
 have hlt2:∀c∈R2.fp,c<W.heap.size:=fun c hc=>(hW2 c hc).lt
 refine St.trade (rs1:=[Res.bx W.drew.heap.size cur.toList e,Res.row e h.val xs (f1++f2),Res.bx b cs e',R2]) (rs2:=[_]) st1 ?_ ?_ ?_
 ·have hn:=st1.nodup;have hn2:([W.heap.size]++((h.val.ownBlock.toList++(f1++f2))++([b]++(R2.fp++rs.flatMap Res.fp)))).Nodup:=by
   simpa [Res.bx,Res.row] using hn
  simp only[Res.row,flatMap_cons,flatMap_nil,append_nil];refine hn2.sublist ?_;show ((Value.slice (some ⟨W.heap.size,0,none⟩) (k+m) gc).ownBlock.toList++(f1++R2.fp)).Sublist _;refine List.Sublist.append (List.Sublist.refl _) (List.Sublist.append ((sublist_append_left f1 f2).trans (sublist_append_right _ _)) ?_);exact(sublist_append_left _ _).trans (sublist_append_right _ _)
 ·intro c hc;have hc:c∈[W.heap.size]++(f1++R2.fp):=by simpa [Res.row,Value.ownBlock] using hc
  have:c=W.heap.size∨c∈f1∨c∈R2.fp:=by simpa using hc
  simp only[flatMap_cons,flatMap_nil,append_nil,mem_append];rcases this with h | h | h
  ·left;simp[Res.bx,h]
  ·right;left;simp[Res.row,h]
  right;right;right;exact h
 intro r hr;simp only[mem_singleton]at hr;subst hr;refine⟨⟨cells.take (k*Shape.size α)++cs,⟨?_,.inr ⟨W.heap.size,gc,cur,?_,Nat.zero_le _,heap_alloc_new W.drew _,?_,g2,g3,?_⟩⟩,?_⟩,?_⟩
 ·rw[length_append,hcl,hnl,length_append,hl,hm,Nat.add_mul]
 ·rw[length_append,hl,hm]
 ·rw[length_append,hl,hm];exact g1
 ·rw[length_append,hl,hm];exact g4
 ·exact(p1.loc hsz fun c hc=>hkeep c (hlt1 c hc)).append (hE2.loc hsz fun c hc=>hkeep c (hlt2 c hc))
 intro c hc;rcases mem_append.1 hc with hc | hc
 ·exact(hw c (mem_append_left _ hc)).loc (hkeep c (hlt1 c hc))
 exact(hW2 c hc).loc (hkeep c (hlt2 c hc))
theorem stp_append_mv {t e e2:TypeId}{bytes:Nat}{s x:Operand}{v:Value}{h:Hd}{xs ys:List α}{fe fy:List Nat}(hT:ApOk P t e α bytes) (hs:ev n f s=v) (hx:ev n f x=h.val) (hne:ys≠[])
  (hst:St w0 W (Res.row e v xs fe::Res.row e2 h.val ys fy::rs)) (h63:xs.length+ys.length<=maxLen) (hby:(xs.length+ys.length)*bytes<=140737488355328)
  (k:∀v' fe' W',St w0 W' (Res.row e v' (xs++ys) fe'::rs)->K v' W') :
  Stp P n ⟨d,.call { callee := .builtin .append,args := #[s,x],argTypes := #[t,t] },ty,pos,af,g⟩ f W Q K:=by
 obtain⟨⟨cells,ho,he⟩,hw⟩:=hst.get 1 rfl;have hpos:0<ys.length:=length_pos_iff.2 hne;rcases ho.2 with⟨_,h0⟩ | ⟨gg,cap,cur,h1,_⟩
 ·omega
 have hhv:h.val = .slice (some ⟨gg,0,none⟩) ys.length cap:=h1;have hn:=hst.nodup;rw[flatMap_cons,flatMap_cons]at hn;have hn2:((v.ownBlock.toList++fe)++((h.val.ownBlock.toList++fy)++rs.flatMap Res.fp)).Nodup:=hn;rw[nodup_append]at hn2;obtain⟨hn3,hn4,hn5⟩:=hn2;rw[nodup_append]at hn4;obtain⟨hn6,hn7,hn8⟩:=hn4;refine jX (fy:=fy) hT hs (hx.trans hhv) rfl hst.d1 he ?_ hw (nodup_append.1 hn6).2.1 ?_ h63 hby fun v' W' st'=>k v' _ W' st'
 ·intro j u hj;exact ho.cells (g:=gg) (by rw[hhv];rfl) j u hj
 intro b hb;have hb':b∈h.val.ownBlock.toList++fy:=mem_append_right _ hb;refine⟨fun hc=>hn5 b hc b (mem_append_left _ hb') rfl,fun hc=>hn8 b hb' b hc rfl,hst.fresh (Res.row e2 h.val ys fy) (by simp) b hb'⟩
end
end
end Go.Proofs.YtpdgdnpajmcaeaaGreat
