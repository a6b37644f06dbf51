/-
  One operation, reckoned: those that only read. Theory alone.
  A store into an element of an owned slice; a made slice, all zeros.
  Parts of slices, whose values are known ahead; three results, the first in a cell.
  One operation that only reads, of whatever kind. Theory alone.
  Operations that make memory, write, or call; a region's list; what goes out of use. Theory alone.
  Operations that make memory, write, or call. Theory alone.
  Rows handled by their block: cap, parts, copies, and what is appended of zeros.
  Slices of entries owned, by their block; clear.
  Slices owned, by their block, whatever their elements lead to; an append within the block; clear; elements that go over to another row. Theory alone.
  Appending to a row's front; to what is left of a row whose room is cut; a row's elements that go to another row. Theory alone.
  Appending to what is one's own. Theory alone.
  Appending a string's bytes to what is one's own. Theory alone.
  Calls that are handed a pointer to what is one's own; elements that are lent. Theory alone.
-/
import Derived.Lib.AppendZerosOnto
import Derived.Lib.Overlaps
import Derived.Laws.IdiomCopy
import Derived.ArgAppend
import Derived.Lib.AppendStr
import Derived.Test.YtjihdmlkpkkpbaaGreatQ01
universe u
set_option linter.unusedSimpArgs false
set_option linter.unusedVariables false
namespace Go.Proofs.YtjihdmlkpkkpbaaGreat
set_option maxHeartbeats 1000000
set_option maxHeartbeats 2000000
open Go.RowKit Go.Proofs.Tryz List

structure Dat:Type 1 where
 {α:Type}
 i:Shape α
 xs:List α
def vW (s:S) (j:Nat):Option (Bool×Hd×Dat):=
 match lku s.O j with
 | some (.own i h xs _)=>some (false,h,⟨i,xs⟩)
 | some (.row i _ h xs _)=>some (false,h,⟨i,xs⟩)
 | some _=>none
 | none=>match lku s.B j with
  | some (l,.sl i h xs _)=>some (l,h,⟨i,xs⟩)
  | some (_,.al jz k)=>match lku s.O jz with
   | some (.rz i _ _ _ _ cs z _)=>match cs[k]?,(i.lv z)[k]? with
    | some (.rf _ h),some (.s _ i' ys)=>some (false,h,⟨i',ys⟩)
    | _,_=>none
   | _=>none
  | _=>none
theorem aX4 {w:World}:∀{cs:List Value}{ls:List Lf}{fp:List Nat}{k:Nat}{c:Value}{β:Type}{i:Shape β}{ys:List β},dR w cs ls fp->cs[k]? = some c->ls[k]? = some (.s β i ys)->∃f,Sl w c ys f
 | [],_,_,_,_,_,_,_,_,h,_=>by simp at h
 | _::_,[],_,_,_,_,_,_,_,_,h=>by simp at h
 | c::cs,.v u::ls,fp,0,_,_,_,_,h,h1,h2=>by simp at h2
 | c::cs,.s β i ys::ls,fp,0,_,_,_,_,h,h1,h2=>by
  simp only[getElem?_cons_zero,Option.some.injEq,Lf.s.injEq]at h1 h2;obtain⟨rfl,h3,h4⟩:=h2;obtain⟨rfl,rfl⟩:=And.intro (eq_of_heq h3) (eq_of_heq h4);obtain⟨f1,f2,h5,_⟩:=h;exact⟨f1,h1▸h5⟩
 | c::cs,.v u::ls,fp,k+1,_,_,_,_,h,h1,h2=>aX4 (k:=k) h.2 (by simpa using h1) (by simpa using h2)
 | c::cs,.s β i ys::ls,fp,k+1,_,_,_,_,h,h1,h2=>by
  obtain⟨f1,f2,_,h6,_⟩:=h;exact aX4 (k:=k) h6 (by simpa using h1) (by simpa using h2)
def grT (s:S) (G:Option Gr) (k:Tr):Tr:=
 match G with
 | none=>k
 | some g=>match lku s.B 999999 with
  | some (_,.gr g')=>.e0 g' g k
  | _=>.no
theorem aV6 {s:S}{G:Option Gr}{k:Tr}{w0 W:World}(h:(grT s G k).holds) (hb:Below w0.heap.size w0 W) (fa:Facts w0 W s.B):Gin G W/\k.holds:=by
 cases G with
 | none=>exact⟨trivial,h⟩
 | some g=>
  unfold grT at h;simp only at h;split at h
  ·next l g' hj=>
   obtain⟨rfl,hk⟩:=h;exact⟨fa.now hb hj,hk⟩
  exact h.elim
theorem sK {O:List (Nat×Ob)}{j:Nat}{o:Ob}(h:lku O j=some o):o.res∈O.map fun p=>p.2.res:=mem_map.2 ⟨_,mO h,rfl⟩
theorem lF {s:S}{j:Nat}{l:Bool}{h:Hd}{d:Dat}{w0 W:World}(e:vW s j=some (l,h,d)) (st:St w0 W s.rs) (fa:Facts w0 W s.B):∃fp,@Sl d.α d.i (cond l w0 W) h.val d.xs fp:=by
 unfold vW at e;split at e
 ·next i h' xs fp hj=>
  simp only[Option.some.injEq,Prod.mk.injEq]at e;obtain⟨rfl,rfl,rfl⟩:=e;exact⟨_,jS (st.holds _ (sK hj))⟩
 ·next i te h' xs fp hj=>
  simp only[Option.some.injEq,Prod.mk.injEq]at e;obtain⟨rfl,rfl,rfl⟩:=e;exact⟨_,jQ (st.holds _ (sK hj))⟩
 ·cases e
 split at e
 ·next l' i h' xs fp hj=>
  simp only[Option.some.injEq,Prod.mk.injEq]at e;obtain⟨rfl,rfl,rfl⟩:=e;exact⟨fp,fa _ (mO hj)⟩
 ·split at e
  ·next i te h' xs fe cs z fz hO=>
   split at e
   ·next hc hl=>
    simp only[Option.some.injEq,Prod.mk.injEq]at e;obtain⟨rfl,rfl,rfl⟩:=e;have h1:=(st.holds _ (sK hO)).2;exact aX4 (i.out h1).2 (by rw[getElem?_map,hc];rfl) hl
   cases e
  cases e
 cases e
def rgOf (s:S) (j:Nat):Option (Nat×Nat×List Sc):=
 match lku s.O j with
 | some (.bx b pre cs _ _)=>some (b,pre.length,cs)
 | some _=>none
 | none=>match lku s.B j with
  | some (_,.rg b k cs)=>some (b,k,cs)
  | some (_,.el _ _ _ b k cs)=>some (b,k,cs)
  | _=>none
theorem bL9 {s:S}{j b k:Nat}{cs:List Sc}{w0 W:World}(e:rgOf s j=some (b,k,cs)) (st:St w0 W s.rs) (fa:Facts w0 W s.B):W.rangeAt b k (cs.map Sc.val):=by
 unfold rgOf at e;split at e
 ·next hj=>
  simp only[Option.some.injEq,Prod.mk.injEq]at e;obtain⟨rfl,rfl,rfl⟩:=e;exact range_lent (st.holds _ (sK hj))
 ·cases e
 split at e
 ·next hj=>
  simp only[Option.some.injEq,Prod.mk.injEq]at e;obtain⟨rfl,rfl,rfl⟩:=e;exact fa.now st.below hj
 ·next hj=>
  simp only[Option.some.injEq,Prod.mk.injEq]at e;obtain⟨rfl,rfl,rfl⟩:=e;exact(fa.now st.below hj).2
 cases e

section
variable {P:Program}{A:Type}{R:A->Prop}
def xQ (l:Bool):List Lf->S->(List Sc->S->Tr)->Tr
 | [],s,K=>K [] s
 | .v x::ls,s,K=>xQ l ls s fun cs s=>K (sc x::cs) s
 | .s _ i ys::ls,s,K=>.fn fun g:Hd×List Nat=>xQ l ls ⟨s.E,s.O,(s.nx,l,.sl i g.1 ys g.2)::s.B,s.nx+1⟩ fun cs s'=>K (.rf s.nx g.1::cs) s'
theorem oG {G:Prop}{l:Bool}{w0 W:World}:∀{ls:List Lf}{s:S}{K:List Sc->S->Tr}{cs:List Value}{fp:List Nat},(xQ l ls s K).holds->dR (cond l w0 W) cs ls fp->Facts w0 W s.B ->
  (∀scs s',(K scs s').holds->scs.map Sc.val=cs->s'.E=s.E->s'.O=s.O->Facts w0 W s'.B->G)->G
 | [],s,K,[],fp,h,hc,fa,k=>k [] s h rfl rfl rfl fa
 | [],s,K,c::cs,fp,h,hc,fa,k=>hc.elim
 | .v x::ls,s,K,[],fp,h,hc,fa,k=>hc.elim
 | .s _ _ _::ls,s,K,[],fp,h,hc,fa,k=>hc.elim
 | .v x::ls,s,K,c::cs,fp,h,hc,fa,k=>by
  refine oG (K:=fun cs s=>K (sc x::cs) s) h hc.2 fa fun scs s' h' e1 e2 e3 fa'=>k _ s' h' ?_ e2 e3 fa'
  rw[map_cons,nI,e1,hc.1]
 | .s _ i ys::ls,s,K,c::cs,fp,h,hc,fa,k=>by
  obtain⟨f1,f2,h1,h2,_⟩:=hc;obtain⟨hd,rfl,hn⟩:=h1.hd;refine oG (K:=fun cs s'=>K (.rf s.nx hd::cs) s') (h (hd,f1)) h2 ?_ fun scs s' h' e1 e2 e3 fa'=>k _ s' h' ?_ e2 e3 fa'
  ·intro e he;rcases mem_cons.1 he with rfl | he
   ·exact h1
   ·exact fa e he
  ·rw[map_cons,e1];rfl
def slT {α:Type}(s:S) (c:Sc) (i:Shape α) (ys:List α) (k:Tr):Tr:=
 match c with
 | .rf j h=>match vW s j with
  | some (_,h',d)=>.e0 h h' (.e1 d ⟨i,ys⟩ k)
  | none=>.no
 | .vl (.slice none 0 0)=>.e1 (⟨i,[]⟩:Dat) ⟨i,ys⟩ k
 | _=>.no
theorem cC1 {α:Type}{s:S}{c:Sc}{i:Shape α}{ys:List α}{k:Tr}{w0 W:World}(h:(slT s c i ys k).holds) (st:St w0 W s.rs) (fa:Facts w0 W s.B):(∃fp,Sl W c.val ys fp)/\k.holds:=by
 unfold slT at h;split at h
 ·next j hd=>
  split at h
  ·next l h' d hj=>
   obtain⟨rfl,rfl,hk⟩:=h;obtain⟨fp,hs⟩:=lF hj st fa;refine⟨⟨fp,?_⟩,hk⟩;cases l with
   | true=>exact Sl.below hs st.below
   | false=>exact hs
  exact h.elim
 ·obtain⟨h1,hk⟩:=h;simp only[Dat.mk.injEq,heq_eq_eq,true_and]at h1;subst h1;exact⟨⟨[],cD0⟩,hk⟩
 exact h.elim
def aG6 (s:S):List Sc->List Lf->Tr->Tr
 | [],[],k=>k
 | c::cs,.v u::ls,k=>.e0 c.val u (aG6 s cs ls k)
 | c::cs,.s _ i ys::ls,k=>slT s c i ys (aG6 s cs ls k)
 | _,_,_=>.no
theorem rT {s:S}{w0 W:World}(st:St w0 W s.rs) (fa:Facts w0 W s.B):∀{cs:List Sc}{ls:List Lf}{k:Tr},(aG6 s cs ls k).holds->(∃fp,dR W (cs.map Sc.val) ls fp)/\k.holds
 | [],[],k,h=>⟨⟨[],rfl⟩,h⟩
 | c::cs,.v u::ls,k,h=>by
  obtain⟨h1,h2⟩:=h;obtain⟨⟨fp,h3⟩,hk⟩:=rT st fa h2;exact⟨⟨fp,h1,h3⟩,hk⟩
 | c::cs,.s _ i ys::ls,k,h=>by
  obtain⟨⟨f1,h1⟩,h2⟩:=cC1 h st fa;obtain⟨⟨f2,h3⟩,hk⟩:=rT st fa h2;exact⟨⟨f1++f2,f1,f2,h1,h3,rfl⟩,hk⟩
 | [],.v _::_,_,h=>h.elim
 | [],.s _ _ _::_,_,h=>h.elim
 | _::_,[],_,h=>h.elim
def lY (s:S):List SV->List Par->Tr->Tr
 | [],[],k=>k
 | .on (.ce c)::us,.v x::ps,k=>.e0 c.val x (lY s us ps k)
 | .on (.ce c)::us,.b e::ps,k=>.e0 c.val (.bool e) (lY s us ps k)
 | .on (.ag l)::us,.st i x::ps,k=>aG6 s l (i.lv x) (lY s us ps k)
 | .on (.ce c)::us,.sl i xs::ps,k=>slT s c i xs (lY s us ps k)
 | .on (.ag l)::us,.ag l'::ps,k=>.e0 (l.map Sc.val) l' (lY s us ps k)
 | _,_,_=>.no
theorem iN {s:S}{w0 W:World}(st:St w0 W s.rs) (fa:Facts w0 W s.B):∀{us:List SV}{ps:List Par}{k:Tr},(lY s us ps k).holds->gps ps->Pars W (us.map SV.val) ps/\k.holds:=by
 intro us
 induction us with
 | nil=>
  intro ps k h hg;cases ps with
  | nil=>exact⟨trivial,h⟩
  | cons p ps=>exact h.elim
 | cons u us ih=>
  intro ps k h hg;unfold lY at h;split at h
  ·next heq1=>first | cases heq1 | (rename_i heq2;cases heq2)
  ·next c us' x ps' k' heq=>
   simp only[List.cons.injEq]at heq;obtain⟨rfl,rfl⟩:=heq;obtain⟨h1,h2⟩:=h;obtain⟨a,b⟩:=ih h2 hg;exact⟨⟨h1,a⟩,b⟩
  ·next c us' x ps' k' heq=>
   simp only[List.cons.injEq]at heq;obtain⟨rfl,rfl⟩:=heq;obtain⟨h1,h2⟩:=h;obtain⟨a,b⟩:=ih h2 hg;exact⟨⟨h1,a⟩,b⟩
  ·next _ _ _ l us' α i x ps' heq=>
   simp only[List.cons.injEq]at heq;obtain⟨rfl,rfl⟩:=heq;obtain⟨⟨fp,hc⟩,h2⟩:=rT st fa h;obtain⟨a,b⟩:=ih h2 hg.2;exact⟨⟨⟨_,fp,rfl,i.inn hg.1 hc⟩,a⟩,b⟩
  ·next c us' β i xs ps' k' heq=>
   simp only[List.cons.injEq]at heq;obtain⟨rfl,rfl⟩:=heq;obtain⟨hs,h2⟩:=cC1 h st fa;obtain⟨a,b⟩:=ih h2 hg;exact⟨⟨hs,a⟩,b⟩
  ·next l us' l' ps' k' heq=>
   simp only[List.cons.injEq]at heq;obtain⟨rfl,rfl⟩:=heq;obtain⟨h1,h2⟩:=h;obtain⟨a,b⟩:=ih h2 hg;exact⟨⟨by show Value.agg _=_;rw[<- h1],a⟩,b⟩
  exact h.elim

def QS (P:Program) (lk:Operand->Option SV) (o:Op) (w0 W:World) (rs:List Res) (v:SV):Prop:=
 ∀{n:Nat}{f:Nat->Value}{W':World}{Q:Exit->Act->World->Prop}{KK:Value->World->Prop}{d:Option Tmp}{ty:TypeId}{pos:String}{af:Array Go.Edge}{g:Option (Nat×Bool)},
  (∀x u,lk x=some u->ev n f x=u.val)->St w0 W' rs->Below W.heap.size W W'->(∀W'',St w0 W'' rs->Below W'.heap.size W' W''->KK v.val W'')->Stp P n ⟨d,o,ty,pos,af,g⟩ f W' Q KK
def opt {α:Type u}(o:Option α) (K:α->Tr):Tr:=
 match o with
 | some x=>K x
 | none=>.no
theorem aH {G:Prop}{α:Type u}{o:Option α}{K:α->Tr}(h:(opt o K).holds) (k:∀x,o=some x->(K x).holds->G):G:=by
 unfold opt at h;split at h
 ·exact k _ rfl h
 exact h.elim
def asC (v:SV) (K:Sc->Tr):Tr:=
 match v with
 | .on (.ce c)=>K c
 | _=>.no
theorem cO {G:Prop}{v:SV}{K:Sc->Tr}(h:(asC v K).holds) (k:∀c,v = .on (.ce c)->(K c).holds->G):G:=by
 unfold asC at h;split at h
 ·exact k _ rfl h
 exact h.elim
abbrev one (c:Sc):SV := .on (.ce c)
def arT (b:BinOp) (x y:Sc) (d:D P R) (K:SV->D P R->Tr):Tr:=
 nrm d fun d=>match b,d with
  | .add,.ad a c _ k=>.e0 x.val (I a) (.e0 y.val (I c) (K (one (.vl (I (a+c)))) k))
  | .sub,.su a c _ k=>.e0 x.val (I a) (.e0 y.val (I c) (K (one (.vl (I (a-c)))) k))
  | .mul,.mu a c _ k=>.e0 x.val (I a) (.e0 y.val (I c) (K (one (.vl (I (a*c)))) k))
  | .quo,.qu a c _ k=>.e0 x.val (I a) (.e0 y.val (I c) (K (one (.vl (I (a / c)))) k))
  | .rem,.qu a c _ k=>.e0 x.val (I a) (.e0 y.val (I c) (K (one (.vl (I (a % c)))) k))
  | _,_=>.no
theorem arT_ok {G:Prop}{lk:Operand->Option SV}{b:BinOp}{x y:Operand}{t t':TypeId}{cx cy:Sc}{d:D P R}{K:SV->D P R->Tr}(hx:lk x=some (one cx)) (hy:lk y=some (one cy)) (h:(arT b cx cy d K).holds)
  (k:∀v d',(K v d').holds->(∀w1 W1 rs1,QS P lk (.binOp b t x y t') w1 W1 rs1 v)->G):G:=by
 unfold arT at h;refine dI h fun d' h=>?_
 split at h
 ·obtain⟨h1,h2,h3⟩:=h;refine k _ _ h3 ?_;intro w1 W1 rs1 n f W' Q KK d ty pos af g hl hst hb hk;exact sE ((hl _ _ hx).trans h1) ((hl _ _ hy).trans h2) (by assumption) (hk W' hst (Below.refl _ _))
 ·obtain⟨h1,h2,h3⟩:=h;refine k _ _ h3 ?_;intro w1 W1 rs1 n f W' Q KK d ty pos af g hl hst hb hk;exact cH2 ((hl _ _ hx).trans h1) ((hl _ _ hy).trans h2) (by assumption) (hk W' hst (Below.refl _ _))
 ·obtain⟨h1,h2,h3⟩:=h;refine k _ _ h3 ?_;intro w1 W1 rs1 n f W' Q KK d ty pos af g hl hst hb hk;exact cH6 ((hl _ _ hx).trans h1) ((hl _ _ hy).trans h2) (by assumption) (hk W' hst (Below.refl _ _))
 ·obtain⟨h1,h2,h3⟩:=h;refine k _ _ h3 ?_;intro w1 W1 rs1 n f W' Q KK d ty pos af g hl hst hb hk;have hi := ‹(_/\_)/\_›;exact cH4 ((hl _ _ hx).trans h1) ((hl _ _ hy).trans h2) hi.1 hi.2 (hk W' hst (Below.refl _ _))
 ·obtain⟨h1,h2,h3⟩:=h;refine k _ _ h3 ?_;intro w1 W1 rs1 n f W' Q KK d ty pos af g hl hst hb hk;have hi := ‹(_/\_)/\_›;exact cH3 ((hl _ _ hx).trans h1) ((hl _ _ hy).trans h2) hi.1 hi.2 (hk W' hst (Below.refl _ _))
 exact h.elim
def boT (P:Program) {A:Type}{R:A->Prop}(b:BinOp) (t:TypeId) (x y:Sc) (d:D P R) (K:SV->D P R->Tr):Tr:=
 cond (isAr b) (arT b x y d K) (opt (cmp P t b x.val y.val) fun e=>K (one (.bo e)) d)
theorem boT_ok {G:Prop}{lk:Operand->Option SV}{b:BinOp}{x y:Operand}{t t':TypeId}{cx cy:Sc}{d:D P R}{K:SV->D P R->Tr}(hx:lk x=some (one cx)) (hy:lk y=some (one cy)) (h:(boT P b t cx cy d K).holds)
  (k:∀v d',(K v d').holds->(∀w1 W1 rs1,QS P lk (.binOp b t x y t') w1 W1 rs1 v)->G):G:=by
 unfold boT at h;cases hb:isAr b with
 | true=>rw[hb]at h;exact arT_ok hx hy h k
 | false=>
  rw[hb]at h;refine aH h fun e he h=>k _ _ h ?_
  intro w1 W1 rs1 n f W' Q KK d ty pos af g hl hst hb hk;exact dB0 he (hl _ _ hx) (hl _ _ hy) (hk W' hst (Below.refl _ _))
def ldT (P:Program) (s:S) (t:TypeId) (c:Sc) (K:SV->Tr):Tr:=
 match c with
 | .pt j b k o=>opt (rgOf s j) fun r=>.e0 b r.1<|.e0 k r.2.1<|opt (ldK P t) fun z=>match z with
  | none=>opt (r.2.2[o]?) fun v=>K (one v)
  | some z=>.e0 ((r.2.2.drop o).take z).length z (K (.on (.ag ((r.2.2.drop o).take z))))
 | _=>.no
theorem ldT_ok {G:Prop}{lk:Operand->Option SV}{w0 W:World}{s:S}{x:Operand}{t:TypeId}{c:Sc}{K:SV->Tr}(hx:lk x=some (one c)) (h:(ldT P s t c K).holds) (fa:Facts w0 W s.B)
  (k:∀v,(K v).holds->QS P lk (.load t x) w0 W s.rs v->G):G:=by
 unfold ldT at h;split at h
 ·next j b0 k0 o=>
  refine aH h fun r hr h=>?_
  obtain⟨b,kk,cs⟩:=r;obtain⟨h1,h2,h⟩:=h;simp only at h1 h2;subst h1 h2;refine aH h fun z hz h=>?_
  have hv:∀{n f},(∀x u,lk x=some u->ev n f x=u.val)->ev n f x = .pointer (some ⟨b0,k0+o,none⟩):=fun hl=>hl _ _ hx
  cases z with
  | none=>
   refine aH h fun v hvv h=>k _ h ?_
   intro n f W' Q KK d ty pos af g hl hst hb hk;refine qT (cs:=[v.val]) hz (hv hl) ?_ rfl (hk W' hst (Below.refl _ _));have hrg:=bL9 hr hst (fa.up hb);intro q u hj;cases q with
   | zero=>
    simp at hj;subst hj;exact hrg o _ (by rw[getElem?_map];simp only at hvv;rw[hvv];rfl)
   | succ j=>simp at hj
  | some z=>
   obtain⟨h1,h⟩:=h;simp only at h1;refine k _ h ?_;intro n f W' Q KK d ty pos af g hl hst hb hk;have hrg:=bL9 hr hst (fa.up hb);have:=xK (i:=o) (z:=z) hrg;refine qT (z:=some z) (cs:=((cs.drop o).take z).map Sc.val) hz (hv hl) ?_ (by simpa using h1) (hk W' hst (Below.refl _ _));simpa [map_take,map_drop] using this
 exact h.elim
def ixT0 (P:Program) {A:Type}{R:A->Prop}(s:S) (t:TypeId) (c:Sc) (y:Sc) (d:D P R) (K:SV->S->D P R->Tr):Tr:=
 nrm d fun d=>match c,d with
  | .rf j h,.ix i xs n x _ e _ k=>opt (vW s j) fun q=>.e0 h q.2.1<|.e1 q.2.2 ⟨i.toShape,xs⟩<|.e0 y.val (I e)<|.e0 (elK P t) (some i.size) <|
    .fn fun g:Nat×Nat=>xQ q.1 (i.lv x) ⟨s.E,s.O,s.B,s.nx+1⟩ fun cs s'=>.fp (i.good x) fun hg=>K (one (.pt s.nx g.1 g.2 0)) ⟨s'.E,s'.O,(s.nx,q.1,.el h i.size n g.1 g.2 cs)::s'.B,s'.nx⟩ (k hg)
  | .rf j h,.iy r n e _ k=>match lku s.B r with
   | some (l,.el h' z n' b o cs)=>.e0 h h'<|.e0 n n'<|.e0 y.val (I e)<|.e0 (elK P t) (some z)<|K (one (.pt r b o 0)) s k
   | _=>.no
  | .rf j h,.il n e _ k=>match lku s.O j with
   | some (.rs i h' b pre _ _ n' _ r)=>.e0 h h'<|.e0 n n'<|.e0 y.val (I e)<|.e0 (elK P t) (some i.size)<|K (one (.pt r b pre.length 0)) s k
   | _=>.no
  | _,_=>.no
theorem PA_rest {α:Type}[Shape α] {v:Value}{b:Nat}{pre post:List Value}{xs:List α}{i:Nat}{fr:List Nat}{W:World}(h:(Res.rest v b pre post xs i fr).holds W):PA v (Shape.size α) i b pre.length:=by
 obtain⟨⟨off,cap,f1,f2,p0,c1,c2,q0,h1,h2,h3,h4,h5,h6,h7,h8,h9,h10⟩,_⟩:=h;refine⟨off,xs.length,cap,h1,h4,?_⟩;rw[h5,length_append,h6,h8.len,length_take,Nat.min_eq_left aA]
theorem aM9 {n:Nat}{f:Nat->Value}{W:World}{Q:Exit->Act->World->Prop}{K:Value->World->Prop}{d:Option Tmp}{ty:TypeId}{pos:String}{af:Array Go.Edge}{g:Option (Nat×Bool)}{x y:Operand}{t:TypeId}{kk i b o:Nat}{e:Int}{u:Value}
  (hk':elK P t=some kk) (hx:ev n f x=u) (hp:PA u kk i b o) (hy:ev n f y=I e) (he:e=i) (k:K (.pointer (some ⟨b,o,none⟩)) W):Stp P n ⟨d,.indexAddr t x y,ty,pos,af,g⟩ f W Q K:=by
 unfold elK at hk';split at hk'
 ·next te hu=>
  obtain⟨j,hj,hk'⟩:=Option.bind_eq_some_iff.1 hk';simp only[Option.some.injEq]at hk';obtain⟨off,len,cap,rfl,hi,rfl⟩:=hp;subst he;refine Stp.run (v := .pointer (some ⟨b,off+i*kk,none⟩)) ?_ k;have hel:P.elem t=te:=by simp[Program.elem,hu]
  have hu2:P.underlying t=some (.slice (P.elem t)):=by rw[hel];exact hu
  have hlt:(i:Int)<len:=by omega
  simp[execOp,hx,hy,Sem.run_bind,run_indexAt_slice (h:=hu2),hel,hlt,sizeOf,typeInfo,hj,hk',Addr.add]
 cases hk'
theorem idxG {α:Type}(i:Dsh α) {w:World}{v:Value}{xs:List α}{fp:List Nat}(hs : @Sl α i.toShape w v xs fp) {n:Nat}{x:α}(h:xs[n]? = some x):∃b k cs f1,PA v i.size n b k/\w.rangeAt b k cs/\i.good x/\dR w cs (i.lv x) f1:=by
 obtain⟨hn,rfl⟩:=gsi_.1 h;obtain⟨b,k,cs,f1,h1,h2,h3,_⟩:=idx hs hn;obtain⟨h4,h5⟩:=i.out h3;exact⟨b,k,cs,f1,h1,h2,h4,h5⟩
theorem ixT0_ok {G:Prop}{lk:Operand->Option SV}{w0 W:World}{s:S}{x y:Operand}{t:TypeId}{cx cy:Sc}{d:D P R}{K:SV->S->D P R->Tr}(hx:lk x=some (one cx)) (hy:lk y=some (one cy)) (h:(ixT0 P s t cx cy d K).holds) (st:St w0 W s.rs) (fa:Facts w0 W s.B)
  (k:∀v s' d',(K v s' d').holds->s'.E=s.E->s'.O=s.O->Facts w0 W s'.B->(∀w1 W1 rs1,QS P lk (.indexAddr t x y) w1 W1 rs1 v)->G):G:=by
 unfold ixT0 at h;refine dI h fun d' h=>?_
 split at h
 ·next _ j hd α i xs m z hz e he kk _=>
  refine aH h fun q hq h=>?_
  obtain⟨l,hd',dd⟩:=q;obtain⟨h1,h2,h3,h4,h⟩:=h;simp only at h1 h2;subst h1 h2;obtain⟨fp,hs⟩:=lF hq st fa;obtain⟨b,ko,cs,f1,g1,g2,g3,g4⟩:=idxG i hs hz;refine oG (h (b,ko)) g4 (s:=⟨s.E,s.O,s.B,s.nx+1⟩) fa fun scs s' h' e1 e2 e3 fa'=>(k _ _ _ (h' g3) e2 e3 ?_ ?_)
  ·intro e he;rcases mem_cons.1 he with rfl | he
   ·exact⟨g1,by rw[e1];exact g2⟩
   exact fa' e he
  intro w1 W1 rs1 n f W' Q KK d ty pos af g hl hst hb hk;exact aM9 h4 (hl _ _ hx) g1 ((hl _ _ hy).trans h3) he (hk W' hst (Below.refl _ _))
 ·next _ _ j hd r m e he kk _=>
  split at h
  ·next l hd' z m' b o cs hr=>
   obtain⟨h1,h2,h3,h4,h⟩:=h;subst h1 h2;have hp:=(fa.now st.below hr).1;refine k _ _ _ h rfl rfl fa ?_;intro w1 W1 rs1 n f W' Q KK d ty pos af g hl hst hb hk;exact aM9 h4 (hl _ _ hx) hp ((hl _ _ hy).trans h3) he (hk W' hst (Below.refl _ _))
  exact h.elim
 ·next _ _ j hd m e he kk _=>
  split at h
  ·next hj=>
   obtain⟨h1,h2,h3,h4,h⟩:=h;subst h1 h2;have hp:=PA_rest (st.holds _ (sK hj));refine k _ _ _ h rfl rfl fa ?_;intro w1 W1 rs1 n f W' Q KK d ty pos af g hl hst hb hk;exact aM9 h4 (hl _ _ hx) hp ((hl _ _ hy).trans h3) he (hk W' hst (Below.refl _ _))
  exact h.elim
 exact h.elim
theorem PA_lt {b n q z:Nat}(h:q<n):PA (.slice (some ⟨b,0,none⟩) n n) z q b (0+q*z):=⟨0,n,n,rfl,h,rfl⟩
def ixT (P:Program) {A:Type}{R:A->Prop}(s:S) (t:TypeId) (c:Sc) (y:Sc) (d:D P R) (K:SV->S->D P R->Tr):Tr:=
 match c,y with
 | .lt j b n,.vl (.int .i64 (.ofNat q))=>.e0 (Nat.ble (q+1) n) true<|opt (elK P t) fun z=>K (one (.pt j b 0 (q*z))) s d
 | c,y=>ixT0 P s t c y d K
theorem cY4 {G:Prop}{lk:Operand->Option SV}{w0 W:World}{s:S}{x y:Operand}{t:TypeId}{cx cy:Sc}{d:D P R}{K:SV->S->D P R->Tr}(hx:lk x=some (one cx)) (hy:lk y=some (one cy)) (h:(ixT P s t cx cy d K).holds) (st:St w0 W s.rs) (fa:Facts w0 W s.B)
  (k:∀v s' d',(K v s' d').holds->s'.E=s.E->s'.O=s.O->Facts w0 W s'.B->(∀w1 W1 rs1,QS P lk (.indexAddr t x y) w1 W1 rs1 v)->G):G:=by
 unfold ixT at h;split at h
 ·next j b m q=>
  obtain⟨h4,h⟩:=h;refine aH h fun z hz h=>k _ _ _ h rfl rfl fa ?_
  intro w1 W1 rs1 n f W' Q KK d ty pos af g hl hst hb hk;exact aM9 (e:=(q:Int)) hz (hl _ _ hx) (PA_lt (Nat.le_of_ble_eq_true h4)) (hl _ _ hy) rfl (hk W' hst (Below.refl _ _))
 exact ixT0_ok hx hy h st fa k
end
end Go.Proofs.YtjihdmlkpkkpbaaGreat
namespace Go.Proofs.YtjihdmlkpkkpbaaGreat
set_option maxRecDepth 100000
set_option maxHeartbeats 2000000
open Go.RowKit Go.Proofs.Tryz List
theorem PA.same {v:Value}{k i b o b' o':Nat}(h:PA v k i b o) (h':PA v k i b' o'):b=b'/\o=o':=by
 obtain⟨off,len,cap,rfl,_,rfl⟩:=h;obtain⟨off',len',cap',e,_,rfl⟩:=h'
 injection e with e1 e2 e3
 injection e1 with e1
 injection e1 with e1 e4
 subst e1 e4;exact⟨rfl,rfl⟩
section
variable {P:Program}{n:Nat}{f:Nat->Value}{W w0:World}{rs:List Res}{Q:Exit->Act->World->Prop}{K:Value->World->Prop}
 {d:Option Tmp}{ty:TypeId}{pos:String}{af:Array Go.Edge}{g:Option (Nat×Bool)}{α:Type}[Shape α]
theorem stp_poke1 {t:TypeId}{x y:Operand}{b o i:Nat}{v u:Value}{xs:List α}{z:α}{fp:List Nat}(hs:Shape.size α=1) (hi:(P.info? t).map (·.size)=some 1) (hx:ev n f x = .pointer (some ⟨b,o,none⟩)) (hPA:PA v (Shape.size α) i b o) (hl:i<xs.length) (hy:ev n f y=u) (h1:u.cells = #[u]) (h2:u.oneCell'=true)
  (hst:St w0 W (Res.own v xs fp::rs)) (hc:∀W,Shape.C W [u] z []) (k:∀fp' W',St w0 W' (Res.own v (xs.set i z) fp'::rs)->K undef W'):Stp P n ⟨d,.store t x y,ty,pos,af,g⟩ f W Q K:=by
 obtain⟨b',e,pre,cs,post,fi,fr,hPA',hC,st⟩:=St.lend (α:=α) aA hst hl;obtain⟨rfl,rfl⟩:=hPA.same hPA';have hcl:=Shape.len hC;rw[hs]at hcl;obtain⟨c,rfl⟩:∃c,cs=[c]:=by
  cases cs with
  | nil=>simp at hcl
  | cons c cs=>cases cs with
   | nil=>exact⟨c,rfl⟩
   | cons _ _=>simp at hcl
 refine yY (i:=0) hi hx hy h1 h2 st rfl (Nat.le_refl _) rfl ?_;intro W' st';have st2:=st'.d1;have st3:=St.cs0 (cs:=[u]) (x:=z) st2 (hc W');have st4:=st3.f1;obtain⟨fp',st5⟩:=St.give (α:=α) st4;exact k fp' W' st5
theorem made_list (v:Value) (m:Nat):(madeCells #[v] m).toList=List.replicate m v:=by
 apply ext_getElem
 ·rw[Array.length_toList,size_madeCells,length_replicate]
 intro j h1 h2;rw[getElem_replicate,Array.getElem_toList];simp[madeCells,Nat.mod_one]
theorem Elems.rep {W:World}{v:Value}{z:α}(h:Shape.C W [v] z []):∀m,Elems W (List.replicate m v) (List.replicate m z) []
 | 0=>⟨rfl,rfl⟩
 | m+1=>⟨[v],List.replicate m v,[],[],rfl,h,Elems.rep h m,rfl⟩
theorem stp_makeZ {t e:TypeId}{bytes:Nat}{x y:Operand}{N:Nat}{v:Value}{z:α}(hT:ApOk P t e α bytes) (hzero:((P.info? e).bind (·.zero)).map (·.cells)=some #[v]) (hx:ev n f x=I (N:Int)) (hy:ev n f y=I (N:Int)) (hN:N<=1048576*64) (hb:N*bytes<=140737488355328) (hst:St w0 W rs) (hz:∀W,Shape.C W [v] z [])
  (k:∀b fp W',Below W.heap.size W W'->St w0 W' (Res.own (.slice (some ⟨b,0,none⟩) N N) (List.replicate N z) fp::rs)->K (.slice (some ⟨b,0,none⟩) N N) W'):Stp P n ⟨d,.makeSlice t x y,ty,pos,af,g⟩ f W Q K:=by
 obtain⟨i,zz,hi,hzz,h1,h2,h3⟩:=hT.info;have hzc:zz.cells = #[v]:=by simpa [hi,hzz] using hzero
 have hs1:Shape.size α=1:=by rw[<- h3,hzc];rfl
 have hb':(N:Int)*(bytes:Int)<=140737488355328:=by have:=Int.ofNat_le.2 hb;rw[Int.natCast_mul]at this;exact this
 have hmk:=run_make (P:=P) W t e i zz hT.desc hi hzz .i64 .i64 N N aA aA (by rw[h2,Int.mul_comm];omega) aA;rw[Int.toNat_natCast,h1,hs1,Nat.mul_one,hzc]at hmk;refine Stp.run (v := .slice (some ⟨W.heap.size,0,none⟩) N N) (W':=W.alloc (.cells (madeCells #[v] N) e)) (by simp only[execOp,hx,hy,Sem.run_bind,hmk,Result.andThen_ok];rfl) ?_;have h:=hst.alloc (madeCells #[v] N).toList e;rw[Array.toArray_toList]at h;have hbl:Below W.heap.size W (W.alloc (.cells (madeCells #[v] N) e)):=hQ (Below.refl _ _);have h':St w0 (W.alloc (.cells (madeCells #[v] N) e)) (Res.bx W.heap.size (List.replicate N v) e::rs):=by
  rw[made_list]at h;exact h
 have hr:=St.row_lit (α:=α) (m:=N) (ys:=List.replicate N z) h' (by simp) (by unfold maxLen;omega) (Elems.rep (hz _) N);obtain⟨fp,hr2⟩:=hr.shut;exact k _ fp _ hbl hr2
end
section
variable {α:Type}[Shape α]
theorem slq_h {w:World}{v:Value}{xs:List α}{fp:List Nat}{h:Nat}(hs:Sl w v xs fp) (hh:h<=xs.length):∃u g,Sl w u (xs.take h) g/\(∀ao l cap,v = .slice ao l cap->u=sliced ao 0 h cap (Shape.size α)) /\
  ∀{P:Program}{n:Nat}{f:Nat->Value}{W:World}{Q:Exit->Act->World->Prop}{K:Value->World->Prop}{d:Option Tmp}{ty:TypeId}{pos:String}{af:Array Go.Edge}{gd:Option (Nat×Bool)}{t t':TypeId}{x y:Operand}{e:Int},SlOk P t t' α->ev n f x=v->ev n f y=I e->e=h->K u W->Stp P n ⟨d,.slice t x none (some y) none,ty,pos,af,gd⟩ f W Q K:=by
 obtain⟨ao,cap,fp',rfl,hcap,hs',hf⟩:=hs.part 0 h (Nat.zero_le _) hh;refine⟨sliced ao 0 h cap (Shape.size α),fp',by simpa using hs',fun _ _ _ hv=>by injection hv with a b c;rw[a,c],?_⟩;intro P n f W Q K d ty pos af gd t t' x y e hT hx hy he k;subst he;have hel:P.elem t=t':=by simp[Program.elem,hT.desc]
 have hu:P.underlying t=some (.slice (P.elem t)):=by rw[hel];exact hT.desc
 refine Stp.run (v:=sliced ao 0 h cap (Shape.size α)) ?_ k;simp only[execOp,hx,hy,Sem.run_bind,Option.map_none,Option.map_some];rw[run_sliceAt_slice (h:=hu),run_slice_h (ht:=hu) (h0:=by omega) (h2:=by omega),hel,gG hT.size];simp
theorem slq_l {w:World}{v:Value}{xs:List α}{fp:List Nat}{l:Nat}(hs:Sl w v xs fp) (hh:l<=xs.length):∃u g,Sl w u (xs.drop l) g/\(∀c∈g,c∈fp) /\
  ∀{P:Program}{n:Nat}{f:Nat->Value}{W:World}{Q:Exit->Act->World->Prop}{K:Value->World->Prop}{d:Option Tmp}{ty:TypeId}{pos:String}{af:Array Go.Edge}{gd:Option (Nat×Bool)}{t t':TypeId}{x y:Operand}{e:Int},SlOk P t t' α->ev n f x=v->ev n f y=I e->e=l->K u W->Stp P n ⟨d,.slice t x (some y) none none,ty,pos,af,gd⟩ f W Q K:=by
 obtain⟨ao,cap,fp',rfl,hcap,hs',hf⟩:=hs.part l xs.length hh (Nat.le_refl _);refine⟨sliced ao l xs.length cap (Shape.size α),fp',by simpa using hs',hf,?_⟩;intro P n f W Q K d ty pos af gd t t' x y e hT hx hy he k;subst he;have hel:P.elem t=t':=by simp[Program.elem,hT.desc]
 have hu:P.underlying t=some (.slice (P.elem t)):=by rw[hel];exact hT.desc
 refine Stp.run (v:=sliced ao l xs.length cap (Shape.size α)) ?_ k;simp only[execOp,hx,hy,Sem.run_bind,Option.map_none,Option.map_some];rw[run_sliceAt_slice (h:=hu),run_slice_l (ht:=hu) (h0:=by omega) (h1:=by omega),hel,gG hT.size];simp
end
section
variable {P:Program}{n:Nat}{f:Nat->Value}{W:World}{α:Type}[Shape α] [Agg α]
end
end Go.Proofs.YtjihdmlkpkkpbaaGreat
namespace Go.Proofs.YtjihdmlkpkkpbaaGreat
set_option maxHeartbeats 1000000
set_option maxHeartbeats 2000000
open Go.RowKit Go.Proofs.Tryz List

section
variable {P:Program}{A:Type}{R:A->Prop}
theorem qV {t:TypeId}{α:Type}[Shape α] (h:elK P t=some (Shape.size α)):∃e,SlOk P t e α:=by
 unfold elK at h;split at h
 ·next e hu=>
  obtain⟨j,hj,h⟩:=Option.bind_eq_some_iff.1 h;simp only[Option.some.injEq]at h;exact⟨e,⟨hu,by rw[hj,Option.map_some,h]⟩⟩
 cases h
def cY6 (P:Program) (t:Nat):Bool:=
 match P.underlying t with
 | some .string=>true
 | _=>false
theorem isStr_ok {t:Nat}(h:cY6 P t=true):P.underlying t=some .string:=by
 unfold cY6 at h;split at h
 ·next hu=>exact hu
 cases h
section
variable {n:Nat}{f:Nat->Value}{W:World}{Q:Exit->Act->World->Prop}{K:Value->World->Prop}{d:Option Tmp}{ty:TypeId}{pos:String}{af:Array Go.Edge}{g:Option (Nat×Bool)}
theorem aQ8 {x:Operand}{t:TypeId}{ao:Option Addr}{N cap:Nat}(hb:bX5 P t=true) (hx:ev n f x = .slice ao N cap) (k:K (I (N:Int)) W):Stp P n ⟨d,.call { callee := .builtin .len,args := #[x],argTypes := #[t] },ty,pos,af,g⟩ f W Q K:=by
 unfold bX5 at hb;split at hb
 ·next te ht=>
  refine Stp.run (v:=I N) ?_ k;have he:P.elem t=te:=by simp[Program.elem,ht]
  have hu2:P.underlying t=some (.slice (P.elem t)):=by rw[he];exact ht
  simp[execOp,hx,resolve,invoke,builtin,Sem.run_bind,run_len_slice (h:=hu2),goInt]
 cases hb
theorem stp_fld {x:Operand}{t i:Nat}{u v:Value}(hx:ev n f x=u) (hb:(Instr.field t u i).run P W = .ok v W) (k:K v W):Stp P n ⟨d,.field t x i,ty,pos,af,g⟩ f W Q K:=
 Stp.run (v:=v) (by simp[execOp,hx,Sem.run_bind,hb]) k
theorem stp_bld {t:TypeId}{parts:List (Nat×Operand)}{vs:List (Nat×Value)}{v:Value}(hv:parts.map (fun (i,x)=>(i,ev n f x))=vs) (hb:(Instr.build t vs.toArray).run P W = .ok v W) (k:K v W):Stp P n ⟨d,.build t parts.toArray,ty,pos,af,g⟩ f W Q K:=
 Stp.run (v:=v) (by
  have e1:parts.toArray.map (fun (i,x)=>(i,ev n f x))=vs.toArray:=by rw[<- hv];simp
  simp only[execOp,Sem.run_bind,e1,hb];rfl) k
end
def lnT (P:Program) (s:S) (t:TypeId) (c:Sc) (K:SV->Tr):Tr:=
 match c with
 | .rf j h=>opt (vW s j) fun q=>.e0 h q.2.1<|.e0 (bX5 P t) true (K (one (.vl (I (q.2.2.xs.length:Int)))))
 | .lt _ _ n=>.e0 (bX5 P t) true (K (one (.vl (I (n:Int)))))
 | .vl (.slice _ n _)=>.e0 (bX5 P t) true (K (one (.vl (I (n:Int)))))
 | .vl (.string a)=>.e0 (cY6 P t) true (K (one (.vl (I (a.size:Int)))))
 | _=>.no
theorem lnT_ok {G:Prop}{lk:Operand->Option SV}{w0 W:World}{s:S}{x:Operand}{t:TypeId}{c:Sc}{K:SV->Tr}(hx:lk x=some (one c)) (h:(lnT P s t c K).holds) (st:St w0 W s.rs) (fa:Facts w0 W s.B)
  (k:∀v,(K v).holds->QS P lk (.call { callee := .builtin .len,args := #[x],argTypes := #[t] }) w0 W s.rs v->G):G:=by
 unfold lnT at h;split at h
 ·next j hd=>
  refine aH h fun q hq h=>?_
  obtain⟨l,hd',dd⟩:=q;obtain⟨h1,h2,h⟩:=h;simp only at h1;subst h1;obtain⟨fp,hs⟩:=lF hq st fa;obtain⟨ao,cap,e,_⟩:=hs;refine k _ h ?_;intro n f W' Q KK d ty pos af g hl hst hb hk;exact aQ8 h2 ((hl _ _ hx).trans e) (hk W' hst (Below.refl _ _))
 ·refine k _ h.2 ?_;intro n f W' Q KK d ty pos af g hl hst hb hk;exact aQ8 h.1 (hl _ _ hx) (hk W' hst (Below.refl _ _))
 ·refine k _ h.2 ?_;intro n f W' Q KK d ty pos af g hl hst hb hk;exact aQ8 h.1 (hl _ _ hx) (hk W' hst (Below.refl _ _))
 ·refine k _ h.2 ?_;intro n f W' Q KK d ty pos af g hl hst hb hk;exact stp_slen (isStr_ok h.1) (hl _ _ hx) (hk W' hst (Below.refl _ _))
 exact h.elim
def offs (P:Program) (t i:Nat):Option (Nat×Option Nat):=
 match P.underlying t with
 | some (.struct fs)=>(fs[i]?).bind fun fd=>(ldK P fd.type).map fun z=>(fd.offset,z)
 | _=>none
def fldU (P:Program) (t i:Nat) (cs:List Sc):Option SV:=
 (offs P t i).bind fun q=>match q.2 with
  | none=>(cs[q.1]?).map one
  | some z=>some (.on (.ag ((cs.drop q.1).take z)))
def tvC:SV->List Sc
 | .on (.ce c)=>[c]
 | .on (.ag l)=>l
 | .tu _=>[]
def put0:List Sc->Nat->List Sc->List Sc
 | cs,_,[]=>cs
 | [],_,_::_=>[]
 | _::cs,0,v::vs=>v::put0 cs 0 vs
 | c::cs,o+1,vs=>c::put0 cs o vs
def kX (P:Program) (t:Nat):List Sc:=(((P.info? t).bind (·.zero)).map (fun z=>z.cells.toList.map Sc.vl)).getD []
def bldU (P:Program) (t:Nat):List (Nat×SV)->List Sc->List Sc
 | [],cs=>cs
 | (i,v)::ps,cs=>bldU P t ps (match offs P t i with
  | some q=>put0 cs q.1 (tvC v)
  | none=>cs)
def lkp (lk:Operand->Option SV):List (Nat×Operand)->Option (List (Nat×SV))
 | []=>some []
 | (i,x)::ps=>(lk x).bind fun v=>(lkp lk ps).bind fun vs=>some ((i,v)::vs)
theorem bO2 {lk:Operand->Option SV}{n:Nat}{f:Nat->Value}(hl:∀x u,lk x=some u->ev n f x=u.val):∀{ps:List (Nat×Operand)}{vs:List (Nat×SV)},lkp lk ps=some vs->ps.map (fun (i,x)=>(i,ev n f x))=vs.map fun p=>(p.1,p.2.val)
 | [],vs,h=>by simp only[lkp,Option.some.injEq]at h;subst h;rfl
 | (i,x)::ps,vs,h=>by
  simp only[lkp]at h;obtain⟨v,hv,h⟩:=Option.bind_eq_some_iff.1 h;obtain⟨us,hu,h⟩:=Option.bind_eq_some_iff.1 h;simp only[Option.some.injEq]at h;subst h;rw[map_cons,map_cons,bO2 hl hu];simp only[hl x v hv]
def lkv (lk:Operand->Option SV):List Operand->Option (List SV)
 | []=>some []
 | x::xs=>(lk x).bind fun v=>(lkv lk xs).bind fun vs=>some (v::vs)
theorem kJ {lk:Operand->Option SV}{n:Nat}{f:Nat->Value}(hl:∀x u,lk x=some u->ev n f x=u.val):∀{xs:List Operand}{vs:List SV},lkv lk xs=some vs->xs.map (ev n f)=vs.map SV.val
 | [],vs,h=>by simp only[lkv,Option.some.injEq]at h;subst h;rfl
 | x::xs,vs,h=>by
  simp only[lkv]at h;obtain⟨v,hv,h⟩:=Option.bind_eq_some_iff.1 h;obtain⟨us,hu,h⟩:=Option.bind_eq_some_iff.1 h;simp only[Option.some.injEq]at h;subst h;rw[map_cons,map_cons,hl x v hv,kJ hl hu]
def allv:List Rk->Option (List TV)
 | []=>some []
 | .v x::ks=>(allv ks).map fun l=>.ce (sc x)::l
 | _::_=>none
def svq (ks:List Rk):Option SV:=
 (allv ks).map fun l=>match l with
  | [t]=>.on t
  | l=>.tu l
theorem cO8:∀{ks:List Rk}{l:List TV},allv ks=some l->gds ks/\∀{vs rs},Rks vs ks rs->rs=[]/\vs=l.map TV.val
 | [],l,h=>by
  simp only[allv,Option.some.injEq]at h;subst h;refine⟨trivial,fun {vs rs} hr=>?_⟩;cases vs with
  | nil=>exact⟨hr,rfl⟩
  | cons v vs=>exact hr.elim
 | .v x::ks,l,h=>by
  simp only[allv,Option.map_eq_some_iff]at h;obtain⟨l',h',rfl⟩:=h;obtain⟨h1,h2⟩:=cO8 h';refine⟨h1,fun {vs rs} hr=>?_⟩;cases vs with
  | nil=>exact hr.elim
  | cons v vs=>
   obtain⟨r1,r2,h3,h4,rfl⟩:=hr;obtain⟨rfl,rfl⟩:=h2 h4;obtain⟨rfl,rfl⟩:=h3;exact⟨rfl,by rw[map_cons,TV.val,nI]⟩
 | .own _ _::_,_,h=>by cases h
 | .sl _ _::_,_,h=>by cases h
theorem svq_ok {ks:List Rk}{v:SV}(h:svq ks=some v):gds ks/\∀{vs rs},Rks vs ks rs->rs=[]/\aD6 vs=v.val:=by
 unfold svq at h;simp only[Option.map_eq_some_iff]at h;obtain⟨l,h1,h2⟩:=h;obtain⟨h3,h4⟩:=cO8 h1;refine⟨h3,fun {vs rs} hr=>?_⟩;obtain⟨rfl,rfl⟩:=h4 hr;refine⟨rfl,?_⟩;split at h2
 ·subst h2;rfl
 next hne=>
 subst h2;clear h1 h4 hr
 match l,hne with
 | [],_=>rfl
 | [t],hne=>exact absurd rfl (hne t)
 | _::_::_,_=>rfl
def clQ (s:S) (lk:Operand->Option SV) (F:FuncId) (xs:List Operand) (d:D P R) (K:SV->D P R->Tr):Tr:=
 nrm d fun d=>match d with
  | .cq (ps:=ps) (rk:=rk) (G:=G) F' (fn:=fn) _ _ _ k=>.e0 F F'<|.e0 ((fn.name == "runtime.NumGoroutine") || fn.body.isNone) false<|opt (lkv lk xs) fun us=>lY s us ps<|grT s G<|opt (svq rk) fun v=>.fp (gds rk) fun hg=>K v (k hg)
  | _=>.no
theorem clQ_ok {G:Prop}{lk:Operand->Option SV}{w0 W:World}{s:S}{F:FuncId}{xs:List Operand}{ats:Array TypeId}{d:D P R}{K:SV->D P R->Tr}(h:(clQ s lk F xs d K).holds) (st:St w0 W s.rs) (fa:Facts w0 W s.B)
  (k:∀v d',(K v d').holds->QS P lk (.call { callee := .value (.func F),args:=xs.toArray,argTypes:=ats }) w0 W s.rs v->G):G:=by
 unfold clQ at h;refine dI h fun d' h=>?_
 split at h
 ·next ps rk G0 F' fn hf hct hg kk=>
  obtain⟨rfl,ho,h⟩:=h;refine aH h fun us hus h=>?_
  obtain⟨_,h'⟩:=iN st fa h hg;obtain⟨hG,h'⟩:=aV6 h' st.below fa;refine aH h' fun v hv h'=>?_
  obtain⟨hgd,hvr⟩:=svq_ok hv;refine k _ _ (h' hgd) ?_;intro n f W' Q KK d ty pos af g hl hst hb hk;obtain⟨hp,_⟩:=iN hst (fa.up hb) h hg;refine lB hf ho (kJ hl hus) ((hct.run W' _ (hG.up hb) hp).mono ?_);rintro e W'' ⟨_,vs,rs,_,rfl,hr,hst'⟩;obtain⟨rfl,e⟩:=hvr hr;exact⟨v.val,by rw[e],hk W'' (by simpa using hst.call hst') hst'.below⟩
 exact h.elim
theorem cI3 {α:Type}[Shape α] {w:World}{h:Hd}{xs:List α}{fp:List Nat}{a b:Nat}(hs:Sl w h.val xs fp) (h1:a<=b) (h2:b<=xs.length):h.n=xs.length/\b<=h.cap/\∃g,Sl w (sliced h.ao a b h.cap (Shape.size α)) ((xs.take b).drop a) g/\∀c∈g,c∈fp:=by
 obtain⟨ao,cap,fp',e,hcap,hs',hf⟩:=hs.part a b h1 h2;unfold Hd.val at e
 injection e with e1 e2 e3
 subst e1 e3;exact⟨e2,hcap,fp',hs',hf⟩
theorem cU0 {α:Type}[Shape α] {w:World}{h:Hd}{xs:List α}{fp:List Nat}{a:Nat}(hs:Sl w h.val xs fp) (h1:a<=xs.length):∃g,Sl w (sliced h.ao a h.n h.cap (Shape.size α)) (xs.drop a) g/\∀c∈g,c∈fp:=by
 obtain⟨e,hcap,g,hs',hf⟩:=cI3 hs h1 (Nat.le_refl _);rw[e];exact⟨g,by simpa using hs',hf⟩
theorem stp_sl_l {α:Type}[Shape α] {P:Program}{n:Nat}{f:Nat->Value}{W:World}{Q:Exit->Act->World->Prop}{K:Value->World->Prop}{d:Option Tmp}{ty:TypeId}{pos:String}{af:Array Go.Edge}{gd:Option (Nat×Bool)}{t t':TypeId}{x y:Operand}{h:Hd}{l:Nat}{e:Int}(hT:SlOk P t t' α) (hx:ev n f x=h.val) (hy:ev n f y=I e) (he:e=l) (hl:l<=h.n) (k:K (sliced h.ao l h.n h.cap (Shape.size α)) W):Stp P n ⟨d,.slice t x (some y) none none,ty,pos,af,gd⟩ f W Q K:=by
 subst he;have hel:P.elem t=t':=by simp[Program.elem,hT.desc]
 have hu:P.underlying t=some (.slice (P.elem t)):=by rw[hel];exact hT.desc
 refine Stp.run (v:=sliced h.ao l h.n h.cap (Shape.size α)) ?_ k;simp only[execOp,hx,hy,Sem.run_bind,Option.map_none,Option.map_some,Hd.val];rw[run_sliceAt_slice (h:=hu),run_slice_l (ht:=hu) (h0:=by omega) (h1:=by omega),hel,gG hT.size];simp
theorem stp_sl_lh {α:Type}[Shape α] {P:Program}{n:Nat}{f:Nat->Value}{W:World}{Q:Exit->Act->World->Prop}{K:Value->World->Prop}{d:Option Tmp}{ty:TypeId}{pos:String}{af:Array Go.Edge}{gd:Option (Nat×Bool)}{t t':TypeId}{x y z:Operand}{h:Hd}{a b:Nat}{ea eb:Int}(hT:SlOk P t t' α) (hx:ev n f x=h.val) (hy:ev n f y=I ea) (hz:ev n f z=I eb) (he:ea=a) (he2:eb=b) (h1:a<=b) (h2:b<=h.cap) (k:K (sliced h.ao a b h.cap (Shape.size α)) W):Stp P n ⟨d,.slice t x (some y) (some z) none,ty,pos,af,gd⟩ f W Q K:=by
 subst he he2;have hel:P.elem t=t':=by simp[Program.elem,hT.desc]
 have hu:P.underlying t=some (.slice (P.elem t)):=by rw[hel];exact hT.desc
 refine Stp.run (v:=sliced h.ao a b h.cap (Shape.size α)) ?_ k;simp only[execOp,hx,hy,hz,Sem.run_bind,Option.map_none,Option.map_some,Hd.val];rw[run_sliceAt_slice (h:=hu),run_slice_lh (ht:=hu) (h0:=by omega) (h1:=by omega) (h2:=by omega),hel,gG hT.size];simp
def tdT (P:Program) {A:Type}{R:A->Prop}(s:S) (t:TypeId) (c y z:Sc) (d:D P R) (K:SV->S->D P R->Tr):Tr:=
 nrm d fun d=>match c,d with
  | .rf j h,.td i xs a b _ ea eb _ _ k=>opt (vW s j) fun q=>.e0 h q.2.1<|.e1 q.2.2 ⟨i,xs⟩<|.e0 y.val (I ea)<|.e0 z.val (I eb)<|.e0 (elK P t) (some i.size) <|
    .fn fun g:Hd×List Nat=>K (one (.rf s.nx g.1)) ⟨s.E,s.O,(s.nx,q.1,.sl i g.1 ((xs.take b).drop a) g.2)::s.B,s.nx+1⟩ k
  | _,_=>.no
theorem tdT_ok {G:Prop}{lk:Operand->Option SV}{w0 W:World}{s:S}{x y z:Operand}{t:TypeId}{cx cy cz:Sc}{d:D P R}{K:SV->S->D P R->Tr}(hx:lk x=some (one cx)) (hy:lk y=some (one cy)) (hz:lk z=some (one cz)) (h:(tdT P s t cx cy cz d K).holds) (st:St w0 W s.rs) (fa:Facts w0 W s.B)
  (k:∀v s' d',(K v s' d').holds->s'.E=s.E->s'.O=s.O->Facts w0 W s'.B->(∀w1 W1 rs1,QS P lk (.slice t x (some y) (some z) none) w1 W1 rs1 v)->G):G:=by
 unfold tdT at h;refine dI h fun d' h=>?_
 split at h
 ·next _ j hd α i xs a b hab ea eb hea heb kk _=>
  refine aH h fun q hq h=>?_
  obtain⟨l,hd',dd⟩:=q;obtain⟨h1,h2,h3,h3',h4,h⟩:=h;simp only at h1 h2;subst h1 h2;obtain⟨fp,hs⟩:=lF hq st fa;obtain⟨_,hcap,g,hs',_⟩:=cI3 hs hab.1 hab.2;obtain⟨hd2,e2,_⟩:=hs'.hd;obtain⟨t2,hT⟩:=qV h4;refine k _ _ _ (h (hd2,g)) rfl rfl ?_ ?_
  ·intro e he;rcases mem_cons.1 he with rfl | he
   ·have hs3:=hs';rw[e2]at hs3;exact hs3
   exact fa e he
  intro w1 W1 rs1 n f W' Q KK d ty pos af g hl hst hb hk;refine stp_sl_lh hT (hl _ _ hx) ((hl _ _ hy).trans h3) ((hl _ _ hz).trans h3') hea heb hab.1 hcap ?_;rw[e2];exact hk W' hst (Below.refl _ _)
 exact h.elim
def tkT (P:Program) {A:Type}{R:A->Prop}(s:S) (t:TypeId) (c y:Sc) (d:D P R) (K:SV->S->D P R->Tr):Tr:=
 nrm d fun d=>match c,d with
  | .rf j h,.tk i xs n _ e _ k=>opt (vW s j) fun q=>.e0 h q.2.1<|.e1 q.2.2 ⟨i,xs⟩<|.e0 y.val (I e)<|.e0 (elK P t) (some i.size) <|
    .fn fun g:Hd×List Nat=>K (one (.rf s.nx g.1)) ⟨s.E,s.O,(s.nx,q.1,.sl i g.1 (xs.take n) g.2)::(s.nx+2000000,true,.dv g.1 ⟨h.ao,n,h.cap⟩ 0 i.size)::s.B,s.nx+1⟩ k
  | _,_=>.no
def dpT (P:Program) {A:Type}{R:A->Prop}(s:S) (t:TypeId) (c y:Sc) (d:D P R) (K:SV->S->D P R->Tr):Tr:=
 nrm d fun d=>match c,d with
  | .rf j h,.dp i xs n _ e _ k=>opt (vW s j) fun q=>.e0 h q.2.1<|.e1 q.2.2 ⟨i,xs⟩<|.e0 y.val (I e)<|.e0 (elK P t) (some i.size) <|
    .fn fun g:Hd×List Nat=>K (one (.rf s.nx g.1)) ⟨s.E,s.O,(s.nx,q.1,.sl i g.1 (xs.drop n) g.2)::(s.nx+2000000,true,.dv g.1 h n i.size)::s.B,s.nx+1⟩ k
  | _,_=>.no
theorem tkT_ok {G:Prop}{lk:Operand->Option SV}{w0 W:World}{s:S}{x y:Operand}{t:TypeId}{cx cy:Sc}{d:D P R}{K:SV->S->D P R->Tr}(hx:lk x=some (one cx)) (hy:lk y=some (one cy)) (h:(tkT P s t cx cy d K).holds) (st:St w0 W s.rs) (fa:Facts w0 W s.B)
  (k:∀v s' d',(K v s' d').holds->s'.E=s.E->s'.O=s.O->Facts w0 W s'.B->(∀w1 W1 rs1,QS P lk (.slice t x none (some y) none) w1 W1 rs1 v)->G):G:=by
 unfold tkT at h;refine dI h fun d' h=>?_
 split at h
 ·next _ j hd α i xs m hm e he kk _=>
  refine aH h fun q hq h=>?_
  obtain⟨l,hd',dd⟩:=q;obtain⟨h1,h2,h3,h4,h⟩:=h;simp only at h1 h2;subst h1 h2;obtain⟨fp,hs⟩:=lF hq st fa;obtain⟨u,g,hs',hu,hstep⟩:=slq_h hs hm;obtain⟨hd2,rfl,_⟩:=hs'.hd;obtain⟨e2,hT⟩:=qV h4;refine k _ _ _ (h (hd2,g)) rfl rfl ?_ ?_
  ·intro e he;rcases mem_cons.1 he with rfl | he
   ·exact hs'
   rcases mem_cons.1 he with rfl | he
   ·exact hu _ _ _ rfl
   exact fa e he
  intro w1 W1 rs1 n f W' Q KK d ty pos af g hl hst hb hk;exact hstep hT (hl _ _ hx) ((hl _ _ hy).trans h3) he (hk W' hst (Below.refl _ _))
 exact h.elim
theorem dpT_ok {G:Prop}{lk:Operand->Option SV}{w0 W:World}{s:S}{x y:Operand}{t:TypeId}{cx cy:Sc}{d:D P R}{K:SV->S->D P R->Tr}(hx:lk x=some (one cx)) (hy:lk y=some (one cy)) (h:(dpT P s t cx cy d K).holds) (st:St w0 W s.rs) (fa:Facts w0 W s.B)
  (k:∀v s' d',(K v s' d').holds->s'.E=s.E->s'.O=s.O->Facts w0 W s'.B->(∀w1 W1 rs1,QS P lk (.slice t x (some y) none none) w1 W1 rs1 v)->G):G:=by
 unfold dpT at h;refine dI h fun d' h=>?_
 split at h
 ·next _ j hd α i xs m hm e he kk _=>
  refine aH h fun q hq h=>?_
  obtain⟨l,hd',dd⟩:=q;obtain⟨h1,h2,h3,h4,h⟩:=h;simp only at h1 h2;subst h1 h2;obtain⟨fp,hs⟩:=lF hq st fa;obtain⟨hn,_⟩:=cI3 hs hm (Nat.le_refl _);obtain⟨g,hs',_⟩:=cU0 hs hm;obtain⟨hd2,e2,_⟩:=hs'.hd;obtain⟨t2,hT⟩:=qV h4;refine k _ _ _ (h (hd2,g)) rfl rfl ?_ ?_
  ·intro e he;rcases mem_cons.1 he with rfl | he
   ·have hs3:=hs';rw[e2]at hs3;exact hs3
   rcases mem_cons.1 he with rfl | he
   ·exact e2.symm
   exact fa e he
  intro w1 W1 rs1 n f W' Q KK d ty pos af g hl hst hb hk;refine stp_sl_l hT (hl _ _ hx) ((hl _ _ hy).trans h3) he (by rw[hn];exact hm) ?_;rw[e2];exact hk W' hst (Below.refl _ _)
 exact h.elim
theorem stp_sl_hm {α:Type}[Shape α] {P:Program}{n:Nat}{f:Nat->Value}{W:World}{Q:Exit->Act->World->Prop}{K:Value->World->Prop}{d:Option Tmp}{ty:TypeId}{pos:String}{af:Array Go.Edge}{gd:Option (Nat×Bool)}{t t':TypeId}{x y z:Operand}{h:Hd}{b:Nat}{eb:Int}(hT:SlOk P t t' α) (hx:ev n f x=h.val) (hy:ev n f y=I eb) (hz:ev n f z=I eb) (he2:eb=b) (h2:b<=h.cap) (k:K (sliced h.ao 0 b b (Shape.size α)) W):Stp P n ⟨d,.slice t x none (some y) (some z),ty,pos,af,gd⟩ f W Q K:=by
 subst he2;have hel:P.elem t=t':=by simp[Program.elem,hT.desc]
 have hu:P.underlying t=some (.slice (P.elem t)):=by rw[hel];exact hT.desc
 refine Stp.run (v:=sliced h.ao 0 b b (Shape.size α)) ?_ k;simp only[execOp,hx,hy,hz,Sem.run_bind,Option.map_none,Option.map_some,Hd.val];rw[run_sliceAt_slice (h:=hu),run_slice_hm (ht:=hu) (h0:=by omega) (h2:=by omega) (h3:=by omega),hel,gG hT.size];simp
theorem aD5 (ao:Option Addr) (h c s:Nat):sliced ao 0 h c s = .slice ao h c:=by
 cases ao with
 | none=>simp[sliced]
 | some a=>by_cases hc:c=0<;>simp[sliced,hc,Addr.add]
def tmT (P:Program) {A:Type}{R:A->Prop}(s:S) (t:TypeId) (c y z:Sc) (d:D P R) (K:SV->S->D P R->Tr):Tr:=
 nrm d fun d=>match c,d with
  | .rf j h,.tk i xs n _ e _ k=>opt (vW s j) fun q=>.e0 h q.2.1<|.e1 q.2.2 ⟨i,xs⟩<|.e0 y.val (I e)<|.e0 z.val (I e)<|.e0 (elK P t) (some i.size) <|
    .fn fun g:Hd×List Nat=>K (one (.rf s.nx g.1)) ⟨s.E,s.O,(s.nx,q.1,.sl i g.1 (xs.take n) g.2)::(s.nx+2000000,true,.dv g.1 ⟨h.ao,n,n⟩ 0 i.size)::s.B,s.nx+1⟩ k
  | _,_=>.no
theorem tmT_ok {G:Prop}{lk:Operand->Option SV}{w0 W:World}{s:S}{x y z:Operand}{t:TypeId}{cx cy cz:Sc}{d:D P R}{K:SV->S->D P R->Tr}(hx:lk x=some (one cx)) (hy:lk y=some (one cy)) (hz:lk z=some (one cz)) (h:(tmT P s t cx cy cz d K).holds) (st:St w0 W s.rs) (fa:Facts w0 W s.B)
  (k:∀v s' d',(K v s' d').holds->s'.E=s.E->s'.O=s.O->Facts w0 W s'.B->(∀w1 W1 rs1,QS P lk (.slice t x none (some y) (some z)) w1 W1 rs1 v)->G):G:=by
 unfold tmT at h;refine dI h fun d' h=>?_
 split at h
 ·next _ j hd α i xs m hm e he kk _=>
  refine aH h fun q hq h=>?_
  obtain⟨l,hd',dd⟩:=q;obtain⟨h1,h2,h3,h3',h4,h⟩:=h;simp only at h1 h2;subst h1 h2;obtain⟨fp,hs⟩:=lF hq st fa;obtain⟨_,hcap,g,hs',_⟩:=cI3 hs (Nat.zero_le m) hm;have hs2 : @Sl α i (cond l w0 W) (Hd.val ⟨hd.ao,m,m⟩) (xs.take m) g:=by
   obtain⟨ao,cap,e1,q1,q2,q3⟩:=hs';rw[aD5]at e1;simp only[Value.slice.injEq]at e1;obtain⟨e1,e2,e3⟩:=e1;rw[drop_zero]at q3 q1 e2;exact⟨ao,m,by unfold Hd.val;rw[e1,<- e2],by omega,by omega,q3⟩
  obtain⟨t2,hT⟩:=qV h4;refine k _ _ _ (h (⟨hd.ao,m,m⟩,g)) rfl rfl ?_ ?_
  ·intro e he;rcases mem_cons.1 he with rfl | he
   ·exact hs2
   rcases mem_cons.1 he with rfl | he
   ·exact(aD5 _ _ _ _).symm
   exact fa e he
  intro w1 W1 rs1 n f W' Q KK d ty pos af g hl hst hb hk;refine stp_sl_hm hT (hl _ _ hx) ((hl _ _ hy).trans h3) ((hl _ _ hz).trans h3') he hcap ?_;rw[aD5];exact hk W' hst (Below.refl _ _)
 exact h.elim
def lko (lk:Operand->Option SV) (o:Option Operand):Option (Option SV):=
 match o with
 | none=>some none
 | some x=>(lk x).map some
theorem cY1 {lk:Operand->Option SV}{n:Nat}{f:Nat->Value}(hl:∀x u,lk x=some u->ev n f x=u.val) {o:Option Operand}{v:Option SV}(h:lko lk o=some v):o.map (ev n f)=v.map SV.val:=by
 cases o with
 | none=>simp only[lko,Option.some.injEq]at h;subst h;rfl
 | some x=>
  simp only[lko,Option.map_eq_some_iff]at h;obtain⟨u,hu,rfl⟩:=h;simp[hl x u hu]
def elT0 (P:Program) (t:Nat):Nat:=
 match P.underlying t with
 | some (.slice e)=>e
 | _=>0
def isStrC:Sc->Bool
 | .vl (.string _)=>true
 | _=>false
def slT4 (P:Program) {A:Type}{R:A->Prop}(lk:Operand->Option SV) (s:S) (t:TypeId) (x:Operand) (lo hi mx:Option Operand) (d:D P R) (K:SV->S->D P R->Tr):Tr:=
 opt (lk x) fun v=>asC v fun cx=>match isStrC cx with
  | true=>match mx with
   | none=>opt (lko lk lo) fun l=>opt (lko lk hi) fun h=>nrm d fun d=>match d with
    | .pl (t:=a) (x:=x) (lo:=l') (hi:=h') (z:=z) _ k=>.e0 t a<|.e0 cx.val x<|.e0 (l.map SV.val) l'<|.e0 (h.map SV.val) h'<|K (one (sc z)) s k
    | _=>.no
   | some _=>.no
  | false=>match lo,hi,mx with
   | none,some y,none=>opt (lk y) fun v=>asC v fun cy=>tkT P s t cx cy d K
   | some y,none,none=>opt (lk y) fun v=>asC v fun cy=>dpT P s t cx cy d K
   | some y,some z,none=>opt (lk y) fun v=>asC v fun cy=>opt (lk z) fun v=>asC v fun cz=>tdT P s t cx cy cz d K
   | none,some y,some z=>opt (lk y) fun v=>asC v fun cy=>opt (lk z) fun v=>asC v fun cz=>tmT P s t cx cy cz d K
   | _,_,_=>.no
theorem cI4 {G:Prop}{lk:Operand->Option SV}{w0 W:World}{s:S}{x:Operand}{lo hi mx:Option Operand}{t:TypeId}{d:D P R}{K:SV->S->D P R->Tr}(h:(slT4 P lk s t x lo hi mx d K).holds) (st:St w0 W s.rs) (fa:Facts w0 W s.B)
  (k:∀v s' d',(K v s' d').holds->s'.E=s.E->s'.O=s.O->Facts w0 W s'.B->(∀w1 W1 rs1,QS P lk (.slice t x lo hi mx) w1 W1 rs1 v)->G):G:=by
 unfold slT4 at h;refine aH h fun v hv h1=>cO h1 fun cx hc h2=>?_
 subst hc;split at h2
 ·split at h2
  ·refine aH h2 fun l hl h3=>aH h3 fun u hu h4=>dI h4 fun d' h5=>?_
   split at h5
   ·next hL kk=>
    obtain⟨rfl,e1,e2,e3,h6⟩:=h5;refine k _ _ _ h6 rfl rfl fa ?_;intro w1 W1 rs1 n f W' Q KK d ty pos af g hlk hst hb hk;have hk2:=hk W' hst (Below.refl _ _);rw[show ∀z:Value,(one (sc z)).val=z from fun z=>nI z]at hk2;exact hL ((hlk _ _ hv).trans e1) ((cY1 hlk hl).trans e2) ((cY1 hlk hu).trans e3) hk2
   exact h5.elim
  exact h2.elim
 split at h2
 ·refine aH h2 fun u hu h3=>cO h3 fun cy hy h4=>?_
  subst hy;exact tkT_ok hv hu h4 st fa k
 ·refine aH h2 fun u hu h3=>cO h3 fun cy hy h4=>?_
  subst hy;exact dpT_ok hv hu h4 st fa k
 ·refine aH h2 fun u hu h3=>cO h3 fun cy hy h4=>aH h4 fun u2 hu2 h5=>cO h5 fun cz hz h6=>?_
  subst hy hz;exact tdT_ok hv hu hu2 h6 st fa k
 ·refine aH h2 fun u hu h3=>cO h3 fun cy hy h4=>aH h4 fun u2 hu2 h5=>cO h5 fun cz hz h6=>?_
  subst hy hz;exact tmT_ok hv hu hu2 h6 st fa k
 exact h2.elim
def biT (P:Program) {A:Type}{R:A->Prop}(lk:Operand->Option SV) (b:BinOp) (t:TypeId) (x y:Operand) (d:D P R) (K:SV->D P R->Tr):Tr:=
 opt (lk x) fun vx=>opt (lk y) fun vy=>match vx,vy with
  | .on (.ce cx),.on (.ce cy)=>nrm d fun d=>match d with
   | .pb b' (x:=x) (y:=y) (z:=z) _ k=>.e0 b b'<|.e0 cx.val x<|.e0 cy.val y<|K (one (sc z)) k
   | .pn t0 x r _ k=>match b,y with
    | .neq,.const .nilIface=>.e0 t t0<|.e0 cx.val x<|K (one (.bo r)) k
    | _,_=>.no
   | d=>boT P b t cx cy d K
  | .on (.ag cs),.on (.ag ds)=>nrm d fun d=>match b,d with
   | .eql,.qe (cs:=cs') (ds:=ds') (t:=t') (b:=r) _ _ k=>.e0 t t'<|.e0 (cs.map Sc.val) cs'<|.e0 (ds.map Sc.val) ds'<|K (one (.bo r)) k
   | .neq,.qe (cs:=cs') (ds:=ds') (t:=t') (b:=r) _ _ k=>.e0 t t'<|.e0 (cs.map Sc.val) cs'<|.e0 (ds.map Sc.val) ds'<|K (one (.bo (!r))) k
   | _,_=>.no
  | _,_=>.no
theorem dB8 {G:Prop}{lk:Operand->Option SV}{b:BinOp}{t t':TypeId}{x y:Operand}{d:D P R}{K:SV->D P R->Tr}(h:(biT P lk b t x y d K).holds)
  (k:∀v d',(K v d').holds->(∀w1 W1 rs1,QS P lk (.binOp b t x y t') w1 W1 rs1 v)->G):G:=by
 unfold biT at h;refine aH h fun v hv h=>aH h fun v2 hv2 h=>?_
 split at h
 ·refine dI h fun d1 h1=>?_
  split at h1
  ·obtain⟨rfl,e1,e2,h6⟩:=h1;refine k _ _ h6 ?_;intro w1 W1 rs1 n f W' Q KK d ty pos af g hl hst hb hk;refine(by assumption:BOk P _ _ _ _) ((hl _ _ hv).trans e1) ((hl _ _ hv2).trans e2) ?_;have:=hk W' hst (Below.refl _ _)
   rwa [show (one (sc _)).val=_ from nI _]at this
  ·next t0 x0 r0 hN kk=>
   split at h1
   ·obtain⟨rfl,e1,h6⟩:=h1;refine k _ _ h6 ?_;intro w1 W1 rs1 n f W' Q KK d ty pos af g hl hst hb hk;exact hN ((hl _ _ hv).trans e1) (hk W' hst (Below.refl _ _))
   exact h1.elim
  exact boT_ok hv hv2 h1 k
 ·refine dI h fun d' h=>?_
  split at h
  ·obtain⟨rfl,rfl,rfl,h⟩:=h;refine k _ _ h ?_;intro w1 W1 rs1 n f W' Q KK d ty pos af g hl hst hb hk;exact stp_aeql (by assumption) (by assumption) (hl _ _ hv) (hl _ _ hv2) (hk W' hst (Below.refl _ _))
  ·obtain⟨rfl,rfl,rfl,h⟩:=h;refine k _ _ h ?_;intro w1 W1 rs1 n f W' Q KK d ty pos af g hl hst hb hk;exact stp_aneq (by assumption) (by assumption) (hl _ _ hv) (hl _ _ hv2) (hk W' hst (Below.refl _ _))
  exact h.elim
 exact h.elim
def cJ6:List SV->Option (List (Nat×Nat×Nat×Nat))
 | []=>some []
 | .on (.ce (.pt j b k o))::us=>(cJ6 us).map fun l=>(j,b,k,o)::l
 | _=>none
theorem bU2:∀{us:List SV}{l:List (Nat×Nat×Nat×Nat)},cJ6 us=some l->us.map SV.val=l.map fun p=>.pointer (some ⟨p.2.1,p.2.2.1+p.2.2.2,none⟩)
 | [],l,h=>by cases h;rfl
 | u::us,l,h=>by
  unfold cJ6 at h;split at h
  ·next h0=>cases h0
  ·next j b k o us' heq=>
   cases heq;obtain⟨l',hl',rfl⟩:=Option.map_eq_some_iff.1 h;rw[map_cons,bU2 hl',map_cons];rfl
  ·cases h
def qop (P:Program) {A:Type}{R:A->Prop}(lk:Operand->Option SV) (s:S) (o:Op) (d:D P R) (K:SV->S->D P R->Tr):Tr:=
 match o with
 | .move x=>opt (lk x) fun v=>K v s d
 | .assign x=>opt (lk x) fun v=>K v s d
 | .pick c a b=>opt (lk c) fun vc=>asC vc fun c=>bl c d fun r d=>opt (lk (cond r a b)) fun v=>K v s d
 | .nilCheck x=>opt (lk x) fun v=>asC v fun c=>match c with
  | .pt j b k o=>K (one (.pt j b k o)) s d
  | _=>.no
 | .fieldAddr t x i=>opt (lk x) fun v=>asC v fun c=>match c with
  | .pt j b k o=>opt (fOff P t i) fun off=>K (one (.pt j b k (o+off))) s d
  | _=>.no
 | .load t x=>opt (lk x) fun v=>asC v fun c=>ldT P s t c fun v=>K v s d
 | .indexAddr t x y=>opt (lk x) fun v=>asC v fun cx=>opt (lk y) fun v=>asC v fun cy=>ixT P s t cx cy d K
 | .binOp b t x y _=>biT P lk b t x y d fun v d=>K v s d
 | .unOp .not _ x=>opt (lk x) fun v=>asC v fun c=>match c with
  | .vl (.bool b)=>K (one (.vl (.bool (!b)))) s d
  | .bo e=>K (one (.bo (!e))) s d
  | _=>.no
 | .unOp u _ x=>opt (lk x) fun v=>asC v fun c=>nrm d fun d=>match d with
  | .pu u' (x:=x) (z:=z) _ k=>.e0 u u'<|.e0 c.val x<|K (one (sc z)) s k
  | _=>.no
 | .convert t t' x=>opt (lk x) fun v=>asC v fun c=>nrm d fun d=>match d with
  | .pc (t:=a) (t':=b) (x:=x) (z:=z) _ k=>.e0 t a<|.e0 t' b<|.e0 c.val x<|K (one (sc z)) s k
  | .so bs k=>match c with
   | .rf j h=>opt (vW s j) fun q=>.e0 h q.2.1<|.e1 q.2.2 ⟨inferInstance,bs⟩<|.e0 (P.underlying t) (some (.slice (elT0 P t)))<|.e0 (P.underlying (elT0 P t)) (some (.int .u8))<|.e0 (P.underlying t') (some .string)<|K (one (.vl (.string ⟨bs.toArray⟩))) s k
   | _=>.no
  | _=>.no
 | .index t x y=>opt (lk x) fun v=>asC v fun cx=>opt (lk y) fun v=>asC v fun cy=>nrm d fun d=>match d with
  | .px (t:=a) (x:=x) (y:=y) (z:=z) _ k=>.e0 t a<|.e0 cx.val x<|.e0 cy.val y<|K (one (sc z)) s k
  | _=>.no
 | .extract x i=>opt (lk x) fun v=>match v with
  | .tu l=>opt (l[i]?) fun t=>K (.on t) s d
  | _=>.no
 | .field t x i=>opt (lk x) fun v=>match v with
  | .on (.ag cs)=>opt (fldU P t i cs) fun u=>.e0 (fun W=>(Instr.field t (.agg (cs.map Sc.val).toArray) i).run P W) (fun W=>.ok u.val W) (K u s d)
  | _=>.no
 | .build t ps=>opt (lkp lk ps.toList) fun vs=>.e0 (fun W=>(Instr.build t (vs.map fun p=>(p.1,p.2.val)).toArray).run P W) (fun W=>.ok (TV.ag (bldU P t vs (kX P t))).val W) (K (.on (.ag (bldU P t vs (kX P t)))) s d)
 | .slice t x lo hi mx=>slT4 P lk s t x lo hi mx d K
 | .call ⟨.builtin .len,xs,ts⟩=>match xs.toList,ts.toList with
  | [x],[t]=>opt (lk x) fun v=>asC v fun c=>lnT P s t c fun v=>K v s d
  | _,_=>.no
 | .call ⟨.builtin .min,xs,ts⟩=>match xs.toList with
  | [x,y]=>opt (lk x) fun v=>asC v fun cx=>opt (lk y) fun v=>asC v fun cy=>match cx,cy with
   | .vl (.int .i64 a),.vl (.int .i64 c)=>K (one (.vl (I (min a c)))) s d
   | _,_=>.no
  | _=>.no
 | .call ⟨.builtin .max,xs,ts⟩=>match xs.toList with
  | [x,y]=>opt (lk x) fun v=>asC v fun cx=>opt (lk y) fun v=>asC v fun cy=>match cx,cy with
   | .vl (.int .i64 a),.vl (.int .i64 c)=>K (one (.vl (I (max a c)))) s d
   | _,_=>.no
  | _=>.no
 | .call ⟨.value (.func F),xs,_⟩=>clQ s lk F xs.toList d fun v d=>K v s d
 | .makeFunc (.func F) fs cs=>match fs.toList with
  | []=>opt (lkv lk cs.toList) fun us=>opt (cJ6 us) fun l=>K (one (.fn F l)) s d
  | _=>.no
 | _=>.no
theorem aS8 {G:Prop}{lk:Operand->Option SV}{w0 W:World}{s:S}{o:Op}{d:D P R}{K:SV->S->D P R->Tr}(h:(qop P lk s o d K).holds) (st:St w0 W s.rs) (fa:Facts w0 W s.B)
  (k:∀v s' d',(K v s' d').holds->s'.E=s.E->s'.O=s.O->Facts w0 W s'.B->QS P lk o w0 W s.rs v->G):G:=by
 unfold qop at h;split at h
 ·refine aH h fun v hv h=>k _ _ _ h rfl rfl fa ?_
  intro n f W' Q KK d ty pos af g hl hst hb hk;exact cI (hl _ _ hv) (hk W' hst (Below.refl _ _))
 ·refine aH h fun v hv h=>k _ _ _ h rfl rfl fa ?_
  intro n f W' Q KK d ty pos af g hl hst hb hk;exact bZ (hl _ _ hv) (hk W' hst (Below.refl _ _))
 ·refine aH h fun v hv h'=>cO h' fun c hc h=>cO6 h fun r d' hr h=>aH h fun u hu h=>k _ _ _ h rfl rfl fa ?_
  subst hc;intro n f W' Q KK d ty pos af g hl hst hb hk;cases r with
  | true=>exact aQ6 ((hl _ _ hv).trans hr) (hl _ _ hu) (hk W' hst (Below.refl _ _))
  | false=>exact aQ7 ((hl _ _ hv).trans hr) (hl _ _ hu) (hk W' hst (Below.refl _ _))
 ·refine aH h fun v hv h'=>cO h' fun c hc h=>?_
  subst hc;split at h
  ·refine k _ _ _ h rfl rfl fa ?_;intro n f W' Q KK d ty pos af g hl hst hb hk;exact yZ (hl _ _ hv) (hk W' hst (Below.refl _ _))
  exact h.elim
 ·refine aH h fun v hv h'=>cO h' fun c hc h=>?_
  subst hc;split at h
  ·refine aH h fun off ho h=>k _ _ _ h rfl rfl fa ?_
   intro n f W' Q KK d ty pos af g hl hst hb hk;refine gJ (cN1 ho) (hl _ _ hv) ?_;have:=hk W' hst (Below.refl _ _);simp only[SV.val,TV.val,Sc.val,<- Nat.add_assoc]at this;exact this
  exact h.elim
 ·refine aH h fun v hv h'=>cO h' fun c hc h=>?_
  subst hc;exact ldT_ok hv h fa fun v h q=>k _ _ _ h rfl rfl fa q
 ·refine aH h fun v hv h'=>cO h' fun c hc h=>aH h fun v2 hv2 h''=>cO h'' fun c2 hc2 h=>?_
  subst hc hc2;exact cY4 hv hv2 h st fa fun v s' d' a b c e q=>k v s' d' a b c e (q _ _ _)
 ·exact dB8 h fun v d h q=>k v s d h rfl rfl fa (q _ _ _)
 ·refine aH h fun v hv h'=>cO h' fun c hc h=>?_
  subst hc;split at h
  ·refine k _ _ _ h rfl rfl fa ?_;intro n f W' Q KK d ty pos af g hl hst hb hk;exact aM8 (hl _ _ hv) (hk W' hst (Below.refl _ _))
  ·refine k _ _ _ h rfl rfl fa ?_;intro n f W' Q KK d ty pos af g hl hst hb hk;exact aM8 (hl _ _ hv) (hk W' hst (Below.refl _ _))
  exact h.elim
 ·refine aH h fun v hv h'=>cO h' fun c hc h=>dI h fun d1 h1=>?_
  subst hc;split at h1
  ·obtain⟨rfl,e1,h6⟩:=h1;refine k _ _ _ h6 rfl rfl fa ?_;intro n f W' Q KK d ty pos af g hl hst hb hk;refine(by assumption:UOk P _ _ _) ((hl _ _ hv).trans e1) ?_;have:=hk W' hst (Below.refl _ _)
   rwa [show (one (sc _)).val=_ from nI _]at this
  exact h1.elim
 ·refine aH h fun v hv h'=>cO h' fun c hc h=>dI h fun d1 h1=>?_
  subst hc;split at h1
  ·obtain⟨rfl,rfl,e1,h6⟩:=h1;refine k _ _ _ h6 rfl rfl fa ?_;intro n f W' Q KK d ty pos af g hl hst hb hk;refine(by assumption:COk P _ _ _ _) ((hl _ _ hv).trans e1) ?_;have:=hk W' hst (Below.refl _ _)
   rwa [show (one (sc _)).val=_ from nI _]at this
  ·split at h1
   ·refine aH h1 fun q hq h2=>?_
    obtain⟨l,hd',dd⟩:=q;obtain⟨e1,e2,e3,e4,e5,h6⟩:=h2;simp only at e1 e2;subst e1 e2;refine k _ _ _ h6 rfl rfl fa ?_;intro n f W' Q KK d ty pos af g hl hst hb hk;obtain⟨fp,hs⟩:=lF hq hst (fa.up hb);cases l with
    | true=>exact bB6 e3 e4 e5 (hl _ _ hv) (Sl.below hs hst.below) (Below.refl _ _) (hk W' hst (Below.refl _ _))
    | false=>exact bB6 e3 e4 e5 (hl _ _ hv) hs (Below.refl _ _) (hk W' hst (Below.refl _ _))
   exact h1.elim
  exact h1.elim
 ·refine aH h fun v hv h'=>cO h' fun c hc h=>aH h fun v2 hv2 h''=>cO h'' fun c2 hc2 h=>dI h fun d1 h1=>?_
  subst hc hc2;split at h1
  ·obtain⟨rfl,e1,e2,h6⟩:=h1;refine k _ _ _ h6 rfl rfl fa ?_;intro n f W' Q KK d ty pos af g hl hst hb hk;refine(by assumption:XOk P _ _ _ _) ((hl _ _ hv).trans e1) ((hl _ _ hv2).trans e2) ?_;have:=hk W' hst (Below.refl _ _)
   rwa [show (one (sc _)).val=_ from nI _]at this
  exact h1.elim
 ·refine aH h fun v hv h=>?_
  split at h
  ·next l=>
   refine aH h fun t ht h=>k _ _ _ h rfl rfl fa ?_
   intro n f W' Q KK d ty pos af g hl hst hb hk;exact aI5 (hl _ _ hv) (v:=t.val) (by simp[ht]) (hk W' hst (Below.refl _ _))
  exact h.elim
 ·refine aH h fun v hv h=>?_
  split at h
  ·refine aH h fun u hu h=>k _ _ _ h.2 rfl rfl fa ?_
   intro n f W' Q KK d ty pos af g hl hst hb hk;exact stp_fld (hl _ _ hv) (congrFun h.1 W') (hk W' hst (Below.refl _ _))
  exact h.elim
 ·next t ps=>
  refine aH h fun vs hvs h=>k _ _ _ h.2 rfl rfl fa ?_
  intro n f W' Q KK d ty pos af g hl hst hb hk;have:=stp_bld (P:=P) (t:=t) (d:=d) (ty:=ty) (pos:=pos) (af:=af) (g:=g) (Q:=Q) (K:=KK) (bO2 hl hvs) (congrFun h.1 W') (hk W' hst (Below.refl _ _));simpa using this
 ·exact cI4 h st fa fun v s' d' a b c e q=>k v s' d' a b c e (q _ _ _)
 ·next xs ts=>
  split at h
  ·next x t e1 e2=>
   have e1:xs = #[x]:=by rw[<- Array.toArray_toList (xs:=xs),e1]
   have e2:ts = #[t]:=by rw[<- Array.toArray_toList (xs:=ts),e2]
   subst e1 e2;refine aH h fun v hv h'=>cO h' fun c hc h=>?_
   subst hc;exact lnT_ok hv h st fa fun v h q=>k _ _ _ h rfl rfl fa q
  exact h.elim
 ·next xs ts=>
  split at h
  ·next x y e1=>
   have e1:xs = #[x,y]:=by rw[<- Array.toArray_toList (xs:=xs),e1]
   subst e1;refine aH h fun v hv h'=>cO h' fun c hc h=>aH h fun v2 hv2 h''=>cO h'' fun c2 hc2 h=>?_
   subst hc hc2;split at h
   ·refine k _ _ _ h rfl rfl fa ?_;intro n f W' Q KK d ty pos af g hl hst hb hk;exact cH7 (hl _ _ hv) (hl _ _ hv2) (hk W' hst (Below.refl _ _))
   exact h.elim
  exact h.elim
 ·next xs ts=>
  split at h
  ·next x y e1=>
   have e1:xs = #[x,y]:=by rw[<- Array.toArray_toList (xs:=xs),e1]
   subst e1;refine aH h fun v hv h'=>cO h' fun c hc h=>aH h fun v2 hv2 h''=>cO h'' fun c2 hc2 h=>?_
   subst hc hc2;split at h
   ·refine k _ _ _ h rfl rfl fa ?_;intro n f W' Q KK d ty pos af g hl hst hb hk;exact stp_max (hl _ _ hv) (hl _ _ hv2) (hk W' hst (Below.refl _ _))
   exact h.elim
  exact h.elim
 ·next F xs ts=>
  refine clQ_ok (ats:=ts) h st fa fun v d h q=>k _ _ _ h rfl rfl fa ?_
  intro n f W' Q KK d ty pos af g hl hst hb hk;have:=q (n:=n) (f:=f) (W':=W') (Q:=Q) (KK:=KK) (d:=d) (ty:=ty) (pos:=pos) (af:=af) (g:=g) hl hst hb hk;simpa using this
 ·next F fs cs=>
  split at h
  ·next e1=>
   have e1:fs = #[]:=by rw[<- Array.toArray_toList (xs:=fs),e1]
   subst e1;refine aH h fun us hus h=>aH h fun l hl' h=>k _ _ _ h rfl rfl fa ?_
   intro n f W' Q KK d ty pos af g hl hst hb hk;have e2:=kJ hl hus;have:=stp_makeFunc (P:=P) (n:=n) (f:=f) (W:=W') (Q:=Q) (K:=KK) (d:=d) (ty:=ty) (pos:=pos) (af:=af) (g:=g) (fnn := .func F) (first:=[]) (captured:=cs.toList) (fv:=[]) rfl (e2.trans (bU2 hl')) (hk W' hst (Below.refl _ _));simpa using this
  exact h.elim
 exact h.elim
def cY7:Op->Bool
 | .slice _ _ _ _ _=>true
 | .indexAddr _ _ _=>true
 | .binOp _ _ _ _ _=>true
 | _=>false
theorem bM3 {G:Prop}{lk:Operand->Option SV}{w0 W:World}{s:S}{o:Op}{d:D P R}{K:SV->S->D P R->Tr}(h:(qop P lk s o d K).holds) (st:St w0 W s.rs) (fa:Facts w0 W s.B)
  (k:∀v s' d',(K v s' d').holds->s'.E=s.E->s'.O=s.O->Facts w0 W s'.B->QS P lk o w0 W s.rs v->(cY7 o=true->∀w1 W1 rs1,QS P lk o w1 W1 rs1 v)->G):G:=by
 cases hs:cY7 o with
 | false=>exact aS8 h st fa fun v s' d' a b c e q=>k v s' d' a b c e q (fun z=>by rw[hs]at z;cases z)
 | true=>
  match o,hs,h,k with
  | .slice t x lo hi mx,_,h,k=>
   have h:(slT4 P lk s t x lo hi mx d K).holds:=h;exact cI4 h st fa fun v s' d' a b c e q=>k v s' d' a b c e (q _ _ _) (fun _=>q)
  | .indexAddr t x y,_,h,k=>
   have h:(opt (lk x) fun v=>asC v fun cx=>opt (lk y) fun v=>asC v fun cy=>ixT P s t cx cy d K).holds:=h;refine aH h fun v hv h1=>cO h1 fun cx hc h2=>aH h2 fun u hu h3=>cO h3 fun cy hc2 h4=>?_
   subst hc hc2;exact cY4 hv hu h4 st fa fun v s' d' a b c e q=>k v s' d' a b c e (q _ _ _) (fun _=>q)
  | .binOp b t x y t',_,h,k=>
   have h:(biT P lk b t x y d fun v d=>K v s d).holds:=h;exact dB8 h fun v d h q=>k v s d h rfl rfl fa (q _ _ _) (fun _=>q)
end
end Go.Proofs.YtjihdmlkpkkpbaaGreat
namespace Go.Proofs.YtjihdmlkpkkpbaaGreat
set_option maxHeartbeats 1000000
set_option maxHeartbeats 2000000
open Go.RowKit Go.Proofs.Tryz List

def Or (O:List (Nat×Ob)):List Res:=O.map fun p=>p.2.res
def bJ:List (Nat×Ob)->Nat->List (Nat×Ob)
 | [],_=>[]
 | (t,v)::O,x=>cond (Nat.beq x t) O ((t,v)::bJ O x)
theorem bG4:∀{O:List (Nat×Ob)}{j:Nat}{o:Ob},lku O j=some o->(o.res::Or (bJ O j)).Perm (Or O)
 | [],_,_,h=>by cases h
 | (t,v)::O,x,o,h=>by
  unfold lku at h;unfold bJ;cases hb:Nat.beq x t with
  | true=>rw[hb]at h;simp only[cond_true,Option.some.injEq]at h;subst h;exact List.Perm.refl _
  | false=>
   rw[hb]at h;exact(List.Perm.swap _ _ _).trans ((bG4 (O:=O) h).cons _)
theorem St.take {w0 W:World}{O:List (Nat×Ob)}{j:Nat}{o:Ob}{rs:List Res}(h:St w0 W (Or O++rs)) (hj:lku O j=some o):St w0 W (o.res::(Or (bJ O j)++rs)):=
 h.perm ((bG4 hj).append_right rs)
theorem St.pc_cs {α:Type}(i:Dsh α) {w0 W:World}{cs:List Value}{x:α}{fp:List Nat}{rs:List Res}(h:St w0 W (Res.pc cs (i.lv x) fp::rs)) (hg:i.good x):St w0 W (@Res.cs α i.toShape cs x fp::rs):=
 h.trade1 rfl (fun h=>⟨i.inn hg h.1,h.2⟩)
theorem St.cs_pc {α:Type}(i:Dsh α) {w0 W:World}{cs:List Value}{x:α}{fp:List Nat}{rs:List Res}(h:St w0 W (@Res.cs α i.toShape cs x fp::rs)):St w0 W (Res.pc cs (i.lv x) fp::rs)/\i.good x:=
 ⟨h.trade1 rfl (fun h=>⟨(i.out h.1).2,h.2⟩),(i.out (h.get 0 rfl).1).1⟩
theorem St.pc_nil {w0 W:World}{rs:List Res}(h:St w0 W rs):St w0 W (Res.pc [] [] []::rs):=
 h.trade (rs1:=[]) (rs2:=[Res.pc [] [] []]) (show ([]:List Nat).Nodup from nodup_nil) (fun b hb=>absurd (show b∈([]:List Nat) from hb) (by simp)) (by intro r hr;simp at hr;subst hr;exact⟨rfl,by simp⟩)
theorem St.pc_v {w0 W:World}{rs:List Res}{cs:List Value}{ls:List Lf}{fp:List Nat}{x:Value}(h:St w0 W (Res.pc cs ls fp::rs)):St w0 W (Res.pc (x::cs) (.v x::ls) fp::rs):=
 h.trade1 rfl (fun h=>⟨⟨rfl,h.1⟩,h.2⟩)
theorem St.pc_n {β:Type}{i:Shape β}{w0 W:World}{rs:List Res}{cs:List Value}{ls:List Lf}{fp:List Nat}(h:St w0 W (Res.pc cs ls fp::rs)):St w0 W (Res.pc (.slice none 0 0::cs) (.s β i []::ls) fp::rs):=
 h.trade1 rfl (fun h=>⟨⟨[],fp,cD0,h.1,rfl⟩,h.2⟩)
theorem St.pc_s {β:Type}{i:Shape β}{w0 W:World}{rs:List Res}{cs:List Value}{ls:List Lf}{fp f1:List Nat}{v:Value}{ys:List β}(h:St w0 W (Res.pc cs ls fp::Res.own v ys f1::rs)):St w0 W (Res.pc (v::cs) (.s β i ys::ls) (f1++fp)::rs):=by
 refine St.trade (rs1:=[Res.pc cs ls fp,Res.own v ys f1]) (rs2:=[Res.pc (v::cs) (.s β i ys::ls) (f1++fp)]) h ?_ ?_ ?_
 ·have hn:=h.nodup;simp only[flatMap_cons]at hn;rw[<- append_assoc,nodup_append]at hn;have h2:(fp++f1).Nodup:=hn.1;simp only[flatMap_cons,flatMap_nil,append_nil];exact(perm_append_comm.nodup_iff).1 h2
 ·intro b hb;simp only[flatMap_cons,flatMap_nil,append_nil,Res.pc,Res.own,mem_append]at hb ⊢;exact hb.symm
 intro r hr;simp only[mem_singleton]at hr;subst hr;have h1:=h.get 0 rfl;have h2:=h.get 1 rfl;refine⟨⟨f1,fp,jS h2,h1.1,rfl⟩,fun b hb=>?_⟩;rcases mem_append.1 hb with hb | hb
 ·exact h2.2 b hb
 exact h1.2 b hb
theorem St.s_pc {β:Type}{i:Shape β}{w0 W:World}{rs:List Res}{cs:List Value}{ls:List Lf}{fp:List Nat}{v:Value}{ys:List β}(h:St w0 W (Res.pc (v::cs) (.s β i ys::ls) fp::rs)):∃f1 f2,St w0 W (Res.pc cs ls f2::Res.own v ys f1::rs):=by
 obtain⟨⟨f1,f2,h1,h2,rfl⟩,hw⟩:=h.get 0 rfl;refine⟨f1,f2,St.trade (rs1:=[Res.pc (v::cs) (.s β i ys::ls) (f1++f2)]) (rs2:=[Res.pc cs ls f2,Res.own v ys f1]) h ?_ ?_ ?_⟩
 ·have hn:=h.nodup;simp only[flatMap_cons]at hn;rw[nodup_append]at hn;have h3:(f1++f2).Nodup:=hn.1;simp only[flatMap_cons,flatMap_nil,append_nil];exact(perm_append_comm.nodup_iff).1 h3
 ·intro b hb;simp only[flatMap_cons,flatMap_nil,append_nil,Res.pc,Res.own,mem_append]at hb ⊢;exact hb.symm
 intro r hr;rcases mem_cons.1 hr with rfl | hr
 ·exact⟨h2,fun b hb=>hw b (mem_append_right _ hb)⟩
 simp only[mem_singleton]at hr;subst hr;exact⟨h1.v,fun b hb=>hw b (mem_append_left _ hb)⟩
theorem St.v_pc {w0 W:World}{rs:List Res}{cs:List Value}{ls:List Lf}{fp:List Nat}{v x:Value}(h:St w0 W (Res.pc (v::cs) (.v x::ls) fp::rs)):v=x/\St w0 W (Res.pc cs ls fp::rs):=
 ⟨(h.get 0 rfl).1.1,h.trade1 rfl (fun h=>⟨h.1.2,h.2⟩)⟩
theorem St.swap {w0 W:World}{a b:Res}{rs:List Res}(h:St w0 W (a::b::rs)):St w0 W (b::a::rs):=h.perm (List.Perm.swap _ _ _)

section
variable {P:Program}{A:Type}{R:A->Prop}
def kO:List (Nat×Ob)->List Sc->List Lf->(List (Nat×Ob)->Tr)->Tr
 | O,[],[],K=>K O
 | O,c::cs,.v u::ls,K=>.e0 c.val u (kO O cs ls K)
 | O,c::cs,.s _ i ys::ls,K=>match c with
  | .rf j h=>match lku O j with
   | some (.own i' h' xs _)=>.e0 h h' (.e1 (⟨i',xs⟩:Dat) ⟨i,ys⟩ (kO (bJ O j) cs ls K))
   | some (.row i' _ h' xs _)=>.e0 h h' (.e1 (⟨i',xs⟩:Dat) ⟨i,ys⟩ (kO (bJ O j) cs ls K))
   | _=>.no
  | .vl (.slice none 0 0)=>.e1 (⟨i,[]⟩:Dat) ⟨i,ys⟩ (kO O cs ls K)
  | _=>.no
 | _,_,_,_=>.no
theorem eY {G:Prop}{w0 W:World}:∀{cs:List Sc}{ls:List Lf}{O:List (Nat×Ob)}{K:List (Nat×Ob)->Tr}{rs:List Res},(kO O cs ls K).holds->St w0 W (Or O++rs) ->
  (∀O' fp,(K O').holds->St w0 W (Res.pc (cs.map Sc.val) ls fp::(Or O'++rs))->G)->G
 | [],[],O,K,rs,h,st,k=>k O [] h st.pc_nil
 | c::cs,.v u::ls,O,K,rs,h,st,k=>by
  obtain⟨rfl,h⟩:=h;exact eY h st fun O' fp h' st'=>k O' fp h' st'.pc_v
 | c::cs,.s β i ys::ls,O,K,rs,h,st,k=>by
  unfold kO at h;split at h
  ·next j hd=>
   split at h
   ·next i' h' xs fp hj=>
    obtain⟨rfl,h2,h⟩:=h;simp only[Dat.mk.injEq]at h2;obtain⟨rfl,h2,h3⟩:=h2;obtain⟨rfl,rfl⟩:=And.intro (eq_of_heq h2) (eq_of_heq h3);have st2:St w0 W (Or (bJ O j)++(Res.own hd.val xs fp::rs)):=(st.take hj).perm perm_middle;refine eY h st2 fun O' fp' h' st'=>k O' _ h' (St.pc_s (f1:=fp) (fp:=fp') (st'.perm ?_))
    exact(perm_middle.symm).cons _
   ·next i' te h' xs fe hj=>
    obtain⟨rfl,h2,h⟩:=h;simp only[Dat.mk.injEq]at h2;obtain⟨rfl,h2,h3⟩:=h2;obtain⟨rfl,rfl⟩:=And.intro (eq_of_heq h2) (eq_of_heq h3);obtain⟨fp,st1⟩:=St.shut (st.take hj);have st2:St w0 W (Or (bJ O j)++(Res.own hd.val xs fp::rs)):=st1.perm perm_middle;refine eY h st2 fun O' fp' h' st'=>k O' _ h' (St.pc_s (f1:=fp) (fp:=fp') (st'.perm ?_))
    exact(perm_middle.symm).cons _
   ·exact h.elim
  ·obtain⟨h2,h⟩:=h;simp only[Dat.mk.injEq,heq_eq_eq,true_and]at h2;subst h2;exact eY h st fun O' fp h' st'=>k O' fp h' st'.pc_n
  ·exact h.elim
 | [],.v _::_,_,_,_,h,_,_=>h.elim
 | [],.s _ _ _::_,_,_,_,h,_,_=>h.elim
 | _::_,[],_,_,_,h,_,_=>h.elim
def aK8:List Lf->S->(List Sc->S->Tr)->Tr
 | [],s,K=>K [] s
 | .v x::ls,s,K=>aK8 ls s fun cs s=>K (sc x::cs) s
 | .s _ i ys::ls,s,K=>.fn fun g:Hd×List Nat=>aK8 ls ⟨s.E,(s.nx,.own i g.1 ys g.2)::s.O,s.B,s.nx+1⟩ fun cs s'=>K (.rf s.nx g.1::cs) s'
theorem oW {G:Prop}{w0 W:World}{rs:List Res}:∀{ls:List Lf}{s:S}{K:List Sc->S->Tr}{cs:List Value}{fp:List Nat},(aK8 ls s K).holds->St w0 W (Res.pc cs ls fp::(rs++s.rs)) ->
  (∀scs s',(K scs s').holds->scs.map Sc.val=cs->s'.E=s.E->s'.B=s.B->(∃N,s'.O=N++s.O)->St w0 W (rs++s'.rs)->lns ls->G)->G
 | [],s,K,[],fp,h,st,k=>k [] s h rfl rfl rfl ⟨[],rfl⟩ st.d0 trivial
 | [],s,K,c::cs,fp,h,st,k=>(st.get 0 rfl).1.elim
 | .v x::ls,s,K,[],fp,h,st,k=>(st.get 0 rfl).1.elim
 | .s _ _ _::ls,s,K,[],fp,h,st,k=>(st.get 0 rfl).1.elim
 | .v x::ls,s,K,c::cs,fp,h,st,k=>by
  obtain⟨e0,st2⟩:=st.v_pc;subst e0;refine oW (K:=fun cs s=>K (sc c::cs) s) h st2 fun scs s' h' e1 e2 e3 e4 st' hl=>k _ s' h' ?_ e2 e3 e4 st' hl
  rw[map_cons,nI,e1]
 | .s _ i ys::ls,s,K,c::cs,fp,h,st,k=>by
  obtain⟨f1,f2,st⟩:=st.s_pc;have hs:=jS (st.get 1 rfl);obtain⟨hd,rfl,hn⟩:=hs.hd;refine oW (K:=fun cs s'=>K (.rf s.nx hd::cs) s') (h (hd,f1)) (rs:=rs) (st.perm ((perm_middle (a:=Res.own hd.val ys f1) (l₁:=rs) (l₂:=s.rs)).cons _)) fun scs s' h' e1 e2 e3 e4 st' hl=>k _ s' h' ?_ e2 e3 (e4.elim fun N hN=>⟨N++[(s.nx,.own i hd ys f1)],by rw[hN];simp⟩) st' ⟨?_,hl⟩
  ·rw[map_cons,e1];rfl
  ·exact hs.len_le
end
end Go.Proofs.YtjihdmlkpkkpbaaGreat
namespace Go.Proofs.YtjihdmlkpkkpbaaGreat
set_option maxHeartbeats 1000000
set_option maxHeartbeats 2000000
open Go.RowKit Go.Proofs.Tryz List

section
variable {P:Program}{A:Type}{R:A->Prop}
def aZ5 {α:Type u}:List α->Nat->List α->List α
 | C,0,[]=>C
 | _::C,0,v::vs=>v::aZ5 C 0 vs
 | c::C,n+1,vs=>c::aZ5 C n vs
 | [],_,_=>[]
theorem zM:∀(C:List Sc) (o:Nat) (vs:List Sc),(aZ5 C o vs).map Sc.val=aN (C.map Sc.val) o (vs.map Sc.val)
 | C,0,[]=>by cases C<;>rfl
 | _::C,0,v::vs=>by
  show v.val::(aZ5 C 0 vs).map Sc.val=v.val::aN (C.map Sc.val) 0 (vs.map Sc.val);rw[zM C 0 vs]
 | c::C,n+1,vs=>by
  show c.val::(aZ5 C n vs).map Sc.val=c.val::aN (C.map Sc.val) n (vs.map Sc.val);rw[zM C n vs]
 | [],0,v::vs=>rfl
 | [],n+1,vs=>rfl
theorem aX8 {w0 W:World}{b:Nat}{zs:List Sc}{t:TypeId}{rs:List Res}(h:St w0 W (Res.bx b (zs.map Sc.val) t::rs)):St w0 W ((Ob.bx b [] zs [] t).res::rs):=by
 simpa [Ob.res] using h
def newB (s:S) (zs:List Sc) (t:TypeId) (b:Nat):S:=⟨s.E,(s.nx,.bx b [] zs [] t)::s.O,s.B,s.nx+1⟩
def alT (P:Program) (s:S) (t:TypeId) (K:SV->S->Tr):Tr:=
 .e0 (((P.info? t).bind (·.zero)).map (·.cells.toList)) (some ((kX P t).map Sc.val)) (.fn fun b:Nat=>K (one (.pt s.nx b 0 0)) (newB s (kX P t) t b))
theorem alT_ok {w0 W:World}{s:S}{t:TypeId}{K:SV->S->Tr}{n:Nat}{f:Nat->Value}{Q:Exit->Act->World->Prop}{KK:Value->World->Prop}{d:Option Tmp}{ty:TypeId}{pos:String}{af:Array Go.Edge}{g:Option (Nat×Bool)}
  (h:(alT P s t K).holds) (st:St w0 W s.rs) (fa:Facts w0 W s.B) (k:∀v s' W',(K v s').holds->s'.E=s.E->(∃N,s'.O=N++s.O)->Below W.heap.size W W'->St w0 W' s'.rs->Facts w0 W' s'.B->KK v.val W'):Stp P n ⟨d,.alloc t,ty,pos,af,g⟩ f W Q KK:=by
 obtain⟨h1,h⟩:=h;exact bB7 h1 st fun b W' hb st'=>k _ _ W' (h b) rfl ⟨[_],rfl⟩ hb (aX8 st') (fa.up hb)
def bxT (s:S) (t:TypeId) (v:SV) (K:SV->S->Tr):Tr:=
 match v with
 | .on (.ce c)=>.e0 c.val.cells #[c.val] (.fn fun b:Nat=>K (one (.pt s.nx b 0 0)) (newB s [c] t b))
 | .on (.ag l)=>.fn fun b:Nat=>K (one (.pt s.nx b 0 0)) (newB s l t b)
 | _=>.no
theorem bxT_ok {w0 W:World}{s:S}{t:TypeId}{x:Operand}{v:SV}{K:SV->S->Tr}{n:Nat}{f:Nat->Value}{Q:Exit->Act->World->Prop}{KK:Value->World->Prop}{d:Option Tmp}{ty:TypeId}{pos:String}{af:Array Go.Edge}{g:Option (Nat×Bool)}
  (hx:ev n f x=v.val) (h:(bxT s t v K).holds) (st:St w0 W s.rs) (fa:Facts w0 W s.B) (k:∀v s' W',(K v s').holds->s'.E=s.E->(∃N,s'.O=N++s.O)->Below W.heap.size W W'->St w0 W' s'.rs->Facts w0 W' s'.B->KK v.val W'):Stp P n ⟨d,.box t x,ty,pos,af,g⟩ f W Q KK:=by
 unfold bxT at h;split at h
 ·obtain⟨h1,h⟩:=h;exact stp_box_one hx h1 st fun b W' hb st'=>k _ _ W' (h b) rfl ⟨[_],rfl⟩ hb (aX8 st') (fa.up hb)
 ·exact aI6 hx st fun b W' hb st'=>k _ _ W' (h b) rfl ⟨[_],rfl⟩ hb (aX8 st') (fa.up hb)
 exact h.elim
def bsU (k:Nat):List (Nat×SV)->List Sc->List Sc
 | [],cs=>cs
 | (i,v)::ps,cs=>bsU k ps (aZ5 cs (i*k) (tvC v))
def reps {α:Type u}(l:List α):Nat->List α
 | 0=>[]
 | n+1=>l++reps l n
def elT (P:Program) (t:Nat):Nat:=
 match P.underlying t with
 | some (.slice e)=>e
 | _=>0
def bsT (P:Program) {A:Type}{R:A->Prop}(s:S) (t:TypeId) (len:Nat) (vs:List (Nat×SV)) (d:D P R) (K:SV->S->D P R->Tr):Tr:=
 let cs:=bsU (kX P (elT P t)).length vs (reps (kX P (elT P t)) len)
 .e0 (fun W=>(Instr.buildSlice t len (vs.map fun p=>(p.1,p.2.val)).toArray).run P W) (fun W=>.ok (.slice (some ⟨W.heap.size,0,none⟩) len len) (W.alloc (.cells (cs.map Sc.val).toArray (elT P t)))) <|
  match len with
  | 0=>nrm d fun d=>match d with
   | .em i k=>.e0 (cs.map Sc.val) []<|.fn fun b:Nat=>K (one (.rf s.nx ⟨some ⟨b,0,none⟩,0,0⟩)) ⟨s.E,(s.nx,.row i (elT P t) ⟨some ⟨b,0,none⟩,0,0⟩ [] [])::s.O,s.B,s.nx+1⟩ k
   | _=>.no
  | n+1=>.fn fun b:Nat=>K (one (.lt s.nx b (n+1))) (newB s cs (elT P t) b) d
theorem bsT_ok {w0 W:World}{s:S}{t:TypeId}{len:Nat}{ps:List (Nat×Operand)}{vs:List (Nat×SV)}{dd:D P R}{K:SV->S->D P R->Tr}{n:Nat}{f:Nat->Value}{Q:Exit->Act->World->Prop}{KK:Value->World->Prop}{d:Option Tmp}{ty:TypeId}{pos:String}{af:Array Go.Edge}{g:Option (Nat×Bool)}
  (hx:ps.map (fun (i,x)=>(i,ev n f x))=vs.map fun p=>(p.1,p.2.val)) (h:(bsT P s t len vs dd K).holds) (st:St w0 W s.rs) (fa:Facts w0 W s.B) (k:∀v s' d' W',(K v s' d').holds->s'.E=s.E->(∃N,s'.O=N++s.O)->Below W.heap.size W W'->St w0 W' s'.rs->Facts w0 W' s'.B->KK v.val W'):Stp P n ⟨d,.buildSlice t len ps.toArray,ty,pos,af,g⟩ f W Q KK:=by
 obtain⟨h1,h⟩:=h;cases len with
 | zero=>
  refine dI h fun d' h=>?_
  split at h
  ·next i kk=>
   obtain⟨h2,h⟩:=h;refine gV hx (congrFun h1 W) st fun b W' hb st'=>k _ _ _ W' (h b) rfl ⟨[_],rfl⟩ hb ?_ (fa.up hb)
   rw[h2]at st';exact st'.row_empty
  exact h.elim
 | succ m=>exact gV hx (congrFun h1 W) st fun b W' hb st'=>k _ _ _ W' (h b) rfl ⟨[_],rfl⟩ hb (aX8 st') (fa.up hb)
def mkT (P:Program) (s:S) (t:TypeId) (c cy:Sc) (K:SV->S->Tr):Tr:=
 match c with
 | .vl (.int .i64 (.ofNat m))=>.e0 cy.val c.val<|.e0 (P.underlying t) (some (.slice (elT P t))) <|
   opt ((P.info? (elT P t)).bind fun i=>i.zero.map fun z=>(i.size,i.bytes,z.cells)) fun q=>.e0 (Nat.ble m 67108864) true<|.e0 (Nat.ble (m*q.2.1) 140737488355328) true<|.e0 (madeCells q.2.2 (m*q.1)).toList ((reps (kX P (elT P t)) m).map Sc.val) <|
   .fn fun b:Nat=>K (one (.lt s.nx b m)) (newB s (reps (kX P (elT P t)) m) (elT P t) b)
 | _=>.no
theorem mkT_ok {w0 W:World}{s:S}{t:TypeId}{x y:Operand}{c cy:Sc}{K:SV->S->Tr}{n:Nat}{f:Nat->Value}{Q:Exit->Act->World->Prop}{KK:Value->World->Prop}{d:Option Tmp}{ty:TypeId}{pos:String}{af:Array Go.Edge}{g:Option (Nat×Bool)}
  (hx:ev n f x=c.val) (hy:ev n f y=cy.val) (h:(mkT P s t c cy K).holds) (st:St w0 W s.rs) (fa:Facts w0 W s.B) (k:∀v s' W',(K v s').holds->s'.E=s.E->(∃N,s'.O=N++s.O)->Below W.heap.size W W'->St w0 W' s'.rs->Facts w0 W' s'.B->KK v.val W'):Stp P n ⟨d,.makeSlice t x y,ty,pos,af,g⟩ f W Q KK:=by
 unfold mkT at h;split at h
 ·next m=>
  obtain⟨h1,h2,h⟩:=h;refine aH h fun q hq h=>?_
  obtain⟨h3,h4,h5,h⟩:=h;obtain⟨i,hi,hq⟩:=Option.bind_eq_some_iff.1 hq;obtain⟨z,hz,rfl⟩:=Option.map_eq_some_iff.1 hq;have h3:=Nat.le_of_ble_eq_true h3;have h4:=Nat.le_of_ble_eq_true h4;have hb':(m:Int)*(i.bytes:Int)<=140737488355328:=by have:=Int.ofNat_le.2 h4;rw[Int.natCast_mul]at this;exact this
  have hmk:=run_make (P:=P) W t (elT P t) i z h2 hi hz .i64 .i64 m m aA aA (by rw[Int.mul_comm];omega) aA;rw[Int.toNat_natCast]at hmk;have hx':ev n f x = .int .i64 (m:Int):=hx;have hy':ev n f y = .int .i64 (m:Int):=hy.trans h1;refine Stp.run (v := .slice (some ⟨W.heap.size,0,none⟩) m m) (W':=W.alloc (.cells (madeCells z.cells (m*i.size)) (elT P t))) (by simp only[execOp,hx',hy',Sem.run_bind,hmk,Result.andThen_ok];rfl) ?_;have hst:=st.alloc (madeCells z.cells (m*i.size)).toList (elT P t);rw[Array.toArray_toList]at hst;have h5:(madeCells z.cells (m*i.size)).toList=(reps (kX P (elT P t)) m).map Sc.val:=h5;rw[h5]at hst;have hbl:Below W.heap.size W (W.alloc (.cells (madeCells z.cells (m*i.size)) (elT P t))):=hQ (Below.refl _ _);exact k _ _ _ (h W.heap.size) rfl ⟨[_],rfl⟩ hbl (aX8 hst) (fa.up hbl)
 exact h.elim
def stT (P:Program) (s:S) (t:TypeId) (c:Sc) (v:SV) (K:S->Tr):Tr:=
 match c with
 | .pt j b k o=>match lku s.O j with
  | some (.bx b' pre cs post t')=>.e0 b b'<|.e0 k pre.length<|.e0 ((P.info? t).map (·.size)) (some (tvC v).length)<|.e0 (Nat.ble (o+(tvC v).length) cs.length) true<|.e0 ((tvC v).all fun c=>c.val.oneCell') true <|
    match v with
    | .on (.ce u)=>.e0 u.val.cells #[u.val] (K ⟨s.E,(j,.bx b' pre (aZ5 cs o (tvC v)) post t')::bJ s.O j,lasting s.B,s.nx⟩)
    | .on (.ag _)=>K ⟨s.E,(j,.bx b' pre (aZ5 cs o (tvC v)) post t')::bJ s.O j,lasting s.B,s.nx⟩
    | _=>.no
  | _=>.no
 | _=>.no
theorem stT_ok {w0 W:World}{s:S}{t:TypeId}{x y:Operand}{c:Sc}{v:SV}{K:S->Tr}{n:Nat}{f:Nat->Value}{Q:Exit->Act->World->Prop}{KK:Value->World->Prop}{d:Option Tmp}{ty:TypeId}{pos:String}{af:Array Go.Edge}{g:Option (Nat×Bool)}
  (hx:ev n f x=c.val) (hy:ev n f y=v.val) (h:(stT P s t c v K).holds) (st:St w0 W s.rs) (fa:Facts w0 W s.B) (k:∀s' W',(K s').holds->s'.E=s.E->St w0 W' s'.rs->Facts w0 W' s'.B->KK undef W'):Stp P n ⟨d,.store t x y,ty,pos,af,g⟩ f W Q KK:=by
 unfold stT at h;split at h
 ·split at h
  ·next hj=>
   obtain⟨rfl,rfl,h1,h2,h3,h⟩:=h;have st2:=St.take (rs:=[]) (by simpa [Or,S.rs] using st) hj;simp only[append_nil]at st2;replace h2:=Nat.le_of_ble_eq_true h2;rw[all_eq_true]at h3;split at h
   ·next u=>
    obtain⟨h4,h⟩:=h;have h5:=h3 u (by simp[tvC]);refine yY (i:=_) h1 hx hy h4 h5 st2 rfl (by simpa [tvC] using h2) rfl fun W' st'=>k _ W' h rfl ?_ fa.lasting
    show St w0 W' (Res.bx _ (_++(aZ5 _ _ [u]).map Sc.val++_) _::_);rw[zM];exact st'
   ·next l=>
    refine stp_store_bps (cs:=l.map Sc.val) (i:=_) (by simpa [tvC] using h1) hx hy ?_ st2 rfl (by simpa [tvC] using h2) rfl fun W' st'=>k _ W' h rfl ?_ fa.lasting
    ·intro v hv;obtain⟨c,hc,rfl⟩:=mem_map.1 hv;exact h3 c hc
    show St w0 W' (Res.bx _ (_++(aZ5 _ _ l).map Sc.val++_) _::_);rw[zM];exact st'
   exact h.elim
  exact h.elim
 exact h.elim
def crb:List Lr->S->(List Sc->S->Tr)->Tr
 | [],s,K=>K [] s
 | .v x::ls,s,K=>crb ls s fun cs s=>K (sc x::cs) s
 | .o i xs::ls,s,K=>.fn fun g:Hd×List Nat=>crb ls ⟨s.E,(s.nx,.own i g.1 xs g.2)::s.O,s.B,s.nx+1⟩ fun cs s'=>K (.rf s.nx g.1::cs) s'
 | .r i e xs::ls,s,K=>.fn fun g:Hd×List Nat=>crb ls ⟨s.E,(s.nx,.row i e g.1 xs g.2)::s.O,s.B,s.nx+1⟩ fun cs s'=>K (.rf s.nx g.1::cs) s'
theorem aW9 {G:Prop}{w0 W:World}{rs:List Res}:∀{ls:List Lr}{s:S}{K:List Sc->S->Tr}{cs:List Value}{r:List Res},(crb ls s K).holds->LvR cs ls r->St w0 W (r++(rs++s.rs)) ->
  (∀scs s',(K scs s').holds->scs.map Sc.val=cs->s'.E=s.E->s'.B=s.B->(∃N,s'.O=N++s.O)->St w0 W (rs++s'.rs)->lrs ls->G)->G
 | [],s,K,[],r,h,hr,st,k=>by
  have hr:r=[]:=hr;subst hr;exact k [] s h rfl rfl rfl ⟨[],rfl⟩ st trivial
 | [],s,K,c::cs,r,h,hr,st,k=>hr.elim
 | .v _::_,s,K,[],r,h,hr,st,k=>hr.elim
 | .o _ _::_,s,K,[],r,h,hr,st,k=>hr.elim
 | .r _ _ _::_,s,K,[],r,h,hr,st,k=>hr.elim
 | .v x::ls,s,K,c::cs,r,h,hr,st,k=>by
  obtain⟨e0,hr⟩:=hr;subst e0;refine aW9 (K:=fun cs s=>K (sc c::cs) s) h hr st fun scs s' h' e1 e2 e3 e4 st' hg=>k _ s' h' ?_ e2 e3 e4 st' hg
  rw[map_cons,nI,e1]
 | .o i xs::ls,s,K,c::cs,r,h,hr,st,k=>by
  obtain⟨fp,r2,rfl,hr⟩:=hr;have hs:=jS (st.get 0 rfl);obtain⟨hd,rfl,hn⟩:=hs.hd;refine aW9 (K:=fun cs s'=>K (.rf s.nx hd::cs) s') (h (hd,fp)) hr ?_ fun scs s' h' e1 e2 e3 e4 st' hg=>k _ s' h' ?_ e2 e3 (e4.elim fun N hN=>⟨N++[(s.nx,.own i hd xs fp)],by rw[hN];simp⟩) st' ⟨hs.len_le,hg⟩
  ·refine st.perm ?_;rw[<- append_assoc,<- append_assoc];exact perm_middle (a:=Res.own hd.val xs fp) (l₁:=r2++rs) (l₂:=s.rs)
  ·rw[map_cons,e1];rfl
 | .r i e xs::ls,s,K,c::cs,r,h,hr,st,k=>by
  obtain⟨fe,r2,rfl,hr⟩:=hr;have hs:=jQ (st.get 0 rfl);obtain⟨hd,rfl,hn⟩:=hs.hd;refine aW9 (K:=fun cs s'=>K (.rf s.nx hd::cs) s') (h (hd,fe)) hr ?_ fun scs s' h' e1 e2 e3 e4 st' hg=>k _ s' h' ?_ e2 e3 (e4.elim fun N hN=>⟨N++[(s.nx,.row i e hd xs fe)],by rw[hN];simp⟩) st' ⟨hs.len_le,hg⟩
  ·refine st.perm ?_;rw[<- append_assoc,<- append_assoc];exact perm_middle (a:=Res.row e hd.val xs fe) (l₁:=r2++rs) (l₂:=s.rs)
  ·rw[map_cons,e1];rfl
def rkb:List Rk->S->(List TV->S->Tr)->Tr
 | [],s,K=>K [] s
 | .v x::ks,s,K=>rkb ks s fun ts s=>K (.ce (sc x)::ts) s
 | .sl i xs::ks,s,K=>.fn fun g:Hd×List Nat=>rkb ks ⟨s.E,(s.nx,.own i g.1 xs g.2)::s.O,s.B,s.nx+1⟩ fun ts s'=>K (.ce (.rf s.nx g.1)::ts) s'
 | .rw i e xs::ks,s,K=>.fn fun g:Hd×List Nat=>rkb ks ⟨s.E,(s.nx,.row i e g.1 xs g.2)::s.O,s.B,s.nx+1⟩ fun ts s'=>K (.ce (.rf s.nx g.1)::ts) s'
 | .own i x::ks,s,K=>aK8 (i.lv x) s fun cs s=>rkb ks s fun ts s=>K (.ag cs::ts) s
 | .cl ls::ks,s,K=>crb ls s fun cs s=>rkb ks s fun ts s=>K (.ag cs::ts) s
theorem mD {G:Prop}{w0 W:World}:∀{ks:List Rk}{s:S}{K:List TV->S->Tr}{vs:List Value}{rs:List Res},(rkb ks s K).holds->Rks vs ks rs->St w0 W (rs++s.rs) ->
  (∀ts s',(K ts s').holds->ts.map TV.val=vs->s'.E=s.E->s'.B=s.B->(∃N,s'.O=N++s.O)->St w0 W s'.rs->gds ks->G)->G
 | [],s,K,[],rs,h,hr,st,k=>by
  have hr:rs=[]:=hr;subst hr;exact k [] s h rfl rfl rfl ⟨[],rfl⟩ st trivial
 | [],s,K,v::vs,rs,h,hr,st,k=>hr.elim
 | .v x::ks,s,K,[],rs,h,hr,st,k=>hr.elim
 | .sl _ _::ks,s,K,[],rs,h,hr,st,k=>hr.elim
 | .own _ _::ks,s,K,[],rs,h,hr,st,k=>hr.elim
 | .cl _::ks,s,K,[],rs,h,hr,st,k=>hr.elim
 | .rw _ _ _::ks,s,K,[],rs,h,hr,st,k=>hr.elim
 | .cl ls::ks,s,K,v::vs,rs,h,hr,st,k=>by
  obtain⟨r1,r2,⟨cs,rfl,hl⟩,h2,rfl⟩:=hr;rw[append_assoc]at st;refine aW9 (K:=fun cs s=>rkb ks s fun ts s=>K (.ag cs::ts) s) h hl st fun scs s1 h1 e1 e2 e3 g1 st2 hlr=>(mD (K:=fun ts s=>K (.ag scs::ts) s) h1 h2 st2 fun ts s' h' e4 e5 e6 g2 st' hg=>k _ s' h' ?_ (e5.trans e2) (e6.trans e3) (g1.elim fun N hN=>g2.elim fun M hM=>⟨M++N,by rw[hM,hN,append_assoc]⟩) st' ⟨hlr,hg⟩)
  rw[map_cons,e4,TV.val,e1]
 | .v x::ks,s,K,v::vs,rs,h,hr,st,k=>by
  obtain⟨r1,r2,⟨rfl,rfl⟩,h2,rfl⟩:=hr;refine mD (K:=fun ts s=>K (.ce (sc v)::ts) s) h h2 st fun ts s' h' e1 e2 e3 e4 st' hg=>k _ s' h' ?_ e2 e3 e4 st' hg
  rw[map_cons,e1,TV.val,nI]
 | .sl i xs::ks,s,K,v::vs,rs,h,hr,st,k=>by
  obtain⟨r1,r2,⟨fp,rfl⟩,h2,rfl⟩:=hr;have hs:=jS (st.get 0 rfl);obtain⟨hd,rfl,hn⟩:=hs.hd;refine mD (K:=fun ts s'=>K (.ce (.rf s.nx hd)::ts) s') (h (hd,fp)) h2 ?_ fun ts s' h' e1 e2 e3 e4 st' hg=>k _ s' h' ?_ e2 e3 (e4.elim fun N hN=>⟨N++[(s.nx,.own i hd xs fp)],by rw[hN];simp⟩) st' ⟨hs.len_le,hg⟩
  ·exact st.perm (perm_middle (a:=Res.own hd.val xs fp) (l₁:=r2) (l₂:=s.rs))
  ·rw[map_cons,e1];rfl
 | .rw i e xs::ks,s,K,v::vs,rs,h,hr,st,k=>by
  obtain⟨r1,r2,⟨fe,rfl⟩,h2,rfl⟩:=hr;have hs:=jQ (st.get 0 rfl);obtain⟨hd,rfl,hn⟩:=hs.hd;refine mD (K:=fun ts s'=>K (.ce (.rf s.nx hd)::ts) s') (h (hd,fe)) h2 ?_ fun ts s' h' e1 e2 e3 e4 st' hg=>k _ s' h' ?_ e2 e3 (e4.elim fun N hN=>⟨N++[(s.nx,.row i e hd xs fe)],by rw[hN];simp⟩) st' ⟨hs.len_le,hg⟩
  ·exact st.perm (perm_middle (a:=Res.row e hd.val xs fe) (l₁:=r2) (l₂:=s.rs))
  ·rw[map_cons,e1];rfl
 | .own i x::ks,s,K,v::vs,rs,h,hr,st,k=>by
  obtain⟨r1,r2,⟨cs,fp,rfl,rfl⟩,h2,rfl⟩:=hr;obtain⟨st1,hg1⟩:=St.cs_pc i st;refine oW (K:=fun cs s=>rkb ks s fun ts s=>K (.ag cs::ts) s) h st1 fun scs s1 h1 e1 e2 e3 g1 st2 hl=>(mD (K:=fun ts s=>K (.ag scs::ts) s) h1 h2 st2 fun ts s' h' e4 e5 e6 g2 st' hg=>k _ s' h' ?_ (e5.trans e2) (e6.trans e3) (g1.elim fun N hN=>g2.elim fun M hM=>⟨M++N,by rw[hM,hN,append_assoc]⟩) st' ⟨⟨hg1,hl⟩,hg⟩)
  rw[map_cons,e4,TV.val,e1]
def aP3:List TV->SV
 | [t]=>.on t
 | ts=>.tu ts
theorem kY (ts:List TV):(aP3 ts).val=aD6 (ts.map TV.val):=by
 match ts with
 | []=>rfl
 | [t]=>rfl
 | _::_::_=>rfl
def clT (s:S) (lk:Operand->Option SV) (F:FuncId) (xs:List Operand) (d:D P R) (K:SV->S->D P R->Tr):Tr:=
 nrm d fun d=>match d with
  | .cq (ps:=ps) (rk:=rk) (G:=G) F' (fn:=fn) _ _ _ k=>.e0 F F'<|.e0 ((fn.name == "runtime.NumGoroutine") || fn.body.isNone) false<|opt (lkv lk xs) fun us=>lY s us ps<|grT s G<|rkb rk s fun ts s'=>.fp (gds rk) fun hg=>K (aP3 ts) s' (k hg)
  | .cl (ps:=ps) (R':=R') (rk:=rk) (G:=G) F' (fn:=fn) _ _ _ k=>.e0 F F'<|.e0 ((fn.name == "runtime.NumGoroutine") || fn.body.isNone) false<|opt (lkv lk xs) fun us=>lY s us ps<|grT s G<|.fn fun a=>.fp (R' a) fun ha=>rkb (rk a) s fun ts s'=>.fp (gds (rk a)) fun hg=>K (aP3 ts) s' (k a ha hg)
  | .cb (ps:=ps) i x F' (fn:=fn) _ _ _ k=>.e0 F F'<|.e0 ((fn.name == "runtime.NumGoroutine") || fn.body.isNone) false<|opt (lkv lk xs) fun us=>lY s us ps<|xQ false (i.lv x) s fun cs s'=>.fp (i.good x) fun hg=>K (.on (.ag cs)) ⟨s.E,s.O,s'.B,s'.nx⟩ (k hg)
  | _=>.no
theorem clT_ok {w0 W:World}{s:S}{lk:Operand->Option SV}{F:FuncId}{xs:List Operand}{ats:Array TypeId}{dd:D P R}{K:SV->S->D P R->Tr}{n:Nat}{f:Nat->Value}{Q:Exit->Act->World->Prop}{KK:Value->World->Prop}{d:Option Tmp}{ty:TypeId}{pos:String}{af:Array Go.Edge}{g:Option (Nat×Bool)}
  (hl:∀x u,lk x=some u->ev n f x=u.val) (h:(clT s lk F xs dd K).holds) (st:St w0 W s.rs) (fa:Facts w0 W s.B) (k:∀v s' d' W',(K v s' d').holds->s'.E=s.E->(∃N,s'.O=N++s.O)->Below W.heap.size W W'->St w0 W' s'.rs->Facts w0 W' s'.B->KK v.val W'):Stp P n ⟨d,.call { callee := .value (.func F),args:=xs.toArray,argTypes:=ats },ty,pos,af,g⟩ f W Q KK:=by
 unfold clT at h;refine dI h fun d' h=>?_
 split at h
 ·next ps rk G0 F' fn hf hct hg kk=>
  obtain⟨rfl,ho,h⟩:=h;refine aH h fun us hus h=>?_
  obtain⟨hp,h⟩:=iN st fa h hg;obtain⟨hG,h⟩:=aV6 h st.below fa;refine lB hf ho (kJ hl hus) ((hct.run W _ hG hp).mono ?_);rintro e W' ⟨_,vs,rs,_,rfl,hr,hst'⟩;refine mD h hr (st.call hst') fun ts s' h' e1 e2 e3 e4 st' hgd=>?_
  exact⟨_,rfl,by rw[<- e1,<- kY];exact k _ s' _ W' (h' hgd) e2 e4 hst'.below st' (by rw[e3];exact fa.up hst'.below)⟩
 ·next A' ps R' rk G0 F' fn hf hct hg kk=>
  obtain⟨rfl,ho,h⟩:=h;refine aH h fun us hus h=>?_
  obtain⟨hp,h⟩:=iN st fa h hg;obtain⟨hG,h⟩:=aV6 h st.below fa;refine lB hf ho (kJ hl hus) ((hct.run W _ hG hp).mono ?_);rintro e W' ⟨a,vs,rs,ha,rfl,hr,hst'⟩;refine mD (h a ha) hr (st.call hst') fun ts s' h' e1 e2 e3 e4 st' hgd=>?_
  exact⟨_,rfl,by rw[<- e1,<- kY];exact k _ s' _ W' (h' hgd) e2 e4 hst'.below st' (by rw[e3];exact fa.up hst'.below)⟩
 ·next ps α i x F' fn hf hct hg kk=>
  obtain⟨rfl,ho,h⟩:=h;refine aH h fun us hus h=>?_
  obtain⟨hp,h⟩:=iN st fa h hg;refine lB hf ho (kJ hl hus) ((hct.run W _ hp).mono ?_);rintro e W' ⟨cs,fp,hc,rfl,hst'⟩;obtain⟨hgd,hc2⟩:=i.out hc;have hc3:dR W' cs (i.lv x) fp:=(i.out (@bQ7 _ i.toShape _ _ _ _ _ hc hst'.below)).2;have st':St w0 W' s.rs:=by simpa using st.call hst'
  refine oG (l:=false) (w0:=w0) (W:=W') h hc3 (fa.up hst'.below) fun scs s' h' e1 e2 e3 fa'=>?_
  exact⟨_,rfl,by rw[<- e1];exact k (.on (.ag scs)) ⟨s.E,s.O,s'.B,s'.nx⟩ _ W' (h' hgd) rfl ⟨[],rfl⟩ hst'.below st' fa'⟩
 exact h.elim
theorem cfC_ok {w0 W:World}{s:S}{lk:Operand->Option SV}{F:FuncId}{xs:List Operand}{ats:Array TypeId}{dd:D P R}{K:SV->S->D P R->Tr}{n:Nat}{f:Nat->Value}{Q:Exit->Act->World->Prop}{KK:Value->World->Prop}{d:Option Tmp}{ty:TypeId}{pos:String}{af:Array Go.Edge}{g:Option (Nat×Bool)}
  {t:Tmp}(hcv:ev n f (.tmp t) = .func (.func F) #[] #[]) (hl:∀x u,lk x=some u->ev n f x=u.val) (h:(clT s lk F xs dd K).holds) (st:St w0 W s.rs) (fa:Facts w0 W s.B) (k:∀v s' d' W',(K v s' d').holds->s'.E=s.E->(∃N,s'.O=N++s.O)->Below W.heap.size W W'->St w0 W' s'.rs->Facts w0 W' s'.B->KK v.val W'):Stp P n ⟨d,.call { callee := .value (.tmp t),args:=xs.toArray,argTypes:=ats },ty,pos,af,g⟩ f W Q KK:=by
 unfold clT at h;refine dI h fun d' h=>?_
 split at h
 ·next ps rk G0 F' fn hf hct hg kk=>
  obtain⟨rfl,ho,h⟩:=h;refine aH h fun us hus h=>?_
  obtain⟨hp,h⟩:=iN st fa h hg;obtain⟨hG,h⟩:=aV6 h st.below fa;refine uQ (first:=[]) (capt:=[]) hf ho hcv (kJ hl hus) ?_;simp only[nil_append,append_nil];refine(hct.run W _ hG hp).mono ?_;rintro e W' ⟨_,vs,rs,_,rfl,hr,hst'⟩;refine mD h hr (st.call hst') fun ts s' h' e1 e2 e3 e4 st' hgd=>?_
  exact⟨_,rfl,by rw[<- e1,<- kY];exact k _ s' _ W' (h' hgd) e2 e4 hst'.below st' (by rw[e3];exact fa.up hst'.below)⟩
 ·next A' ps R' rk G0 F' fn hf hct hg kk=>
  obtain⟨rfl,ho,h⟩:=h;refine aH h fun us hus h=>?_
  obtain⟨hp,h⟩:=iN st fa h hg;obtain⟨hG,h⟩:=aV6 h st.below fa;refine uQ (first:=[]) (capt:=[]) hf ho hcv (kJ hl hus) ?_;simp only[nil_append,append_nil];refine(hct.run W _ hG hp).mono ?_;rintro e W' ⟨a,vs,rs,ha,rfl,hr,hst'⟩;refine mD (h a ha) hr (st.call hst') fun ts s' h' e1 e2 e3 e4 st' hgd=>?_
  exact⟨_,rfl,by rw[<- e1,<- kY];exact k _ s' _ W' (h' hgd) e2 e4 hst'.below st' (by rw[e3];exact fa.up hst'.below)⟩
 ·next ps α i x F' fn hf hct hg kk=>
  obtain⟨rfl,ho,h⟩:=h;refine aH h fun us hus h=>?_
  obtain⟨hp,h⟩:=iN st fa h hg;refine uQ (first:=[]) (capt:=[]) hf ho hcv (kJ hl hus) ?_;simp only[nil_append,append_nil];refine(hct.run W _ hp).mono ?_;rintro e W' ⟨cs,fp,hc,rfl,hst'⟩;obtain⟨hgd,hc2⟩:=i.out hc;have hc3:dR W' cs (i.lv x) fp:=(i.out (@bQ7 _ i.toShape _ _ _ _ _ hc hst'.below)).2;have st':St w0 W' s.rs:=by simpa using st.call hst'
  refine oG (l:=false) (w0:=w0) (W:=W') h hc3 (fa.up hst'.below) fun scs s' h' e1 e2 e3 fa'=>?_
  exact⟨_,rfl,by rw[<- e1];exact k (.on (.ag scs)) ⟨s.E,s.O,s'.B,s'.nx⟩ _ W' (h' hgd) rfl ⟨[],rfl⟩ hst'.below st' fa'⟩
 exact h.elim
def ivT (s:S) (F:FuncId) (us:Option (List SV)) (d:D P R) (K:SV->S->D P R->Tr):Tr:=
 nrm d fun d=>match d with
  | .iv (R':=R') F' (fn:=fn) _ h k=>.e0 F F'<|.e0 ((fn.name == "runtime.NumGoroutine") || fn.body.isNone) false<|opt us fun us=>h.T s us fun a v s'=>.fp (R' a) fun ha=>K v ⟨s.E,s'.O,s'.B,s'.nx⟩ (k a ha)
  | _=>.no
theorem cY5 {G:Prop}{w0 W:World}{s:S}{F:FuncId}{us:Option (List SV)}{dd:D P R}{K:SV->S->D P R->Tr}{KK:Value->World->Prop}
  (h:(ivT s F us dd K).holds) (st:St w0 W s.rs) (fa:Facts w0 W s.B) (k:∀v s' d' W',(K v s' d').holds->s'.E=s.E->St w0 W' s'.rs->Facts w0 W' s'.B->KK v.val W')
  (go:∀{fn:Func}{us':List SV},P.funcs[F]? = some fn->((fn.name == "runtime.NumGoroutine") || fn.body.isNone)=false->us=some us'->(Calls P F (us'.map SV.val).toArray W fun e W'=>∃v,e = .returned v/\KK v W')->G):G:=by
 unfold ivT at h;refine dI h fun d' h1=>?_
 split at h1
 ·next A' R' F' fn hf hI kk=>
  obtain⟨rfl,ho,h1⟩:=h1;refine aH h1 fun us' hus h2=>go hf ho hus ((hI.ok h2 st fa).mono ?_)
  rintro e W' ⟨a,v,s',ha,h3,rfl,st',fa'⟩;exact⟨_,rfl,k v _ _ W' (h3 ha) rfl st' fa'⟩
 exact h1.elim
def cfT (s:S) (lk:Operand->Option SV) (t:Tmp) (xs:List Operand) (d:D P R) (K:SV->S->D P R->Tr):Tr:=
 opt (lk (.tmp t)) fun v=>match v with
  | .on (.ce (.vl (.func (.func F) a c)))=>.e0 a #[]<|.e0 c #[]<|clT s lk F xs d K
  | .on (.ce (.fn F l))=>ivT s F ((lkv lk xs).map fun us=>us++l.map fun p=>one (ptS p)) d K
  | _=>.no
theorem cfT_ok {w0 W:World}{s:S}{lk:Operand->Option SV}{t:Tmp}{xs:List Operand}{ats:Array TypeId}{dd:D P R}{K:SV->S->D P R->Tr}{n:Nat}{f:Nat->Value}{Q:Exit->Act->World->Prop}{KK:Value->World->Prop}{d:Option Tmp}{ty:TypeId}{pos:String}{af:Array Go.Edge}{g:Option (Nat×Bool)}
  (hl:∀x u,lk x=some u->ev n f x=u.val) (h:(cfT s lk t xs dd K).holds) (st:St w0 W s.rs) (fa:Facts w0 W s.B) (k:∀v s' d' W',(K v s' d').holds->s'.E=s.E->St w0 W' s'.rs->Facts w0 W' s'.B->KK v.val W'):Stp P n ⟨d,.call { callee := .value (.tmp t),args:=xs.toArray,argTypes:=ats },ty,pos,af,g⟩ f W Q KK:=by
 unfold cfT at h;refine aH h fun v hv h=>?_
 split at h
 ·next F a c=>
  obtain⟨rfl,rfl,h⟩:=h;exact cfC_ok (hl _ _ hv) hl h st fa fun v s' d' W' h' e _ _ st' fa'=>k v s' d' W' h' e st' fa'
 ·next F l=>
  refine cY5 h st fa k fun {fn us'} hf ho hus hc=>?_
  obtain⟨us,hus2,rfl⟩:=Option.map_eq_some_iff.1 hus;refine uQ (first:=[]) (capt:=(l.map fun p=>one (ptS p)).map SV.val) hf ho ?_ (kJ hl hus2) ?_
  ·rw[hl _ _ hv];show Value.func (.func F) #[] (l.map _).toArray=_;rw[map_map];rfl
  rw[nil_append,<- map_append];exact hc
 exact h.elim
end
end Go.Proofs.YtjihdmlkpkkpbaaGreat
namespace Go.Proofs.YtjihdmlkpkkpbaaGreat
set_option maxRecDepth 100000
set_option maxHeartbeats 2000000
open Go.RowKit Go.Proofs.Tryz List
theorem aD4:∀(C vs:List Value) (o:Nat),o+vs.length<=C.length->aN C o vs=C.take o++vs++C.drop (o+vs.length)
 | C,[],0,h=>by cases C<;>simp[aN]
 | c::C,v::vs,0,h=>by
  have:=aD4 C vs 0 (by simp at h ⊢;omega);simp[aN]at this ⊢;rw[this]
 | c::C,vs,o+1,h=>by
  have:=aD4 C vs o (by simp at h ⊢;omega);rw[show o+1+vs.length=(o+vs.length)+1 by omega];simp[aN]at this ⊢;rw[this]
 | [],v::vs,o,h=>by simp at h
 | [],[],o+1,h=>by simp at h
theorem qU {b o l h c s:Nat}(hne:l<c):sliced (some ⟨b,o,none⟩) l h c s = .slice (some ⟨b,o+l*s,none⟩) (h-l) (c-l):=by
 have:¬c=l:=by omega
 simp[sliced,this,Addr.add]
section
variable {P:Program}{n:Nat}{f:Nat->Value}{w0 W:World}{rs:List Res}{Q:Exit->Act->World->Prop}{d:Option Tmp}{ty:TypeId}{pos:String}{af:Array Go.Edge}{g:Option (Nat×Bool)}{K:Value->World->Prop}{α:Type}[Shape α]
theorem sD {t t':TypeId}{x y:Operand}{b o m c l:Nat}{e:Int}(hT:SlOk P t t' α) (hx:ev n f x = .slice (some ⟨b,o,none⟩) m c) (hy:ev n f y=I e) (he:e=l) (hl:l<=m) (hne:l<c) (k:K (.slice (some ⟨b,o+l*Shape.size α,none⟩) (m-l) (c-l)) W):Stp P n ⟨d,.slice t x (some y) none none,ty,pos,af,g⟩ f W Q K:=by
 subst he;have hel:P.elem t=t':=by simp[Program.elem,hT.desc]
 have hu:P.underlying t=some (.slice (P.elem t)):=by rw[hel];exact hT.desc
 refine Stp.run (v:=sliced (some ⟨b,o,none⟩) l m c (Shape.size α)) ?_ (by rw[qU hne];exact k);simp only[execOp,hx,hy,Sem.run_bind,Option.map_none,Option.map_some];rw[run_sliceAt_slice (h:=hu),run_slice_l (ht:=hu) (h0:=by omega) (h1:=by omega),hel,gG hT.size];simp
theorem xE {t t':TypeId}{x y:Operand}{b o m c h:Nat}{e:Int}(hT:SlOk P t t' α) (hx:ev n f x = .slice (some ⟨b,o,none⟩) m c) (hy:ev n f y=I e) (he:e=h) (hl:h<=c) (hc:0<c) (k:K (.slice (some ⟨b,o,none⟩) h c) W):Stp P n ⟨d,.slice t x none (some y) none,ty,pos,af,g⟩ f W Q K:=by
 subst he;have hel:P.elem t=t':=by simp[Program.elem,hT.desc]
 have hu:P.underlying t=some (.slice (P.elem t)):=by rw[hel];exact hT.desc
 refine Stp.run (v:=sliced (some ⟨b,o,none⟩) 0 h c (Shape.size α)) ?_ (by rw[qU hc,Nat.zero_mul];exact k);simp only[execOp,hx,hy,Sem.run_bind,Option.map_none,Option.map_some];rw[run_sliceAt_slice (h:=hu),run_slice_h (ht:=hu) (h0:=by omega) (h2:=by omega),hel,gG hT.size];simp
theorem stp_xcap {t t':TypeId}{x:Operand}{ao:Option Addr}{m c:Nat}(hT:SlOk P t t' α) (hx:ev n f x = .slice ao m c) (k:K (I (c:Int)) W):Stp P n ⟨d,.call { callee := .builtin .cap,args := #[x],argTypes := #[t] },ty,pos,af,g⟩ f W Q K:=by
 refine Stp.run (v:=I (c:Int)) ?_ k;have hr:(Builtin.cap_ #[t] ty #[.slice ao m c]).run P W = .ok (I (c:Int)) W:=by
  simp[Builtin.cap_,run_underlying hT.desc,goInt]
 simp[execOp,hx,resolve,invoke,builtin,Sem.run_bind,hr]
theorem run_copyK (w:World) (dT sT ty elem:TypeId) (b o dLen dCap sz:Nat) (a:Addr) (sLen sCap:Nat) (cs:List Value)
  (hu:P.underlying dT=some (.slice elem)) (hs:(P.info? elem).map (·.size)=some sz) (hn:cs.length=Nat.min sLen dLen*sz)
  (hsrc:∀j v,cs[j]? = some v->w.cell? (a.add j)=some v) (hc:∀j,j<cs.length->(w.cell? ⟨b,o+j,none⟩).isSome=true) (hf:∀j,j<cs.length->w.frozen? ⟨b,o+j,none⟩=false) (h1:∀v∈cs,v.oneCell'=true) :
  (Builtin.copy_ #[dT,sT] ty #[.slice (some ⟨b,o,none⟩) dLen dCap,.slice (some a) sLen sCap]).run P w = .ok (goInt (Nat.min sLen dLen)) (w.setCells b o cs):=by
 have hl:=run_loadCells_list (P:=P) w a cs hsrc;have hst:=run_storeCells_cells (P:=P) b o cs 0 w (by simpa using hc) (by simpa using hf) h1;rw[hn]at hl;cases hq:P.info? elem with
 | none=>simp[hq]at hs
 | some i=>
  have hi:i.size=sz:=by simpa [hq] using hs
  simp[Builtin.copy_,run_underlying hu,Builtin.lenOf,Builtin.firstCells,sizeOf,typeInfo,hq,hi,hl,hst]
theorem uO {t e:TypeId}{x y:Operand}{b o dl dc sl sc:Nat}{a:Addr}{C cs:List Value}(hT:SlOk P t e α) (hx:ev n f x = .slice (some ⟨b,o,none⟩) dl dc) (hy:ev n f y = .slice (some a) sl sc) (hn:cs.length=Nat.min sl dl*Shape.size α)
  (hsrc:∀j v,cs[j]? = some v->W.cell? (a.add j)=some v) (h1:∀v∈cs,v.oneCell'=true) (hst:St w0 W (Res.bx b C e::rs)) (hle:o+cs.length<=C.length) (k:∀v W',St w0 W' (Res.bx b (aN C o cs) e::rs)->K v W') :
  Stp P n ⟨d,.call { callee := .builtin .copy,args := #[x,y],argTypes := #[t,t] },ty,pos,af,g⟩ f W Q K:=by
 have hB:W.heap[b]? = some (.cells C.toArray e (0,0)):=hst.get 0 rfl;have hr:=run_copyK (P:=P) W t t ty e b o dl dc _ a sl sc cs hT.desc hT.size hn hsrc (fun j hj=>by simp[World.cell?,hB];omega) (fun j hj=>by simp[World.frozen?,hB]) h1;refine Stp.run (v:=goInt (Nat.min sl dl)) (W':=W.setCells b o cs) ?_ (k _ _ (hst.store o cs hle));simp only[execOp,resolve,invoke,builtin,Sem.run_bind,Sem.run_pure,Result.andThen_ok,map_toArray,map_cons,map_nil,hx,hy,hr]
theorem stp_appz {t tn e:TypeId}{bytes:Nat}{x y:Operand}{b i c k0 n1:Nat}{e1:Int}{C:List Value}(hT:ApOk P t e α bytes) (htn:P.underlying tn=some (.int .i64)) (hx:ev n f x = .slice (some ⟨b,0,none⟩) i c) (hy:ev n f y=I e1) (he1:e1=k0) (hn1:i+k0=n1) (hst:St w0 W (Res.bx b C e::rs))
  (hC:i*Shape.size α<=C.length) (h0:0<k0) (hg:c<n1) (h63:n1<=maxLen) (hby:n1*bytes<=140737488355328)
  (k:∀b2 cap Z W',n1<=cap->cap<=maxLen->Z.length=(cap-i)*Shape.size α->Below W.heap.size W W'->St w0 W' (Res.bx b2 (C.take (i*Shape.size α)++Z) e::Res.bx b C e::rs)->K (.slice (some ⟨b2,0,none⟩) n1 cap) W') :
  Stp P n ⟨d,.call { callee := .builtin .append,args := #[x,y],argTypes := #[t,tn] },ty,pos,af,g⟩ f W Q K:=by
 subst he1 hn1;obtain⟨i0,z,hi,hz,g1,g2,g3⟩:=hT.info;have hB:W.heap[b]? = some (.cells C.toArray e (0,0)):=hst.get 0 rfl;have hpos:=hT.pos;have hold:(Builtin.firstCells i0.size i (.slice (some ⟨b,0,none⟩) i c)).run P W.drew = .ok (C.take (i*Shape.size α)).toArray W.drew:=by
  rw[g1];exact run_firstCells_some W.drew (Shape.size α) i ⟨b,0,none⟩ i c (C.take (i*Shape.size α)) (by rw[length_take];omega) (fun j v hj=>by
   rw[getElem?_take]at hj;split at hj
   ·rw[Addr.add_mid];exact bO (W:=W.drew) hB j v hj
   cases hj)
 have hfit:Builtin.nextslicecap (i+k0) c*i0.bytes<=281474976710656:=by rw[g2];exact growslice_fits hg hby
 have hk48:k0*i0.bytes<=281474976710656:=by
  rw[g2];have:k0*bytes<=(i+k0)*bytes:=Nat.mul_le_mul_right _ aA;omega
 have h:=Lib.run_append_grow_zeros (P:=P) W t tn ty e i0 z .i64 .i64 hT.desc htn hi hz (some ⟨b,0,none⟩) i c _ hold k0 h0 aA hg (by unfold maxLen at h63;omega) hk48 hfit;have hge:=grownCap_ge W (i+k0) c e;have hcm:=grownCap_le_maxLen W (i+k0) c e h63;refine Stp.run (v := .slice (some ⟨W.heap.size,0,none⟩) (i+k0) (grownCap W (i+k0) c e)) (W':=W.drew.alloc (.cells ((C.take (i*Shape.size α)).toArray++Builtin.zeroCells z.cells k0++Builtin.zeroCells z.cells (grownCap W (i+k0) c e-(i+k0))) e))
  (by simp only[execOp,resolve,invoke,builtin,Sem.run_bind,Sem.run_pure,Result.andThen_ok,map_toArray,map_cons,map_nil,hx,hy,h]) ?_
 have hbd:Below W.heap.size W W.drew:=(Below.refl _ _).drew;refine k W.heap.size (grownCap W (i+k0) c e) ((Builtin.zeroCells z.cells k0).toList++(Builtin.zeroCells z.cells (grownCap W (i+k0) c e-(i+k0))).toList) _ hge hcm ?_ ⟨rfl,rfl,rfl,by simp,fun j hj=>Below.heap_alloc W.drew _ j hj⟩ ?_
 ·rw[length_append,Array.length_toList,Array.length_toList,size_zeroCells,size_zeroCells,g3,<- Nat.add_mul];congr 1;omega
 have h1:St w0 W.drew (Res.bx b C e::rs):=by simpa using hst.call (St.of_below hbd)
 have h2:=h1.alloc (C.take (i*Shape.size α)++((Builtin.zeroCells z.cells k0).toList++(Builtin.zeroCells z.cells (grownCap W (i+k0) c e-(i+k0))).toList)) e;have e5:(C.take (i*Shape.size α)++((Builtin.zeroCells z.cells k0).toList++(Builtin.zeroCells z.cells (grownCap W (i+k0) c e-(i+k0))).toList)).toArray=(C.take (i*Shape.size α)).toArray++Builtin.zeroCells z.cells k0++Builtin.zeroCells z.cells (grownCap W (i+k0) c e-(i+k0)):=by
  apply Array.toList_inj.1;simp
 rw[e5]at h2;exact h2
theorem stp_callx {F:FuncId}{x y:Operand}{v u r:Value}{ats:Array TypeId}(hx:ev n f x=v) (hy:ev n f y=u) (h:(callFunc F #[v,u]).run P W = .ok (.value r) W) (k:K r W):Stp P n ⟨d,.call { callee := .value (.func F),args := #[x,y],argTypes:=ats },ty,pos,af,g⟩ f W Q K:=
 Stp.run (v:=r) (by
  have he:ev n f (.func F) = .func (.func F) #[] #[]:=rfl;simp only[execOp,resolve,invoke,Deferred.ofValue,he,Array.append_empty,Array.empty_append,Sem.run_bind,Sem.run_pure,Result.andThen_ok,map_toArray,map_cons,map_nil,hx,hy,h]) k
end
theorem St.rowOpen {α:Type}[Shape α] {w0 W:World}{rs:List Res}{e:TypeId}{v:Value}{xs:List α}(h:St w0 W (Res.row e v xs []::rs)) (hne:0<xs.length) :
  ∃b cap C,v = .slice (some ⟨b,0,none⟩) xs.length cap/\xs.length<=cap/\cap<=maxLen/\C.length=cap*Shape.size α/\Elems W (C.take (xs.length*Shape.size α)) xs []/\St w0 W (Res.bx b C e::rs):=by
 obtain⟨⟨cells,ho,he⟩,_⟩:=h.get 0 rfl;rcases ho.2 with⟨rfl,h0⟩ | ⟨g,cap,cur,rfl,_,hg,h1,h2,h3,h4⟩
 ·omega
 refine⟨g,cap,cur.toList,rfl,h1,h2,by rw[Array.length_toList];exact h3,by rw[h4];exact he,?_⟩;exact h.turn (r':=Res.bx g cur.toList e) rfl rfl rfl (Nat.le_refl _) (fun _ _ _=>rfl) (by show W.heap[g]? = some (.cells cur.toList.toArray e (0,0));simpa using hg) (by simp[Res.bx]) (fun b hb=>.inl (by simpa [Res.row,Res.bx,Value.ownBlock] using hb))
theorem St.rowShut {α:Type}[Shape α] {w0 W:World}{rs:List Res}{e:TypeId}{b cap m:Nat}{C:List Value}{xs:List α}(h:St w0 W (Res.bx b C e::rs)) (hm:xs.length=m) (h1:m<=cap) (h2:cap<=maxLen) (h3:C.length=cap*Shape.size α) (h4:Elems W (C.take (m*Shape.size α)) xs []) :
  St w0 W (Res.row e (.slice (some ⟨b,0,none⟩) m cap) xs []::rs):=by
 subst hm;have hB:W.heap[b]? = some (.cells C.toArray e (0,0)):=h.get 0 rfl;refine h.turn (r':=Res.row e _ xs []) rfl rfl rfl (Nat.le_refl _) (fun _ _ _=>rfl) ⟨⟨_,⟨?_,.inr ⟨b,cap,C.toArray,rfl,Nat.zero_le _,hB,h1,h2,by simpa using h3,rfl⟩⟩,h4⟩,by simp⟩ (by simp[Res.row,Value.ownBlock]) (fun c hc=>.inl (by simpa [Res.row,Res.bx,Value.ownBlock] using hc));rw[length_take,h3];have:=Nat.mul_le_mul_right (Shape.size α) h1;omega
theorem Elems.parts {α:Type}[Shape α] {W:World}:∀{xs:List α}{cells:List Value}(i:Nat),i<=xs.length->Elems W cells xs []->Elems W (cells.take (i*Shape.size α)) (xs.take i) []/\Elems W (cells.drop (i*Shape.size α)) (xs.drop i) []
 | xs,cells,0,_,h=>by simpa using (show Elems W [] ([]:List α) []/\Elems W cells xs [] from ⟨⟨rfl,rfl⟩,h⟩)
 | x::xs,cells,i+1,hi,⟨cs,rest,f1,f2,h1,h2,h3,h4⟩=>by
  have hf:=append_eq_nil_iff.1 h4.symm;obtain⟨rfl,rfl⟩:=hf;have hl:=Shape.len h2;obtain⟨p1,p2⟩:=Elems.parts i (by simpa using hi) h3;subst h1;have e1:(cs++rest).take ((i+1)*Shape.size α)=cs++rest.take (i*Shape.size α):=by
   rw[Nat.add_mul,Nat.one_mul,Nat.add_comm,<- hl,take_length_add_append]
  have e2:(cs++rest).drop ((i+1)*Shape.size α)=rest.drop (i*Shape.size α):=by
   rw[Nat.add_mul,Nat.one_mul,Nat.add_comm,<- hl,drop_length_add_append]
  rw[e1,e2];exact⟨⟨cs,_,[],[],rfl,h2,p1,rfl⟩,p2⟩
 | [],cells,i+1,hi,_=>by simp at hi
theorem Elems.entry {W W':World}:∀{xs:List Entry}{cells:List Value},Elems W cells xs []->Elems W' cells xs []
 | [],_,h=>h
 | x::xs,_,⟨cs,rest,f1,f2,h1,h2,h3,h4⟩=>by
  have hf:=append_eq_nil_iff.1 h4.symm;obtain⟨rfl,rfl⟩:=hf;exact⟨cs,rest,[],[],h1,h2,Elems.entry h3,rfl⟩
theorem aW1 (D:List Value) (a m:Nat) (h:a+4+m<=D.length):∃B4 Bm T,D=D.take a++B4++Bm++T/\B4.length=4/\Bm.length=m/\(D.take a).length=a:=by
 refine⟨(D.drop a).take 4,((D.drop a).drop 4).take m,((D.drop a).drop 4).drop m,?_,by rw[length_take,length_drop];omega,by rw[length_take,length_drop,length_drop];omega,by rw[length_take];omega⟩;rw[append_assoc,append_assoc,take_append_drop,take_append_drop,take_append_drop]
theorem ins_in {D Y M:List Value}{a:Nat}(hY:Y.length=4) (h:a+4+M.length<=D.length):∃T,aN (aN D (a+4) M) a Y=D.take a++Y++M++T:=by
 obtain⟨B4,Bm,T,hD,h4,hm,ha⟩:=aW1 D a M.length h;refine⟨T,?_⟩;have e1:aN D (a+4) M=D.take a++B4++M++T:=by
  have:=kH (D.take a++B4) Bm T M 0 aA;rw[length_append,ha,h4,Nat.add_zero,mC _ _ hm.symm,<- hD]at this;exact this
 rw[e1];have:=kH (D.take a) B4 (M++T) Y 0 aA;rw[ha,Nat.add_zero,mC _ _ aA]at this;simpa [append_assoc] using this
theorem ins_new {D Y M:List Value}{a:Nat}(hY:Y.length=4) (h:a+4+M.length<=D.length):∃T,aN (aN D a Y) (a+4) M=D.take a++Y++M++T:=by
 obtain⟨B4,Bm,T,hD,h4,hm,ha⟩:=aW1 D a M.length h;refine⟨T,?_⟩;have e1:aN D a Y=D.take a++Y++Bm++T:=by
  have:=kH (D.take a) B4 (Bm++T) Y 0 aA;rw[ha,Nat.add_zero,mC _ _ aA]at this;rw[show D.take a++B4++(Bm++T)=D by rw[<- append_assoc];exact hD.symm]at this;simpa [append_assoc] using this
 rw[e1];have:=kH (D.take a++Y) Bm T M 0 aA;rw[length_append,ha,hY,Nat.add_zero,mC _ _ hm.symm]at this;exact this
theorem bF0 {W W':World}{xs:List Entry}{y:Entry}{C C2 Y T:List Value}{k:Nat}(hk:k<=xs.length) (he:Elems W (C.take (xs.length*4)) xs []) (hl:xs.length*4<=C.length) (hY:Elems W' Y [y] []) (hC2:C2=C.take (k*4)++Y++(C.drop (k*4)).take ((xs.length-k)*4)++T) :
  Elems W' (C2.take ((xs.length+1)*4)) (xs.take k++y::xs.drop k) []:=by
 obtain⟨p1,p2⟩:=Elems.parts (α:=Entry) k hk he;have hs:Shape.size Entry=4:=rfl;rw[hs]at p1 p2;have hYl:Y.length=4:=by have:=hY.len;rw[hs]at this;simpa using this
 have e1:(C.take (xs.length*4)).take (k*4)=C.take (k*4):=by rw[take_take,Nat.min_eq_left aA]
 have e2:(C.take (xs.length*4)).drop (k*4)=(C.drop (k*4)).take ((xs.length-k)*4):=by rw[drop_take,Nat.sub_mul]
 rw[e1]at p1;rw[e2]at p2;have hlen:(C.take (k*4)++Y++(C.drop (k*4)).take ((xs.length-k)*4)).length=(xs.length+1)*4:=by
  rw[length_append,length_append,length_take,length_take,length_drop,hYl];omega
 rw[hC2,<- hlen,take_left];have h3:=(Elems.append (Elems.append (Elems.entry (W':=W') p1) hY) (Elems.entry (W':=W') p2));simpa [append_assoc] using h3
theorem aU2 {C:List Value}{o m j:Nat}{v:Value}(h:((C.drop o).take m)[j]? = some v):C[o+j]? = some v:=by
 rw[getElem?_take]at h;split at h
 ·rwa [getElem?_drop]at h
 cases h
section
variable {P:Program}{n:Nat}{f:Nat->Value}{w0 W:World}{rs:List Res}{Q:Exit->Act->World->Prop}{d:Option Tmp}{ty:TypeId}{pos:String}{af:Array Go.Edge}{g:Option (Nat×Bool)}{K:Value->World->Prop}
end
section
variable {α:Type}[Shape α]
def Res.es (cells:List Value) (xs:List α) (fe:List Nat):Res where
 fp:=fe
 holds:=fun W=>Elems W cells xs fe/\∀b∈fe,Wr W b
 loc:=fun hs hb h=>⟨h.1.loc hs hb,fun b hm=>(h.2 b hm).loc (hb b hm)⟩
 wr:=fun h b hb=>h.2 b hb
theorem Elems.parts' {W:World}:∀{xs:List α}{cells:List Value}{fe:List Nat}(i:Nat),i<=xs.length->Elems W cells xs fe->∃f1 f2,fe=f1++f2/\Elems W (cells.take (i*Shape.size α)) (xs.take i) f1/\Elems W (cells.drop (i*Shape.size α)) (xs.drop i) f2
 | xs,cells,fe,0,_,h=>⟨[],fe,rfl,by simpa using (show Elems W [] ([]:List α) [] from ⟨rfl,rfl⟩),by simpa using h⟩
 | x::xs,cells,fe,i+1,hi,⟨cs,rest,f1,f2,h1,h2,h3,h4⟩=>by
  have hl:=Shape.len h2;obtain⟨g1,g2,e,p1,p2⟩:=Elems.parts' i (by simpa using hi) h3;subst h1 h4 e;have e1:(cs++rest).take ((i+1)*Shape.size α)=cs++rest.take (i*Shape.size α):=by
   rw[Nat.add_mul,Nat.one_mul,Nat.add_comm,<- hl,take_length_add_append]
  have e2:(cs++rest).drop ((i+1)*Shape.size α)=rest.drop (i*Shape.size α):=by
   rw[Nat.add_mul,Nat.one_mul,Nat.add_comm,<- hl,drop_length_add_append]
  refine⟨f1++g1,g2,by rw[append_assoc],?_,?_⟩
  ·rw[e1];exact⟨cs,_,f1,g1,rfl,h2,p1,rfl⟩
  rw[e2];exact p2
 | [],cells,fe,i+1,hi,_=>by simp at hi
theorem St.ownOpen' {w0 W:World}{rs:List Res}{v:Value}{xs:List α}{fp:List Nat}(h:St w0 W (Res.own v xs fp::rs)) (hs:0<Shape.size α) (hne:0<xs.length) :
  ∃b off cap C e fe,v = .slice (some ⟨b,off,none⟩) xs.length cap/\xs.length<=cap/\cap<=9223372036854775807/\off+xs.length*Shape.size α<=C.length/\St w0 W (Res.bx b C e::Res.es ((C.drop off).take (xs.length*Shape.size α)) xs fe::rs):=by
 have hown:=h.get 0 rfl;have hwr:=hown.2;obtain⟨ao,cap,e0,h1,h2,h3⟩:=jS hown;rcases h3 with⟨h0,_⟩ | ⟨b,off,f,_,e4,rfl,hb,h3⟩
 ·rw[h0]at hne;exact absurd hne (by simp)
 subst e4;obtain⟨cells,he,hr⟩:=Elems.of_at off h3;obtain⟨C,e,hC⟩:=hwr b (by simp);have hcl:cells.length=xs.length*Shape.size α:=he.len;have hpos:0<xs.length*Shape.size α:=Nat.mul_pos hne hs;have hget:∀j v,cells[j]? = some v->C.toList[off+j]? = some v:=fun j v hj=>by
  have:=hr j v hj;simpa [World.cell?,hC] using this
 have hle:off+xs.length*Shape.size α<=C.toList.length:=by
  have hj:=getElem?_eq_getElem (l:=cells) (i:=xs.length*Shape.size α - 1) aA;have:=(gsi_.1 (hget _ _ hj)).1;omega
 have hce:cells=(C.toList.drop off).take (xs.length*Shape.size α):=by
  apply ext_getElem?;intro j;rw[getElem?_take];by_cases hj:j<xs.length*Shape.size α
  ·rw[if_pos hj,getElem?_drop,getElem?_eq_getElem aA];exact(hget j _ (getElem?_eq_getElem aA)).symm
  rw[if_neg hj,getElem?_eq_none aA]
 refine⟨b,off,cap,C.toList,e,f,e0,h1,h2,hle,?_⟩;refine St.trade (rs1:=[Res.own v xs (b::f)]) (rs2:=[Res.bx b C.toList e,Res.es _ xs f]) h ?_ ?_ ?_
 ·have:=h.nodup;rw[flatMap_cons,nodup_append]at this;simpa [Res.own,Res.bx,Res.es] using this.1
 ·intro c hc;simpa [Res.own,Res.bx,Res.es] using hc
 intro r hr2;rcases mem_cons.1 hr2 with rfl | hr2
 ·show W.heap[b]? = some (.cells C.toList.toArray e (0,0));simpa using hC
 rw[mem_singleton]at hr2;subst hr2;exact⟨by rw[<- hce];exact he,fun c hc=>hwr c (mem_cons_of_mem _ hc)⟩
theorem St.ownShut' {w0 W:World}{rs:List Res}{b off cap m:Nat}{C cells:List Value}{e:TypeId}{ys:List α}{fe:List Nat}(h:St w0 W (Res.bx b C e::Res.es cells ys fe::rs)) (hcl:cells=(C.drop off).take (m*Shape.size α)) (hm:ys.length=m) (h1:m<=cap) (h2:cap<=9223372036854775807) :
  ∃fp,St w0 W (Res.own (.slice (some ⟨b,off,none⟩) m cap) ys fp::rs):=by
 have hB:W.heap[b]? = some (.cells C.toArray e (0,0)):=h.get 0 rfl;have hE:=h.get 1 rfl;subst hm;cases ys with
 | nil=>
  refine⟨[],St.trade (rs1:=[Res.bx b C e,Res.es cells [] fe]) (rs2:=[Res.own _ ([]:List α) []]) h (by simp[Res.own]) (by simp[Res.own]) ?_⟩;intro r hr;rw[mem_singleton]at hr;subst hr;exact⟨Sl.v ⟨_,cap,rfl,h1,h2,.inl ⟨rfl,rfl⟩⟩,by simp⟩
 | cons y ys=>
  refine⟨b::fe,St.trade (rs1:=[Res.bx b C e,Res.es cells (y::ys) fe]) (rs2:=[Res.own _ (y::ys) (b::fe)]) h ?_ (by intro c hc;simpa [Res.own,Res.bx,Res.es] using hc) ?_⟩
  ·have hn:=h.nodup;rw[flatMap_cons,flatMap_cons,<- append_assoc,nodup_append]at hn;simpa [Res.own,Res.bx,Res.es] using hn.1
  intro r hr;rw[mem_singleton]at hr;subst hr;refine⟨Sl.v ⟨_,cap,rfl,h1,h2,.inr ⟨b,off,fe,by simp,rfl,rfl,(Array.getElem?_eq_some_iff.1 hB).1,?_⟩⟩,?_⟩
  ·refine hE.1.at off ?_;intro j u hj;rw[hcl]at hj;have:=bO hB (off+j) u (aU2 hj);simpa using this
  intro c hc;rcases mem_cons.1 hc with rfl | hc
  ·exact⟨_,_,hB⟩
  exact hE.2 c hc
theorem St.es_sub {w0 W:World}{rs:List Res}{cells cells':List Value}{xs ys:List α}{fe fe':List Nat}(h:St w0 W (Res.es cells xs fe::rs)) (hs:fe'.Sublist fe) (he:Elems W cells' ys fe'):St w0 W (Res.es cells' ys fe'::rs):=by
 have hh:=h.get 0 rfl;refine St.trade (rs1:=[Res.es cells xs fe]) (rs2:=[Res.es cells' ys fe']) h ?_ ?_ ?_
 ·have:=h.nodup;rw[flatMap_cons,nodup_append]at this;simpa [Res.es] using hs.nodup this.1
 ·intro c hc;simp[Res.es]at hc ⊢;exact hs.subset hc
 intro r hr;rw[mem_singleton]at hr;subst hr;exact⟨he,fun c hc=>hh.2 c (hs.subset hc)⟩
theorem Elems.erase {W:World}{xs:List α}{cells:List Value}{fe:List Nat}{k:Nat}(hk:k<xs.length) (h:Elems W cells xs fe):∃f1 f2 f3,fe=f1++(f2++f3)/\Elems W (cells.take (k*Shape.size α)++cells.drop ((k+1)*Shape.size α)) (xs.eraseIdx k) (f1++f3):=by
 obtain⟨f1,g,rfl,h1,h2⟩:=h.parts' k aA;obtain⟨f2,f3,rfl,h3,h4⟩:=h2.parts' 1 (by rw[length_drop];omega);refine⟨f1,f2,f3,rfl,?_⟩;rw[drop_drop,drop_drop]at h4;rw[eraseIdx_eq_take_drop_succ];have e:k*Shape.size α+1*Shape.size α=(k+1)*Shape.size α:=by rw[Nat.add_mul]
 rw[e]at h4;exact h1.append h4
end
section
variable {P:Program}{n:Nat}{f:Nat->Value}{w0 W:World}{rs:List Res}{Q:Exit->Act->World->Prop}{d:Option Tmp}{ty:TypeId}{pos:String}{af:Array Go.Edge}{g:Option (Nat×Bool)}{K:Value->World->Prop}{α:Type}[Shape α]
theorem cT8 {t t':TypeId}{x y z u:Operand}{ao:Option Addr}{m c l h mx:Nat}{e1 e2 e3:Int}(hT:SlOk P t t' α) (hx:ev n f x = .slice ao m c) (hy:ev n f y=I e1) (hz:ev n f z=I e2) (hu:ev n f u=I e3) (h1:e1=l) (h2:e2=h) (h3:e3=mx) (hl:l<=h) (hh:h<=mx) (hm:mx<=c) (k:∀v,K v W) :
  Stp P n ⟨d,.slice t x (some y) (some z) (some u),ty,pos,af,g⟩ f W Q K:=by
 subst h1 h2 h3;have hel:P.elem t=t':=by simp[Program.elem,hT.desc]
 have hu2:P.underlying t=some (.slice (P.elem t)):=by rw[hel];exact hT.desc
 refine Stp.run (v:=sliced ao l h mx (Shape.size α)) ?_ (k _);simp only[execOp,hx,hy,hz,hu,Sem.run_bind,Option.map_none,Option.map_some];rw[run_sliceAt_slice (h:=hu2),run_slice_lhm (ht:=hu2) (h0:=by omega) (h1:=by omega) (h2:=by omega) (h3:=by omega),hel,gG hT.size];simp
theorem bK9 {t t':TypeId}{x y z:Operand}{b o m c l h:Nat}{e1 e2:Int}(hT:SlOk P t t' α) (hx:ev n f x = .slice (some ⟨b,o,none⟩) m c) (hy:ev n f y=I e1) (hz:ev n f z=I e2) (h1:e1=l) (h2:e2=h) (hl:l<=h) (hh:h<=c) (hne:l<c) (k:K (.slice (some ⟨b,o+l*Shape.size α,none⟩) (h-l) (c-l)) W) :
  Stp P n ⟨d,.slice t x (some y) (some z) none,ty,pos,af,g⟩ f W Q K:=by
 subst h1 h2;have hel:P.elem t=t':=by simp[Program.elem,hT.desc]
 have hu2:P.underlying t=some (.slice (P.elem t)):=by rw[hel];exact hT.desc
 refine Stp.run (v:=sliced (some ⟨b,o,none⟩) l h c (Shape.size α)) ?_ (by rw[qU hne];exact k);simp only[execOp,hx,hy,hz,Sem.run_bind,Option.map_none,Option.map_some];rw[run_sliceAt_slice (h:=hu2),run_slice_lh (ht:=hu2) (h0:=by omega) (h1:=by omega) (h2:=by omega),hel,gG hT.size];simp
theorem cT7 {t t':TypeId}{x y:Operand}{ao:Option Addr}{m c l:Nat}{e:Int}(hT:SlOk P t t' α) (hx:ev n f x = .slice ao m c) (hy:ev n f y=I e) (he:e=l) (hl:l=m) (hc:l=c) (k:K (.slice ao 0 0) W):Stp P n ⟨d,.slice t x (some y) none none,ty,pos,af,g⟩ f W Q K:=by
 subst he hl hc;have hel:P.elem t=t':=by simp[Program.elem,hT.desc]
 have hu:P.underlying t=some (.slice (P.elem t)):=by rw[hel];exact hT.desc
 refine Stp.run (W':=W) (v:=sliced ao l l l (Shape.size α)) ?_ (by simpa [sliced] using k);simp only[execOp,hx,hy,Sem.run_bind,Option.map_none,Option.map_some];rw[run_sliceAt_slice (h:=hu),run_slice_l (ht:=hu) (h0:=by omega) (h1:=by omega),hel,gG hT.size];simp
theorem uR {t e e':TypeId}{x y:Operand}{b o i c m c2 oy q:Nat}{ad:Addr}{C:List Value}(hT:SlOk P t e α) (hx:ev n f x = .slice (some ⟨b,o,none⟩) i c) (hy:ev n f y = .slice (some ad) m c2) (had:0<m->ad=⟨b,oy,none⟩) (hq:i+m=q) (hroom:q<=c) (hl1:oy+m*Shape.size α<=C.length) (hl2:o+i*Shape.size α+m*Shape.size α<=C.length)
  (h1:∀v∈(C.drop oy).take (m*Shape.size α),v.oneCell'=true) (hst:St w0 W (Res.bx b C e'::rs)) (k:∀W',St w0 W' (Res.bx b (aN C (o+i*Shape.size α) ((C.drop oy).take (m*Shape.size α))) e'::rs)->K (.slice (some ⟨b,o,none⟩) q c) W') :
  Stp P n ⟨d,.call { callee := .builtin .append,args := #[x,y],argTypes := #[t,t] },ty,pos,af,g⟩ f W Q K:=by
 subst hq;have hB:W.heap[b]? = some (.cells C.toArray e' (0,0)):=hst.get 0 rfl;have hnl:((C.drop oy).take (m*Shape.size α)).length=m*Shape.size α:=by rw[length_take,length_drop];omega
 have hsz:=hT.size;cases hi:P.info? e with
 | none=>simp[hi]at hsz
 | some i0=>
  have hs:i0.size=Shape.size α:=by simpa [hi] using hsz
  have hr:=run_append_room_cells (P:=P) (w:=W) t ty e i0 hT.desc hi b o i c ad m c2 ((C.drop oy).take (m*Shape.size α)) (by rw[hnl,hs]) (fun j u hj=>by
    have hj2:=(gsi_.1 hj).1;rw[hnl]at hj2;have hm:0<m:=Nat.pos_of_ne_zero (fun h0=>by rw[h0]at hj2;simp at hj2);rw[had hm,Addr.add_mid];have:=bO hB (oy+j) u (aU2 hj);simpa using this) h1 hroom (fun j hj=>by rw[hnl]at hj;rw[hs];simp[World.cell?,hB];omega) (fun j hj=>by simp[World.frozen?,hB])
  rw[hs]at hr;refine Stp.run (v := .slice (some ⟨b,o,none⟩) (i+m) c) (W':=W.setCells b (o+i*Shape.size α) ((C.drop oy).take (m*Shape.size α))) ?_ (k _ (hst.store _ _ (by rw[hnl];omega)));simp only[execOp,resolve,invoke,builtin,Sem.run_bind,Sem.run_pure,Result.andThen_ok,map_toArray,map_cons,map_nil,hx,hy,hr]
theorem oN {t e e':TypeId}{x:Operand}{b o m c s:Nat}{C zs:List Value}(hT:P.underlying t=some (.slice e)) (hz:((P.info? e).bind (·.zero)).map (·.cells)=some zs.toArray) (hzl:zs.length=s) (hs:0<s) (hz1:∀v∈zs,v.oneCell'=true) (hx:ev n f x = .slice (some ⟨b,o,none⟩) m c) (hm:0<m) (hst:St w0 W (Res.bx b C e'::rs)) (hle:o+m*s<=C.length)
  (k:∀Z W',Z.length=m*s->St w0 W' (Res.bx b (aN C o Z) e'::rs)->K (.tuple #[]) W'):Stp P n ⟨d,.call { callee := .builtin .clear,args := #[x],argTypes := #[t] },ty,pos,af,g⟩ f W Q K:=by
 have hB:W.heap[b]? = some (.cells C.toArray e' (0,0)):=hst.get 0 rfl;have hZl:(Builtin.zeroCells zs.toArray m).toList.length=m*s:=by rw[Array.length_toList,size_zeroCells,size_toArray,hzl]
 cases hi:P.info? e with
 | none=>simp[hi]at hz
 | some i=>
  cases hzz:i.zero with
  | none=>simp[hi,hzz]at hz
  | some z=>
   have hzc:z.cells=zs.toArray:=by simpa [hi,hzz] using hz
   have h1:∀v∈(Builtin.zeroCells zs.toArray m).toList,v.oneCell'=true:=by
    intro v hv;simp only[Builtin.zeroCells,Array.toList_map,mem_map]at hv;obtain⟨j,_,rfl⟩:=hv;have hj:j % zs.length<zs.length:=Nat.mod_lt _ aA;have hq:zs.toArray[j % zs.toArray.size]! = zs[j % zs.length]:=by simp[hj]
    first | (rw[hq];exact hz1 _ (getElem_mem _)) | (simp only[size_toArray]at *;rw[hq];exact hz1 _ (getElem_mem _))
   have hst2:=run_storeCells_cells (P:=P) b o (Builtin.zeroCells zs.toArray m).toList 0 W (fun j hj=>by simp[World.cell?,hB];omega) (fun j hj=>by simp[World.frozen?,hB]) h1;simp only[Nat.add_zero]at hst2;have hr:(Builtin.clear_ #[t] ty #[.slice (some ⟨b,o,none⟩) m c]).run P W = .ok (.tuple #[]) (W.setCells b o (Builtin.zeroCells zs.toArray m).toList):=by
    obtain⟨m',rfl⟩:∃m',m=m'+1:=⟨m-1,by omega⟩;simp[Builtin.clear_,run_underlying hT,zeroValue,typeInfo,hi,hzz,hzc,hst2]
   refine Stp.run (v := .tuple #[]) (W':=W.setCells b o (Builtin.zeroCells zs.toArray m).toList) ?_ (k _ _ hZl (hst.store o _ (by rw[hZl];exact hle)));simp only[execOp,resolve,invoke,builtin,Sem.run_bind,Sem.run_pure,Result.andThen_ok,map_toArray,map_cons,map_nil,hx,hr]
end
theorem aM7 {C:List Value}{o a b c:Nat}{v:Value}(h:v∈(C.drop (o+a)).take b) (hc:a+b<=c):v∈(C.drop o).take c:=by
 obtain⟨j,hj⟩:=mem_iff_getElem?.1 h;rw[getElem?_take]at hj;split at hj
 ·refine mem_iff_getElem?.2 ⟨a+j,?_⟩;rw[getElem?_take,if_pos aA,getElem?_drop]
  rwa [getElem?_drop,Nat.add_assoc]at hj
 cases hj
theorem bB8 {P Q R V:List Value}(h:Q.length=V.length):aN (P++(Q++R)) P.length V=P++(V++R):=by
 rw[aD4 _ _ _ (by simp;omega),take_left,append_assoc];congr 2;rw[drop_length_add_append,<- h,drop_left]
theorem vP {C Z:List Value}{o s k m:Nat}(hk:k<m) (hle:o+m*s<=C.length) (hZ:Z.length=1*s) :
  ((aN (aN C (o+k*s) ((C.drop (o+(k+1)*s)).take ((m-(k+1))*s))) (o+(m-1)*s) Z).drop o).take ((m-1)*s)=((C.drop o).take (m*s)).take (k*s)++((C.drop o).take (m*s)).drop ((k+1)*s):=by
 obtain⟨p,rfl⟩:∃p,m=k+1+p:=⟨m-(k+1),by omega⟩;have a1:k+1+p-(k+1)=p:=by omega
 have a2:k+1+p-1=k+p:=by omega
 rw[a1,a2];have b1:(k+1+p)*s=k*s+s+p*s:=by rw[Nat.add_mul,Nat.add_mul,Nat.one_mul]
 have b2:(k+p)*s=k*s+p*s:=Nat.add_mul ..;have b3:(k+1)*s=k*s+s:=by rw[Nat.add_mul,Nat.one_mul]
 rw[b1]at hle;rw[b1,b2,b3];rw[Nat.one_mul]at hZ;generalize k*s=A at *;generalize p*s=B at *;obtain⟨P,X,S,Y,T,rfl,rfl,rfl,rfl,rfl⟩:∃P X S Y T:List Value,C=P++(X++(S++(Y++T)))/\P.length=o/\X.length=A/\S.length=s/\Y.length=B:=by
  refine⟨C.take o,(C.drop o).take A,((C.drop o).drop A).take s,(((C.drop o).drop A).drop s).take B,(((C.drop o).drop A).drop s).drop B,?_,?_,?_,?_,?_⟩
  ·simp only[take_append_drop]
  all_goals (simp only[length_take,length_drop];omega)
 have e1:((P++(X++(S++(Y++T)))).drop (P.length+(X.length+S.length))).take Y.length=Y:=by
  rw[drop_length_add_append,drop_length_add_append,drop_left,take_left]
 rw[e1];have hl:Y.length<=(S++(Y++T)).length:=by simp;omega
 have e2:aN (P++(X++(S++(Y++T)))) (P.length+X.length) Y=(P++X)++(Y++(S++(Y++T)).drop Y.length):=by
  have:=bB8 (P:=P++X) (Q:=(S++(Y++T)).take Y.length) (R:=(S++(Y++T)).drop Y.length) (V:=Y) (by rw[length_take];omega);rw[take_append_drop,length_append,append_assoc]at this;exact this
 rw[e2];have hr:((S++(Y++T)).drop Y.length).length=S.length+T.length:=by simp;omega
 generalize (S++(Y++T)).drop Y.length=R at hr;have e3:aN ((P++X)++(Y++R)) (P.length+(X.length+Y.length)) Z=((P++X)++Y)++(Z++R.drop S.length):=by
  have:=bB8 (P:=(P++X)++Y) (Q:=R.take S.length) (R:=R.drop S.length) (V:=Z) (by rw[length_take];omega);rw[take_append_drop,length_append,length_append,append_assoc,Nat.add_assoc]at this;exact this
 rw[e3,append_assoc,append_assoc,drop_left,drop_left,<- append_assoc X Y,<- length_append,take_left];have e4:(X++(S++(Y++T))).take (X.length+S.length+Y.length)=X++(S++Y):=by
  have:X.length+S.length+Y.length=(X++(S++Y)).length:=by simp;omega
  rw[this,show X++(S++(Y++T))=(X++(S++Y))++T by simp,take_left]
 rw[e4,take_left,drop_length_add_append,drop_left]
end Go.Proofs.YtjihdmlkpkkpbaaGreat
namespace Go.Proofs.YtjihdmlkpkkpbaaGreat
set_option maxHeartbeats 1000000
set_option maxHeartbeats 2000000
open Go.RowKit Go.Proofs.Tryz List
section
variable {α:Type}[Shape α]
theorem St.row_front {w0 W:World}{e:TypeId}{h:Hd}{xs:List α}{fe:List Nat}{rs:List Res}{m:Nat}(hm:m<=xs.length) (hst:St w0 W (Res.row e h.val xs fe::rs)):∃fe',St w0 W (Res.row e (.slice h.ao m h.cap) (xs.take m) fe'::rs):=by
 obtain⟨⟨cells,ho,he⟩,hw⟩:=hst.get 0 rfl;obtain⟨f1,f2,rfl,p1,_⟩:=Elems.parts' m hm he;have hl:(xs.take m).length=m:=by rw[length_take];omega
 have hcl:(cells.take (m*Shape.size α)).length=m*Shape.size α:=by
  rw[length_take,ho.1];exact Nat.min_eq_left (Nat.mul_le_mul_right _ hm)
 have hob:(Value.slice h.ao m h.cap).ownBlock=h.val.ownBlock:=by
  unfold Hd.val;cases h.ao<;>rfl
 refine⟨f1,St.trade (rs1:=[Res.row e h.val xs (f1++f2)]) (rs2:=[_]) hst ?_ ?_ ?_⟩
 ·have hn:=hst.nodup;rw[flatMap_cons,nodup_append]at hn;have hn:=hn.1;simp only[Res.row,flatMap_cons,flatMap_nil,append_nil]at hn ⊢;rw[hob];rw[<- append_assoc]at hn;exact(nodup_append.1 hn).1
 ·intro b hb;simp only[Res.row,flatMap_cons,flatMap_nil,append_nil]at hb ⊢;rw[hob]at hb;rcases mem_append.1 hb with hb | hb
  ·exact mem_append_left _ hb
  exact mem_append_right _ (mem_append_left _ hb)
 intro r hr;simp only[mem_singleton]at hr;subst hr;refine⟨⟨cells.take (m*Shape.size α),?_,p1⟩,fun b hb=>hw b (mem_append_left _ hb)⟩;rw[hl];refine⟨hcl,?_⟩;rcases ho.2 with⟨h1,h2⟩ | ⟨g,cap,cur,h1,h2,h3,h4,h5,h6,h7⟩
 ·left;unfold Hd.val at h1
  injection h1 with e1 e2 e3
  have hm0:m=0:=by omega
  rw[e1,e3,hm0];exact⟨rfl,rfl⟩
 right;unfold Hd.val at h1
 injection h1 with e1 e2 e3
 refine⟨g,cap,cur,by rw[e1,e3],h2,h3,by omega,h5,h6,?_⟩;rw[<- h7,take_take,Nat.min_eq_left (Nat.mul_le_mul_right _ hm)]
theorem St.drew {w0 W:World}{rs:List Res}(h:St w0 W rs):St w0 W.drew rs:=
 h.call (rs':=[]) (St.of_below ⟨rfl,rfl,rfl,Nat.le_refl _,fun _ _=>rfl⟩)
section
variable {P:Program}{n:Nat}{f:Nat->Value}{w0 W:World}{rs:List Res}{Q:Exit->Act->World->Prop}{d:Option Tmp}{ty:TypeId}{pos:String}{af:Array Go.Edge}{g:Option (Nat×Bool)}{K:Value->World->Prop}
theorem stp_append_cut {t e:TypeId}{bytes:Nat}{s x:Operand}{h:Hd}{xs ys:List α}{fe fz:List Nat}{b m k:Nat}{cs:List Value}{e':TypeId}{R2:Res}(hT:ApOk P t e α bytes) (hs:ev n f s = .slice h.ao k k) (hx:ev n f x = .slice (some ⟨b,0,none⟩) m m) (hm:ys.length=m) (hm0:0<m) (hk:k<=xs.length)
  (hst:St w0 W (Res.row e h.val xs fe::Res.bx b cs e'::R2::rs)) (hR:R2.fp=fz) (hcs:∀W,R2.holds W->Elems W cs ys fz/\∀b∈fz,Wr W b) (h63:k+m<=maxLen) (hby:(k+m)*bytes<=140737488355328)
  (kk:∀v' fe' W',St w0 W' (Res.row e v' (xs.take k++ys) fe'::rs)->K v' W') :
  Stp P n ⟨d,.call { callee := .builtin .append,args := #[s,x],argTypes := #[t,t] },ty,pos,af,g⟩ f W Q K:=by
 subst hR;obtain⟨⟨cells,ho,he⟩,hw⟩:=hst.get 0 rfl;have hb:=hst.get 1 rfl;obtain⟨hE2,hW2⟩:=hcs W (hst.get 2 rfl);obtain⟨f1,f2,rfl,p1,_⟩:=Elems.parts' k hk he;obtain⟨i,z,hi,hz,h1,h2,h3⟩:=hT.info;have hsmall:k+m<=9223372036854775807:=by simp only[maxLen]at h63;omega
 have hl:(xs.take k).length=k:=by rw[length_take];omega
 have hcl:(cells.take (k*Shape.size α)).length=k*Shape.size α:=by
  rw[length_take,ho.1];exact Nat.min_eq_left (Nat.mul_le_mul_right _ hk)
 have hnl:cs.length=m*Shape.size α:=by rw[hE2.len,hm]
 have hnews:∀j u,cs[j]? = some u->W.cell? ((⟨b,0,none⟩:Addr).add j)=some u:=by
  intro j u hj;rw[Addr.add_mid];exact bO hb j u hj
 have key:∃gc cur,(Builtin.append_ #[t,t] ty #[.slice h.ao k k,.slice (some ⟨b,0,none⟩) m m]).run P W = .ok (.slice (some ⟨W.heap.size,0,none⟩) (k+m) gc) (W.drew.alloc (.cells cur e))/\k+m<=gc/\gc<=maxLen/\cur.size=gc*Shape.size α/\cur.toList.take ((k+m)*Shape.size α)=cells.take (k*Shape.size α)++cs:=by
  rcases ho.2 with⟨q1,q2⟩ | ⟨g,cap,cur,q1,q2,q3,q4,q5,q6,q7⟩
  ·unfold Hd.val at q1
   injection q1 with e1 e2 e3
   have hk0:k=0:=by omega
   subst hk0;have hr:=run_append_nil (P:=P) (ty:=ty) W t e i z hT.desc hi hz ⟨b,0,none⟩ m m cs (by rw[h1];exact hnl) hnews hm0 aA (by rw[h2];have hb:=hby;simp only[Nat.zero_add]at hb;omega);have hge:=grownCap_ge W m 0 e;have hcm:=grownCap_le_maxLen W m 0 e aA;refine⟨grownCap W m 0 e,_,by rw[e1,Nat.zero_add];exact hr,by omega,hcm,?_,?_⟩
   ·simp only[Array.size_append,size_toArray,size_zeroCells,h3,hnl,<- Nat.add_mul];congr 1;omega
   simp only[Array.toList_append,Nat.zero_add,Nat.zero_mul,take_zero,nil_append];rw[<- hnl];exact take_left
  unfold Hd.val at q1
  injection q1 with e1 e2 e3
  have holds:∀j u,(cells.take (k*Shape.size α))[j]? = some u->W.cell? ((⟨g,0,none⟩:Addr).add j)=some u:=by
   intro j u hj;have hj2:cells[j]? = some u:=by
    have hlt:=(gsi_.1 hj).1;rw[getElem?_take_of_lt (by rw[hcl]at hlt;exact hlt)]at hj;exact hj
   have hoc:=ho.cells (g:=g) (by show h.val.ownBlock=some g;unfold Hd.val;rw[e1];rfl) j u hj2;exact hoc
  have hr:=run_append_grow (P:=P) (ty:=ty) W t e i z hT.desc hi hz ⟨g,0,none⟩ k k (cells.take (k*Shape.size α)) (by rw[h1];exact hcl) holds ⟨b,0,none⟩ m m cs (by rw[h1];exact hnl) hnews aA aA (by rw[h2];exact growslice_fits aA hby);have hge:=grownCap_ge W (k+m) k e;have hcm:=grownCap_le_maxLen W (k+m) k e h63;refine⟨grownCap W (k+m) k e,_,by rw[e1];exact hr,hge,hcm,?_,?_⟩
  ·simp only[Array.size_append,size_toArray,size_zeroCells,h3,hcl,hnl,<- Nat.add_mul];congr 1;omega
  simp only[Array.toList_append,append_assoc];rw[<- append_assoc,Nat.add_mul];refine take_left' ?_;rw[length_append,hcl,hnl]
 obtain⟨gc,cur,hrun,g1,g2,g3,g4⟩:=key;refine Stp.run (v := .slice (some ⟨W.heap.size,0,none⟩) (k+m) gc) (W':=W.drew.alloc (.cells cur e)) ?_ (kk _ (f1++R2.fp) _ ?_)
 ·simp only[execOp,resolve,invoke,builtin,Sem.run_bind,Sem.run_pure,Result.andThen_ok,map_toArray,map_cons,map_nil,hs,hx,hrun]
 have hkeep:∀c,c<W.heap.size->(W.drew.alloc (.cells cur e)).heap[c]? = W.heap[c]? := fun c hc=>heap_alloc_old W.drew _ hc
 have hsz:W.heap.size<=(W.drew.alloc (.cells cur e)).heap.size:=by simp
 have st1:=hst.drew.alloc cur.toList e;rw[Array.toArray_toList]at st1;have hlt1:∀c∈f1,c<W.heap.size:=fun c hc=>(hw c (mem_append_left _ hc)).lt
 have hlt2:∀c∈R2.fp,c<W.heap.size:=fun c hc=>(hW2 c hc).lt
 refine St.trade (rs1:=[Res.bx W.drew.heap.size cur.toList e,Res.row e h.val xs (f1++f2),Res.bx b cs e',R2]) (rs2:=[_]) st1 ?_ ?_ ?_
 ·have hn:=st1.nodup;have hn2:([W.heap.size]++((h.val.ownBlock.toList++(f1++f2))++([b]++(R2.fp++rs.flatMap Res.fp)))).Nodup:=by
   simpa [Res.bx,Res.row] using hn
  simp only[Res.row,flatMap_cons,flatMap_nil,append_nil];refine hn2.sublist ?_;show ((Value.slice (some ⟨W.heap.size,0,none⟩) (k+m) gc).ownBlock.toList++(f1++R2.fp)).Sublist _;refine List.Sublist.append (List.Sublist.refl _) (List.Sublist.append ((sublist_append_left f1 f2).trans (sublist_append_right _ _)) ?_);exact(sublist_append_left _ _).trans (sublist_append_right _ _)
 ·intro c hc;have hc:c∈[W.heap.size]++(f1++R2.fp):=by simpa [Res.row,Value.ownBlock] using hc
  have:c=W.heap.size∨c∈f1∨c∈R2.fp:=by simpa using hc
  simp only[flatMap_cons,flatMap_nil,append_nil,mem_append];rcases this with h | h | h
  ·left;simp[Res.bx,h]
  ·right;left;simp[Res.row,h]
  right;right;right;exact h
 intro r hr;simp only[mem_singleton]at hr;subst hr;refine⟨⟨cells.take (k*Shape.size α)++cs,⟨?_,.inr ⟨W.heap.size,gc,cur,?_,Nat.zero_le _,heap_alloc_new W.drew _,?_,g2,g3,?_⟩⟩,?_⟩,?_⟩
 ·rw[length_append,hcl,hnl,length_append,hl,hm,Nat.add_mul]
 ·rw[length_append,hl,hm]
 ·rw[length_append,hl,hm];exact g1
 ·rw[length_append,hl,hm];exact g4
 ·exact(p1.loc hsz fun c hc=>hkeep c (hlt1 c hc)).append (hE2.loc hsz fun c hc=>hkeep c (hlt2 c hc))
 intro c hc;rcases mem_append.1 hc with hc | hc
 ·exact(hw c (mem_append_left _ hc)).loc (hkeep c (hlt1 c hc))
 exact(hW2 c hc).loc (hkeep c (hlt2 c hc))
theorem stp_append_mv {t e e2:TypeId}{bytes:Nat}{s x:Operand}{v:Value}{h:Hd}{xs ys:List α}{fe fy:List Nat}(hT:ApOk P t e α bytes) (hs:ev n f s=v) (hx:ev n f x=h.val) (hne:ys≠[])
  (hst:St w0 W (Res.row e v xs fe::Res.row e2 h.val ys fy::rs)) (h63:xs.length+ys.length<=maxLen) (hby:(xs.length+ys.length)*bytes<=140737488355328)
  (k:∀v' fe' W',St w0 W' (Res.row e v' (xs++ys) fe'::rs)->K v' W') :
  Stp P n ⟨d,.call { callee := .builtin .append,args := #[s,x],argTypes := #[t,t] },ty,pos,af,g⟩ f W Q K:=by
 obtain⟨⟨cells,ho,he⟩,hw⟩:=hst.get 1 rfl;have hpos:0<ys.length:=length_pos_iff.2 hne;rcases ho.2 with⟨_,h0⟩ | ⟨gg,cap,cur,h1,_⟩
 ·omega
 have hhv:h.val = .slice (some ⟨gg,0,none⟩) ys.length cap:=h1;have hn:=hst.nodup;rw[flatMap_cons,flatMap_cons]at hn;have hn2:((v.ownBlock.toList++fe)++((h.val.ownBlock.toList++fy)++rs.flatMap Res.fp)).Nodup:=hn;rw[nodup_append]at hn2;obtain⟨hn3,hn4,hn5⟩:=hn2;rw[nodup_append]at hn4;obtain⟨hn6,hn7,hn8⟩:=hn4;refine mA (fy:=fy) hT hs (hx.trans hhv) rfl hst.d1 he ?_ hw (nodup_append.1 hn6).2.1 ?_ h63 hby fun v' W' st'=>k v' _ W' st'
 ·intro j u hj;exact ho.cells (g:=gg) (by rw[hhv];rfl) j u hj
 intro b hb;have hb':b∈h.val.ownBlock.toList++fy:=mem_append_right _ hb;refine⟨fun hc=>hn5 b hc b (mem_append_left _ hb') rfl,fun hc=>hn8 b hb' b hc rfl,hst.fresh (Res.row e2 h.val ys fy) (by simp) b hb'⟩
end
end
end Go.Proofs.YtjihdmlkpkkpbaaGreat
namespace Go.Proofs.YtjihdmlkpkkpbaaGreat
set_option maxHeartbeats 1000000
set_option maxHeartbeats 2000000
open Go.RowKit Go.Proofs.Tryz List

theorem aG5 {W:World}:∀{l1 l2:List Lf}{cs:List Value}{fp:List Nat},dR W cs (l1++l2) fp->∃c1 c2 f1 f2,cs=c1++c2/\dR W c1 l1 f1/\dR W c2 l2 f2/\fp=f1++f2
 | [],l2,cs,fp,h=>⟨[],cs,[],fp,rfl,rfl,h,rfl⟩
 | .v x::l1,l2,c::cs,fp,h=>by
  obtain⟨c1,c2,f1,f2,rfl,h1,h2,rfl⟩:=aG5 (l1:=l1) h.2;exact⟨c::c1,c2,f1,f2,rfl,⟨h.1,h1⟩,h2,rfl⟩
 | .s β i ys::l1,l2,c::cs,fp,h=>by
  obtain⟨g1,g2,h0,h,rfl⟩:=h;obtain⟨c1,c2,f1,f2,rfl,h1,h2,rfl⟩:=aG5 (l1:=l1) h;exact⟨c::c1,c2,g1++f1,f2,rfl,⟨g1,f1,h0,h1,rfl⟩,h2,by simp⟩
 | .v x::l1,l2,[],fp,h=>h.elim
 | .s β i ys::l1,l2,[],fp,h=>h.elim
def lvs {α:Type}(i:Dsh α):List α->List Lf
 | []=>[]
 | y::ys=>i.lv y++lvs i ys
theorem rP {α:Type}(i:Dsh α) {W:World}:∀{ys:List α}{cs:List Value}{fp:List Nat},dR W cs (lvs i ys) fp->(∀y∈ys,i.good y) -> @Elems α i.toShape W cs ys fp
 | [],[],fp,h,_=>⟨rfl,h⟩
 | [],_::_,fp,h,_=>h.elim
 | y::ys,cs,fp,h,hg=>by
  obtain⟨c1,c2,f1,f2,rfl,h1,h2,rfl⟩:=aG5 h;exact⟨c1,c2,f1,f2,rfl,i.inn (hg y mem_cons_self) h1,rP i h2 fun y hy=>hg y (mem_cons_of_mem _ hy),rfl⟩
theorem uF {w w':World}(hb:Below w.heap.size w w'):∀{cs:List Value}{ls:List Lf}{fp:List Nat},dR w cs ls fp->dR w' cs ls fp
 | [],[],_,h=>h
 | [],.v _::_,_,h=>h.elim
 | [],.s _ _ _::_,_,h=>h.elim
 | _::_,[],_,h=>h.elim
 | c::cs,.v u::ls,fp,h=>⟨h.1,uF hb h.2⟩
 | c::cs,.s β i ys::ls,fp,h=>by
  obtain⟨f1,f2,h1,h2,e⟩:=h;exact⟨f1,f2,Sl.below h1 hb,uF hb h2,e⟩
theorem zR {α:Type}[Shape α] (hp:nR α) {W:World}:∀{xs:List α}{cells:List Value}{fp:List Nat},Elems W cells xs fp->fp=[]
 | [],_,_,h=>h.2
 | x::xs,_,_,⟨cs,rest,f1,f2,h1,h2,h3,h4⟩=>by rw[h4,hp _ _ _ _ h2,zR hp h3];rfl
section
variable {P:Program}{n:Nat}{f:Nat->Value}{w0 W:World}{rs:List Res}{Q:Exit->Act->World->Prop}{d:Option Tmp}{ty:TypeId}{pos:String}{af:Array Go.Edge}{g:Option (Nat×Bool)}{K:Value->World->Prop}
theorem wJ {α:Type}(i:Dsh α) {t e e':TypeId}{bytes:Nat}{s x:Operand}{v:Value}{xs ys:List α}{fe fz:List Nat}{b m:Nat}{cs:List Value}(hT:ApOk P t e α bytes) (hs:ev n f s=v) (hx:ev n f x = .slice (some ⟨b,0,none⟩) m m) (hm:ys.length=m) (hg:∀y∈ys,i.good y)
  (hst:St w0 W (Res.row e v xs fe::Res.bx b cs e'::Res.pc cs (lvs i ys) fz::rs)) (h63:xs.length+m<=maxLen) (hby:(xs.length+m)*bytes<=140737488355328)
  (k:∀v' fe' W',St w0 W' (Res.row e v' (xs++ys) fe'::rs)->K v' W') :
  Stp P n ⟨d,.call { callee := .builtin .append,args := #[s,x],argTypes := #[t,t] },ty,pos,af,g⟩ f W Q K:=by
 have hc:=hst.get 2 rfl;have hst2:St w0 W (Res.row e v xs fe::Res.bx b cs e'::rs):=hst.d2;have hb:=hst.get 1 rfl;have hn:=hst.nodup;have h2:=hst.f2;have hn2:=h2.nodup;rw[flatMap_cons,nodup_append]at hn2;refine mA hT hs hx hm hst2 (rP i hc.1 hg) ?_ hc.2 hn2.1 ?_ h63 hby fun v' W' st'=>k v' _ W' st'.d1
 ·intro j u hj;rw[Addr.add_mid];exact bO hb j u hj
 intro a ha;refine⟨fun h=>hn2.2.2 a ha a ?_ rfl,fun h=>hn2.2.2 a ha a ?_ rfl,h2.fresh (Res.pc cs (lvs i ys) fz) (by simp) a ha⟩
 ·rw[flatMap_cons];exact mem_append_left _ h
 rw[flatMap_cons];exact mem_append_right _ h
end
theorem St.lit {α:Type}(i:Dsh α) {w0 W:World}{b:Nat}{cs:List Value}{t:TypeId}{ys:List α}{fp:List Nat}{rs:List Res}(hne:ys≠[]) (hl:ys.length<=67108864) (hg:∀y∈ys,i.good y) (st:St w0 W (Res.bx b cs t::Res.pc cs (lvs i ys) fp::rs)):St w0 W (@Res.own (List α) _ _ (Hd.val ⟨some ⟨b,0,none⟩,ys.length,ys.length⟩) ys (b::fp)::rs):=by
 have hb:W.heap[b]? = some (.cells cs.toArray t (0,0)):=st.get 0 rfl;have hc:=st.get 1 rfl;have he:=rP i hc.1 hg;refine St.trade (rs1:=[Res.bx b cs t,Res.pc cs (lvs i ys) fp]) (rs2:=[_]) st ?_ ?_ ?_
 ·have hn:=st.nodup;rw[flatMap_cons,flatMap_cons,<- append_assoc,nodup_append]at hn;simpa [Res.own,Res.bx,Res.pc] using hn.1
 ·intro c hc;simpa [Res.own,Res.bx,Res.pc] using hc
 intro r hr;simp only[mem_singleton]at hr;subst hr;have hsl:Sl W (Hd.val ⟨some ⟨b,0,none⟩,ys.length,ys.length⟩) ys (b::fp):=
  ⟨some ⟨b,0,none⟩,ys.length,rfl,Nat.le_refl _,by omega,.inr ⟨b,0,fp,hne,rfl,rfl,(Array.getElem?_eq_some_iff.1 hb).1,he.at 0 (bO hb)⟩⟩
 refine⟨hsl.v,fun c hm=>?_⟩;rcases mem_cons.1 hm with rfl | hm
 ·exact⟨_,_,hb⟩
 exact hc.2 c hm
theorem aG4 {W:World}:∀{c1:List Value}{l1:List Lf}{f1:List Nat}{c2:List Value}{l2:List Lf}{f2:List Nat},dR W c1 l1 f1->dR W c2 l2 f2->dR W (c1++c2) (l1++l2) (f1++f2)
 | [],[],f1,c2,l2,f2,h,h2=>by
  have h:f1=[]:=h;subst h;exact h2
 | [],.v _::_,f1,c2,l2,f2,h,_=>h.elim
 | [],.s _ _ _::_,f1,c2,l2,f2,h,_=>h.elim
 | _::_,[],f1,c2,l2,f2,h,_=>h.elim
 | c::c1,.v u::l1,f1,c2,l2,f2,h,h2=>⟨h.1,aG4 h.2 h2⟩
 | c::c1,.s β i ys::l1,f1,c2,l2,f2,h,h2=>by
  obtain⟨g1,g2,h3,h4,rfl⟩:=h;exact⟨g1,g2++f2,h3,aG4 h4 h2,by rw[append_assoc]⟩
theorem cJ3 (z:List Value) (hz:0<z.length):∀(n k:Nat),k<n*z.length->(reps z n)[k]? = z[k % z.length]?
 | 0,k,h=>by simp at h
 | n+1,k,h=>by
  show (z++reps z n)[k]? = _;by_cases hk:k<z.length
  ·rw[getElem?_append_left hk,Nat.mod_eq_of_lt hk]
  ·rw[getElem?_append_right aA,cJ3 z hz n (k-z.length) (by rw[Nat.add_mul]at h;omega)]
   conv=>rhs;rw[show k=(k-z.length)+z.length by omega,Nat.add_mod_right]
theorem bT5 {α:Type}(z:List α):∀n,(reps z n).length=n*z.length
 | 0=>by simp[reps]
 | n+1=>by show (z++reps z n).length=_;rw[length_append,bT5 z n,Nat.add_mul];omega
theorem made_reps (z:Array Value) (n:Nat) (hz:0<z.size):(madeCells z (n*z.size)).toList=reps z.toList n:=by
 apply ext_getElem?;intro k;by_cases hk:k<n*z.size
 ·rw[cJ3 z.toList (by simpa using hz) n k (by simpa using hk)];have hm:k % z.size<z.size:=Nat.mod_lt _ hz;simp only[madeCells,Array.toList_map,Array.toList_range,getElem?_map,getElem?_range hk,Option.map_some,Array.length_toList];rw[getElem!_pos z _ hm];simp[hm]
 rw[getElem?_eq_none (by rw[Array.length_toList,size_madeCells];omega),getElem?_eq_none (by rw[bT5];simpa using hk)]
def bQ9:List Sc->List Lf->Tr->Tr
 | [],[],k=>k
 | c::cs,.v x::ls,k=>.e0 c.val x (bQ9 cs ls k)
 | c::cs,.s _ i ys::ls,k=>match c with
  | .vl (.slice none 0 0)=>.e1 (⟨i,[]⟩:Dat) ⟨i,ys⟩ (bQ9 cs ls k)
  | _=>.no
 | _,_,_=>.no
theorem yO {W:World}:∀{cs:List Sc}{ls:List Lf}{k:Tr},(bQ9 cs ls k).holds->dR W (cs.map Sc.val) ls []/\k.holds
 | [],[],k,h=>⟨rfl,h⟩
 | c::cs,.v x::ls,k,h=>by
  obtain⟨h1,h2⟩:=h;obtain⟨h3,h4⟩:=yO h2;exact⟨⟨h1,h3⟩,h4⟩
 | c::cs,.s β i ys::ls,k,h=>by
  unfold bQ9 at h;split at h
  ·obtain⟨h1,h2⟩:=h;simp only[Dat.mk.injEq,heq_eq_eq,true_and]at h1;subst h1;obtain⟨h3,h4⟩:=yO h2;exact⟨⟨[],[],cD0,h3,rfl⟩,h4⟩
  ·exact h.elim
 | [],.v _::_,_,h=>h.elim
 | [],.s _ _ _::_,_,h=>h.elim
 | _::_,[],_,h=>h.elim
theorem aX3 {α:Type}(i:Dsh α) {W:World}{cs:List Value}{z:α}(h:dR W cs (i.lv z) []):∀n,dR W (reps cs n) (lvs i (List.replicate n z)) []
 | 0=>rfl
 | n+1=>by
  rw[replicate_succ];exact aG4 h (aX3 i h n)
theorem St.made {α:Type}(i:Dsh α) {w0 W:World}{b n:Nat}{cs:List Value}{t:TypeId}{z:α}{rs:List Res}(hc:∀W,dR W cs (i.lv z) []) (hn:n<=67108864) (hz:i.good z) (st:St w0 W (Res.bx b (reps cs n) t::rs)):∃fp,St w0 W (@Res.own (List α) _ _ (Hd.val ⟨some ⟨b,0,none⟩,n,n⟩) (List.replicate n z) fp::rs):=by
 cases n with
 | zero=>
  refine⟨[],St.trade (rs1:=[Res.bx b (reps cs 0) t]) (rs2:=[_]) st ?_ ?_ ?_⟩
  ·simp[Res.own]
  ·intro c hc;simp[Res.own]at hc
  intro r hr;simp only[mem_singleton]at hr;subst hr;have hsl:Sl W (Hd.val ⟨some ⟨b,0,none⟩,0,0⟩) ([]:List α) []:=⟨some ⟨b,0,none⟩,0,rfl,Nat.le_refl _,by omega,.inl ⟨rfl,rfl⟩⟩;exact⟨hsl.v,fun c hm=>by cases hm⟩
 | succ n=>
  have st2:St w0 W (Res.bx b (reps cs (n+1)) t::Res.pc (reps cs (n+1)) (lvs i (List.replicate (n+1) z)) []::rs):=by
   refine St.trade (rs1:=[Res.bx b (reps cs (n+1)) t]) (rs2:=[Res.bx b (reps cs (n+1)) t,Res.pc (reps cs (n+1)) (lvs i (List.replicate (n+1) z)) []]) st ?_ ?_ ?_
   ·simp[Res.bx,Res.pc]
   ·intro c hc;simpa [Res.bx,Res.pc] using hc
   intro r hr;rcases mem_cons.1 hr with rfl | hr
   ·exact st.get 0 rfl
   simp only[mem_singleton]at hr;subst hr;exact⟨aX3 i (hc W) _,fun c hm=>by cases hm⟩
  have:=St.lit i (ys:=List.replicate (n+1) z) (by simp) (by simpa using hn) (fun y hy=>by rw[(mem_replicate.1 hy).2];exact hz) st2;rw[length_replicate]at this;exact⟨_,this⟩
section
variable {P:Program}{A:Type}{R:A->Prop}
def mkN (P:Program) {A:Type}{R:A->Prop}(s:S) (t:TypeId) (c cy:Sc) (d:D P R) (K:SV->S->D P R->Tr):Tr:=
 match d with
 | .mk i z n e _ bytes _ _ _ k=>.e0 c.val (I e)<|.e0 cy.val c.val<|.e0 (P.underlying t) (some (.slice (elT P t))) <|
   opt ((P.info? (elT P t)).bind fun i=>i.zero.map fun z=>(i.size,i.bytes,z.cells)) fun q=>.e0 q.1 (kX P (elT P t)).length<|.e0 q.2.1 bytes<|.e0 (q.2.2) (((kX P (elT P t)).map Sc.val).toArray)<|.e0 (Nat.ble 1 (kX P (elT P t)).length) true<|bQ9 (kX P (elT P t)) (i.lv z) <|
   .fn fun g:Nat×List Nat=>K (one (.rf s.nx ⟨some ⟨g.1,0,none⟩,n,n⟩)) ⟨s.E,(s.nx,.own i.toShape ⟨some ⟨g.1,0,none⟩,n,n⟩ (List.replicate n z) g.2)::s.O,s.B,s.nx+1⟩ k
 | _=>mkT P s t c cy fun v s=>K v s d
theorem mkN_ok {w0 W:World}{s:S}{t:TypeId}{x y:Operand}{c cy:Sc}{dd:D P R}{K:SV->S->D P R->Tr}{n:Nat}{f:Nat->Value}{Q:Exit->Act->World->Prop}{KK:Value->World->Prop}{d:Option Tmp}{ty:TypeId}{pos:String}{af:Array Go.Edge}{g:Option (Nat×Bool)}
  (hx:ev n f x=c.val) (hy:ev n f y=cy.val) (h:(mkN P s t c cy dd K).holds) (st:St w0 W s.rs) (fa:Facts w0 W s.B) (k:∀v s' d' W',(K v s' d').holds->s'.E=s.E->(∃N,s'.O=N++s.O)->Below W.heap.size W W'->St w0 W' s'.rs->Facts w0 W' s'.B->KK v.val W'):Stp P n ⟨d,.makeSlice t x y,ty,pos,af,g⟩ f W Q KK:=by
 unfold mkN at h;split at h
 ·next α i z m e he bytes hn hb hz kk=>
  obtain⟨h1,h2,h3,h⟩:=h;refine aH h fun q hq h=>?_
  obtain⟨h4,h5,h6,h7,h⟩:=h;obtain⟨h8,h9⟩:=yO (W:=W) h;obtain⟨fi,hi,hq⟩:=Option.bind_eq_some_iff.1 hq;obtain⟨zv,hzv,rfl⟩:=Option.map_eq_some_iff.1 hq;simp only at h4 h5 h6;subst he;have h7:=Nat.le_of_ble_eq_true h7;have hb':(m:Int)*(fi.bytes:Int)<=140737488355328:=by rw[h5];have:=Int.ofNat_le.2 hb;rw[Int.natCast_mul]at this;exact this
  have hmk:=run_make (P:=P) W t (elT P t) fi zv h3 hi hzv .i64 .i64 m m aA aA (by rw[Int.mul_comm];omega) aA;rw[Int.toNat_natCast]at hmk;have hx':ev n f x = .int .i64 (m:Int):=hx.trans h1;have hy':ev n f y = .int .i64 (m:Int):=hy.trans (h2.trans h1);have hsz:fi.size=zv.cells.size:=by rw[h6,h4];simp
  have hlen:0<zv.cells.size:=by rw[h6,size_toArray,length_map];exact h7
  have hcl:(madeCells zv.cells (m*fi.size)).toList=reps ((kX P (elT P t)).map Sc.val) m:=by rw[hsz,made_reps _ _ hlen,h6]
  refine Stp.run (v := .slice (some ⟨W.heap.size,0,none⟩) m m) (W':=W.alloc (.cells (madeCells zv.cells (m*fi.size)) (elT P t))) (by simp only[execOp,hx',hy',Sem.run_bind,hmk,Result.andThen_ok];rfl) ?_;have hst:=st.alloc (madeCells zv.cells (m*fi.size)).toList (elT P t);rw[Array.toArray_toList,hcl]at hst;obtain⟨fp,hst2⟩:=St.made i (fun W=>(yO (W:=W) h).1) hn hz hst;have hbl:Below W.heap.size W (W.alloc (.cells (madeCells zv.cells (m*fi.size)) (elT P t))):=hQ (Below.refl _ _);exact k _ _ _ _ (h9 (W.heap.size,fp)) rfl ⟨[_],rfl⟩ hbl hst2 (fa.up hbl)
 exact mkT_ok hx hy h st fa fun v s' W' h' e g1 g2 st' fa'=>k v s' _ W' h' e g1 g2 st' fa'
end
def vfit:List Sc->List Lf->Tr->Tr
 | [],[],k=>k
 | c::cs,.v x::ls,k=>.e0 c.val x (vfit cs ls k)
 | _,_,_=>.no
theorem bK2 {W:World}:∀{cs:List Sc}{ls:List Lf}{k:Tr},(vfit cs ls k).holds->dR W (cs.map Sc.val) ls []/\k.holds
 | [],[],k,h=>⟨rfl,h⟩
 | c::cs,.v x::ls,k,h=>by
  obtain⟨h1,h2⟩:=h;obtain⟨h3,h4⟩:=bK2 h2;exact⟨⟨h1,h3⟩,h4⟩
 | c::cs,.s _ _ _::ls,_,h=>h.elim
 | [],_::_,_,h=>h.elim
 | _::_,[],_,h=>h.elim
theorem St.pcN {w0 W:World}{b:Nat}{cs:List Value}{t:TypeId}{ls:List Lf}{rs:List Res}(h:dR W cs ls []) (st:St w0 W (Res.bx b cs t::rs)):St w0 W (Res.bx b cs t::Res.pc cs ls []::rs):=by
 refine St.trade (rs1:=[Res.bx b cs t]) (rs2:=[Res.bx b cs t,Res.pc cs ls []]) st ?_ ?_ ?_
 ·simp[Res.bx,Res.pc]
 ·intro c hc;simpa [Res.bx,Res.pc] using hc
 intro r hr;rcases mem_cons.1 hr with rfl | hr
 ·exact st.get 0 rfl
 simp only[mem_singleton]at hr;subst hr;exact⟨h,fun c hm=>by cases hm⟩
theorem St.litrow {α:Type}(i:Dsh α) (hp : @nR α i.toShape) {w0 W:World}{b:Nat}{cs:List Value}{t:TypeId}{ys:List α}{fp:List Nat}{rs:List Res}(hl:ys.length<=1000000) (hg:∀y∈ys,i.good y) (st:St w0 W (Res.bx b cs t::Res.pc cs (lvs i ys) fp::rs)):St w0 W (@Res.row α i.toShape t (Hd.val ⟨some ⟨b,0,none⟩,ys.length,ys.length⟩) ys []::rs):=by
 have hc:=st.get 1 rfl;have he:=rP i hc.1 hg;have hf:=zR hp he;subst hf;exact St.row_lit (m:=ys.length) (st.d1) rfl (by unfold maxLen;omega) he
section
variable {P:Program}{A:Type}{R:A->Prop}
def isLo:D P R->Bool
 | .lo ..=>true
 | .lr _ _ t ..=>Nat.beq t 999999
 | .lb ..=>true
 | _=>false
def isDz:D P R->Bool
 | .dz _=>true
 | _=>false
def loT (P:Program) {A:Type}{R:A->Prop}(s:S) (t:TypeId) (len:Nat) (vs:List (Nat×SV)) (d:D P R) (K:SV->S->D P R->Tr):Tr:=
 let cs:=bsU (kX P (elT P t)).length vs (reps (kX P (elT P t)) len)
 match d with
 | .lo i ys _ _ _ k=>.e0 (fun W=>(Instr.buildSlice t len (vs.map fun p=>(p.1,p.2.val)).toArray).run P W) (fun W=>.ok (.slice (some ⟨W.heap.size,0,none⟩) len len) (W.alloc (.cells (cs.map Sc.val).toArray (elT P t))))<|.e0 len ys.length<|vfit cs (lvs i ys) <|
   .fn fun g:Nat=>K (one (.rf s.nx ⟨some ⟨g,0,none⟩,ys.length,ys.length⟩)) ⟨s.E,(s.nx,.own i.toShape ⟨some ⟨g,0,none⟩,ys.length,ys.length⟩ ys [g])::s.O,s.B,s.nx+1⟩ k
 | .lr i _ _ ys _ _ k=>.e0 (fun W=>(Instr.buildSlice t len (vs.map fun p=>(p.1,p.2.val)).toArray).run P W) (fun W=>.ok (.slice (some ⟨W.heap.size,0,none⟩) len len) (W.alloc (.cells (cs.map Sc.val).toArray (elT P t))))<|.e0 len ys.length<|vfit cs (lvs i ys) <|
   .fn fun g:Nat=>K (one (.rf s.nx ⟨some ⟨g,0,none⟩,ys.length,ys.length⟩)) ⟨s.E,(s.nx,.row i.toShape (elT P t) ⟨some ⟨g,0,none⟩,ys.length,ys.length⟩ ys [])::s.O,s.B,s.nx+1⟩ k
 | .lb i ys _ _ _ k=>.e0 (fun W=>(Instr.buildSlice t len (vs.map fun p=>(p.1,p.2.val)).toArray).run P W) (fun W=>.ok (.slice (some ⟨W.heap.size,0,none⟩) len len) (W.alloc (.cells (cs.map Sc.val).toArray (elT P t))))<|.e0 len ys.length<|aG6 s cs (lvs i ys) <|
   .fn fun g:Nat×List Nat=>K (one (.rf s.nx ⟨some ⟨g.1,0,none⟩,ys.length,ys.length⟩)) ⟨s.E,s.O,(s.nx,false,.sl i.toShape ⟨some ⟨g.1,0,none⟩,ys.length,ys.length⟩ ys g.2)::s.B,s.nx+1⟩ k
 | _=>.no
theorem loT_ok {w0 W:World}{s:S}{t:TypeId}{len:Nat}{ps:List (Nat×Operand)}{vs:List (Nat×SV)}{dd:D P R}{K:SV->S->D P R->Tr}{n:Nat}{f:Nat->Value}{Q:Exit->Act->World->Prop}{KK:Value->World->Prop}{d:Option Tmp}{ty:TypeId}{pos:String}{af:Array Go.Edge}{g:Option (Nat×Bool)}
  (hx:ps.map (fun (i,x)=>(i,ev n f x))=vs.map fun p=>(p.1,p.2.val)) (h:(loT P s t len vs dd K).holds) (st:St w0 W s.rs) (fa:Facts w0 W s.B) (k:∀v s' d' W',(K v s' d').holds->s'.E=s.E->(∃N,s'.O=N++s.O)->Below W.heap.size W W'->St w0 W' s'.rs->Facts w0 W' s'.B->KK v.val W'):Stp P n ⟨d,.buildSlice t len ps.toArray,ty,pos,af,g⟩ f W Q KK:=by
 unfold loT at h;simp only at h;split at h
 ·next α i ys hne hl hg kk=>
  obtain⟨h1,rfl,h2⟩:=h;refine gV hx (congrFun h1 W) st fun b W' hb st'=>?_
  obtain⟨h3,h4⟩:=bK2 (W:=W') h2;have st2:=St.lit i hne (Nat.le_trans hl fL) hg (St.pcN h3 st');exact k _ _ _ W' (h4 b) rfl ⟨[_],rfl⟩ hb st2 (fa.up hb)
 ·next α i hp _ ys hl hg kk=>
  obtain⟨h1,rfl,h2⟩:=h;refine gV hx (congrFun h1 W) st fun b W' hb st'=>?_
  obtain⟨h3,h4⟩:=bK2 (W:=W') h2;have st2:=St.litrow i hp hl hg (St.pcN h3 st');exact k _ _ _ W' (h4 b) rfl ⟨[_],rfl⟩ hb st2 (fa.up hb)
 ·next α i ys hne hl hg kk=>
  obtain⟨h1,rfl,h2⟩:=h;obtain⟨⟨fp,hc⟩,h4⟩:=rT st fa h2;refine gV hx (congrFun h1 W) st fun b W' hb st'=>?_
  have hbx:=st'.get 0 rfl;have hc':=uF hb hc;have he:=rP i hc' hg;refine k _ _ _ W' (h4 (b,b::fp)) rfl ⟨[],rfl⟩ hb st'.d0 fun e he'=>?_
  rcases mem_cons.1 he' with rfl | he'
  ·exact⟨some ⟨b,0,none⟩,ys.length,rfl,Nat.le_refl _,by omega,.inr ⟨b,0,fp,hne,rfl,rfl,(Array.getElem?_eq_some_iff.1 hbx).1,he.at 0 (bO hbx)⟩⟩
  exact fa.up hb e he'
 exact h.elim
theorem bS7 (ao:Option Addr) (h c s:Nat):sliced ao 0 h c s = .slice ao h c:=by
 cases ao with
 | none=>simp[sliced]
 | some a=>by_cases hc:c=0<;>simp[sliced,hc,Addr.add]
theorem wM:∀(C Z:List Value) (o m:Nat),m<=o->(aN C o Z).take m=C.take m
 | C,Z,o,0,_=>by simp
 | [],Z,o,m+1,_=>by cases o<;>cases Z<;>rfl
 | c::C,Z,0,m+1,h=>by omega
 | c::C,Z,o+1,m+1,h=>by
  have:=wM C Z o m aA;show (c::aN C o Z).take (m+1)=_;simp[this]
def czT (P:Program) {A:Type}{R:A->Prop}(s:S) (t:TypeId) (c:Sc) (d:D P R) (K:SV->S->D P R->Tr):Tr:=
 nrm d fun d=>match c,d with
  | .rf r h2,.cz i j xs a _ k=>match lku s.B (r+2000000),lku s.O j with
   | some (_,.dv h2' h1 a' sz),some (.own i' h xs' _)=>.e0 h2 h2'<|.e0 h h1<|.e0 a' a<|.e0 sz i.size<|.e1 (⟨i',xs'⟩:Dat) ⟨i.toShape,xs⟩<|.e0 (Nat.ble 1 i.size) true<|.e0 (P.underlying t) (some (.slice (elT P t))) <|
     .e0 (((P.info? (elT P t)).bind (·.zero)).map (·.cells)) (some ((kX P (elT P t)).map Sc.val).toArray)<|.e0 ((kX P (elT P t)).map Sc.val).length i.size<|.e0 (((kX P (elT P t)).map Sc.val).all Value.oneCell') true <|
     .fn fun fp:List Nat=>K (.tu []) ⟨s.E,(j,.own i.toShape ⟨h.ao,a,h.cap⟩ (xs.take a) fp)::bJ s.O j,lasting s.B,s.nx⟩ k
   | _,_=>.no
  | _,_=>.no
theorem czT_ok {w0 W:World}{s:S}{t:TypeId}{x:Operand}{c:Sc}{dd:D P R}{K:SV->S->D P R->Tr}{n:Nat}{f:Nat->Value}{Q:Exit->Act->World->Prop}{KK:Value->World->Prop}{d:Option Tmp}{ty:TypeId}{pos:String}{af:Array Go.Edge}{g:Option (Nat×Bool)}
  (hx:ev n f x=c.val) (h:(czT P s t c dd K).holds) (st:St w0 W s.rs) (fa:Facts w0 W s.B) (k:∀v s' d' W',(K v s' d').holds->s'.E=s.E->St w0 W' s'.rs->Facts w0 W' s'.B->KK v.val W') :
  Stp P n ⟨d,.call { callee := .builtin .clear,args := #[x],argTypes := #[t] },ty,pos,af,g⟩ f W Q KK:=by
 unfold czT at h;refine dI h fun d' h1=>?_
 clear h;split at h1
 ·next _ _ r h2 α i j xs a ha kk=>
  split at h1
  ·next l0 h2' hh1 a' sz _ i' h xs' fp hB hO=>
   obtain⟨rfl,rfl,rfl,rfl,h4,h5,h6,h7,h8,h9,h10⟩:=h1;simp only[Dat.mk.injEq]at h4;obtain⟨rfl,h11,h12⟩:=h4;obtain⟨rfl,rfl⟩:=And.intro (eq_of_heq h11) (eq_of_heq h12);have hdv:h2.val=sliced h.ao a' h.n h.cap i.size:=by
    have:=fa _ (mO hB);cases l0<;>exact this
   have hsz:0<i.size:=Nat.le_of_ble_eq_true h5;have st2:=St.take (rs:=[]) (by simpa [Or,S.rs] using st) hO;rw[append_nil]at st2;obtain⟨b,off,cap,C,e,fe,e1,e2,e3,e4,st3⟩ := @St.ownOpen' _ i.toShape _ _ _ _ _ _ st2 hsz aA;have e1:Value.slice h.ao h.n h.cap = .slice (some ⟨b,off,none⟩) xs'.length cap:=e1;simp only[Value.slice.injEq]at e1;obtain⟨e5,e6,e7⟩:=e1;have hxv:ev n f x = .slice (some ⟨b,off+a'*i.size,none⟩) (xs'.length-a') (cap-a'):=by
    rw[hx];show h2.val=_;rw[hdv,e5,e6,e7,qU aA]
   have hmul:a'*i.size+(xs'.length-a')*i.size=xs'.length*i.size:=by rw[<- Nat.add_mul];congr 1;omega
   refine oN (s:=i.size) h6 h7 h8 hsz (fun v hv=>by rw[all_eq_true]at h9;exact h9 v hv) hxv aA st3 (by have:off+xs'.length*i.size<=C.length:=e4;omega) fun Z W' hZ st4=>?_
   obtain⟨f1,f2,hfe,p1,_⟩ := @Elems.parts' _ i.toShape W' xs' _ fe a' aA (st4.get 1 rfl).1;have st5:St w0 W' (Res.bx b (aN C (off+a'*i.size) Z) e :: @Res.es _ i.toShape (((C.drop off).take (xs'.length*i.size)).take (a'*i.size)) (xs'.take a') f1::Or (bJ s.O j)):=by
    have h13:=St.es_sub (fe':=f1) st4.f1 (by rw[hfe];exact sublist_append_left _ _) p1;exact h13.swap
   obtain⟨fp',st6⟩ := @St.ownShut' _ i.toShape _ _ _ b off cap a' _ _ e _ _ st5 (by
    show _=((aN C (off+a'*i.size) Z).drop off).take (a'*i.size);have hle:a'*i.size<=xs'.length*i.size:=by omega
    rw[take_take,Nat.min_eq_left hle];have h14:=wM C Z (off+a'*i.size) (off+a'*i.size) (Nat.le_refl _);have h15:∀L:List Value,(L.drop off).take (a'*i.size)=(L.take (off+a'*i.size)).drop off:=fun L=>by rw[drop_take];congr 1;omega
    rw[h15,h15,h14]) (by rw[length_take];omega) aA e3
   refine k _ _ _ W' (h10 fp') rfl ?_ fa.lasting;show St w0 W' (Res.own (Value.slice h.ao a' h.cap) (xs'.take a') fp'::Or (bJ s.O j));rw[e5,e7];exact st6
  exact h1.elim
 exact h1.elim
def dzT (P:Program) {A:Type}{R:A->Prop}(s:S) (t:TypeId) (c y:Sc) (d:D P R) (K:SV->S->D P R->Tr):Tr:=
 match c,d with
  | .rf j h,.dz k=>match lku s.O j with
   | some (.own i h' _ _)=>.e0 h.ao h'.ao<|.e0 h.cap h'.cap<|.e0 y.val (I h'.n)<|.e0 (elK P t) (some i.size)<|K (one (.rf j h')) s k
   | _=>.no
  | _,_=>.no
theorem dzT_ok {w0 W:World}{s:S}{t:TypeId}{x y:Operand}{c cy:Sc}{dd:D P R}{K:SV->S->D P R->Tr}{n:Nat}{f:Nat->Value}{Q:Exit->Act->World->Prop}{KK:Value->World->Prop}{d:Option Tmp}{ty:TypeId}{pos:String}{af:Array Go.Edge}{g:Option (Nat×Bool)}
  (hx:ev n f x=c.val) (hy:ev n f y=cy.val) (h:(dzT P s t c cy dd K).holds) (st:St w0 W s.rs) (fa:Facts w0 W s.B) (k:∀v s' d',(K v s' d').holds->s'.E=s.E->St w0 W s'.rs->Facts w0 W s'.B->KK v.val W):Stp P n ⟨d,.slice t x none (some y) none,ty,pos,af,g⟩ f W Q KK:=by
 unfold dzT at h;split at h
 ·next j hd kk=>
  split at h
  ·next i h' xs fp hj=>
   obtain⟨h1,h2,h3,h4,h5⟩:=h;obtain⟨e2,hT⟩:=qV h4;have hs:=jS (st.holds _ (sK hj));obtain⟨ao,cap,e0,hc,_⟩:=hs;have e0:Value.slice h'.ao h'.n h'.cap = .slice ao xs.length cap:=e0;simp only[Value.slice.injEq]at e0;have hel:P.elem t=e2:=by simp[Program.elem,hT.desc]
   have hu:P.underlying t=some (.slice (P.elem t)):=by rw[hel];exact hT.desc
   refine Stp.run (v:=h'.val) ?_ (k _ _ _ h5 rfl st fa);have hx':ev n f x = .slice hd.ao hd.n hd.cap:=hx;have hy':ev n f y = .int .i64 (h'.n:Int):=hy.trans h3;simp only[execOp,hx',hy',Sem.run_bind,Option.map_none,Option.map_some];rw[run_sliceAt_slice (h:=hu),run_slice_h (ht:=hu) (h0:=by omega) (h2:=by omega),hel,gG hT.size];simp only[Result.andThen_ok,Int.toNat_natCast,bS7,h1,h2];rfl
  exact h.elim
 exact h.elim
end
theorem tZ {W:World}:∀xs:List UInt8,Elems W (xs.map fun y=>Value.int .u8 (y.toNat:Int)) xs []
 | []=>⟨rfl,rfl⟩
 | y::xs=>⟨[.int .u8 (y.toNat:Int)],_,[],[],rfl,⟨rfl,rfl,trivial⟩,tZ xs,rfl⟩
theorem stp_bytesOf_sl {P:Program}{n:Nat}{f:Nat->Value}{W w0:World}{rs:List Res}{Q:Exit->Act->World->Prop}{K:Value->World->Prop}{d:Option Tmp}{ty:TypeId}{pos:String}{af:Array Go.Edge}{g:Option (Nat×Bool)}{x:Operand}{t t' e:TypeId}{s:ByteArray}
  (hs:P.underlying t=some .string) (hd:P.underlying t'=some (.slice e)) (he:P.underlying e=some (.int .u8)) (hx:ev n f x = .string s) (hl:s.size<=maxLen) (hst:St w0 W rs)
  (k:∀v fp W',Below W.heap.size W W'->St w0 W' rs->Sl W' v s.data.toList fp->K v W'):Stp P n ⟨d,.convert t t' x,ty,pos,af,g⟩ f W Q K:=by
 have hrun:=run_bytes_of_string (P:=P) W t t' e s hs hd he;have hge:=grownCap_ge W s.size 0 e;have hcm:=grownCap_le_maxLen W s.size 0 e hl;have hl2:s.data.toList.length=s.size:=by rw[Array.length_toList];rfl
 refine Stp.run (v:=_) (W':=_) (by simp only[execOp,hx,Sem.run_bind,hrun,Result.andThen_ok];rfl) (k _ (if s.data.toList=[] then [] else [W.heap.size]) _ ?_ ?_ ?_)
 ·exact⟨rfl,rfl,rfl,by simp,fun j hj=>Below.heap_alloc W.drew _ j hj⟩
 ·exact hst.call (rs':=[]) (St.of_below ⟨rfl,rfl,rfl,by simp,fun j hj=>Below.heap_alloc W.drew _ j hj⟩)
 refine⟨some ⟨W.heap.size,0,none⟩,grownCap W s.size 0 e,by rw[hl2],by rw[hl2];exact hge,hcm,?_⟩;by_cases hne:s.data.toList=[]
 ·exact .inl ⟨hne,by rw[if_pos hne]⟩
 have hh:=heap_alloc_new W.drew (.cells (bytesRow s (grownCap W s.size 0 e)) e ((bytesRow s (grownCap W s.size 0 e)).size,(bytesRow s (grownCap W s.size 0 e)).size+1));refine .inr ⟨W.heap.size,0,[],hne,rfl,by rw[if_neg hne],(Array.getElem?_eq_some_iff.1 hh).1,(tZ s.data.toList).at 0 ?_⟩;intro j u hj;have hjl:j<s.data.toList.length:=by
  have:=(gsi_.1 hj).1;simpa using this
 rw[cell_of_row _ W.heap.size (0+j) _ e _ hh];rw[<- Array.getElem?_toList];unfold bytesRow;rw[Array.toList_append,Array.toList_map,Nat.zero_add,getElem?_append_left (by simpa using hjl)];exact hj
section
variable {P:Program}{A:Type}{R:A->Prop}
def byT (P:Program) {A:Type}{R:A->Prop}(s:S) (t t':TypeId) (c:Sc) (d:D P R) (K:SV->S->D P R->Tr):Tr:=
 match d with
 | .by_ b _ k=>.e0 c.val (.string b)<|.e0 (P.underlying t) (some .string)<|.e0 (P.underlying t') (some (.slice (elT0 P t')))<|.e0 (P.underlying (elT0 P t')) (some (.int .u8)) <|
   .fn fun g:Hd×List Nat=>K (one (.rf s.nx g.1)) ⟨s.E,s.O,(s.nx,false,.sl (inferInstance:Shape UInt8) g.1 b.data.toList g.2)::s.B,s.nx+1⟩ k
 | _=>.no
theorem byT_ok {w0 W:World}{s:S}{t t':TypeId}{x:Operand}{c:Sc}{dd:D P R}{K:SV->S->D P R->Tr}{n:Nat}{f:Nat->Value}{Q:Exit->Act->World->Prop}{KK:Value->World->Prop}{d:Option Tmp}{ty:TypeId}{pos:String}{af:Array Go.Edge}{g:Option (Nat×Bool)}
  (hx:ev n f x=c.val) (h:(byT P s t t' c dd K).holds) (st:St w0 W s.rs) (fa:Facts w0 W s.B) (k:∀v s' d' W',(K v s' d').holds->s'.E=s.E->s'.O=s.O->Below W.heap.size W W'->St w0 W' s'.rs->Facts w0 W' s'.B->KK v.val W'):Stp P n ⟨d,.convert t t' x,ty,pos,af,g⟩ f W Q KK:=by
 unfold byT at h;split at h
 ·next b hb kk=>
  obtain⟨h1,h2,h3,h4,h5⟩:=h;refine stp_bytesOf_sl h2 h3 h4 (hx.trans h1) hb st fun v fp W' hbl st' hs=>?_
  obtain⟨hd,rfl,_⟩:=hs.hd;refine k _ _ _ W' (h5 (hd,fp)) rfl rfl hbl st' fun e he=>?_
  rcases mem_cons.1 he with rfl | he
  ·exact hs
  exact fa.up hbl e he
 exact h.elim
end
theorem plain_nodup {α:Type}[Shape α] (hp:nR α) {W:World}{v:Value}{xs:List α}{g:List Nat}(h:Sl W v xs g):g.Nodup:=by
 obtain⟨ao,cap,rfl,_,_,h⟩:=h;rcases h with⟨_,rfl⟩ | ⟨b,o,fp,_,_,rfl,_,hs⟩
 ·exact nodup_nil
 rw[hs.plain hp];simp
section
variable {P:Program}{A:Type}{R:A->Prop}
def dqT (P:Program) {A:Type}{R:A->Prop}(s:S) (t:TypeId) (c y:Sc) (d:D P R) (K:SV->S->D P R->Tr):Tr:=
 match c,d with
 | .rf j h,.dq i _ xs n _ e _ k=>match lku s.O j with
  | some (.own i' h' xs' _)=>.e0 h h'<|.e1 (⟨i',xs'⟩:Dat) ⟨i,xs⟩<|.e0 y.val (I e)<|.e0 (elK P t) (some i.size) <|
    .fn fun g:Hd×List Nat=>K (one (.rf j g.1)) ⟨s.E,(j,.own i g.1 (xs.drop n) g.2)::bJ s.O j,s.B,s.nx⟩ k
  | some (.row i' _ h' xs' _)=>.e0 h h'<|.e1 (⟨i',xs'⟩:Dat) ⟨i,xs⟩<|.e0 y.val (I e)<|.e0 (elK P t) (some i.size) <|
    .fn fun g:Hd×List Nat=>K (one (.rf j g.1)) ⟨s.E,(j,.own i g.1 (xs.drop n) g.2)::bJ s.O j,s.B,s.nx⟩ k
  | _=>.no
 | _,_=>.no
theorem dqT_ok {w0 W:World}{s:S}{t:TypeId}{x y:Operand}{c cy:Sc}{dd:D P R}{K:SV->S->D P R->Tr}{n:Nat}{f:Nat->Value}{Q:Exit->Act->World->Prop}{KK:Value->World->Prop}{d:Option Tmp}{ty:TypeId}{pos:String}{af:Array Go.Edge}{g:Option (Nat×Bool)}
  (hx:ev n f x=c.val) (hy:ev n f y=cy.val) (h:(dqT P s t c cy dd K).holds) (st:St w0 W s.rs) (fa:Facts w0 W s.B) (k:∀v s' d',(K v s' d').holds->s'.E=s.E->St w0 W s'.rs->Facts w0 W s'.B->KK v.val W) :
  Stp P n ⟨d,.slice t x (some y) none none,ty,pos,af,g⟩ f W Q KK:=by
 unfold dqT at h;have st1:St w0 W (Or s.O++[]):=by simpa [Or,S.rs] using st
 have key:∀{α:Type}{i:Shape α}(hp:nR α) {xs:List α}{m:Nat}(hm:m<=xs.length) {e:Int}(he:e=m) {h':Hd}{fp:List Nat}{rs:List Res}(h1:c.val=h'.val) (h2:cy.val=I e) (h3:elK P t=some i.size) (st2:St w0 W (Res.own h'.val xs fp::rs)) (kk:∀(hd:Hd) (g:List Nat),St w0 W (Res.own hd.val (xs.drop m) g::rs)->KK hd.val W),Stp P n ⟨d,.slice t x (some y) none none,ty,pos,af,g⟩ f W Q KK:=by
  intro α i hp xs m hm e he h' fp rs h1 h2 h3 st2 kk;have hs:=jS (st2.get 0 rfl);obtain⟨u,gg,hs',hsub,hstep⟩:=slq_l hs hm;obtain⟨hd2,rfl,_⟩:=hs'.hd;obtain⟨e2,hT⟩:=qV h3;refine hstep hT (hx.trans h1) (hy.trans h2) he (kk hd2 gg (St.trade (rs1:=[Res.own h'.val xs fp]) (rs2:=[Res.own hd2.val (xs.drop m) gg]) st2 ?_ ?_ ?_))
  ·simpa [Res.own] using plain_nodup hp hs'
  ·intro b hb;simp only[flatMap_cons,flatMap_nil,append_nil,Res.own]at hb ⊢;exact hsub b hb
  intro r hr;simp only[mem_singleton]at hr;subst hr;exact⟨hs'.v,fun b hb=>(st2.get 0 rfl).2 b (hsub b hb)⟩
 split at h
 ·next α j hd i hp xs m hm e he kk=>
  split at h
  ·next i' h' xs' fp hj=>
   obtain⟨rfl,h4,h5,h6,h7⟩:=h;simp only[Dat.mk.injEq]at h4;obtain⟨rfl,h8,h9⟩:=h4;obtain⟨rfl,rfl⟩:=And.intro (eq_of_heq h8) (eq_of_heq h9);have st2:=st1.take hj;refine key hp hm he rfl h5 h6 st2 fun hd2 gg st3=>k _ _ _ (h7 (hd2,gg)) rfl ?_ fa
   have st4:=st3;rw[append_nil]at st4;exact st4
  ·next i' te h' xs' fe hj=>
   obtain⟨rfl,h4,h5,h6,h7⟩:=h;simp only[Dat.mk.injEq]at h4;obtain⟨rfl,h8,h9⟩:=h4;obtain⟨rfl,rfl⟩:=And.intro (eq_of_heq h8) (eq_of_heq h9);obtain⟨fp,st2⟩:=St.shut (st1.take hj);refine key hp hm he rfl h5 h6 st2 fun hd2 gg st3=>k _ _ _ (h7 (hd2,gg)) rfl ?_ fa
   have st4:=st3;rw[append_nil]at st4;exact st4
  exact h.elim
 exact h.elim
def bI4 {α:Type}(P:Program) (s:S) (t:TypeId) (c:Sc) (i:Shape α) (xs:List α) (bytes:Nat) (K:Nat->TypeId->List (Nat×Ob)->Nat->Tr):Tr:=
 .e0 (P.underlying t) (some (.slice (elT P t)))<|.e0 ((P.info? (elT P t)).bind (fun i=>i.zero.map (fun z=>(i.size,i.bytes,z.cells.size)))) (some (i.size,bytes,i.size))<|.e0 (Nat.ble 1 i.size) true <|
  match c with
  | .rf j h=>match lku s.O j with
   | some (.row i' e h' xs' _)=>.e0 h h'<|.e0 e (elT P t)<|.e1 (⟨i',xs'⟩:Dat) ⟨i,xs⟩ (K j e (bJ s.O j) s.nx)
   | _=>.no
  | .vl (.slice none 0 0)=>.e1 (⟨i,[]⟩:Dat) ⟨i,xs⟩ (K s.nx (elT P t) s.O (s.nx+1))
  | _=>.no
theorem uI {G:Prop}{α:Type}{s:S}{t:TypeId}{c:Sc}{i:Shape α}{xs:List α}{bytes:Nat}{K:Nat->TypeId->List (Nat×Ob)->Nat->Tr}{w0 W:World}(h:(bI4 P s t c i xs bytes K).holds) (st:St w0 W s.rs)
  (k:∀j e O nx fe,(K j e O nx).holds->ApOk P t e α bytes->St w0 W (Res.row e c.val xs fe::Or O)->G):G:=by
 obtain⟨h1,h2,h3,h⟩:=h;have hT:ApOk P t (elT P t) α bytes:=apOk h1 h2 (Nat.le_of_ble_eq_true h3);split at h
 ·split at h
  ·next j hd _ i' e h' xs' fe hj=>
   obtain⟨rfl,rfl,h4,h⟩:=h;simp only[Dat.mk.injEq]at h4;obtain⟨rfl,h5,h6⟩:=h4;obtain⟨rfl,rfl⟩:=And.intro (eq_of_heq h5) (eq_of_heq h6);have st2:=St.take (rs:=[]) (by simpa [Or,S.rs] using st) hj;simp only[append_nil]at st2;exact k _ _ _ _ fe h hT st2
  exact h.elim
 ·obtain⟨h4,h⟩:=h;simp only[Dat.mk.injEq,heq_eq_eq,true_and]at h4;subst h4;exact k _ _ _ _ [] h hT (st.row_nil _)
 exact h.elim
def alB (j:Nat):List Sc->Nat->List (Nat×Bool×Bo)
 | [],_=>[]
 | .rf t _::cs,k=>(t,true,.al j k)::alB j cs (k+1)
 | _::cs,k=>alB j cs (k+1)
theorem cE8 {w0 W:World}{j:Nat}{B:List (Nat×Bool×Bo)}(h:Facts w0 W B):∀(cs:List Sc) (k:Nat),Facts w0 W (alB j cs k++B)
 | [],_=>h
 | c::cs,k=>by
  cases c with
  | rf t hd=>
   intro e he;rcases mem_cons.1 he with rfl | he
   ·exact trivial
   ·exact cE8 h cs (k+1) e he
  | _=>exact cE8 h cs (k+1)
def apT (P:Program) {A:Type}{R:A->Prop}(s:S) (t:TypeId) (c y:Sc) (d:D P R) (K:SV->S->D P R->Tr):Tr:=
 nrm d fun d=>match d with
  | .ap i xs ys _ bytes _ _ k=>bI4 P s t c i.toShape xs bytes fun j e O nx=>match y with
   | .lt j2 b m=>.e0 ys.length m<|match lku O j2 with
    | some (.bx b' pre cs post e')=>.e0 b b'<|.e0 pre []<|.e0 post []<|kO (bJ O j2) cs (lvs i ys) fun O'=>
      .fn fun g:Hd×List Nat=>K (one (.rf j g.1)) ⟨s.E,(j,.row i.toShape e g.1 (xs++ys) g.2)::O',lasting s.B,nx⟩ k
    | _=>.no
   | _=>.no
  | .az i xs z _ bytes _ _ k=>bI4 P s t c i.toShape xs bytes fun j e O nx=>match y with
   | .lt j2 b m=>.e0 1 m<|match lku O j2 with
    | some (.bx b' pre cs post e')=>.e0 b b'<|.e0 pre []<|.e0 post []<|.e0 e' e<|kO (bJ O j2) cs (i.lv z) fun O'=>
      .fn fun g:Hd×List Nat×List Nat=>K (one (.rf j g.1)) ⟨s.E,(j,.rz i e g.1 xs g.2.1 cs z g.2.2)::O',alB j cs 0++lasting s.B,nx⟩ k
    | _=>.no
   | _=>.no
  | .as i _ xs ys bytes _ _ k=>bI4 P s t c i xs bytes fun j e O nx=>slT ⟨s.E,O,s.B,s.nx⟩ y i ys <|
    .fn fun g:Hd×List Nat=>K (one (.rf j g.1)) ⟨s.E,(j,.row i e g.1 (xs++ys) g.2)::O,lasting s.B,nx⟩ k
  | .ar i xs ys _ bytes _ _ k=>bI4 P s t c i xs bytes fun j e O nx=>match y with
   | .rf j2 h2=>match lku O j2 with
    | some (.row i2 _ h2' ys' _)=>.e0 h2 h2'<|.e1 (⟨i2,ys'⟩:Dat) ⟨i,ys⟩<|.fn fun g:Hd×List Nat=>K (one (.rf j g.1)) ⟨s.E,(j,.row i e g.1 (xs++ys) g.2)::bJ O j2,lasting s.B,nx⟩ k
    | _=>.no
   | _=>.no
  | .ac i cut j xs m _ ys _ _ bytes _ _ k=>.e0 (P.underlying t) (some (.slice (elT P t)))<|.e0 ((P.info? (elT P t)).bind (fun i=>i.zero.map (fun z=>(i.size,i.bytes,z.cells.size)))) (some (i.size,bytes,i.size))<|.e0 (Nat.ble 1 i.size) true <|
    match c,y with
    | .rf r h2,.lt j2 b q=>match lku s.B (r+2000000),lku s.O j,lku (bJ s.O j) j2 with
     | some (_,.dv h2' h1 a sz),some (.row i' e h' xs' _),some (.bx b' pre cs post _)=>.e0 h2 h2'<|.e0 h1 ⟨h'.ao,m,cond cut m h'.cap⟩<|.e0 a 0<|.e0 sz i.size<|.e1 (⟨i',xs'⟩:Dat) ⟨i.toShape,xs⟩<|.e0 e (elT P t)<|.e0 ys.length q <|
       .e0 b b'<|.e0 pre []<|.e0 post []<|kO (bJ (bJ s.O j) j2) cs (lvs i ys) fun O'=>
       .fn fun g:Hd×List Nat=>K (one (.rf j g.1)) ⟨s.E,(j,.row i.toShape e g.1 (xs.take m++ys) g.2)::O',lasting s.B,s.nx⟩ k
     | _,_,_=>.no
    | _,_=>.no
  | _=>.no
theorem apT_ok {w0 W:World}{s:S}{t:TypeId}{x y:Operand}{c cy:Sc}{dd:D P R}{K:SV->S->D P R->Tr}{n:Nat}{f:Nat->Value}{Q:Exit->Act->World->Prop}{KK:Value->World->Prop}{d:Option Tmp}{ty:TypeId}{pos:String}{af:Array Go.Edge}{g:Option (Nat×Bool)}
  (hx:ev n f x=c.val) (hy:ev n f y=cy.val) (h:(apT P s t c cy dd K).holds) (st:St w0 W s.rs) (fa:Facts w0 W s.B) (k:∀v s' d' W',(K v s' d').holds->s'.E=s.E->St w0 W' s'.rs->Facts w0 W' s'.B->KK v.val W') :
  Stp P n ⟨d,.call { callee := .builtin .append,args := #[x,y],argTypes := #[t,t] },ty,pos,af,g⟩ f W Q KK:=by
 unfold apT at h;refine dI h fun d' h1=>?_
 clear h;split at h1
 ·next α i xs ys hg bytes h63 hby kk=>
  refine uI h1 st fun j e O nx fe h hT st2=>?_
  clear h1;split at h
  ·next j2 b m=>
   obtain⟨rfl,h2⟩:=h;split at h2
   ·next b' pre cs post e' hj=>
    obtain⟨rfl,rfl,rfl,h⟩:=h2;have st3:St w0 W (Or O++[Res.row e c.val xs fe]):=st2.perm (perm_append_comm.trans (by simp));have st4:=st3.take hj;have st5:St w0 W (Or (bJ O j2)++[Res.row e c.val xs fe,Res.bx b (cs.map Sc.val) e']):=by
     have:=st4;simp only[Ob.res,nil_append,append_nil]at this;exact this.perm (by
      refine(perm_append_comm (l₁:=Or (bJ O j2)) (l₂:=[Res.row e c.val xs fe,Res.bx b (cs.map Sc.val) e'])).trans ((List.Perm.swap _ _ _).trans ?_);exact(perm_append_comm (l₁:=[Res.row e c.val xs fe]) (l₂:=Or (bJ O j2))).cons _)
    refine eY h st5 fun O' fp h' st6=>?_
    have st7:St w0 W (Res.row e c.val xs fe::Res.bx b (cs.map Sc.val) e'::Res.pc (cs.map Sc.val) (lvs i ys) fp::Or O'):=by
     refine st6.perm ((perm_append_comm (l₁:=[Res.row e c.val xs fe,Res.bx b (cs.map Sc.val) e']) (l₂:=Res.pc (cs.map Sc.val) (lvs i ys) fp::Or O')).trans ?_);exact List.Perm.refl _
    refine wJ i hT hx hy rfl hg st7 h63 hby fun v' fe' W' st'=>?_
    have hs:=jQ (st'.get 0 rfl);obtain⟨hd,rfl,hn⟩:=hs.hd;exact k _ _ _ W' (h' (hd,fe')) rfl st' fa.lasting
   exact h2.elim
  exact h.elim
 ·next α i xs z hg bytes h63 hby kk=>
  refine uI h1 st fun j e O nx fe h hT st2=>?_
  clear h1;split at h
  ·next j2 b m=>
   obtain⟨rfl,h2⟩:=h;split at h2
   ·next b' pre cs post e' hj=>
    obtain⟨rfl,rfl,rfl,rfl,h⟩:=h2;have st3:St w0 W (Or O++[Res.row e' c.val xs fe]):=st2.perm (perm_append_comm.trans (by simp));have st4:=st3.take hj;have st5:St w0 W (Or (bJ O j2)++[Res.row e' c.val xs fe,Res.bx b (cs.map Sc.val) e']):=by
     have:=st4;simp only[Ob.res,nil_append,append_nil]at this;exact this.perm (by
      refine(perm_append_comm (l₁:=Or (bJ O j2)) (l₂:=[Res.row e' c.val xs fe,Res.bx b (cs.map Sc.val) e'])).trans ((List.Perm.swap _ _ _).trans ?_);exact(perm_append_comm (l₁:=[Res.row e' c.val xs fe]) (l₂:=Or (bJ O j2))).cons _)
    refine eY h st5 fun O' fp h' st6=>?_
    have st7:St w0 W (Res.row e' c.val xs fe::Res.bx b (cs.map Sc.val) e' :: @Res.cs α i.toShape (cs.map Sc.val) z fp::Or O'):=by
     have st8:=St.pc_cs i st6 hg;refine st8.perm ((perm_append_comm (l₁:=[Res.row e' c.val xs fe,Res.bx b (cs.map Sc.val) e']) (l₂ := @Res.cs α i.toShape (cs.map Sc.val) z fp::Or O')).trans ?_);exact List.Perm.refl _
    refine stp_append_ownz hT hx hy st7 h63 hby fun v' W' st'=>?_
    have hs:=jQ (st'.get 0 rfl).1;obtain⟨hd,rfl,hn⟩:=hs.hd;exact k _ _ _ W' (h' (hd,fe,fp)) rfl st' (cE8 fa.lasting cs 0)
   exact h2.elim
  exact h.elim
 ·next α i hp xs ys bytes h63 hby kk=>
  refine uI h1 st fun j e O nx fe h hT st2=>?_
  obtain⟨⟨fp,hs⟩,h⟩:=cC1 h (w0:=w0) (W:=W) st2.d0 fa;have hfe:fe=[]:=by
   obtain⟨⟨cells,_,he⟩,_⟩:=st2.get 0 rfl;exact zR hp he
  subst hfe;refine stp_append_sl hp hT hx hy hs (Below.refl _ _) st2 h63 hby fun v' W' st'=>?_
  have hs:=jQ (st'.get 0 rfl);obtain⟨hd,rfl,hn⟩:=hs.hd;exact k _ _ _ W' (h (hd,[])) rfl st' fa.lasting
 ·next α i xs ys hne bytes h63 hby kk=>
  refine uI h1 st fun j e O nx fe h hT st2=>?_
  clear h1;split at h
  ·next j2 h2=>
   split at h
   ·next _ i2 e2 h2' ys' fy hj=>
    obtain⟨rfl,h3,h⟩:=h;simp only[Dat.mk.injEq]at h3;obtain⟨rfl,h4,h5⟩:=h3;obtain⟨rfl,rfl⟩:=And.intro (eq_of_heq h4) (eq_of_heq h5);have st3:St w0 W (Or O++[Res.row e c.val xs fe]):=st2.perm (perm_append_comm.trans (by simp));have st4:=st3.take hj;have st5:St w0 W (Res.row e c.val xs fe :: @Res.row _ i2 e2 h2.val ys' fy::Or (bJ O j2)):=by
     refine st4.perm ((List.Perm.swap _ _ _).trans ?_);exact((perm_append_comm (l₁:=[Res.row e c.val xs fe]) (l₂:=Or (bJ O j2)))).cons _
    refine stp_append_mv hT hx hy hne st5 h63 hby fun v' fe' W' st'=>?_
    have hs:=jQ (st'.get 0 rfl);obtain⟨hd,rfl,hn⟩:=hs.hd;exact k _ _ _ W' (h (hd,fe')) rfl st' fa.lasting
   exact h.elim
  exact h.elim
 ·next α i cut j xs m hm ys hne hg bytes h63 hby kk=>
  obtain⟨a1,a2,a3,h⟩:=h1;have hT : @ApOk P t (elT P t) α i.toShape bytes:=apOk a1 a2 (Nat.le_of_ble_eq_true a3);split at h
  ·next r h2 j2 b q=>
   split at h
   ·next l0 h2' hh1 a sz _ i' e h' xs' fe b' pre cs post e' hB hO hj=>
    obtain⟨rfl,rfl,rfl,rfl,b5,rfl,rfl,rfl,rfl,rfl,h⟩:=h;simp only[Dat.mk.injEq]at b5;obtain⟨rfl,b6,b7⟩:=b5;obtain⟨rfl,rfl⟩:=And.intro (eq_of_heq b6) (eq_of_heq b7);have hdv:h2.val=sliced h'.ao 0 m (cond cut m h'.cap) i.size:=by
     have:=fa _ (mO hB);cases l0<;>exact this
    rw[bS7]at hdv;have st1:=St.take (rs:=[]) (by simpa [Or,S.rs] using st) hO;have st3:St w0 W (Or (bJ s.O j)++[@Res.row _ i.toShape (elT P t) h'.val xs' fe]):=by
     rw[append_nil]at st1;exact st1.perm (perm_append_comm (l₁:=Or (bJ s.O j)) (l₂:=[@Res.row _ i.toShape (elT P t) h'.val xs' fe]))
    have st4:=st3.take hj;have st5:St w0 W (Or (bJ (bJ s.O j) j2)++[@Res.row _ i.toShape (elT P t) h'.val xs' fe,Res.bx b (cs.map Sc.val) e']):=by
     have:=st4;simp only[Ob.res,nil_append,append_nil]at this;exact this.perm (by
      refine(perm_append_comm (l₁:=Or (bJ (bJ s.O j) j2)) (l₂:=[@Res.row _ i.toShape (elT P t) h'.val xs' fe,Res.bx b (cs.map Sc.val) e'])).trans ((List.Perm.swap _ _ _).trans ?_);exact(perm_append_comm (l₁:=[@Res.row _ i.toShape (elT P t) h'.val xs' fe]) (l₂:=Or (bJ (bJ s.O j) j2))).cons _)
    refine eY h st5 fun O' fp hK st6=>?_
    have st7:St w0 W (@Res.row _ i.toShape (elT P t) h'.val xs' fe::Res.bx b (cs.map Sc.val) e'::Res.pc (cs.map Sc.val) (lvs i ys) fp::Or O'):=by
     refine st6.perm ((perm_append_comm (l₁:=[@Res.row _ i.toShape (elT P t) h'.val xs' fe,Res.bx b (cs.map Sc.val) e']) (l₂:=Res.pc (cs.map Sc.val) (lvs i ys) fp::Or O')).trans ?_);exact List.Perm.refl _
    have hpos:0<ys.length:=length_pos_iff.2 hne;cases cut with
    | true=>
     refine@stp_append_cut _ i.toShape _ _ _ _ _ _ _ _ _ _ _ _ _ _ _ _ _ _ _ xs' ys fe fp b ys.length m (cs.map Sc.val) e' _ hT (hx.trans hdv) hy rfl hpos hm st7 rfl (fun W h=>⟨rP i h.1 hg,h.2⟩) h63 hby fun v' fe' W' st'=>?_
     have hs := @jQ _ i.toShape _ _ _ _ _ (st'.get 0 rfl);obtain⟨hd,rfl,hn⟩:=hs.hd;exact k _ _ _ W' (hK (hd,fe')) rfl st' fa.lasting
    | false=>
     obtain⟨fe2,st8⟩ := @St.row_front _ i.toShape _ _ _ _ _ _ _ _ hm st7;have hl:(xs'.take m).length=m:=by rw[length_take];omega
     refine wJ i hT (hx.trans hdv) hy rfl hg st8 (by rw[hl];exact h63) (by rw[hl];exact hby) fun v' fe' W' st'=>?_
     have hs := @jQ _ i.toShape _ _ _ _ _ (st'.get 0 rfl);obtain⟨hd,rfl,hn⟩:=hs.hd;exact k _ _ _ W' (hK (hd,fe')) rfl st' fa.lasting
   exact h.elim
  exact h.elim
 exact h1.elim
end
end Go.Proofs.YtjihdmlkpkkpbaaGreat
namespace Go.Proofs.YtjihdmlkpkkpbaaGreat
set_option maxHeartbeats 1000000
set_option maxHeartbeats 2000000
open Go.RowKit Go.Proofs.Tryz List Go.Lib
theorem append_block_str {P:Program}{W W':World}{t u ty e:TypeId}{i:TypeInfo}(ht:P.underlying t=some (.slice e)) (hu:P.underlying u=some .string) (hi:P.info? e=some i) (hz:i.zero=some (.int .u8 0)) (hsize:i.size=1) (hby:i.bytes=1)
  {v v':Value}{n:Nat}{xs:List Value}(hown:W.ownsRow 0 e 1 v n xs) {s:ByteArray}(h63:n+s.size<=maxLen) (hbytes:n+s.size<=140737488355328) (hrun:(Builtin.append_ #[t,u] ty #[v,.string s]).run P W = .ok v' W') :
  ∀a,v'.ownBlock=some a->v.ownBlock=some a∨W.heap.size<=a:=by
 have hxl:xs.length=n:=by simpa using hown.1
 have hsmall:n+s.size<=9223372036854775807:=by simp only[maxLen]at h63;omega
 rcases hown.2 with⟨rfl,rfl⟩ | ⟨g,cap,cur,rfl,hbg,hg,hnc,hcm,hcs,htake⟩
 ·by_cases hm:s.size=0
  ·have hf:=run_firstCells_string (P:=P) W 1 s;rw[hm]at hf;have hr:(Builtin.append_ #[t,u] ty #[.slice none 0 0,.string s]).run P W = .ok (.slice none 0 0) W:=by
    simp[Builtin.append_,run_underlying ht,run_underlying hu,sizeOf,typeInfo,hi,hsize,Builtin.lenOf,hm,hf]
   rw[hr]at hrun
   injection hrun with h1 h2
   subst h1;intro a ha;simp[Value.ownBlock]at ha
  have hr:=run_append_nil_string (P:=P) W t u ty e i (.int .u8 0) ht hu hi hz s aA aA (by rw[hby];omega);rw[hr]at hrun
  injection hrun with h1 h2
  subst h1;intro a ha;simp[Value.ownBlock]at ha;omega
 by_cases hroom:n+s.size<=cap
 ·have hcs':cur.size=cap:=by simpa using hcs
  have hr:=run_append_room_string (P:=P) W t u ty e i ht hu hi hsize g n cap cur hg s hroom aA;rw[hr]at hrun
  injection hrun with h1 h2
  subst h1;intro a ha;exact .inl (by simpa [Value.ownBlock] using ha)
 have holds:∀j u,xs[j]? = some u->W.cell? ((⟨g,0,none⟩:Addr).add j)=some u:=hown.cells (g:=g) rfl;have hr:=run_append_grow_string (P:=P) W t u ty e i (.int .u8 0) ht hu hi hz ⟨g,0,none⟩ n cap xs (by rw[hsize];simpa using hxl) holds s aA aA (by rw[hby];exact growslice_fits aA aA);rw[hr]at hrun
 injection hrun with h1 h2
 subst h1;intro a ha;simp[Value.ownBlock]at ha;omega
section
variable {P:Program}{n:Nat}{f:Nat->Value}{w0 W:World}{rs:List Res}{Q:Exit->Act->World->Prop}{d:Option Tmp}{ty:TypeId}{pos:String}{af:Array Go.Edge}{g:Option (Nat×Bool)}{K:Value->World->Prop}
theorem stp_append_str {t t' e:TypeId}{s x:Operand}{v:Value}{xs:List UInt8}{b:ByteArray}(hT:ApOk P t e UInt8 1) (hu:P.underlying t'=some .string) (hz0:(P.info? e).bind (·.zero)=some (.int .u8 0)) (hs:ev n f s=v) (hx:ev n f x = .string b)
  (hst:St w0 W (Res.row e v xs []::rs)) (h63:xs.length+b.size<=maxLen) (hby:xs.length+b.size<=140737488355328)
  (k:∀v' W',St w0 W' (Res.row e v' (xs++b.data.toList) []::rs)->K v' W') :
  Stp P n ⟨d,.call { callee := .builtin .append,args := #[s,x],argTypes := #[t,t'] },ty,pos,af,g⟩ f W Q K:=by
 obtain⟨⟨cells,ho,he⟩,hw⟩:=hst.get 0 rfl;obtain⟨i,z,hi,hz,h1,h2,h3⟩:=hT.info;have hz1:i.zero=some (.int .u8 0):=by simpa [hi] using hz0
 have h1':i.size=1:=h1;obtain⟨v',W',hrun,ho',hg,_⟩:=run_append_own_string (P:=P) W 0 t t' ty e i hT.desc hu hi hz1 h1' h2 v xs.length cells ho b h63 hby (Nat.zero_le _);have hblk:=append_block_str hT.desc hu hi hz1 h1' h2 ho h63 hby hrun;refine Stp.run (v:=v') (W':=W') ?_ (k v' W' ?_)
 ·simp only[execOp,resolve,invoke,builtin,Sem.run_bind,Sem.run_pure,Result.andThen_ok,map_toArray,map_cons,map_nil,hs,hx,hrun]
 have hl:(xs++b.data.toList).length=xs.length+b.size:=by rw[length_append];rfl
 have hn:Elems W' (strCells b) b.data.toList []:=tZ b.data.toList;have hrow:(Res.row e v' (xs++b.data.toList) []).holds W':=by
  refine⟨⟨cells++strCells b,by rw[hl];exact ho',?_⟩,fun b hb=>by cases hb⟩;have:=(he.loc hg.size (fun b hb=>by cases hb)).append hn;simpa using this
 have hst2:St w0 W (Res.row e v xs []::rs):=hst;refine hst2.turn hg.os hg.tape hg.output hg.size (fun k hk hne=>hg.block k hk (fun e=>hne (by simp[Res.row,<- e]))) hrow ?_ ?_
 ·show (v'.ownBlock.toList++[]).Nodup;cases v'.ownBlock<;>simp
 intro c hc;have hc:c∈v'.ownBlock.toList++[]:=hc;rw[append_nil]at hc;have hc':v'.ownBlock=some c:=by simpa using hc
 rcases hblk c hc' with h | h
 ·exact .inl (by show c∈v.ownBlock.toList++[];simp[h])
 exact .inr h
end
section
variable {P:Program}{A:Type}{R:A->Prop}
def abT (P:Program) {A:Type}{R:A->Prop}(s:S) (t t':TypeId) (c u:Sc) (d:D P R) (K:SV->S->D P R->Tr):Tr:=
 match d with
 | .bs xs b _ _ k=>.e0 u.val (.string b)<|.e0 (P.underlying t') (some .string)<|.e0 ((P.info? (elT P t)).bind (·.zero)) (some (.int .u8 0)) <|
   bI4 P s t c (inferInstance:Shape UInt8) xs 1 fun j e O nx=>.fn fun g:Hd=>K (one (.rf j g)) ⟨s.E,(j,.row (inferInstance:Shape UInt8) e g (xs++b.data.toList) [])::O,lasting s.B,nx⟩ k
 | _=>.no
theorem abT_ok {w0 W:World}{s:S}{t t':TypeId}{x y:Operand}{c u:Sc}{dd:D P R}{K:SV->S->D P R->Tr}{n:Nat}{f:Nat->Value}{Q:Exit->Act->World->Prop}{KK:Value->World->Prop}{d:Option Tmp}{ty:TypeId}{pos:String}{af:Array Go.Edge}{g:Option (Nat×Bool)}
  (hx:ev n f x=c.val) (hy:ev n f y=u.val) (h:(abT P s t t' c u dd K).holds) (st:St w0 W s.rs) (fa:Facts w0 W s.B) (k:∀v s' d' W',(K v s' d').holds->s'.E=s.E->St w0 W' s'.rs->Facts w0 W' s'.B->KK v.val W') :
  Stp P n ⟨d,.call { callee := .builtin .append,args := #[x,y],argTypes := #[t,t'] },ty,pos,af,g⟩ f W Q KK:=by
 unfold abT at h;split at h
 ·next xs b h63 hby kk=>
  obtain⟨h1,h2,h3,h⟩:=h;refine uI h st fun j e O nx fe h hT st2=>?_
  have he:elT P t=e:=by unfold elT;rw[hT.desc]
  have hfe:fe=[]:=by
   obtain⟨⟨cells,_,he⟩,_⟩:=st2.get 0 rfl;have hp:∀{xs:List UInt8}{cells:List Value}{fp:List Nat},Elems W cells xs fp->fp=[]:=by
    intro xs
    induction xs with
    | nil=>exact fun h=>h.2
    | cons x xs ih=>
     rintro cells fp ⟨cs,rest,f1,f2,g1,g2,g3,g4⟩;have h5:f1=[]:=g2.2.1;rw[g4,h5,ih g3];rfl
   exact hp he
  subst hfe;refine stp_append_str hT h2 (by rw[<- he];exact h3) hx (hy.trans h1) st2 h63 hby fun v' W' st'=>?_
  have hs:=jQ (st'.get 0 rfl);obtain⟨hd,rfl,hn⟩:=hs.hd;exact k _ _ _ W' (h hd) rfl st' fa.lasting
 exact h.elim
end
end Go.Proofs.YtjihdmlkpkkpbaaGreat
namespace Go.Proofs.YtjihdmlkpkkpbaaGreat
set_option maxHeartbeats 1000000
set_option maxHeartbeats 2000000
open Go.RowKit Go.Proofs.Tryz List
section
variable {P:Program}{A:Type}{R:A->Prop}
theorem split3 (cs:List Sc) (o m:Nat):cs=cs.take o++((cs.drop o).take m++cs.drop (o+m)):=by
 rw[<- drop_drop,take_append_drop,take_append_drop]
def cmT (s:S) (lk:Operand->Option SV) (F:FuncId) (xs:List Operand) (d:D P R) (K:SV->S->D P R->Tr):Tr:=
 nrm d fun d=>match d with
  | .cm (ps:=ps) (i:=i) (x:=x) (R':=R') (y:=y) (rk:=rk) F' (fn:=fn) _ _ _ k=>.e0 F F'<|.e0 ((fn.name == "runtime.NumGoroutine") || fn.body.isNone) false<|opt (lkv lk xs) fun us=>match us with
   | .on (.ce (.pt j b q o))::us=>match lku s.O j with
    | some (.bx b' pre cs post t)=>.e0 b b'<|.e0 q pre.length<|.e0 (Nat.ble (o+(i.lv x).length) cs.length) true <|
      kO (bJ s.O j) ((cs.drop o).take (i.lv x).length) (i.lv x) fun O'=>lY ⟨[],[],lasting s.B,0⟩ us ps <|
      .fn fun a=>.fp (R' a) fun ha=>aK8 (i.lv (y a)) ⟨s.E,O',lasting s.B,s.nx⟩ fun scs s2=>.fp (lns (i.lv (y a))) fun hn=>rkb (rk a) ⟨s2.E,(j,.bx b' pre (cs.take o++(scs++cs.drop (o+(i.lv x).length))) post t)::s2.O,s2.B,s2.nx⟩ fun ts s3=>.fp (gds (rk a)) fun hg=>K (aP3 ts) s3 (k a ha hn hg)
    | _=>.no
   | _=>.no
  | _=>.no
theorem Facts.base {w0 W:World}:∀{B:List (Nat×Bool×Bo)},Facts w0 W B->Facts w0 w0 (Go.Proofs.YtjihdmlkpkkpbaaGreat.lasting B):=fun h=>h.lasting
theorem cmT_ok {w0 W:World}{s:S}{lk:Operand->Option SV}{F:FuncId}{xs:List Operand}{ats:Array TypeId}{dd:D P R}{K:SV->S->D P R->Tr}{n:Nat}{f:Nat->Value}{Q:Exit->Act->World->Prop}{KK:Value->World->Prop}{d:Option Tmp}{ty:TypeId}{pos:String}{af:Array Go.Edge}{g:Option (Nat×Bool)}
  (hl:∀x u,lk x=some u->ev n f x=u.val) (h:(cmT s lk F xs dd K).holds) (st:St w0 W s.rs) (fa:Facts w0 W s.B) (k:∀v s' d' W',(K v s' d').holds->s'.E=s.E->St w0 W' s'.rs->Facts w0 W' s'.B->KK v.val W'):Stp P n ⟨d,.call { callee := .value (.func F),args:=xs.toArray,argTypes:=ats },ty,pos,af,g⟩ f W Q KK:=by
 unfold cmT at h;refine dI h fun d' h1=>?_
 clear h;split at h1
 ·next ps α i x A' R' y rk F' fn hf hct hg kk=>
  obtain⟨rfl,ho,h1⟩:=h1;refine aH h1 fun us hus h2=>?_
  clear h1;split at h2
  ·next j b q o us'=>
   split at h2
   ·next b' pre cs post t hj=>
    obtain⟨rfl,rfl,hle,h3⟩:=h2;have st1:St w0 W (Or s.O++[]):=by simpa [Or,S.rs] using st
    have st2:=st1.take hj;have st3:St w0 W (Or (bJ s.O j)++[Res.bx b (pre++cs.map Sc.val++post) t]):=by
     have:St w0 W (Res.bx b (pre++cs.map Sc.val++post) t::(Or (bJ s.O j)++[])):=st2;rw[append_nil]at this;exact this.perm perm_append_comm
    refine eY h3 st3 fun O' fp h4 st4=>?_
    obtain⟨hp,h5⟩:=iN (s:=⟨[],[],lasting s.B,0⟩) (w0:=w0) (W:=w0) (St.start w0) fa.base h4 hg;have hlen:((cs.drop o).take (i.lv x).length).length=(i.lv x).length:=by
     have:=Nat.le_of_ble_eq_true hle;rw[length_take,length_drop];omega
    have hto:(cs.take o).length=o:=by
     have:=Nat.le_of_ble_eq_true hle;rw[length_take];omega
    have e1:pre++cs.map Sc.val++post=(pre++(cs.take o).map Sc.val)++((cs.drop o).take (i.lv x).length).map Sc.val++((cs.drop (o+(i.lv x).length)).map Sc.val++post):=by
     conv=>lhs;rw[split3 cs o (i.lv x).length]
     simp[map_append,append_assoc]
    have e2:(pre++(cs.take o).map Sc.val).length=pre.length+o:=by rw[length_append,length_map,hto]
    have st5:St w0 W (Res.bx b ((pre++(cs.take o).map Sc.val)++((cs.drop o).take (i.lv x).length).map Sc.val++((cs.drop (o+(i.lv x).length)).map Sc.val++post)) t::Res.pc (((cs.drop o).take (i.lv x).length).map Sc.val) (i.lv x) fp::Or O'):=by
     rw[<- e1];refine st4.perm ((perm_append_comm (l₁:=[Res.bx b (pre++cs.map Sc.val++post) t]) (l₂:=Res.pc (((cs.drop o).take (i.lv x).length).map Sc.val) (i.lv x) fp::Or O')).trans ?_);exact List.Perm.refl _
    have hc:=hct.run w0 W b _ _ t _ fp (us'.map SV.val) _ st5 hp;rw[e2]at hc;refine lB hf ho (kJ hl hus) (hc.mono ?_);rintro e W' ⟨a,vs,cs',fp',rr,ha,rfl,hr,st6⟩;have h6:=h5 a ha;have st7:St w0 W' (Res.pc cs' (i.lv (y a)) fp'::((Res.bx b ((pre++(cs.take o).map Sc.val)++cs'++((cs.drop (o+(i.lv x).length)).map Sc.val++post)) t::rr)++Or O')):=st6.swap;refine oW (s:=⟨s.E,O',lasting s.B,s.nx⟩) h6 st7 fun scs s2 h7 e3 e4 e5 _ st8 hn=>?_
    have h8:=h7 hn;have e9:(pre++(cs.take o).map Sc.val)++cs'++((cs.drop (o+(i.lv x).length)).map Sc.val++post)=pre++(cs.take o++(scs++cs.drop (o+(i.lv x).length))).map Sc.val++post:=by
     rw[<- e3];simp[map_append,append_assoc]
    have st9:St w0 W' (rr++S.rs ⟨s2.E,(j,.bx b pre (cs.take o++(scs++cs.drop (o+(i.lv x).length))) post t)::s2.O,s2.B,s2.nx⟩):=by
     rw[e9]at st8;exact st8.perm (perm_middle (a:=(Ob.bx b pre (cs.take o++(scs++cs.drop (o+(i.lv x).length))) post t).res) (l₁:=rr) (l₂:=s2.rs))
    refine mD h8 hr st9 fun ts s3 h9 e6 e7 e8 _ st10 hgd=>?_
    have fa3:Facts w0 W' s3.B:=by
     rw[e8];show Facts w0 W' s2.B;rw[e5];exact fa.lasting
    exact⟨_,rfl,by rw[<- e6,<- kY];exact k _ s3 _ W' (h9 hgd) (e7.trans e4) st10 fa3⟩
   exact h2.elim
  exact h2.elim
 exact h1.elim
def cvT (s:S) (lk:Operand->Option SV) (F:FuncId) (xs:List Operand) (d:D P R) (K:SV->S->D P R->Tr):Tr:=
 nrm d fun d=>match d with
  | .cv (i:=i) (code:=code) (ps:=ps) (c:=c) (R':=R') (y:=y) (rk:=rk) F' (fn:=fn) _ _ _ k=>.e0 F F'<|.e0 ((fn.name == "runtime.NumGoroutine") || fn.body.isNone) false<|opt (lkv lk xs) fun us=>match us with
   | .on (.ce (.pt j b q o))::us=>.e0 q 0<|.e0 o 0<|match lku s.O j with
    | some (.bx b' pre [.rf jj hd,c1,c2] post t)=>.e0 b b'<|.e0 pre []<|.e0 post []<|.e0 c1.val (I c.i)<|.e0 c2.val (I c.h)<|match vW s jj with
     | some (l,hd',dd)=>.e0 l true<|.e0 hd' hd<|.e1 dd ⟨i,code⟩<|lY ⟨[],[],lasting s.B,0⟩ us ps <|
       .fn fun a=>.fp (R' a) fun ha=>rkb (rk a) ⟨s.E,(j,.bx b' [] [.rf jj hd,.vl (I (y a).i),.vl (I (y a).h)] [] t)::bJ s.O j,lasting s.B,s.nx⟩ fun ts s3=>.fp (gds (rk a)) fun hg=>K (aP3 ts) s3 (k a ha hg)
     | none=>.no
    | _=>.no
   | _=>.no
  | _=>.no
theorem cvT_ok {w0 W:World}{s:S}{lk:Operand->Option SV}{F:FuncId}{xs:List Operand}{ats:Array TypeId}{dd:D P R}{K:SV->S->D P R->Tr}{n:Nat}{f:Nat->Value}{Q:Exit->Act->World->Prop}{KK:Value->World->Prop}{d:Option Tmp}{ty:TypeId}{pos:String}{af:Array Go.Edge}{g:Option (Nat×Bool)}
  (hl:∀x u,lk x=some u->ev n f x=u.val) (h:(cvT s lk F xs dd K).holds) (st:St w0 W s.rs) (fa:Facts w0 W s.B) (k:∀v s' d' W',(K v s' d').holds->s'.E=s.E->St w0 W' s'.rs->Facts w0 W' s'.B->KK v.val W'):Stp P n ⟨d,.call { callee := .value (.func F),args:=xs.toArray,argTypes:=ats },ty,pos,af,g⟩ f W Q KK:=by
 unfold cvT at h;refine dI h fun d' h1=>?_
 clear h;split at h1
 ·next i code ps c A' R' y rk F' fn hf hct hg kk=>
  obtain⟨rfl,ho,h1⟩:=h1;refine aH h1 fun us hus h2=>?_
  clear h1;split at h2
  ·next j b q o us'=>
   obtain⟨rfl,rfl,h2⟩:=h2;split at h2
   ·next b' pre jj hd c1 c2 post t hj=>
    obtain⟨rfl,rfl,rfl,e1,e2,h3⟩:=h2;split at h3
    ·next l hd' dd he=>
     obtain⟨rfl,rfl,rfl,h4⟩:=h3;obtain⟨fp,hsl⟩:=lF he st fa;have hsl : @Sl _ i w0 hd'.val code fp:=hsl;have st1:St w0 W (Or s.O++[]):=by simpa [Or,S.rs] using st
     have st2:St w0 W (Res.bx b [hd'.val,I c.i,I c.h] t::Or (bJ s.O j)):=by
      have this:St w0 W (Res.bx b [hd'.val,c1.val,c2.val] t::(Or (bJ s.O j)++[])):=st1.take hj;rw[append_nil,e1,e2]at this;exact this
     obtain⟨hp,h5⟩:=iN (s:=⟨[],[],lasting s.B,0⟩) (w0:=w0) (W:=w0) (St.start w0) fa.base h4 hg;have hc:=hct.run w0 W b t hd' fp (us'.map SV.val) _ hsl st2 hp;refine lB hf ho (kJ hl hus) (hc.mono ?_);rintro e W' ⟨a,vs,rr,ha,rfl,hr,st3⟩;have h6:=h5 a ha;have st4:St w0 W' (rr++S.rs ⟨s.E,(j,.bx b [] [.rf jj hd',.vl (I (y a).i),.vl (I (y a).h)] [] t)::bJ s.O j,lasting s.B,s.nx⟩):=by
      have:St w0 W' (Res.bx b [hd'.val,I (y a).i,I (y a).h] t::(rr++Or (bJ s.O j))):=st3;exact this.perm (perm_middle (a:=Res.bx b [hd'.val,I (y a).i,I (y a).h] t) (l₁:=rr) (l₂:=Or (bJ s.O j)))
     refine mD h6 hr st4 fun ts s3 h9 e6 e7 e8 _ st10 hgd=>?_
     have fa3:Facts w0 W' s3.B:=by
      rw[e8];exact fa.lasting
     exact⟨_,rfl,by rw[<- e6,<- kY];exact k _ s3 _ W' (h9 hgd) e7 st10 fa3⟩
    exact h3.elim
   exact h2.elim
  exact h2.elim
 exact h1.elim
def ctk:List (Nat×Ob)->List Sc->List Lr->(List (Nat×Ob)->Tr)->Tr
 | O,[],[],K=>K O
 | O,c::cs,.v x::ls,K=>.e0 c.val x (ctk O cs ls K)
 | O,c::cs,.o i xs::ls,K=>kO O [c] [.s _ i xs] fun O'=>ctk O' cs ls K
 | O,c::cs,.r i e xs::ls,K=>match c with
  | .rf j h=>match lku O j with
   | some (.row i' e' h' xs' _)=>.e0 e' e<|.e0 h h'<|.e1 (⟨i',xs'⟩:Dat) ⟨i,xs⟩ (ctk (bJ O j) cs ls K)
   | _=>.no
  | _=>.no
 | _,_,_,_=>.no
theorem aF8 {w0 W:World}:∀{cs:List Sc}{ls:List Lr}{O:List (Nat×Ob)}{K:List (Nat×Ob)->Tr}{rs:List Res},(ctk O cs ls K).holds->St w0 W (Or O++rs)->∃r O',(K O').holds/\LvR (cs.map Sc.val) ls r/\St w0 W (Or O'++(r++rs))
 | [],[],O,K,rs,h,st=>⟨[],O,h,rfl,st⟩
 | [],.v _::_,O,K,rs,h,st=>h.elim
 | [],.o _ _::_,O,K,rs,h,st=>h.elim
 | [],.r _ _ _::_,O,K,rs,h,st=>h.elim
 | _::_,[],O,K,rs,h,st=>h.elim
 | c::cs,.v x::ls,O,K,rs,h,st=>by
  obtain⟨h1,h2⟩:=h;obtain⟨r,O',hK,h3,h4⟩:=aF8 h2 st;exact⟨r,O',hK,⟨h1,h3⟩,h4⟩
 | c::cs,.o i xs::ls,O,K,rs,h,st=>by
  refine eY h st fun O' fp h' st'=>?_
  obtain⟨f1,f2,st2⟩:=St.s_pc st';obtain⟨r,O2,hK,h3,h4⟩:=aF8 h' (rs:=Res.own c.val xs f1::rs) (st2.d0.perm perm_middle);refine⟨Res.own c.val xs f1::r,O2,hK,⟨f1,r,rfl,h3⟩,?_⟩;exact h4.perm ((perm_middle (a:=Res.own c.val xs f1) (l₁:=r) (l₂:=rs)).symm.append_left (Or O2))
 | c::cs,.r i e xs::ls,O,K,rs,h,st=>by
  unfold ctk at h;split at h
  ·next j hd=>
   split at h
   ·next i' e' h' xs' fe hj=>
    obtain⟨rfl,rfl,h4,h5⟩:=h;simp only[Dat.mk.injEq]at h4;obtain⟨rfl,h6,h7⟩:=h4;obtain⟨rfl,rfl⟩:=And.intro (eq_of_heq h6) (eq_of_heq h7);obtain⟨r,O2,hK,h3,h8⟩:=aF8 h5 (rs:=Res.row e' hd.val xs' fe::rs) ((st.take hj).perm perm_middle);refine⟨Res.row e' hd.val xs' fe::r,O2,hK,⟨fe,r,rfl,h3⟩,?_⟩;exact h8.perm ((perm_middle (a:=Res.row e' hd.val xs' fe) (l₁:=r) (l₂:=rs)).symm.append_left (Or O2))
   ·exact h.elim
  ·exact h.elim
def coT (s:S) (lk:Operand->Option SV) (F:FuncId) (xs:List Operand) (d:D P R) (K:SV->S->D P R->Tr):Tr:=
 nrm d fun d=>match d with
  | .co (ps:=ps) (ow:=ow) (ag:=ag) (R':=R') (rk:=rk) F' (fn:=fn) _ _ _ k=>.e0 F F'<|.e0 ((fn.name == "runtime.NumGoroutine") || fn.body.isNone) false<|opt (lkv lk xs) fun us=>match ag,us with
   | true,.on (.ag l)::us=>ctk s.O l ow fun O'=>lY ⟨[],[],lasting s.B,0⟩ us ps<|.fn fun a=>.fp (R' a) fun ha=>rkb (rk a) ⟨s.E,O',lasting s.B,s.nx⟩ fun ts s3=>.fp (gds (rk a)) fun hg=>K (aP3 ts) s3 (k a ha hg)
   | false,.on (.ce c)::us=>ctk s.O [c] ow fun O'=>lY ⟨[],[],lasting s.B,0⟩ us ps<|.fn fun a=>.fp (R' a) fun ha=>rkb (rk a) ⟨s.E,O',lasting s.B,s.nx⟩ fun ts s3=>.fp (gds (rk a)) fun hg=>K (aP3 ts) s3 (k a ha hg)
   | _,_=>.no
  | _=>.no
theorem coT_ok {w0 W:World}{s:S}{lk:Operand->Option SV}{F:FuncId}{xs:List Operand}{ats:Array TypeId}{dd:D P R}{K:SV->S->D P R->Tr}{n:Nat}{f:Nat->Value}{Q:Exit->Act->World->Prop}{KK:Value->World->Prop}{d:Option Tmp}{ty:TypeId}{pos:String}{af:Array Go.Edge}{g:Option (Nat×Bool)}
  (hl:∀x u,lk x=some u->ev n f x=u.val) (h:(coT s lk F xs dd K).holds) (st:St w0 W s.rs) (fa:Facts w0 W s.B) (k:∀v s' d' W',(K v s' d').holds->s'.E=s.E->St w0 W' s'.rs->Facts w0 W' s'.B->KK v.val W'):Stp P n ⟨d,.call { callee := .value (.func F),args:=xs.toArray,argTypes:=ats },ty,pos,af,g⟩ f W Q KK:=by
 unfold coT at h;refine dI h fun d' h1=>?_
 clear h;split at h1
 ·next ps ow ag A' R' rk F' fn hf hct hg kk=>
  obtain⟨rfl,ho,h1⟩:=h1;refine aH h1 fun us hus h2=>?_
  clear h1;have key:∀{l:List Sc}{us':List SV}(hv:us.map SV.val=cond ag (.agg (l.map Sc.val).toArray) ((l.map Sc.val).headD undef)::us'.map SV.val) (h3:(ctk s.O l ow fun O'=>lY ⟨[],[],lasting s.B,0⟩ us' ps<|.fn fun a=>.fp (R' a) fun ha=>rkb (rk a) ⟨s.E,O',lasting s.B,s.nx⟩ fun ts s3=>.fp (gds (rk a)) fun hg=>K (aP3 ts) s3 (kk a ha hg)).holds),Stp P n ⟨d,.call { callee := .value (.func F),args:=xs.toArray,argTypes:=ats },ty,pos,af,g⟩ f W Q KK:=by
   intro l us' hv h3;have st1:St w0 W (Or s.O++[]):=by simpa [Or,S.rs] using st
   obtain⟨r,O',h4,hlv,st2⟩:=aF8 h3 st1;obtain⟨hp,h5⟩:=iN (s:=⟨[],[],lasting s.B,0⟩) (w0:=w0) (W:=w0) (St.start w0) fa.base h4 hg;have st3:St w0 W (r++Or O'):=by
    rw[append_nil]at st2;exact st2.perm perm_append_comm
   have hc:=hct.run w0 W _ r (us'.map SV.val) (Or O') hlv st3 hp;rw[<- hv]at hc;refine lB hf ho (kJ hl hus) (hc.mono ?_);rintro e W' ⟨a,vs,rr,ha,rfl,hr,st4⟩;refine mD (s:=⟨s.E,O',lasting s.B,s.nx⟩) (h5 a ha) hr st4 fun ts s3 h9 e6 e7 e8 _ st10 hgd=>?_
   have fa3:Facts w0 W' s3.B:=by
    rw[e8];exact fa.lasting
   exact⟨_,rfl,by rw[<- e6,<- kY];exact k _ s3 _ W' (h9 hgd) e7 st10 fa3⟩
  split at h2
  ·exact key rfl h2
  ·exact key rfl h2
  exact h2.elim
 exact h1.elim
def pwT (B:List (Nat×Bool×Bo)):List (Nat×Ob)->List SV->List Pw->(List (Nat×Ob)->Tr)->Tr
 | O,[],[],K=>K O
 | O,u::us,.bw p::ps,K=>lY ⟨[],[],lasting B,0⟩ [u] [p] (pwT B O us ps K)
 | O,.on (.ag l)::us,.ow i x::ps,K=>kO O l (i.lv x) fun O'=>pwT B O' us ps K
 | _,_,_,_=>.no
theorem pwT_ok {w0 W:World}{B:List (Nat×Bool×Bo)}(fa:Facts w0 W B):∀{us:List SV}{ps:List Pw}{O:List (Nat×Ob)}{K:List (Nat×Ob)->Tr}{rs:List Res},(pwT B O us ps K).holds->gpw ps->St w0 W (Or O++rs)->∃r O',(K O').holds/\PwAt w0 (us.map SV.val) ps r/\St w0 W (Or O'++(r++rs)):=by
 intro us
 induction us with
 | nil=>
  intro ps O K rs h hg st;cases ps with
  | nil=>exact⟨[],O,h,rfl,st⟩
  | cons p ps=>cases p<;>exact h.elim
 | cons u us ih=>
  intro ps O K rs h hg st;cases ps with
  | nil=>exact h.elim
  | cons p ps=>
   cases p with
   | bw p=>
    have h:(lY ⟨[],[],lasting B,0⟩ [u] [p] (pwT B O us ps K)).holds:=h;obtain⟨hp,h2⟩:=iN (s:=⟨[],[],lasting B,0⟩) (w0:=w0) (W:=w0) (St.start w0) fa.base h hg.1;obtain⟨r,O',hK,h3,h4⟩:=ih h2 hg.2 st;exact⟨r,O',hK,⟨hp.1,h3⟩,h4⟩
   | @ow α i x=>
    match u,h with
    | .on (.ag l),h=>
     have h:(kO O l (i.lv x) fun O'=>pwT B O' us ps K).holds:=h;refine eY h st fun O' fp h' st'=>?_
     obtain⟨r,O2,hK,h3,h4⟩:=ih (rs:=Res.pc (l.map Sc.val) (i.lv x) fp::rs) h' hg (st'.perm perm_middle);refine⟨Res.pc (l.map Sc.val) (i.lv x) fp::r,O2,hK,⟨_,fp,r,rfl,rfl,h3⟩,?_⟩;exact h4.perm (((perm_middle (a:=Res.pc (l.map Sc.val) (i.lv x) fp) (l₁:=r) (l₂:=rs)).symm).append_left (Or O2))
def cwT (s:S) (lk:Operand->Option SV) (F:FuncId) (xs:List Operand) (d:D P R) (K:SV->S->D P R->Tr):Tr:=
 nrm d fun d=>match d with
  | .cw (ps:=ps) (R':=R') (rk:=rk) F' (fn:=fn) _ _ _ k=>.e0 F F'<|.e0 ((fn.name == "runtime.NumGoroutine") || fn.body.isNone) false<|opt (lkv lk xs) fun us=>
    pwT s.B s.O us ps fun O'=>.fn fun a=>.fp (R' a) fun ha=>rkb (rk a) ⟨s.E,O',lasting s.B,s.nx⟩ fun ts s3=>.fp (gds (rk a)) fun hg=>K (aP3 ts) s3 (k a ha hg)
  | _=>.no
theorem cwT_ok {w0 W:World}{s:S}{lk:Operand->Option SV}{F:FuncId}{xs:List Operand}{ats:Array TypeId}{dd:D P R}{K:SV->S->D P R->Tr}{n:Nat}{f:Nat->Value}{Q:Exit->Act->World->Prop}{KK:Value->World->Prop}{d:Option Tmp}{ty:TypeId}{pos:String}{af:Array Go.Edge}{g:Option (Nat×Bool)}
  (hl:∀x u,lk x=some u->ev n f x=u.val) (h:(cwT s lk F xs dd K).holds) (st:St w0 W s.rs) (fa:Facts w0 W s.B) (k:∀v s' d' W',(K v s' d').holds->s'.E=s.E->St w0 W' s'.rs->Facts w0 W' s'.B->KK v.val W'):Stp P n ⟨d,.call { callee := .value (.func F),args:=xs.toArray,argTypes:=ats },ty,pos,af,g⟩ f W Q KK:=by
 unfold cwT at h;refine dI h fun d' h1=>?_
 clear h;split at h1
 ·next ps A' R' rk F' fn hf hct hg kk=>
  obtain⟨rfl,ho,h1⟩:=h1;refine aH h1 fun us hus h2=>?_
  clear h1;have st1:St w0 W (Or s.O++[]):=by simpa [Or,S.rs] using st
  obtain⟨r,O',h4,hlv,st2⟩:=pwT_ok fa h2 hg st1;have st3:St w0 W (r++Or O'):=by
   rw[append_nil]at st2;exact st2.perm perm_append_comm
  refine lB hf ho (kJ hl hus) ((hct.run w0 W (us.map SV.val) r (Or O') hlv st3).mono ?_);rintro e W' ⟨a,vs,rr,ha,rfl,hr,st4⟩;refine mD (s:=⟨s.E,O',lasting s.B,s.nx⟩) (h4 a ha) hr st4 fun ts s3 h9 e6 e7 e8 _ st10 hgd=>?_
  have fa3:Facts w0 W' s3.B:=by
   rw[e8];exact fa.lasting
  exact⟨_,rfl,by rw[<- e6,<- kY];exact k _ s3 _ W' (h9 hgd) e7 st10 fa3⟩
 exact h1.elim
theorem St.lendG {α:Type}(i:Dsh α) (hp:Nat.ble 1 i.size=true) {w0 W:World}{rs:List Res}{v:Value}{xs:List α}{fp:List Nat}(h:St w0 W (@Res.own (List α) (@instShapeList α i.toShape) _ v xs fp::rs)) {n:Nat}{x:α}(hi:xs[n]? = some x) :
  ∃b e pre cs post fi fr,i.good x/\St w0 W (Res.pc cs (i.lv x) fi::(Res.bx b (pre++cs++post) e :: @Res.rest α i.toShape v b pre post xs n fr::rs)):=by
 obtain⟨b,e,pre,cs,post,fi,fr,_,hc,st⟩:=St.lendx (Nat.le_of_ble_eq_true hp) h hi;obtain⟨st2,hg⟩:=St.cs_pc i st.f1;exact⟨b,e,pre,cs,post,fi,fr,hg,st2⟩
theorem St.giveG {α:Type}(i:Dsh α) {w0 W:World}{rs:List Res}{v:Value}{xs:List α}{b n:Nat}{e:TypeId}{pre cs post:List Value}{y:α}{fi fr:List Nat}(hg:i.good y)
  (h:St w0 W (Res.pc cs (i.lv y) fi::(Res.bx b (pre++cs++post) e :: @Res.rest α i.toShape v b pre post xs n fr::rs))):∃fp,St w0 W (@Res.own (List α) (@instShapeList α i.toShape) _ v (xs.set n y) fp::rs):=
 St.give (St.pc_cs i h hg).swap
def leT {α:Type}(i:Dsh α) (j:Nat) (xs:List α) (n:Nat) (x:α) (s:S) (K:i.good x->S->Tr):Tr:=
 match lku s.O j with
 | some (.own i' h xs' _)=>.e1 (⟨i',xs'⟩:Dat) ⟨i.toShape,xs⟩<|.e0 (Nat.ble 1 i.size) true<|.fn fun G:(Nat×TypeId×List Value)×(List Value×List Nat)=>
   aK8 (i.lv x) ⟨s.E,(j,.rs i.toShape h G.1.1 G.1.2.2 G.2.1 xs n G.2.2 s.nx)::bJ s.O j,s.B,s.nx+1⟩ fun scs s2=>.fp (i.good x) fun hg=>K hg ⟨s2.E,(s.nx,.bx G.1.1 G.1.2.2 scs G.2.1 G.1.2.1)::s2.O,s2.B,s2.nx⟩
 | _=>.no
theorem leT_ok {G:Prop}{α:Type}{i:Dsh α}{j:Nat}{xs:List α}{n:Nat}{x:α}(hx:xs[n]? = some x) {s:S}{K:i.good x->S->Tr}{w0 W:World}{f:Nat->Value}(h:(leT i j xs n x s K).holds) (den:Den w0 s f W)
  (k:∀hg s',(K hg s').holds->Den w0 s' f W->G):G:=by
 unfold leT at h;split at h
 ·next i' h' xs' fp hj=>
  obtain⟨h1,h2,h3⟩:=h;simp only[Dat.mk.injEq]at h1;obtain⟨rfl,h5,h6⟩:=h1;obtain⟨rfl,rfl⟩:=And.intro (eq_of_heq h5) (eq_of_heq h6);have st1:St w0 W (Or s.O++[]):=by simpa [Or,S.rs] using den.st
  obtain⟨b,e,pre,cs,post,fi,fr,hg,st2⟩:=St.lendG i h2 (st1.take hj) hx;rw[append_nil]at st2;refine oW (rs:=[Res.bx b (pre++cs++post) e]) (h3 ((b,e,pre),(post,fr))) st2 fun scs s2 h4 e1 e2 e3 _ st3 hn=>k hg _ (h4 hg) ⟨by rw[e2];exact den.fr,?_,by rw[e3];exact den.fa⟩
  rw[<- e1]at st3;exact st3
 exact h.elim
def giT {α:Type}(i:Dsh α) (j:Nat) (xs:List α) (y:α) (s:S) (K:S->Tr):Tr:=
 match lku s.O j with
 | some (.rs i' h b pre post xs' n _ r)=>.e1 (⟨i',xs'⟩:Dat) ⟨i.toShape,xs⟩<|match lku (bJ s.O j) r with
  | some (.bx b' pre' cs post' _)=>.e0 b' b<|.e0 pre' pre<|.e0 post' post<|kO (bJ (bJ s.O j) r) cs (i.lv y) fun O'=>.fn fun fp:List Nat=>K ⟨s.E,(j,.own i.toShape h (xs.set n y) fp)::O',s.B,s.nx⟩
  | _=>.no
 | _=>.no
theorem giT_ok {G:Prop}{α:Type}{i:Dsh α}{j:Nat}{xs:List α}{y:α}(hy:i.good y) {s:S}{K:S->Tr}{w0 W:World}{f:Nat->Value}(h:(giT i j xs y s K).holds) (den:Den w0 s f W)
  (k:∀s',(K s').holds->Den w0 s' f W->G):G:=by
 unfold giT at h;split at h
 ·next i' h' b pre post xs' n fr r hj=>
  obtain⟨h1,h2⟩:=h;simp only[Dat.mk.injEq]at h1;obtain⟨rfl,h5,h6⟩:=h1;obtain⟨rfl,rfl⟩:=And.intro (eq_of_heq h5) (eq_of_heq h6);split at h2
  ·next b' pre' cs post' t hr=>
   obtain⟨rfl,rfl,rfl,h3⟩:=h2;have st1:St w0 W (Or s.O++[]):=by simpa [Or,S.rs] using den.st
   have st2:=st1.take hj;have st3:St w0 W (Or (bJ s.O j)++[@Res.rest _ i.toShape h'.val b' pre' post' xs' n fr]):=by
    refine st2.perm ?_;rw[append_nil];exact perm_append_comm (l₁:=Or (bJ s.O j)) (l₂:=[_])
   have st4:=st3.take hr;have st5:St w0 W (Or (bJ (bJ s.O j) r)++[Res.bx b' (pre'++cs.map Sc.val++post') t,@Res.rest _ i.toShape h'.val b' pre' post' xs' n fr]):=
    st4.perm (perm_middle (a:=Res.bx b' (pre'++cs.map Sc.val++post') t))
   refine eY h3 st5 fun O' fp h4 st6=>?_
   have st7:St w0 W (Res.pc (cs.map Sc.val) (i.lv y) fp::(Res.bx b' (pre'++cs.map Sc.val++post') t :: @Res.rest _ i.toShape h'.val b' pre' post' xs' n fr::Or O')):=
    st6.perm ((perm_append_comm (l₁:=[Res.bx b' (pre'++cs.map Sc.val++post') t,@Res.rest _ i.toShape h'.val b' pre' post' xs' n fr]) (l₂:=Or O')).cons _)
   obtain⟨fp2,st8⟩:=St.giveG i hy st7;exact k _ (h4 fp2) ⟨den.fr,st8,den.fa⟩
  exact h2.elim
 exact h.elim
end
end Go.Proofs.YtjihdmlkpkkpbaaGreat
