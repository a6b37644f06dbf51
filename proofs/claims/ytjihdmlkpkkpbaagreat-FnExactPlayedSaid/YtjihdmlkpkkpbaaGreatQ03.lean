/-
  Whole regions, whole bodies. Theory alone.
  A region that draws its order, some operations of which take what is the call's own, and make it: each is shown once, whatever else has come.
  A region that draws its order, read: what only reads may be done whenever; what makes memory, calls or writes has all else ahead of it or behind it. Theory alone.
  A region that draws its order, all orders of what writes being read one by one: for regions in which nothing bars the rest. Theory alone.
  Whole bodies; what a function is handed, and what it hands back. Theory alone.
  A function's contract, of what is told of its walk. Theory alone.
  How data stand, cell by cell.
  What is told of a walk, in short. Theory alone.
  Bytes of strings, parts of strings, bytes compared, as hooks. Theory alone.
  What the walks of the helpers share.
  The laws' copies, told to the reader.
  The laws' measures, told to the reader.
  The laws' comparisons.
  markText.
  The laws' marks: what is written.
  Bits of small numbers: or, and, shifts.
-/
import Derived.Lib.QuoteBits
import Derived.Test.YtjihdmlkpkkpbaaGreatQ01
import Derived.Test.YtjihdmlkpkkpbaaGreatQ02
universe u
set_option linter.unusedSimpArgs false
set_option linter.unusedVariables false
namespace Go.Proofs.YtjihdmlkpkkpbaaGreat
set_option maxHeartbeats 1000000
set_option maxHeartbeats 2000000
open Go.RowKit Go.Proofs.Tryz List

section
variable {P:Program}{A:Type}{R:A->Prop}
def opd (n:Nat) (s:S):Operand->Option SV
 | .tmp t=>cond (Nat.ble (t+1) n) (lku s.E t) none
 | .const v=>some (one (.vl v))
 | .global _=>none
 | .func g=>some (one (.vl (.func (.func g) #[] #[])))
theorem cC9 {n:Nat}{s:S}{f:Nat->Value}(h:Fr s.E f) (x:Operand) (u:SV) (e:opd n s x=some u):ev n f x=u.val:=by
 cases x with
 | tmp t=>
  simp only[opd]at e;cases hb:Nat.ble (t+1) n with
  | true=>rw[hb]at e;simp only[ev,hb,cond_true];exact h t u e
  | false=>rw[hb]at e;cases e
 | const v=>simp only[opd,Option.some.injEq]at e;subst e;rfl
 | global g=>cases e
 | func g=>simp only[opd,Option.some.injEq]at e;subst e;rfl
def reT {α:Type}(i:Shape α) (r j:Nat) (xs:List α) (n:Nat) (s:S) (K:S->Tr):Tr:=
 match lku s.B (r+2000000),vW s j with
 | some (_,.dv h2 h1 a sz),some (l,h',d)=>.e0 h1 ⟨h'.ao,n,h'.cap⟩<|.e0 a 0<|.e0 sz i.size<|.e1 d ⟨i,xs⟩<|.fn fun fp:List Nat=>K ⟨s.E,s.O,(r,l,.sl i h2 (xs.take n) fp)::s.B,s.nx⟩
 | _,_=>.no
theorem cV4 {G:Prop}{α:Type}{i:Shape α}{r j:Nat}{xs:List α}{n:Nat}{s:S}{K:S->Tr}{w0 W:World}(h:(reT i r j xs n s K).holds) (hn:n<=xs.length) (st:St w0 W s.rs) (fa:Facts w0 W s.B)
  (k:∀s',(K s').holds->s'.E=s.E->s'.O=s.O->Facts w0 W s'.B->G):G:=by
 unfold reT at h;split at h
 ·next l0 h2 h1 a sz l h' d hB hS=>
  obtain⟨rfl,rfl,rfl,rfl,h3⟩:=h;have hdv:=fa _ (mO hB);have hdv:h2.val=sliced h'.ao 0 n h'.cap i.size:=by
   cases l0<;>exact hdv
  obtain⟨fp,hs⟩:=lF hS st fa;obtain⟨u,g,hs',hu,_⟩:=slq_h hs hn;refine k _ (h3 g) rfl rfl fun e he=>?_
  rcases mem_cons.1 he with rfl | he
  ·show Sl _ h2.val _ _;rw[hdv,<- hu _ _ _ rfl];exact hs'
  exact fa e he
 exact h.elim
def prp:D P R->S->(S->D P R->Tr)->Tr
 | .ex (p:=p) _ k,s,K=>.fn fun x=>.fp (p x) fun hx=>prp (k x hx) s K
 | .oc (p:=p) (q:=q) _ a b,s,K=>.an (.fp p fun h=>prp (a h) s K) (.fp q fun h=>prp (b h) s K)
 | .ab _,_,_=>.ok
 | .rw i j xs ys _ k,s,K=>match lku s.O j with
  | some (.own i' h xs' fp)=>.e1 (⟨i',xs'⟩:Dat) ⟨i,xs⟩ (prp k ⟨s.E,(j,.own i h ys fp)::bJ s.O j,s.B,s.nx⟩ K)
  | some (.row i' e h xs' fe)=>.e1 (⟨i',xs'⟩:Dat) ⟨i,xs⟩ (prp k ⟨s.E,(j,.row i e h ys fe)::bJ s.O j,s.B,s.nx⟩ K)
  | _=>.no
 | .rv t x (y:=y) _ k,s,K=>match lku s.E t with
  | some v=>.e0 v.val y (prp k ⟨(t,one (.vl x))::s.E,s.O,s.B,s.nx⟩ K)
  | none=>.no
 | .rd i r j xs n _ k,s,K=>match lku s.B (r+2000000),vW s j with
  | some (_,.dv h2 h1 a sz),some (l,h',d)=>.e0 h' h1<|.e0 a n<|.e0 sz i.size<|.e1 d ⟨i,xs⟩<|.fn fun fp:List Nat=>prp k ⟨s.E,s.O,(r,l,.sl i h2 (xs.drop n) fp)::s.B,s.nx⟩ K
  | _,_=>.no
 | .re i r j xs n _ k,s,K=>reT i r j xs n s fun s=>prp k s K
 | .li i t ys hne hl hg k,s,K=>match lku s.E t with
  | some (.on (.ce (.lt j b n)))=>match lku s.O j with
   | some (.bx b' pre cs post _)=>.e0 b b'<|.e0 pre []<|.e0 post []<|.e0 n ys.length<|kO (bJ s.O j) cs (lvs i ys) fun O'=>.fn fun fp:List Nat=>
     prp k ⟨(t,one (.rf j ⟨some ⟨b,0,none⟩,ys.length,ys.length⟩))::s.E,(j,.own i.toShape ⟨some ⟨b,0,none⟩,ys.length,ys.length⟩ ys (b::fp))::O',s.B,s.nx⟩ K
   | _=>.no
  | _=>K s (.li i t ys hne hl hg k)
 | .lr i hp t ys hl hg k,s,K=>match lku s.E t with
  | some (.on (.ce (.lt j b n)))=>match lku s.O j with
   | some (.bx b' pre cs post te)=>.e0 b b'<|.e0 pre []<|.e0 post []<|.e0 n ys.length<|kO (bJ s.O j) cs (lvs i ys) fun O'=> 
     prp k ⟨(t,one (.rf j ⟨some ⟨b,0,none⟩,ys.length,ys.length⟩))::s.E,(j,.row i.toShape te ⟨some ⟨b,0,none⟩,ys.length,ys.length⟩ ys [])::O',s.B,s.nx⟩ K
   | _=>.no
  | _=>K s (.lr i hp t ys hl hg k)
 | .lj i r o ys hne hl hg k,s,K=>match lku s.O r with
  | some (.bx b0 pre0 cs0 post0 t0)=>match cs0[o]? with
   | some (.lt j b n)=>match lku (bJ s.O r) j with
    | some (.bx b' pre cs post _)=>.e0 b b'<|.e0 pre []<|.e0 post []<|.e0 n ys.length<|kO (bJ (bJ s.O r) j) cs (lvs i ys) fun O'=>.fn fun fp:List Nat=>
      prp k ⟨s.E,(j,.own i.toShape ⟨some ⟨b,0,none⟩,ys.length,ys.length⟩ ys (b::fp))::(r,.bx b0 pre0 (cs0.set o (.rf j ⟨some ⟨b,0,none⟩,ys.length,ys.length⟩)) post0 t0)::O',s.B,s.nx⟩ K
    | _=>.no
   | _=>.no
  | _=>.no
 | .sh j k,s,K=>match lku s.O j with
  | some (.row i _ h xs _)=>.fn fun fp:List Nat=>prp k ⟨s.E,(j,.own i h xs fp)::bJ s.O j,s.B,s.nx⟩ K
  | _=>.no
 | .r0 i e k,s,K=>prp k ⟨s.E,(s.nx,.row i e ⟨none,0,0⟩ [] [])::s.O,s.B,s.nx+1⟩ K
 | .rn i e t k,s,K=>match lku s.E t with
  | some (.on (.ce (.vl (.slice none 0 0))))=>prp k ⟨(t,one (.rf s.nx ⟨none,0,0⟩))::s.E,(s.nx,.row i e ⟨none,0,0⟩ [] [])::s.O,s.B,s.nx+1⟩ K
  | _=>K s (.rn i e t k)
 | .le i j xs n x hx k,s,K=>match lku s.O j with
  | some _=>leT i j xs n x s fun hg s=>prp (k hg) s K
  | none=>K s (.le i j xs n x hx k)
 | .gi i j xs y _ k,s,K=>giT i j xs y s fun s=>prp k s K
 | .wt t k,s,K=>match lku s.E t with
  | some _=>prp k s K
  | none=>K s (.wt t k)
 | .hx j k,s,K=>match vW s j with
  | some (_,h,_)=>prp (k h) s K
  | none=>.no
 | .w1 k,s,K=>K s k
 | .zr j k,s,K=>match lku s.O j with
  | some (.rz i e h xs fe _ z fz)=>prp k ⟨s.E,(j,.row i.toShape e h (xs++[z]) (fe++fz))::bJ s.O j,s.B,s.nx⟩ K
  | _=>.no
 | .lq t j k,s,K=>match lku s.E t with
  | some (.on (.ce (.pt m b1 k1 o)))=>match lku s.B m,lku s.O j with
   | some (_,.el h z n b k0 _),some (.rs i h' b' pre _ _ n' _ r)=>.e0 h h'<|.e0 n n'<|.e0 z i.size<|.e0 b1 b<|.e0 k1 k0<|prp k ⟨(t,one (.pt r b' pre.length o))::s.E,s.O,s.B,s.nx⟩ K
   | _,_=>.no
  | _=>.no
 | .rc t c j k,s,K=>match lku s.E t,vW s j with
  | some (.on (.ag cs)),some (_,h,_)=>match cs[c]? with
   | some x=>.e0 x.val h.val (prp k ⟨(t,.on (.ag (cs.set c (.rf j h))))::s.E,s.O,s.B,s.nx⟩ K)
   | none=>.no
  | _,_=>.no
 | .rb r c j k,s,K=>match lku s.O r,vW s j with
  | some (.bx b pre cs post t),some (_,h,_)=>match cs[c]? with
   | some x=>.e0 x.val h.val (prp k ⟨s.E,(r,.bx b pre (cs.set c (.rf j h)) post t)::bJ s.O r,s.B,s.nx⟩ K)
   | none=>.no
  | _,_=>.no
 | d,s,K=>K s d
theorem aK3 {cs:List Sc}{c:Nat}{x y:Sc}(hx:cs[c]? = some x) (e:x.val=y.val):(cs.set c y).map Sc.val=cs.map Sc.val:=by
 obtain⟨hlt,ho⟩:=gsi_.1 hx;have hs:cs.map Sc.val=(cs.map Sc.val).set c ((cs.map Sc.val)[c]'(by simpa using hlt)):=(set_getElem_self _).symm;rw[hs,map_set];congr 1;rw[getElem_map,ho,e]
theorem iS {G:Prop}{w0:World}{f:Nat->Value}{W:World}:∀{d:D P R}{s:S}{K:S->D P R->Tr},(prp d s K).holds->Den w0 s f W->(∀s' d',(K s' d').holds->Den w0 s' f W->G)->G:=by
 intro d
 induction d with
 | ex h k ih=>
  intro s K hh den kk;obtain⟨x,hx⟩:=h;exact ih x hx (hh x hx) den kk
 | oc h a b iha ihb=>
  intro s K hh den kk;rcases h with h | h
  ·exact iha h (hh.1 h) den kk
  exact ihb h (hh.2 h) den kk
 | ab h=>exact fun _ _ _=>h.elim
 | rw i j xs ys he k ih=>
  intro s K hh den kk;subst he;unfold prp at hh;split at hh
  ·next i' h xs' fp hj=>
   obtain⟨h4,hh⟩:=hh;simp only[Dat.mk.injEq]at h4;obtain⟨rfl,h5,h6⟩:=h4;obtain⟨rfl,rfl⟩:=And.intro (eq_of_heq h5) (eq_of_heq h6);refine ih hh ⟨den.fr,?_,den.fa⟩ kk;have:=St.take (rs:=[]) (by simpa [Or,S.rs] using den.st) hj;simpa [Or,S.rs] using this
  ·next i' te h xs' fp hj=>
   obtain⟨h4,hh⟩:=hh;simp only[Dat.mk.injEq]at h4;obtain⟨rfl,h5,h6⟩:=h4;obtain⟨rfl,rfl⟩:=And.intro (eq_of_heq h5) (eq_of_heq h6);refine ih hh ⟨den.fr,?_,den.fa⟩ kk;have:=St.take (rs:=[]) (by simpa [Or,S.rs] using den.st) hj;simpa [Or,S.rs] using this
  exact hh.elim
 | rv t x he k ih=>
  intro s K hh den kk;subst he;unfold prp at hh;split at hh
  ·next v hv=>
   obtain⟨h1,hh⟩:=hh;exact ih hh ⟨den.fr.know t _ ((den.fr t v hv).trans h1),den.st,den.fa⟩ kk
  exact hh.elim
 | rd i r j xs n hn k ih=>
  intro s K hh den kk;unfold prp at hh;split at hh
  ·next l0 h2 h1 a sz l h' d hB hS=>
   obtain⟨rfl,rfl,rfl,rfl,h3⟩:=hh;have hdv:=den.fa _ (mO hB);have hdv:h2.val=sliced h'.ao a h'.n h'.cap i.size:=by
    cases l0<;>exact hdv
   obtain⟨fp,hs⟩:=lF hS den.st den.fa;obtain⟨g,hs',_⟩:=cU0 hs hn;refine ih (h3 g) ⟨den.fr,den.st,fun e he=>?_⟩ kk;rcases mem_cons.1 he with rfl | he
   ·show Sl _ h2.val _ _;rw[hdv];exact hs'
   exact den.fa e he
  exact hh.elim
 | re i r j xs n hn k ih=>
  intro s K hh den kk;unfold prp at hh;exact cV4 hh hn den.st den.fa fun s' h e1 e2 fa=>ih h ⟨by rw[e1];exact den.fr,by rw[S.rs,e2];exact den.st,fa⟩ kk
 | li i t ys hne hl hg k ih=>
  intro s K hh den kk;unfold prp at hh;split at hh
  ·next j b n hE=>
   split at hh
   ·next b' pre cs post t' hj=>
    obtain⟨rfl,rfl,rfl,rfl,h3⟩:=hh;have st1:St w0 W (Or s.O++[]):=by simpa [Or,S.rs] using den.st
    have st2:=st1.take hj;have st3:St w0 W (Or (bJ s.O j)++[Res.bx b (cs.map Sc.val) t']):=by
     have h4:St w0 W (Res.bx b ([]++cs.map Sc.val++[]) t'::(Or (bJ s.O j)++[])):=st2;rw[append_nil,append_nil,nil_append]at h4;exact h4.perm (perm_append_comm (l₁:=Or (bJ s.O j)) (l₂:=[_]))
    refine eY h3 st3 fun O' fp h5 st4=>?_
    have st5:St w0 W (Res.bx b (cs.map Sc.val) t'::Res.pc (cs.map Sc.val) (lvs i ys) fp::Or O'):=by
     refine st4.perm ((List.Perm.swap _ _ _).trans ?_);exact(perm_append_comm (l₁:=[Res.bx b (cs.map Sc.val) t']) (l₂:=Or O')).cons _
    have st6:=St.lit i hne (Nat.le_trans hl fL) hg st5;refine ih (h5 fp) ⟨?_,st6,den.fa⟩ kk;have e:=den.fr t _ hE;exact den.fr.know t _ e
   exact hh.elim
  exact kk _ _ hh den
 | lr i hp t ys hl hg k ih=>
  intro s K hh den kk;unfold prp at hh;split at hh
  ·next j b n hE=>
   split at hh
   ·next b' pre cs post t' hj=>
    obtain⟨rfl,rfl,rfl,rfl,h3⟩:=hh;have st1:St w0 W (Or s.O++[]):=by simpa [Or,S.rs] using den.st
    have st2:=st1.take hj;have st3:St w0 W (Or (bJ s.O j)++[Res.bx b (cs.map Sc.val) t']):=by
     have h4:St w0 W (Res.bx b ([]++cs.map Sc.val++[]) t'::(Or (bJ s.O j)++[])):=st2;rw[append_nil,append_nil,nil_append]at h4;exact h4.perm (perm_append_comm (l₁:=Or (bJ s.O j)) (l₂:=[_]))
    refine eY h3 st3 fun O' fp h5 st4=>?_
    have st5:St w0 W (Res.bx b (cs.map Sc.val) t'::Res.pc (cs.map Sc.val) (lvs i ys) fp::Or O'):=by
     refine st4.perm ((List.Perm.swap _ _ _).trans ?_);exact(perm_append_comm (l₁:=[Res.bx b (cs.map Sc.val) t']) (l₂:=Or O')).cons _
    have st6:=St.litrow i hp hl hg st5;refine ih h5 ⟨?_,st6,den.fa⟩ kk;have e:=den.fr t _ hE;exact den.fr.know t _ e
   exact hh.elim
  exact kk _ _ hh den
 | lj i r o ys hne hl hg k ih=>
  intro s K hh den kk;unfold prp at hh;split at hh
  ·next b0 pre0 cs0 post0 t0 hr=>
   split at hh
   ·next j b n ho=>
    split at hh
    ·next b' pre cs post t' hj=>
     obtain⟨rfl,rfl,rfl,rfl,h3⟩:=hh;have st1:St w0 W (Or s.O++[]):=by simpa [Or,S.rs] using den.st
     have st2:=st1.take hr;have st3:St w0 W (Or (bJ s.O r)++[(Ob.bx b0 pre0 cs0 post0 t0).res]):=by
      rw[append_nil]at st2;exact st2.perm (perm_append_comm (l₁:=Or (bJ s.O r)) (l₂:=[_]))
     have st4:=st3.take hj;have st5:St w0 W (Or (bJ (bJ s.O r) j)++[Res.bx b (cs.map Sc.val) t',(Ob.bx b0 pre0 cs0 post0 t0).res]):=by
      have h4:St w0 W (Res.bx b ([]++cs.map Sc.val++[]) t'::(Or (bJ (bJ s.O r) j)++[(Ob.bx b0 pre0 cs0 post0 t0).res])):=st4;rw[append_nil,nil_append]at h4;exact h4.perm (perm_middle (a:=Res.bx b (cs.map Sc.val) t') (l₁:=Or (bJ (bJ s.O r) j)) (l₂:=[(Ob.bx b0 pre0 cs0 post0 t0).res]))
     refine eY h3 st5 fun O' fp h5 st6=>?_
     have st7:St w0 W (Res.bx b (cs.map Sc.val) t'::Res.pc (cs.map Sc.val) (lvs i ys) fp::((Ob.bx b0 pre0 cs0 post0 t0).res::Or O')):=by
      refine st6.perm ((List.Perm.swap _ _ _).trans ?_);exact(perm_append_comm (l₁:=[Res.bx b (cs.map Sc.val) t',(Ob.bx b0 pre0 cs0 post0 t0).res]) (l₂:=Or O')).cons _
     have st8:=St.lit i hne (Nat.le_trans hl fL) hg st7;have e:(Ob.bx b0 pre0 cs0 post0 t0).res=(Ob.bx b0 pre0 (cs0.set o (.rf j ⟨some ⟨b,0,none⟩,ys.length,ys.length⟩)) post0 t0).res:=by
      simp only[Ob.res];congr 2;obtain⟨hlt,ho⟩:=gsi_.1 ho;have hs:cs0.map Sc.val=(cs0.map Sc.val).set o ((cs0.map Sc.val)[o]'(by simpa using hlt)):=(set_getElem_self _).symm;rw[hs,map_set];congr 1;rw[getElem_map,ho];rfl
     rw[e]at st8;exact ih (h5 fp) ⟨den.fr,st8,den.fa⟩ kk
    exact hh.elim
   exact hh.elim
  exact hh.elim
 | sh j k ih=>
  intro s K hh den kk;unfold prp at hh;split at hh
  ·next i e h xs fe hj=>
   obtain⟨fp,st1⟩:=St.shut (St.take (rs:=[]) (by simpa [Or,S.rs] using den.st) hj);refine ih (hh fp) ⟨den.fr,?_,den.fa⟩ kk;rw[append_nil]at st1;exact st1
  exact hh.elim
 | r0 i e k ih=>
  intro s K hh den kk;exact ih hh ⟨den.fr,den.st.row_nil e,den.fa⟩ kk
 | rn i e t k ih=>
  intro s K hh den kk;unfold prp at hh;split at hh
  ·next hv=>
   have e1:=den.fr t _ hv;exact ih hh ⟨den.fr.know t (one (.rf s.nx ⟨none,0,0⟩)) e1,den.st.row_nil e,den.fa⟩ kk
  exact kk _ _ hh den
 | le i j xs n x hx k ih=>
  intro s K hh den kk;unfold prp at hh;split at hh
  ·exact leT_ok hx hh den fun hg s' h' den'=>ih hg h' den' kk
  exact kk _ _ hh den
 | wt t k ih=>
  intro s K hh den kk;unfold prp at hh;split at hh
  ·exact ih hh den kk
  exact kk _ _ hh den
 | gi i j xs y hy k ih=>
  intro s K hh den kk;exact giT_ok hy hh den fun s' h' den'=>ih h' den' kk
 | w1 k ih=>exact fun hh den kk=>kk _ _ hh den
 | zr j k ih=>
  intro s K hh den kk;unfold prp at hh;split at hh
  ·next i e h xs fe cs z fz hj=>
   have st2:=St.take (rs:=[]) (by simpa [Or,S.rs] using den.st) hj;rw[append_nil]at st2;exact ih hh ⟨den.fr,St.zrow st2,den.fa⟩ kk
  exact hh.elim
 | lq t j k ih=>
  intro s K hh den kk;unfold prp at hh;split at hh
  ·next m b1 k1 o hE=>
   split at hh
   ·next l h z n b k0 cs α i h' b' pre post xs n' fr r hB hO=>
    obtain⟨rfl,rfl,rfl,rfl,rfl,h1⟩:=hh;have hpa:PA h.val _ n b1 k1:=(den.fa.now den.st.below hB).1;obtain⟨off,cap,f1,f2,p0,c1,c2,q0,e1,e2,e3,e4,e5,e6,e7,e8,e9,e10⟩:=(den.st.holds _ (sK hO)).1;obtain⟨off',n2,cap',e11,e12,e13⟩:=hpa;rw[e1]at e11;simp only[Value.slice.injEq,Option.some.injEq,Addr.mk.injEq]at e11;have hl:=e8.len;rw[length_take,Nat.min_eq_left aA]at hl;refine ih h1 ⟨den.fr.know t _ ((den.fr t _ hE).trans ?_),den.st,den.fa⟩ kk;show Value.pointer (some ⟨b1,k1+o,none⟩)=Value.pointer (some ⟨b',pre.length+o,none⟩);rw[e5,length_append,e6,hl,e13,e11.1.1,e11.1.2.1]
   exact hh.elim
  exact hh.elim
 | hx j k ih=>
  intro s K hh den kk;unfold prp at hh;split at hh
  ·exact ih _ hh den kk
  exact hh.elim
 | rc t c j k ih=>
  intro s K hh den kk;unfold prp at hh;split at hh
  ·next cs l h d hE hj=>
   split at hh
   ·next x hx=>
    obtain⟨e,hh⟩:=hh;refine ih hh ⟨den.fr.know t _ ((den.fr t _ hE).trans ?_),den.st,den.fa⟩ kk;show Value.agg _=Value.agg _;rw[aK3 hx (y := .rf j h) e]
   exact hh.elim
  exact hh.elim
 | rb r c j k ih=>
  intro s K hh den kk;unfold prp at hh;split at hh
  ·next b pre cs post t l h d hO hj=>
   split at hh
   ·next x hx=>
    obtain⟨e,hh⟩:=hh;have st2:=St.take (rs:=[]) (by simpa [Or,S.rs] using den.st) hO;rw[append_nil]at st2;have e2:(Ob.bx b pre cs post t).res=(Ob.bx b pre (cs.set c (.rf j h)) post t).res:=by
     show Res.bx b (pre++cs.map Sc.val++post) t=Res.bx b (pre++(cs.set c (.rf j h)).map Sc.val++post) t;rw[aK3 hx (y := .rf j h) e]
    rw[e2]at st2;exact ih hh ⟨den.fr,st2,den.fa⟩ kk
   exact hh.elim
  exact hh.elim
 | _=>exact fun hh den kk=>kk _ _ hh den
def isDq:D P R->Bool
 | .dq ..=>true
 | _=>false
def isBy:D P R->Bool
 | .by_ ..=>true
 | _=>false
def isBs:D P R->Bool
 | .bs ..=>true
 | _=>false
def isCo:D P R->Bool
 | .co ..=>true
 | _=>false
def isCw:D P R->Bool
 | .cw ..=>true
 | _=>false
def isIv:D P R->Bool
 | .iv ..=>true
 | _=>false
def isCv:D P R->Bool
 | .cv ..=>true
 | _=>false
def cR1:D P R->Bool
 | .cm ..=>true
 | .cv ..=>true
 | .iv ..=>true
 | .co ..=>true
 | .cw ..=>true
 | _=>false
def eop (P:Program) {A:Type}{R:A->Prop}(g:Bool) (lk:Operand->Option SV) (s:S) (o:Op) (d:D P R) (K:SV->S->D P R->Tr):Tr:=
 match o with
 | .alloc t=>alT P s t fun v s=>K v s d
 | .box t x=>opt (lk x) fun v=>bxT s t v fun v s=>K v s d
 | .buildSlice t len ps=>opt (lkp lk ps.toList) fun vs=>nrm d fun d=>match isLo d with
  | true=>loT P s t len vs d K
  | false=>bsT P s t len vs d K
 | .store t x y=>opt (lk x) fun v=>asC v fun c=>opt (lk y) fun u=>cond g .no (stT P s t c u fun s'=>K (one (.vl undef)) s' d)
 | .call ⟨.builtin .append,xs,ts⟩=>match xs.toList,ts.toList with
  | [x,y],[t,t']=>nrm d fun d=>match isBs d with
   | true=>opt (lk x) fun v=>asC v fun c=>opt (lk y) fun u=>asC u fun cy=>cond g .no (abT P s t t' c cy d K)
   | false=>.e0 t' t<|opt (lk x) fun v=>asC v fun c=>opt (lk y) fun u=>asC u fun cy=>cond g .no (apT P s t c cy d K)
  | _,_=>.no
 | .makeSlice t x y=>opt (lk x) fun v=>asC v fun c=>opt (lk y) fun u=>asC u fun cy=>nrm d fun d=>mkN P s t c cy d K
 | .call ⟨.value (.func F),xs,_⟩=>nrm d fun d=>match cR1 d with
  | true=>cond g .no (cond (isCw d) (cwT s lk F xs.toList d K) (cond (isCo d) (coT s lk F xs.toList d K) (cond (isIv d) (ivT s F (lkv lk xs.toList) d K) (cond (isCv d) (cvT s lk F xs.toList d K) (cmT s lk F xs.toList d K)))))
  | false=>clT s lk F xs.toList d K
 | .call ⟨.value (.tmp t),xs,_⟩=>cond g .no (cfT s lk t xs.toList d K)
 | .call ⟨.builtin .clear,xs,ts⟩=>match xs.toList,ts.toList with
  | [x],[t]=>opt (lk x) fun v=>asC v fun c=>cond g .no (czT P s t c d K)
  | _,_=>.no
 | .slice t x none (some y) none=>nrm d fun d=>match isDz d with
  | true=>cond g .no (opt (lk x) fun v=>asC v fun c=>opt (lk y) fun u=>asC u fun cy=>dzT P s t c cy d K)
  | false=>qop P lk s (.slice t x none (some y) none) d K
 | .slice t x (some y) none none=>nrm d fun d=>match isDq d with
  | true=>cond g .no (opt (lk x) fun v=>asC v fun c=>opt (lk y) fun u=>asC u fun cy=>dqT P s t c cy d K)
  | false=>qop P lk s (.slice t x (some y) none none) d K
 | .convert t t' x=>nrm d fun d=>match isBy d with
  | true=>opt (lk x) fun v=>asC v fun c=>byT P s t t' c d K
  | false=>qop P lk s (.convert t t' x) d K
 | o=>qop P lk s o d K
def bY0:Op->Bool
 | .alloc _ | .box _ _ | .buildSlice _ _ _ | .makeSlice _ _ _=>true
 | .call ⟨.value (.func _),_,_⟩=>true
 | _=>false
theorem cD8 {w0:World}{gw:Bool}{s:S}{lk:Operand->Option SV}{o:Op}{dd:D P R}{K:SV->S->D P R->Tr}{n:Nat}{f:Nat->Value}{W:World}{Q:Exit->Act->World->Prop}{KK:Value->World->Prop}{d:Option Tmp}{ty:TypeId}{pos:String}{af:Array Go.Edge}{g:Option (Nat×Bool)}
  (h:(eop P gw lk s o dd K).holds) (hl:∀x u,lk x=some u->ev n f x=u.val) (hst:St w0 W s.rs) (hfa:Facts w0 W s.B) (k:∀v s' d' W',(K v s' d').holds->s'.E=s.E->(gw=true->(∃N,s'.O=N++s.O)/\Below W.heap.size W W')->St w0 W' s'.rs->Facts w0 W' s'.B->KK v.val W'):Stp P n ⟨d,o,ty,pos,af,g⟩ f W Q KK:=by
 unfold eop at h;split at h
 ·exact alT_ok h hst hfa fun v s' W' h' e g1 g2 st' fa'=>k v s' _ W' h' e (fun _=>⟨g1,g2⟩) st' fa'
 ·exact aH h fun v hv h=>bxT_ok (hl _ _ hv) h hst hfa fun v s' W' h' e g1 g2 st' fa'=>k v s' _ W' h' e (fun _=>⟨g1,g2⟩) st' fa'
 ·refine aH h fun vs hvs h=>dI h fun d' h=>?_
  split at h
  ·have:=loT_ok (d:=d) (ty:=ty) (pos:=pos) (af:=af) (g:=g) (Q:=Q) (KK:=KK) (bO2 hl hvs) h hst hfa fun v s' d' W' h' e g1 g2 st' fa'=>k v s' d' W' h' e (fun _=>⟨g1,g2⟩) st' fa'
   simpa using this
  have:=bsT_ok (d:=d) (ty:=ty) (pos:=pos) (af:=af) (g:=g) (Q:=Q) (KK:=KK) (bO2 hl hvs) h hst hfa fun v s' d' W' h' e g1 g2 st' fa'=>k v s' d' W' h' e (fun _=>⟨g1,g2⟩) st' fa'
  simpa using this
 ·refine aH h fun v hv h'=>cO h' fun c hc h=>aH h fun u hu h=>?_
  subst hc;cases gw with
  | true=>exact h.elim
  | false=>
   simp only[cond_false]at h;exact stT_ok (hl _ _ hv) (hl _ _ hu) h hst hfa fun s' W' h' e st' fa'=>k (one (.vl undef)) s' _ W' h' e (fun hg=>by cases hg) st' fa'
 ·next xs ts=>
  split at h
  ·next x y t t' e1 e2=>
   have e1:xs = #[x,y]:=by rw[<- Array.toArray_toList (xs:=xs),e1]
   have e2:ts = #[t,t']:=by rw[<- Array.toArray_toList (xs:=ts),e2]
   subst e1 e2;refine dI h fun d' h=>?_
   split at h
   ·refine aH h fun v hv h'=>cO h' fun c hc h=>aH h fun u hu h''=>cO h'' fun cy hcy h=>?_
    subst hc hcy;cases gw with
    | true=>exact h.elim
    | false=>
     simp only[cond_false]at h;exact abT_ok (hl _ _ hv) (hl _ _ hu) h hst hfa fun v s' d' W' h' e st' fa'=>k v s' d' W' h' e (fun hg=>by cases hg) st' fa'
   obtain⟨rfl,h⟩:=h;refine aH h fun v hv h'=>cO h' fun c hc h=>aH h fun u hu h''=>cO h'' fun cy hcy h=>?_
   subst hc hcy;cases gw with
   | true=>exact h.elim
   | false=>
    simp only[cond_false]at h;exact apT_ok (hl _ _ hv) (hl _ _ hu) h hst hfa fun v s' d' W' h' e st' fa'=>k v s' d' W' h' e (fun hg=>by cases hg) st' fa'
  exact h.elim
 ·refine aH h fun v hv h'=>cO h' fun c hc h=>aH h fun u hu h''=>cO h'' fun cy hcy h=>?_
  subst hc hcy;refine dI h fun d' h=>?_
  exact mkN_ok (hl _ _ hv) (hl _ _ hu) h hst hfa fun v s' d' W' h' e g1 g2 st' fa'=>k v s' d' W' h' e (fun _=>⟨g1,g2⟩) st' fa'
 ·next F xs ts=>
  refine dI h fun d' h1=>?_
  split at h1
  ·cases gw with
   | true=>exact h1.elim
   | false=>
    simp only[cond_false]at h1;cases hcw:isCw d' with
    | true=>
     rw[hcw]at h1;have:=cwT_ok (ats:=ts) (d:=d) (ty:=ty) (pos:=pos) (af:=af) (g:=g) (Q:=Q) (KK:=KK) hl h1 hst hfa fun v s' d' W' h' e st' fa'=>k v s' d' W' h' e (fun hg=>by cases hg) st' fa'
     simpa using this
    | false=>
    rw[hcw]at h1;simp only[cond_false]at h1;cases hco:isCo d' with
    | true=>
     rw[hco]at h1;have:=coT_ok (ats:=ts) (d:=d) (ty:=ty) (pos:=pos) (af:=af) (g:=g) (Q:=Q) (KK:=KK) hl h1 hst hfa fun v s' d' W' h' e st' fa'=>k v s' d' W' h' e (fun hg=>by cases hg) st' fa'
     simpa using this
    | false=>
    rw[hco]at h1;simp only[cond_false]at h1;cases hiv:isIv d' with
    | true=>
     rw[hiv]at h1;refine cY5 h1 hst hfa (fun v s' d' W' h' e st' fa'=>k v s' d' W' h' e (fun hg=>by cases hg) st' fa') fun hf ho hus hc=>?_
     have:=lB (P:=P) (n:=n) (f:=f) (W:=W) (Q:=Q) (K:=KK) (d:=d) (ty:=ty) (pos:=pos) (af:=af) (g:=g) (ats:=ts) hf ho (kJ hl hus) hc;simpa using this
    | false=>
    rw[hiv]at h1;simp only[cond_false]at h1;cases hcv:isCv d' with
    | true=>
     rw[hcv]at h1;have:=cvT_ok (ats:=ts) (d:=d) (ty:=ty) (pos:=pos) (af:=af) (g:=g) (Q:=Q) (KK:=KK) hl h1 hst hfa fun v s' d' W' h' e st' fa'=>k v s' d' W' h' e (fun hg=>by cases hg) st' fa'
     simpa using this
    | false=>
    rw[hcv]at h1;have:=cmT_ok (ats:=ts) (d:=d) (ty:=ty) (pos:=pos) (af:=af) (g:=g) (Q:=Q) (KK:=KK) hl h1 hst hfa fun v s' d' W' h' e st' fa'=>k v s' d' W' h' e (fun hg=>by cases hg) st' fa'
    simpa using this
  have:=clT_ok (ats:=ts) (d:=d) (ty:=ty) (pos:=pos) (af:=af) (g:=g) (Q:=Q) (KK:=KK) hl h1 hst hfa fun v s' d' W' h' e g1 g2 st' fa'=>k v s' d' W' h' e (fun _=>⟨g1,g2⟩) st' fa'
  simpa using this
 ·next t xs ts=>
  cases gw with
  | true=>exact h.elim
  | false=>
   simp only[cond_false]at h;have:=cfT_ok (ats:=ts) (d:=d) (ty:=ty) (pos:=pos) (af:=af) (g:=g) (Q:=Q) (KK:=KK) hl h hst hfa fun v s' d' W' h' e st' fa'=>k v s' d' W' h' e (fun hg=>by cases hg) st' fa'
   simpa using this
 ·next xs ts=>
  split at h
  ·next x t e1 e2=>
   have e1:xs = #[x]:=by rw[<- Array.toArray_toList (xs:=xs),e1]
   have e2:ts = #[t]:=by rw[<- Array.toArray_toList (xs:=ts),e2]
   subst e1 e2;refine aH h fun v hv h'=>cO h' fun c hc h=>?_
   subst hc;cases gw with
   | true=>exact h.elim
   | false=>
    simp only[cond_false]at h;exact czT_ok (hl _ _ hv) h hst hfa fun v s' d' W' h' e st' fa'=>k v s' d' W' h' e (fun hg=>by cases hg) st' fa'
  exact h.elim
 ·next t x y=>
  refine dI h fun d' h1=>?_
  split at h1
  ·cases gw with
   | true=>exact h1.elim
   | false=>
    simp only[cond_false]at h1;refine aH h1 fun v hv h2=>cO h2 fun c hc h3=>aH h3 fun u hu h4=>cO h4 fun cy hcy h5=>?_
    subst hc hcy;exact dzT_ok (hl _ _ hv) (hl _ _ hu) h5 hst hfa fun v s' d' h' e st' fa'=>k v s' d' W h' e (fun hg=>by cases hg) st' fa'
  refine aS8 h1 hst hfa fun v s' d' h' e1 e2 fa' q=>q hl hst (Below.refl _ _) fun W'' st' hb=>k v s' d' W'' h' e1 (fun _=>⟨⟨[],by rw[e2];rfl⟩,hb⟩) (by rw[S.rs,e2];exact st') (fa'.up hb)
 ·next t x y=>
  refine dI h fun d' h1=>?_
  split at h1
  ·cases gw with
   | true=>exact h1.elim
   | false=>
    simp only[cond_false]at h1;refine aH h1 fun v hv h2=>cO h2 fun c hc h3=>aH h3 fun u hu h4=>cO h4 fun cy hcy h5=>?_
    subst hc hcy;exact dqT_ok (hl _ _ hv) (hl _ _ hu) h5 hst hfa fun v s' d' h' e st' fa'=>k v s' d' W h' e (fun hg=>by cases hg) st' fa'
  refine aS8 h1 hst hfa fun v s' d' h' e1 e2 fa' q=>q hl hst (Below.refl _ _) fun W'' st' hb=>k v s' d' W'' h' e1 (fun _=>⟨⟨[],by rw[e2];rfl⟩,hb⟩) (by rw[S.rs,e2];exact st') (fa'.up hb)
 ·next t t' x=>
  refine dI h fun d' h1=>?_
  split at h1
  ·refine aH h1 fun v hv h2=>cO h2 fun c hc h3=>?_
   subst hc;exact byT_ok (hl _ _ hv) h3 hst hfa fun v s' d' W' h' e1 e2 hb st' fa'=>k v s' d' W' h' e1 (fun _=>⟨⟨[],by rw[e2];rfl⟩,hb⟩) st' fa'
  refine aS8 h1 hst hfa fun v s' d' h' e1 e2 fa' q=>q hl hst (Below.refl _ _) fun W'' st' hb=>k v s' d' W'' h' e1 (fun _=>⟨⟨[],by rw[e2];rfl⟩,hb⟩) (by rw[S.rs,e2];exact st') (fa'.up hb)
 next o h1 h2 h3 h4 h5 h6 h7 h8 h9 h10 h11=>
 refine aS8 h hst hfa fun v s' d' h' e1 e2 fa' q=>q hl hst (Below.refl _ _) fun W'' st' hb=>k v s' d' W'' h' e1 (fun _=>⟨⟨[],by rw[e2];rfl⟩,hb⟩) (by rw[S.rs,e2];exact st') (fa'.up hb)
def putS (d:Option Tmp) (v:SV) (s:S):S:=
 match d with
 | none=>s
 | some t=>⟨(t,v)::s.E,s.O,s.B,s.nx⟩
theorem Den.put {w0:World}{s:S}{f:Nat->Value}{W:World}(h:Den w0 s f W) (d:Option Tmp) (v:SV):Den w0 (putS d v s) (gL f d v.val) W:=by
 cases d with
 | none=>exact h
 | some t=>exact⟨h.fr.put t v,h.st,h.fa⟩
def onB (w r:Bool):Bool:=cond w r (!r)
def grd (n:Nat) (all:List Oper) (s:S) (o:Oper) (d:D P R) (K:Bool->S->D P R->Tr):Tr:=
 match o.guard with
 | none=>K true s d
 | some (j,w)=>opt ((all[j]?).bind (·.dst)) fun dd=>.e0 (Nat.ble (dd+1) n) true<|opt (lku s.E dd) fun v=>match v with
  | .on (.ce (.bo e))=>bl (.bo e) d fun r d=>K (onB w r) ⟨(dd,one (.vl (.bool r)))::s.E,s.O,s.B,s.nx⟩ d
  | .on (.ce c)=>K (match yl c.val with
   | some b=>onB w b
   | none=>false) s d
  | .on (.ag _)=>.no
  | .tu _=>.no
def opsT (P:Program) {A:Type}{R:A->Prop}(n:Nat) (all:List Oper):List Oper->S->D P R->(S->D P R->Tr)->Tr
 | [],s,d,K=>K s d
 | o::os,s,d,K=>prp d s fun s d=>grd n all s o d fun on s d=>match on with
  | true=>eop P false (opd n s) s o.op d fun v s d=>opsT P n all os (putS o.dst v s) d K
  | false=>opsT P n all os (putS o.dst (one (.vl undef)) s) d K
theorem grd_ok {G:Prop}{w0:World}{n:Nat}{all:List Oper}{s:S}{o:Oper}{d:D P R}{K:Bool->S->D P R->Tr}{f:Nat->Value}{W:World}(h:(grd n all s o d K).holds) (den:Den w0 s f W)
  (k:∀on s' d',(K on s' d').holds->Den w0 s' f W->(o.guard=none/\on=true∨∃j w dd,o.guard=some (j,w)/\(all.toArray[j]?).bind (·.dst)=some dd/\dd<n/\(yl (f dd) == some w)=on)->G):G:=by
 unfold grd at h;split at h
 ·next hg=>exact k _ _ _ h den (.inl ⟨hg,rfl⟩)
 next j w hg=>
 refine aH h fun dd hd h=>?_
 obtain⟨hn,h⟩:=h;have hn:=Nat.le_of_ble_eq_true hn;refine aH h fun v hv h=>?_
 have hf:=den.fr dd v hv;have hd':(all.toArray[j]?).bind (·.dst)=some dd:=by simpa using hd
 split at h
 ·next e=>
  refine cO6 h fun r d' hr h=>?_
  have hr:e=r:=by simpa [Sc.val] using hr
  subst hr;refine k _ _ _ h ⟨den.fr.know dd _ hf,den.st,den.fa⟩ (.inr ⟨j,w,dd,hg,hd',hn,?_⟩);rw[hf];show (some e == some w)=_;cases e<;>cases w<;>rfl
 ·next c _=>
  refine k _ _ _ h den (.inr ⟨j,w,dd,hg,hd',hn,?_⟩);rw[hf];show (yl c.val == some w)=_;split
  ·next b hb=>rw[hb];cases b<;>cases w<;>rfl
  next hb=>rw[hb];cases w<;>rfl
 ·exact h.elim
 exact h.elim
theorem bM8 {w0:World}{n:Nat}{all:List Oper}{Q:Exit->Act->World->Prop}{K:S->D P R->Tr}(k:∀s' d' f' W',(K s' d').holds->Den w0 s' f' W'->Q .normal (act n f') W') :
  ∀{l:List Oper}{s:S}{d:D P R}{f:Nat->Value}{W:World},(opsT P n all l s d K).holds->Den w0 s f W->Wl P all.toArray Q l n f W
 | [],s,d,f,W,h,den=>bG (k _ _ _ _ h den)
 | o::os,s,d,f,W,h,den=>by
  refine iS h den fun s1 d1 h1 den1=>grd_ok h1 den1 fun on s2 d2 h2 den2 hg=>?_
  cases on with
  | true=>
   have hs:Stp P n o f W Q (fun v W'=>Wl P all.toArray Q os n (gL f o.dst v) W'):=by
    refine cD8 (d:=o.dst) (ty:=o.type) (pos:=o.pos) (af:=o.after) (g:=o.guard) h2 (cC9 den2.fr) den2.st den2.fa fun v s' d' W' h' e _ st' fa'=>?_
    exact bM8 k h' (Den.put ⟨by rw[e];exact den2.fr,st',fa'⟩ o.dst v)
   rcases hg with⟨hg,_⟩ | ⟨j,w,dd,hg,hd,hn,hy⟩
   ·exact sx hg hs
   exact sx_on hg hd hn (by simpa using hy) hs
  | false=>
   rcases hg with⟨_,hx⟩ | ⟨j,w,dd,hg,hd,hn,hy⟩
   ·cases hx
   exact cT2 hg hd hn hy (bM8 k h2 (den2.put o.dst (one (.vl undef))))
end
end Go.Proofs.YtjihdmlkpkkpbaaGreat
namespace Go.Proofs.YtjihdmlkpkkpbaaGreat
set_option maxRecDepth 100000
set_option maxHeartbeats 2000000
open Go.RowKit Go.Proofs.Tryz List
structure Pv where
 p:(Nat->Value)->Value->Prop
 lk:List Nat
 fr:∀{f f':Nat->Value}{v},(∀t∈lk,f t=f' t)->p f v->p f' v
structure RP where
 p:(Nat->Value)->Res->Prop
 lk:List Nat
 fr:∀{f f':Nat->Value}{r},(∀t∈lk,f t=f' t)->p f r->p f' r
def Pv.is (u:Value):Pv:=⟨fun _ v=>v=u,[],fun _ h=>h⟩
def Pv.any:Pv:=⟨fun _ _=>True,[],fun _ h=>h⟩
def Pv.cp (t:Nat):Pv:=⟨fun f v=>v=f t,[t],fun h e=>by rw[e,h t (by simp)]⟩
def Pv.ex {ι:Type}(g:ι->Value):Pv:=⟨fun _ v=>∃x,v=g x,[],fun _ h=>h⟩
def RP.is (r:Res):RP:=⟨fun _ s=>s=r,[],fun _ h=>h⟩
def RP.of {ι:Type}(ts:List Nat) (e:ι->List Value) (r:ι->Res):RP:=⟨fun f s=>∃x,ts.map f=e x/\s=r x,ts,fun h ⟨x,e1,e2⟩=>⟨x,by rw[<- e1];exact map_congr_left (fun t ht=>(h t ht).symm),e2⟩⟩
abbrev Tb:=List (Option Nat×Option Nat×RP)
def isO (m:Option Nat) (i:Nat):Bool:=match m with | some j=>Nat.beq j i | none=>false
def live (D:Nat->Bool) (m u:Option Nat):Bool:=(match m with | some i=>D i | none=>true) && (match u with | some i=> !D i | none=>true)
def AL (D:Nat->Bool):Tb->(Nat->Value)->List Res->Prop
 | [],_,rs=>rs=[]
 | (m,u,p)::tb,f,rs=>cond (live D m u) (∃r rs2,rs=r::rs2/\p.p f r/\AL D tb f rs2) (AL D tb f rs)
def US (i:Nat):Tb->(Nat->Value)->List Res->Prop
 | [],_,rs=>rs=[]
 | (_,u,p)::tb,f,rs=>cond (isO u i) (∃r rs2,rs=r::rs2/\p.p f r/\US i tb f rs2) (US i tb f rs)
def MK (i:Nat):Tb->(Nat->Value)->List Res->Prop
 | [],_,rs=>rs=[]
 | (m,_,p)::tb,f,rs=>cond (isO m i) (∃r rs2,rs=r::rs2/\p.p f r/\MK i tb f rs2) (MK i tb f rs)
def bZ7 (l:List Oper):Nat->Nat->Nat->Bool
 | 0,i,j=>dep l i j
 | k+1,i,j=>dep l i j || (List.range l.length).any (fun m=>dep l i m && bZ7 l k m j)
theorem oJ {l:List Oper}{D:Nat->Bool}(hD:∀j k,D j=true->dep l j k=true->D k=true):∀(k i j:Nat),(∀m,dep l i m=true->D m=true)->bZ7 l k i j=true->D j=true
 | 0,i,j,h,hd=>h j hd
 | k+1,i,j,h,hd=>by
  unfold bZ7 at hd;rw[Bool.or_eq_true]at hd;rcases hd with hd | hd
  ·exact h j hd
  ·rw[any_eq_true]at hd;obtain⟨m,_,h2⟩:=hd;rw[Bool.and_eq_true]at h2;exact oJ hD k m j (fun q hq=>hD m q (h m h2.1) hq) h2.2
def bL1 (l:List Oper) (i:Nat) (own:Bool) (t:Nat):Bool:=nY l t || (List.range l.length).any (fun j=>((own && Nat.beq j i) || bZ7 l 2 i j) && (match cM l j with | some d=>Nat.beq d t | none=>false))
def tbOk (l:List Oper) (tb:Tb):Bool:=
 tb.all (fun e=>(match e.1 with | some i=>Nat.blt i l.length && e.2.2.lk.all (bL1 l i true) | none=>e.2.2.lk.all (nY l)) && (match e.2.1 with | some j=>Nat.blt j l.length && (match e.1 with | some i=>bZ7 l 2 j i | none=>true) | none=>true))
def pvOk (l:List Oper) (F:List (Bool×Pv)) (tb:Tb):Bool:=
 (List.range l.length).all (fun i=>((F.getD i (true,Pv.any)).2.lk.all (bL1 l i false)) && (!(F.getD i (true,Pv.any)).1 || tb.all (fun e=> !isO e.1 i && !isO e.2.1 i)))
section
variable {P:Program}{n:Nat}{w0 w1:World}{rc:List Res}{Q:Exit->Act->World->Prop}
def cP5 (w0 w1:World) (rc:List Res) (tb:Tb) (f:Nat->Value) (i:Nat) (o:Oper) (p:Pv) (oth:List Res) (v:Value) (W:World):Prop:=
 p.p f v/\(∃rm,MK i tb (gL f o.dst v) rm/\St w0 W (rm++(rc++oth)))/\Below w1.heap.size w1 W
def StepF (P:Program) (n:Nat) (w0 w1:World) (rc:List Res) (Q:Exit->Act->World->Prop) (tb:Tb) (l:List Oper) (F:List (Bool×Pv)) (f0:Nat->Value) (i:Nat) (o:Oper) (p:Pv):Prop:=
 ∀f W ru oth,US i tb f ru->St w0 W (ru++(rc++oth))->Below w1.heap.size w1 W->(∀j d,bZ7 l 2 i j=true->cM l j=some d->(F.getD j (true,Pv.any)).2.p f (f d))->(∀t,xS l i t=true->f t=f0 t) ->
  match o.guard with
  | none=>Stp P n o f W Q (cP5 w0 w1 rc tb f i o p oth)
  | some _=>cond (onR l f o) (Stp P n o f W Q (cP5 w0 w1 rc tb f i o p oth)) (cP5 w0 w1 rc tb f i o p oth undef W)
def StepQ (P:Program) (n:Nat) (w0 w1:World) (rc:List Res) (Q:Exit->Act->World->Prop) (l:List Oper) (F:List (Bool×Pv)) (f0:Nat->Value) (i:Nat) (o:Oper) (p:Pv):Prop:=
 ∀f W,St w0 W rc->Below w1.heap.size w1 W->(∀j d,bZ7 l 2 i j=true->cM l j=some d->(F.getD j (true,Pv.any)).2.p f (f d))->(∀t,xS l i t=true->f t=f0 t) ->
  match o.guard with
  | none=>Stp P n o f W Q (fun v W'=>Below W.heap.size W W'/\p.p f v)
  | some _=>cond (onR l f o) (Stp P n o f W Q (fun v W'=>Below W.heap.size W W'/\p.p f v)) (p.p f undef)
def AllF (P:Program) (n:Nat) (w0 w1:World) (rc:List Res) (Q:Exit->Act->World->Prop) (tb:Tb) (l:List Oper) (F:List (Bool×Pv)) (f0:Nat->Value):Nat->List Oper->List (Bool×Pv)->Prop
 | _,[],[]=>True
 | i,o::os,(q,p)::ps=>cond q (StepQ P n w0 w1 rc Q l F f0 i o p) (StepF P n w0 w1 rc Q tb l F f0 i o p)/\AllF P n w0 w1 rc Q tb l F f0 (i+1) os ps
 | _,_,_=>False
theorem AllF.get {tb:Tb}{l:List Oper}{F:List (Bool×Pv)}{f0:Nat->Value}:∀{os:List Oper}{ps:List (Bool×Pv)}{k:Nat},AllF P n w0 w1 rc Q tb l F f0 k os ps->∀i o,os[i]? = some o->∃q p,ps[i]? = some (q,p)/\cond q (StepQ P n w0 w1 rc Q l F f0 (k+i) o p) (StepF P n w0 w1 rc Q tb l F f0 (k+i) o p)
 | o::os,(q,p)::ps,k,h,0,o',hi=>by simp at hi;subst hi;exact⟨q,p,rfl,h.1⟩
 | o::os,(_,_)::ps,k,h,i+1,o',hi=>by
  obtain⟨q,p,hq,hs⟩:=AllF.get h.2 i o' (by simpa using hi);exact⟨q,p,by simpa using hq,by rw[<- Nat.add_assoc,Nat.add_right_comm];exact hs⟩
 | [],_,_,_,i,o',hi=>by simp at hi
 | o::os,[],_,h,_,_,_=>h.elim
structure IF_ (w0 w1:World) (rc:List Res) (tb:Tb) (l:List Oper) (F:List (Bool×Pv)) (f0:Nat->Value) (D:Nat->Bool) (f:Nat->Value) (W:World):Prop where
 res:∃rs,AL D tb f rs/\St w0 W (rs++rc)
 bl:Below w1.heap.size w1 W
 vals:∀j d,j<l.length->D j=true->cM l j=some d->(F.getD j (true,Pv.any)).2.p f (f d)
 keep:∀t,(∀j,j<l.length->D j=true->cM l j≠some t)->f t=f0 t
theorem aZ4 {D:Nat->Bool}{i:Nat}{f:Nat->Value}:∀{tb:Tb}{rs:List Res},(∀e∈tb,isO e.2.1 i=true->live D e.1 e.2.1=true)->AL D tb f rs->∃ru ro,rs.Perm (ru++ro)/\US i tb f ru/\∀(D':Nat->Bool) (f':Nat->Value),(∀j,D' j=cond (Nat.beq j i) true (D j))->D i=false->(∀e∈tb,live D e.1 e.2.1=true->∀r,e.2.2.p f r->e.2.2.p f' r) ->
   ∀rm,MK i tb f' rm->(∀e∈tb,isO e.1 i=true->isO e.2.1 i=false)->(∀e∈tb,isO e.1 i=true->live D' e.1 e.2.1=true)->∃rs',AL D' tb f' rs'/\rs'.Perm (rm++ro)
 | [],rs,_,h=>⟨[],[],by rw[show rs=[] from h];exact List.Perm.refl _,rfl,fun D' f' _ _ _ rm hm _ _=>⟨[],rfl,by rw[show rm=[] from hm];exact List.Perm.refl _⟩⟩
 | (m,u,p)::tb,rs,hu,h=>by
  have hu':∀e∈tb,isO e.2.1 i=true->live D e.1 e.2.1=true:=fun e he=>hu e (mem_cons_of_mem _ he)
  unfold AL at h;cases hl:live D m u with
  | false=>
   rw[hl]at h;simp only[cond_false]at h;have hui:isO u i=false:=by
    cases hb:isO u i with
    | false=>rfl
    | true=>have:=hu _ mem_cons_self hb;rw[hl]at this;cases this
   obtain⟨ru,ro,hp,hus,hk⟩:=aZ4 hu' h;refine⟨ru,ro,hp,by unfold US;rw[hui];exact hus,fun D' f' hD hDi hpf rm hmk hmu hml=>?_⟩;unfold MK at hmk;cases hmi:isO m i with
   | true=>
    rw[hmi]at hmk;simp only[cond_true]at hmk;obtain⟨r,rm2,rfl,hr,hmk⟩:=hmk;obtain⟨rs',ha,hpe⟩:=hk D' f' hD hDi (fun e he=>hpf e (mem_cons_of_mem _ he)) rm2 hmk (fun e he=>hmu e (mem_cons_of_mem _ he)) (fun e he=>hml e (mem_cons_of_mem _ he));refine⟨r::rs',?_,by rw[cons_append];exact hpe.cons r⟩;unfold AL;rw[hml _ mem_cons_self hmi];exact⟨r,rs',rfl,hr,ha⟩
   | false=>
    rw[hmi]at hmk;simp only[cond_false]at hmk;obtain⟨rs',ha,hpe⟩:=hk D' f' hD hDi (fun e he=>hpf e (mem_cons_of_mem _ he)) rm hmk (fun e he=>hmu e (mem_cons_of_mem _ he)) (fun e he=>hml e (mem_cons_of_mem _ he));refine⟨rs',?_,hpe⟩;unfold AL;have:live D' m u=false:=by
     rw[<- hl];unfold live;have e1:∀x,isO (some x) i=false->D' x=D x:=fun x hx=>by rw[hD];have:Nat.beq x i=false:=hx;rw[this];rfl
     cases m with
     | none=>cases u with
      | none=>rfl
      | some y=>simp only[e1 y hui]
     | some x=>cases u with
      | none=>simp only[e1 x hmi]
      | some y=>simp only[e1 x hmi,e1 y hui]
    rw[this];exact ha
  | true=>
   rw[hl]at h;simp only[cond_true]at h;obtain⟨r,rs2,rfl,hr,h⟩:=h;obtain⟨ru,ro,hp,hus,hk⟩:=aZ4 hu' h;have hmi:D i=false->isO m i=false:=fun hDi=>by
    cases m with
    | none=>rfl
    | some x=>
     cases hb:Nat.beq x i with
     | false=>exact hb
     | true=>
      have e:=Nat.eq_of_beq_eq_true hb;subst e;simp[live,hDi]at hl
   cases hui:isO u i with
   | true=>
    refine⟨r::ru,ro,by rw[cons_append];exact hp.cons r,by unfold US;rw[hui];exact⟨r,ru,rfl,hr,hus⟩,fun D' f' hD hDi hpf rm hmk hmu hml=>?_⟩;unfold MK at hmk;rw[hmi hDi]at hmk;obtain⟨rs',ha,hpe⟩:=hk D' f' hD hDi (fun e he=>hpf e (mem_cons_of_mem _ he)) rm hmk (fun e he=>hmu e (mem_cons_of_mem _ he)) (fun e he=>hml e (mem_cons_of_mem _ he));refine⟨rs',?_,hpe⟩;unfold AL;have:live D' m u=false:=by
     cases u with
     | none=>cases hui
     | some y=>
      have:D' y=true:=by rw[hD];have:Nat.beq y i=true:=hui;rw[this];rfl
      unfold live;simp[this]
    rw[this];exact ha
   | false=>
    refine⟨ru,r::ro,(hp.cons r).trans perm_middle.symm,by unfold US;rw[hui];exact hus,fun D' f' hD hDi hpf rm hmk hmu hml=>?_⟩;unfold MK at hmk;have hm0:=hmi hDi;rw[hm0]at hmk;obtain⟨rs',ha,hpe⟩:=hk D' f' hD hDi (fun e he=>hpf e (mem_cons_of_mem _ he)) rm hmk (fun e he=>hmu e (mem_cons_of_mem _ he)) (fun e he=>hml e (mem_cons_of_mem _ he));refine⟨r::rs',?_,(hpe.cons r).trans perm_middle.symm⟩;unfold AL;have:live D' m u=true:=by
     rw[<- hl];unfold live;have e1:∀x,isO (some x) i=false->D' x=D x:=fun x hx=>by rw[hD];have:Nat.beq x i=false:=hx;rw[this];rfl
     cases m with
     | none=>cases u with
      | none=>rfl
      | some y=>simp only[e1 y hui]
     | some x=>cases u with
      | none=>simp only[e1 x hm0]
      | some y=>simp only[e1 x hm0,e1 y hui]
    rw[this];exact⟨r,rs',rfl,hpf _ mem_cons_self hl r hr,ha⟩
theorem keepF {tb:Tb}{l:List Oper}{F:List (Bool×Pv)}{f0:Nat->Value}(ho:OrdOk n l) (htb:tbOk l tb=true) (hpv:pvOk l F tb=true) (hs:AllF P n w0 w1 rc Q tb l F f0 0 l F):KeepI P n Q l (IF_ w0 w1 rc tb l F f0):=by
 constructor;intro i o D f W hol hDi hdep hdown hI;have hiN:i<l.length:=(gsi_.1 hol).1;obtain⟨q,p,hp,hstep⟩:=hs.get i o hol;rw[Nat.zero_add]at hstep;have hpF:F.getD i (true,Pv.any)=(q,p):=by rw[getD_eq_getElem?_getD,hp];rfl
 have hdo:cM l i=o.dst:=by simp[cM,hol]
 rw[tbOk,all_eq_true]at htb;rw[pvOk,all_eq_true]at hpv;obtain⟨rs,hAL,hst⟩:=hI.res;have hdp:∀j d,bZ7 l 2 i j=true->cM l j=some d->(F.getD j (true,Pv.any)).2.p f (f d):=fun j d hj hd=>hI.vals j d (by
  unfold cM at hd;cases hq:l[j]? with
  | none=>rw[hq]at hd;cases hd
  | some x=>exact(gsi_.1 hq).1) (oJ hdown 2 i j hdep hj) hd
 have hkp:∀t,xS l i t=true->f t=f0 t:=fun t hk=>by
  refine hI.keep t (fun j hjN hj hd=>?_);unfold xS at hk;rw[all_eq_true]at hk;have:=hk j (by simpa using hjN);rw[hd]at this;simp only[nG,Bool.not_true,Bool.or_false,Bool.or_eq_true]at this;rcases this with h | h
  ·rw[Nat.eq_of_beq_eq_true h,hDi]at hj;cases hj
  have:=hdown j i hj h;rw[hDi]at this;cases this
 have hput:∀v t,o.dst≠some t->gL f o.dst v t=f t:=by
  intro v t h;cases hod:o.dst with
  | none=>rfl
  | some d'=>
   simp only[gL,upd];rw[lZ (fun e'=>h (by rw[hod,e']))];rfl
 have hslot:∀j own,D j=true∨(own=false/\j=i)->∀t,bL1 l j own t=true->o.dst≠some t:=by
  intro j own hj t ht e;unfold bL1 at ht;rw[Bool.or_eq_true]at ht;rcases ht with ht | ht
  ·exact xT ht i hiN (by rw[hdo];exact e)
  rw[any_eq_true]at ht;obtain⟨k,hkN,h2⟩:=ht;rw[mem_range]at hkN;rw[Bool.and_eq_true]at h2;have hkd:cM l k=some t:=by
   have:=h2.2;split at this
   ·next d hd=>rw[hd,Nat.eq_of_beq_eq_true this]
   cases this
  have hkD:D k=true:=by
   have h3:=h2.1;rw[Bool.or_eq_true,Bool.and_eq_true]at h3;rcases hj with hj | ⟨rfl,rfl⟩
   ·rcases h3 with h3 | h3
    ·rw[Nat.eq_of_beq_eq_true h3.2];exact hj
    exact oJ hdown 2 j k (fun m hm=>hdown j m hj hm) h3
   rcases h3 with h3 | h3
   ·cases h3.1
   exact oJ hdown 2 j k hdep h3
  have hki:k≠i:=fun e'=>by rw[e',hDi]at hkD;cases hkD
  exact ho.ne k i t hkN hiN hki hkd (by rw[hdo];exact e)
 have hDs:∀j,iJ D i j=cond (Nat.beq j i) true (D j):=fun _=>rfl
 have hpc:∀v W',(∃rs',AL (iJ D i) tb (gL f o.dst v) rs'/\St w0 W' (rs'++rc))->Below w1.heap.size w1 W'->p.p f v->IF_ w0 w1 rc tb l F f0 (iJ D i) (gL f o.dst v) W':=by
  intro v W' hr hb hv;refine⟨hr,hb,?_,?_⟩
  ·intro j d hjN hj hd;by_cases e:j=i
   ·subst e;rw[hpF];rw[hdo]at hd;have e3:gL f o.dst v d=v:=by rw[hd];simp only[gL,upd,nG,cond_true]
    rw[e3];refine p.fr (fun t ht=>?_) hv;have h1:=hpv j (by simpa using hjN);rw[hpF,Bool.and_eq_true,all_eq_true]at h1;exact(hput v t (hslot j false (.inr ⟨rfl,rfl⟩) t (h1.1 t ht))).symm
   have hjD:D j=true:=by rw[hDs,lZ e]at hj;exact hj
   have hold:=hI.vals j d hjN hjD hd;rw[hput v d (fun e'=>ho.ne j i d hjN hiN e hd (by rw[hdo];exact e'))];refine(F.getD j (true,Pv.any)).2.fr (fun t ht=>?_) hold;have h1:=hpv j (by simpa using hjN);rw[Bool.and_eq_true,all_eq_true]at h1;exact(hput v t (hslot j false (.inl hjD) t (h1.1 t ht))).symm
  intro t hk;have hne:o.dst≠some t:=by rw[<- hdo];exact hk i hiN (by rw[hDs,nG];rfl)
  rw[hput v t hne];refine hI.keep t (fun j hjN hj=>hk j hjN ?_);rw[hDs];cases Nat.beq j i with
  | true=>rfl
  | false=>exact hj
 have hlv:∀e∈tb,live D e.1 e.2.1=true->∀v r,e.2.2.p f r->e.2.2.p (gL f o.dst v) r:=by
  intro e he hl v r hr;refine e.2.2.fr (fun t ht=>?_) hr;have h1:=htb e he;rw[Bool.and_eq_true]at h1;obtain⟨h1,_⟩:=h1;cases hm:e.1 with
  | none=>
   rw[hm]at h1;simp only[all_eq_true]at h1;exact(hput v t (fun e'=>xT (h1 t ht) i hiN (by rw[hdo];exact e'))).symm
  | some j=>
   rw[hm]at h1 hl;simp only[Bool.and_eq_true,all_eq_true]at h1;unfold live at hl;rw[Bool.and_eq_true]at hl;exact(hput v t (hslot j true (.inl hl.1) t (h1.2 t ht))).symm
 cases q with
 | true=>
  simp only[cond_true]at hstep;have hno:∀e∈tb,isO e.1 i=false/\isO e.2.1 i=false:=by
   have h1:=hpv i (by simpa using hiN);rw[hpF,Bool.and_eq_true]at h1;have h2:=h1.2;simp only[Bool.not_true,Bool.false_or,all_eq_true,Bool.and_eq_true,Bool.not_eq_true']at h2;exact h2
  have hAL2:∀v,AL (iJ D i) tb (gL f o.dst v) rs:=by
   intro v;have key:∀(tb:Tb) (rs:List Res),(∀e∈tb,isO e.1 i=false/\isO e.2.1 i=false)->(∀e∈tb,live D e.1 e.2.1=true->∀r,e.2.2.p f r->e.2.2.p (gL f o.dst v) r)->AL D tb f rs->AL (iJ D i) tb (gL f o.dst v) rs:=by
    intro tb
    induction tb with
    | nil=>intro rs _ _ h;exact h
    | cons e tb ih=>
     obtain⟨m,u,p⟩:=e;intro rs h1 h2 h;have hm:=(h1 _ mem_cons_self).1;have hu:=(h1 _ mem_cons_self).2;have e1:∀x,isO (some x) i=false->iJ D i x=D x:=fun x hx=>by rw[hDs];have:Nat.beq x i=false:=hx;rw[this];rfl
     have hl:live (iJ D i) m u=live D m u:=by
      unfold live;cases m with
      | none=>cases u with
       | none=>rfl
       | some y=>simp only[e1 y hu]
      | some x=>cases u with
       | none=>simp only[e1 x hm]
       | some y=>simp only[e1 x hm,e1 y hu]
     unfold AL at h ⊢;rw[hl];cases hlv2:live D m u with
     | true=>
      rw[hlv2]at h;obtain⟨r,rs2,e,hr,h⟩:=h;exact⟨r,rs2,e,h2 _ mem_cons_self hlv2 r hr,ih rs2 (fun x hx=>h1 x (mem_cons_of_mem _ hx)) (fun x hx=>h2 x (mem_cons_of_mem _ hx)) h⟩
     | false=>
      rw[hlv2]at h;exact ih rs (fun x hx=>h1 x (mem_cons_of_mem _ hx)) (fun x hx=>h2 x (mem_cons_of_mem _ hx)) h
   exact key tb rs hno (fun e he hl r hr=>hlv e he hl v r hr) hAL
  have hrc:St w0 W rc:=by have:=hst.sub (sublist_append_right rs rc);exact this
  have h1:=hstep f W hrc hI.bl hdp hkp;have hfin:∀v W',Below W.heap.size W W'/\p.p f v->IF_ w0 w1 rc tb l F f0 (iJ D i) (gL f o.dst v) W':=fun v W' h=>hpc v W' ⟨rs,hAL2 v,by simpa using hst.call (St.of_below h.1)⟩ (hI.bl.trans (h.1.mono hI.bl.size)) h.2
  cases hg:o.guard with
  | none=>
   rw[hg]at h1;have:onR l f o=true:=by unfold onR;rw[hg]
   rw[this];exact Stp.mono h1 hfin
  | some jw=>
   rw[hg]at h1;simp only at h1;cases hon:onR l f o with
   | true=>rw[hon]at h1;exact Stp.mono h1 hfin
   | false=>rw[hon]at h1;exact hfin undef W ⟨Below.refl _ _,h1⟩
 | false=>
  simp only[cond_false]at hstep;have hu:∀e∈tb,isO e.2.1 i=true->live D e.1 e.2.1=true:=by
   intro e he hui;have h1:=htb e he;rw[Bool.and_eq_true]at h1;obtain⟨_,h1⟩:=h1;cases hu2:e.2.1 with
   | none=>rw[hu2]at hui;cases hui
   | some y=>
    rw[hu2]at h1 hui;have hyi:y=i:=Nat.eq_of_beq_eq_true hui;subst hyi;rw[Bool.and_eq_true]at h1;unfold live;simp only[hDi,Bool.not_false,Bool.and_true];cases hm:e.1 with
    | none=>rfl
    | some x=>
     rw[hm]at h1;exact oJ hdown 2 y x hdep h1.2
  obtain⟨ru,ro,hpe,hus,hk⟩:=aZ4 hu hAL;have hmu:∀e∈tb,isO e.1 i=true->isO e.2.1 i=false:=by
   intro e he hmi;cases hb:isO e.2.1 i with
   | false=>rfl
   | true=>
    have:=hu e he hb;cases hm:e.1 with
    | none=>rw[hm]at hmi;cases hmi
    | some x=>
     rw[hm]at hmi this;have e:=Nat.eq_of_beq_eq_true (show Nat.beq x i=true from hmi);subst e;simp[live,hDi]at this
  have hml:∀e∈tb,isO e.1 i=true->live (iJ D i) e.1 e.2.1=true:=by
   intro e he hmi;have hui:=hmu e he hmi;have h1:=htb e he;rw[Bool.and_eq_true]at h1;obtain⟨_,h1⟩:=h1;cases hm:e.1 with
   | none=>rw[hm]at hmi;cases hmi
   | some x=>
    rw[hm]at hmi h1;have hxi:x=i:=Nat.eq_of_beq_eq_true hmi;subst hxi;unfold live;have e1:iJ D x x=true:=by rw[hDs,nG];rfl
    simp only[e1,Bool.true_and];cases hu2:e.2.1 with
    | none=>rfl
    | some y=>
     rw[hu2]at h1 hui;simp only[Bool.and_eq_true]at h1;have hyx:Nat.beq y x=false:=hui;show (!iJ D x y)=true;rw[hDs,hyx];simp only[cond_false];cases hy:D y with
     | false=>rfl
     | true=>
      exfalso;have:=oJ hdown 2 y x (fun m hm=>hdown y m hy hm) h1.2;rw[hDi]at this;cases this
  have hst2:St w0 W (ru++(rc++ro)):=by
   refine hst.perm (List.Perm.trans ?_ (hpe.symm.append_right rc));rw[append_assoc];exact(List.Perm.refl ru).append perm_append_comm
  have h1:=hstep f W ru ro hus hst2 hI.bl hdp hkp;have hfin:∀v W',cP5 w0 w1 rc tb f i o p ro v W'->IF_ w0 w1 rc tb l F f0 (iJ D i) (gL f o.dst v) W':=by
   rintro v W' ⟨hv,⟨rm,hmk,hs2⟩,hb⟩;obtain⟨rs',ha,hp2⟩:=hk (iJ D i) (gL f o.dst v) hDs hDi (fun e he hl r hr=>hlv e he hl v r hr) rm hmk hmu hml;refine hpc v W' ⟨rs',ha,hs2.perm ?_⟩ hb hv;refine(hp2.append_right rc).trans ?_;rw[append_assoc];exact(List.Perm.refl rm).append perm_append_comm
  cases hg:o.guard with
  | none=>
   rw[hg]at h1;have:onR l f o=true:=by unfold onR;rw[hg]
   rw[this];exact Stp.mono h1 hfin
  | some jw=>
   rw[hg]at h1;simp only at h1;cases hon:onR l f o with
   | true=>rw[hon]at h1;exact Stp.mono h1 hfin
   | false=>rw[hon]at h1;exact hfin undef W h1
theorem pO {id:Nat}{l:List Oper}(k:Nat) (tb:Tb) {W:World}{f0:Nat->Value}(F:List (Bool×Pv)) (hm:P.follows .mixedOrders=true) (ho:bD8 n (l.take k)=true) (hT:((l.drop k).isEmpty || aC9 (l.take k) (l.drop k))=true) (htb:tbOk (l.take k) tb=true) (hpv:pvOk (l.take k) F tb=true)
  {rs0:List Res}(h0:AL (fun _=>false) tb f0 rs0) (hst:St w0 W (rs0++rc)) (hb:Below w1.heap.size w1 W) (hs:AllF P n w0 w1 rc Q tb (l.take k) F f0 0 (l.take k) F)
  (fin:∀f W' rs',AL (fun _=>true) tb f rs'->St w0 W' (rs'++rc)->Below w1.heap.size w1 W'->(∀i d,i<(l.take k).length->cM (l.take k) i=some d->(F.getD i (true,Pv.any)).2.p f (f d))->(∀t,nY (l.take k) t=true->f t=f0 t)->Wl P l.toArray Q (l.drop k) n f W') :
  (Code.region id l.toArray true).wp P Q (act n f0) W:=by
 have hbd:Below W.heap.size W { W with drawn:=W.drawn+1 }:=(Below.refl _ _).drew;refine bK7 k (IF_ w0 w1 rc tb (l.take k) F f0) hm ho hT ⟨⟨rs0,h0,by simpa using hst.call (St.of_below hbd)⟩,hb.trans (hbd.mono hb.size),fun j d _ h=>(nomatch h),fun _ _=>rfl⟩ (keepF (OrdOk.of ho) htb hpv hs) ?_;intro D f W' hD hI;obtain⟨rs',hAL,hst'⟩:=hI.res;have hAt:AL (fun _=>true) tb f rs':=by
  have key:∀(tb:Tb) (rs:List Res),(∀e∈tb,(∀i,e.1=some i->i<(l.take k).length)/\(∀i,e.2.1=some i->i<(l.take k).length))->AL D tb f rs->AL (fun _=>true) tb f rs:=by
   intro tb
   induction tb with
   | nil=>intro rs _ h;exact h
   | cons e tb ih=>
    obtain⟨m,u,p⟩:=e;intro rs h1 h;have hl:live (fun _=>true) m u=live D m u:=by
     unfold live;have h2:=h1 _ mem_cons_self;cases m with
     | none=>cases u with
      | none=>rfl
      | some y=>simp only[hD y (h2.2 y rfl)]
     | some x=>cases u with
      | none=>simp only[hD x (h2.1 x rfl)]
      | some y=>simp only[hD x (h2.1 x rfl),hD y (h2.2 y rfl)]
    unfold AL at h ⊢;rw[hl];cases hlv2:live D m u with
    | true=>
     rw[hlv2]at h;obtain⟨r,rs2,e,hr,h⟩:=h;exact⟨r,rs2,e,hr,ih rs2 (fun x hx=>h1 x (mem_cons_of_mem _ hx)) h⟩
    | false=>
     rw[hlv2]at h;exact ih rs (fun x hx=>h1 x (mem_cons_of_mem _ hx)) h
  refine key tb rs' ?_ hAL;intro e he;rw[tbOk,all_eq_true]at htb;have h1:=htb e he;rw[Bool.and_eq_true]at h1;refine⟨fun i hi=>?_,fun i hi=>?_⟩
  ·rw[hi]at h1;have:=h1.1;simp only[Bool.and_eq_true]at this;exact yC this.1
  rw[hi]at h1;have:=h1.2;simp only[Bool.and_eq_true]at this;exact yC this.1
 exact fin f W' rs' hAt hst' hI.bl (fun i d hi hd=>hI.vals i d hi (hD i hi) hd) (fun t ht=>hI.keep t (fun i hi _=>xT ht i hi))
theorem mq_ {A P:Prop}(z:A) (h:A->P:=by intro z f W hst hbl hd hf;exact cI (Eq.trans (hf _ (by rfl)) z) brq):P:=h z
theorem fq_ {A B P:Prop}(y:B) (z:A) (h:B->A->P:=by intro y z f W hst hbl hd hf;exact gJ y (Eq.trans (hf _ (by rfl)) z) brq):P:=h y z
end
end Go.Proofs.YtjihdmlkpkkpbaaGreat
namespace Go.Proofs.YtjihdmlkpkkpbaaGreat
set_option maxHeartbeats 1000000
set_option maxHeartbeats 2000000
open Go.RowKit Go.Proofs.Tryz List

def cY9 (l:List Oper) (j t:Nat):Bool:=
 match cM l j with
 | some d=>Nat.beq d t
 | none=>false
theorem isDst_ok {l:List Oper}{j t:Nat}(h:cY9 l j t=true):cM l j=some t:=by
 unfold cY9 at h;split at h
 ·next d hd=>rw[hd,Nat.eq_of_beq_eq_true h]
 cases h
def lkD (n:Nat) (l:List Oper) (E0 V:List (Nat×SV)) (i:Nat):Operand->Option SV
 | .tmp t=>cond (Nat.ble (t+1) n) (match (List.range l.length).find? (fun j=>dep l i j && cY9 l j t) with
  | some j=>lku V j
  | none=>cond (xS l i t) (lku E0 t) none) none
 | .const v=>some (one (.vl v))
 | .global _=>none
 | .func g=>some (one (.vl (.func (.func g) #[] #[])))
def isX:Op->Bool
 | .alloc _ | .box _ _ | .buildSlice _ _ _ | .store _ _ _ | .makeSlice _ _ _=>true
 | .call ⟨.value (.func _),_,_⟩=>true
 | .call ⟨.value (.tmp _),_,_⟩=>true
 | .call ⟨.builtin .append,_,_⟩=>true
 | .call ⟨.builtin .copy,_,_⟩=>true
 | .call ⟨.builtin .clear,_,_⟩=>true
 | _=>false
def cW9 (l:List Oper) (done:List Nat) (p:Op->Bool):Option Nat:=
 (List.range l.length).find? fun i=> !done.contains i && (match l[i]? with
  | some o=>p o.op
  | none=>false) && (List.range l.length).all fun j=> !dep l i j || done.contains j
def aL2 (l:List Oper):Nat->List Nat->List Nat
 | 0,_=>[]
 | k+1,done=>match cW9 l done (fun o=> !isX o) with
  | some i=>i::aL2 l k (i::done)
  | none=>match cW9 l done (fun _=>true) with
   | some i=>i::aL2 l k (i::done)
   | none=>[]
def keys {α:Type u}(V:List (Nat×α)):List Nat:=V.map (·.1)
def cR7 (l:List Oper) (j:Nat):List Nat:=(List.range l.length).foldl (fun acc i=>cond (acc.any fun k=>dep l i k) (i::acc) acc) [j]
def cE3 (l:List Oper) (is:List Nat) (i:Nat):Bool:=is.all fun q=>(cR7 l i).contains q
def slJ (l:List Oper) (j:Nat):Bool:=
 match l[j]? with
 | some o=>cY7 o.op
 | none=>false
def pnd (l:List Oper) (done:List Nat) (i:Nat) (g:Bool):List Nat:=cond g [] (done.filter fun j=> !(cR7 l j).contains i && !slJ l j)
section
variable {P:Program}{A:Type}{R:A->Prop}
def grdD (V:List (Nat×SV)) (o:Oper) (d:D P R) (K:Bool->List (Nat×SV)->D P R->Tr):Tr:=
 match o.guard with
 | none=>K true V d
 | some (j,w)=>opt (lku V j) fun v=>match v with
  | .on (.ce (.bo e))=>bl (.bo e) d fun r d=>K (onB w r) ((j,one (.vl (.bool r)))::V) d
  | .on (.ce c)=>K (match yl c.val with
   | some b=>onB w b
   | none=>false) V d
  | .on (.ag _)=>.no
  | .tu _=>.no
def rrT (P:Program) {A:Type}{R:A->Prop}(n:Nat) (l:List Oper) (E0 V:List (Nat×SV)) (s:S) (d:D P R):List Nat->Tr->Tr
 | [],k=>k
 | j::js,k=>opt (l[j]?) fun o=>opt (lku V j) fun x=>.e0 o.guard.isNone true<|qop P (lkD n l E0 V j) s o.op d fun v _ _=>.e0 v.val x.val (rrT P n l E0 V s d js k)
def reK {P:Program}{A:Type}{R:A->Prop}(d:D P R) (s:S) (K:S->D P R->Tr):Tr:=
 match d with
 | .re i r j xs n _ k=>reT i r j xs n s fun s=>K s k
 | d=>K s d
theorem reK_ok {G:Prop}{d:D P R}{s:S}{K:S->D P R->Tr}{w0 W:World}(h:(reK d s K).holds) (st:St w0 W s.rs) (fa:Facts w0 W s.B)
  (k:∀s' d',(K s' d').holds->s'.O=s.O->Facts w0 W s'.B->G):G:=by
 unfold reK at h;split at h
 ·next hn _=>exact cV4 h hn st fa fun s' h _ e2 fa2=>k s' _ h e2 fa2
 exact k _ _ h rfl fa
def drT (P:Program) {A:Type}{R:A->Prop}(n:Nat) (l:List Oper) (E0:List (Nat×SV)):List Nat->List (Nat×SV)->S->D P R->(List (Nat×SV)->S->D P R->Tr)->Tr
 | [],V,s,d,K=>K V s d
 | i::is,V,s,d,K=>opt (l[i]?) fun o=>.e0 (lku V i).isNone true<|grdD V o d fun on V d=>match on with
  | true=>nrm d fun d=>match isX o.op && cE3 l is i with
   | true=>reK d s fun s d=>eop P (bY0 o.op && !cR1 d) (lkD n l E0 V i) s o.op d fun v s d'=>rrT P n l E0 ((i,v)::V) s d' (pnd l (keys V) i (bY0 o.op && !cR1 d)) (drT P n l E0 is ((i,v)::V) s d' K)
   | false=>qop P (lkD n l E0 V i) s o.op d fun v s d=>drT P n l E0 is ((i,v)::V) s d K
  | false=>drT P n l E0 is ((i,one (.vl undef))::V) s d K
def aF3 (l:List Oper) (V:List (Nat×SV)):List Nat->List (Nat×SV)
 | []=>[]
 | j::js=>match cM l j,lku V j with
  | some d,some x=>(d,x)::aF3 l V js
  | _,_=>aF3 l V js
def cN7 (P:Program) {A:Type}{R:A->Prop}(n:Nat) (l:List Oper) (s:S) (d:D P R) (K:S->D P R->Tr):Tr:=
 prp d s fun s d=>.e0 (P.follows .mixedOrders && bD8 n l) true<|.e0 ((List.range l.length).all fun i=>(aL2 l l.length []).contains i) true <|
  drT P n l s.E (aL2 l l.length []) [] s d fun V s' d=>K ⟨aF3 l V (List.range l.length)++s.E,s'.O,s'.B,s'.nx⟩ d

def FIa (l:List Oper) (V:List (Nat×SV)) (D:Nat->Bool) (f:Nat->Value):Prop:=∀j x d,lku V j=some x->D j=true->cM l j=some d->f d=x.val
def FIb (l:List Oper) (f0:Nat->Value) (D:Nat->Bool) (f:Nat->Value):Prop:=∀t,(∀j,D j=true->cM l j≠some t)->f t=f0 t
def aZ2 (l:List Oper) (D:Nat->Bool):Prop:=∀j k,D j=true->dep l j k=true->D k=true
theorem aU7 {n:Nat}{l:List Oper}{E0 V:List (Nat×SV)}{i:Nat}{D:Nat->Bool}{f0 f:Nat->Value}(hE:Fr E0 f0) (hi:D i=false) (hd:∀j,dep l i j=true->D j=true) (hc:aZ2 l D) (ha:FIa l V D f) (hb:FIb l f0 D f) (x:Operand) (u:SV) (e:lkD n l E0 V i x=some u):ev n f x=u.val:=by
 cases x with
 | tmp t=>
  simp only[lkD]at e;cases hn:Nat.ble (t+1) n with
  | false=>rw[hn]at e;cases e
  | true=>
   rw[hn]at e;simp only[ev,hn,cond_true]at e ⊢;split at e
   ·next j hj=>
    have:=find?_some hj;simp only[Bool.and_eq_true]at this;exact ha j u t e (hd j this.1) (isDst_ok this.2)
   cases hk:xS l i t with
   | false=>rw[hk]at e;cases e
   | true=>
    rw[hk]at e;rw[hb t fun j hj hdj=>?_]
    ·exact hE t u e
    unfold xS at hk;rw[all_eq_true]at hk;have hjl:j<l.length:=by
     unfold cM at hdj;cases hq:l[j]? with
     | none=>rw[hq]at hdj;cases hdj
     | some o=>exact(gsi_.1 hq).1
    have:=hk j (mem_range.2 hjl);rw[hdj]at this;simp only[nG,Bool.not_true,Bool.or_false,Bool.or_eq_true]at this;rcases this with h | h
    ·rw[Nat.eq_of_beq_eq_true h]at hj;rw[hj]at hi;cases hi
    have:=hc j i hj h;rw[hi]at this;cases this
 | const v=>simp only[lkD,Option.some.injEq]at e;subst e;rfl
 | global g=>cases e
 | func g=>simp only[lkD,Option.some.injEq]at e;subst e;rfl
theorem uD {l:List Oper}{D:Nat->Bool}(hc:aZ2 l D) {i q:Nat}(h:(cR7 l i).contains q=true) (hq:q≠i) (hd:∀m,dep l q m=true->D m=true):D i=true:=by
 have key:∀(r acc:List Nat),(∀q∈acc,(D q=true->D i=true)/\(q=i∨∃m,dep l q m=true/\(D m=true->D i=true)))->∀q∈r.foldl (fun acc i=>cond (acc.any fun k=>dep l i k) (i::acc) acc) acc,(D q=true->D i=true)/\(q=i∨∃m,dep l q m=true/\(D m=true->D i=true)):=by
  intro r
  induction r with
  | nil=>exact fun acc h=>h
  | cons a r ih=>
   intro acc h;refine ih _ ?_;show ∀q∈cond (acc.any fun k=>dep l a k) (a::acc) acc,_;cases ha:acc.any fun k=>dep l a k with
   | false=>exact h
   | true=>
    show ∀q∈a::acc,_;intro q hq;rcases mem_cons.1 hq with rfl | hq
    ·obtain⟨k,hk,hdk⟩:=any_eq_true.1 ha;have:=(h k hk).1;exact⟨fun hD=>this (hc _ _ hD hdk),.inr ⟨k,hdk,this⟩⟩
    exact h q hq
 have:=key (List.range l.length) [i] (fun q hq=>by rw[mem_singleton]at hq;subst hq;exact⟨id,.inl rfl⟩) q (by simpa [cR7] using h);rcases this.2 with rfl | ⟨m,hm,h2⟩
 ·exact absurd rfl hq
 exact h2 (hd m hm)
def Ext (V V2:List (Nat×SV)):Prop:=∀j x,lku V j=some x->∃x',lku V2 j=some x'/\x'.val=x.val
theorem Ext.refl (V:List (Nat×SV)):Ext V V:=fun j x h=>⟨x,h,rfl⟩
theorem Ext.trans {A B C:List (Nat×SV)}(h:Ext A B) (k:Ext B C):Ext A C:=fun j x hx=>by
 obtain⟨x',h1,h2⟩:=h j x hx;obtain⟨x'',h3,h4⟩:=k j x' h1;exact⟨x'',h3,h4.trans h2⟩
theorem Ext.new {V:List (Nat×SV)}{i:Nat}{v:SV}(h:lku V i=none):Ext V ((i,v)::V):=fun j x hx=>by
 refine⟨x,?_,rfl⟩;unfold lku;rw[lZ (fun e=>by rw[e,h]at hx;cases hx)];exact hx
theorem Ext.know {V:List (Nat×SV)}{i:Nat}{v v':SV}(h:lku V i=some v) (e:v'.val=v.val):Ext V ((i,v')::V):=fun j x hx=>by
 by_cases hj:j=i
 ·subst hj;rw[h]at hx;cases hx;exact⟨v',by unfold lku;rw[Nat.beq_refl];rfl,e⟩
 ·exact⟨x,by unfold lku;rw[lZ hj];exact hx,rfl⟩
theorem FIa.of_ext {l:List Oper}{V V2:List (Nat×SV)}{D:Nat->Bool}{f:Nat->Value}(h:FIa l V2 D f) (e:Ext V V2):FIa l V D f:=fun j x d hx hj hd=>by
 obtain⟨x',h1,h2⟩:=e j x hx;rw[h j x' d h1 hj hd,h2]
def Pn0 (P:Program) (n:Nat) (Q:Exit->Act->World->Prop) (w0:World) (l:List Oper) (f0:Nat->Value) (V:List (Nat×SV)) (s:S) (W:World) (j:Nat):Prop:=
 ∃x o,lku V j=some x/\l[j]? = some o/\∀D f W',D j=false->(∀k,dep l j k=true->D k=true)->aZ2 l D->FIa l V D f->FIb l f0 D f->St w0 W' s.rs->Below W.heap.size W W' ->
  cond (onR l f o) (∀KK:Value->World->Prop,(∀W'',Below W'.heap.size W' W''->KK x.val W'')->Stp P n o f W' Q KK) (x.val=undef)
theorem Pn0.mono {n:Nat}{Q:Exit->Act->World->Prop}{w0:World}{l:List Oper}{f0:Nat->Value}{V V2:List (Nat×SV)}{s s2:S}{W W2:World}{j:Nat}(h:Pn0 P n Q w0 l f0 V s W j) (e:Ext V V2) (hs:∃N,s2.O=N++s.O) (hb:Below W.heap.size W W2):Pn0 P n Q w0 l f0 V2 s2 W2 j:=by
 obtain⟨x,o,h1,h2,h3⟩:=h;obtain⟨x',h4,h5⟩:=e j x h1;refine⟨x',o,h4,h2,fun D f W' a b c d g st b2=>?_⟩;obtain⟨N,hN⟩:=hs;have:=h3 D f W' a b c (d.of_ext e) g (st.sub (by rw[S.rs,S.rs,hN,map_append];exact sublist_append_right _ _)) (hb.trans (b2.mono hb.size));rw[h5];exact this
def Pnd (P:Program) (n:Nat) (Q:Exit->Act->World->Prop) (w0:World) (l:List Oper) (f0:Nat->Value) (V:List (Nat×SV)) (s:S) (W:World) (j:Nat):Prop:=
 Pn0 P n Q w0 l f0 V s W j/\(slJ l j=true->∀s1 W1,Pn0 P n Q w0 l f0 V s1 W1 j)
theorem Pnd.mono {n:Nat}{Q:Exit->Act->World->Prop}{w0:World}{l:List Oper}{f0:Nat->Value}{V V2:List (Nat×SV)}{s s2:S}{W W2:World}{j:Nat}(h:Pnd P n Q w0 l f0 V s W j) (e:Ext V V2) (hs:∃N,s2.O=N++s.O) (hb:Below W.heap.size W W2):Pnd P n Q w0 l f0 V2 s2 W2 j:=
 ⟨h.1.mono e hs hb,fun z s1 W1=>(h.2 z s1 W1).mono e ⟨[],rfl⟩ (Below.refl _ _)⟩
theorem Pnd.any {n:Nat}{Q:Exit->Act->World->Prop}{w0:World}{l:List Oper}{f0:Nat->Value}{V V2:List (Nat×SV)}{s s2:S}{W W2:World}{j:Nat}(h:Pnd P n Q w0 l f0 V s W j) (z:slJ l j=true) (e:Ext V V2):Pnd P n Q w0 l f0 V2 s2 W2 j:=
 ⟨(h.2 z s2 W2).mono e ⟨[],rfl⟩ (Below.refl _ _),fun z s1 W1=>(h.2 z s1 W1).mono e ⟨[],rfl⟩ (Below.refl _ _)⟩
def Stg (P:Program) {A:Type}{R:A->Prop}(n:Nat) (l:List Oper) (E0:List (Nat×SV)) (K:List (Nat×SV)->S->D P R->Tr) (is:List Nat) (V:List (Nat×SV)) (s:S) (d:D P R):Prop:=
 match is with
 | []=>(K V s d).holds
 | i::is=>∃o g,l[i]? = some o/\lku V i=none/\cE3 l is i=true/\(eop P g (lkD n l E0 V i) s o.op d fun v s d=>rrT P n l E0 ((i,v)::V) s d (pnd l (keys V) i g) (drT P n l E0 is ((i,v)::V) s d K)).holds /\
   ∀D f,(∀k,dep l i k=true->D k=true)->FIa l V D f->onR l f o=true
theorem grdD_ok {G:Prop}{n:Nat}{l:List Oper}(ho:OrdOk n l) {V:List (Nat×SV)}{i:Nat}{o:Oper}{d:D P R}{K:Bool->List (Nat×SV)->D P R->Tr}(hi:l[i]? = some o) (h:(grdD V o d K).holds)
  (k:∀on V2 d',(K on V2 d').holds->Ext V V2->(∀j,j∈keys V2↔j∈keys V)->(∀D f,(∀k,dep l i k=true->D k=true)->FIa l V2 D f->onR l f o=on)->G):G:=by
 unfold grdD at h;split at h
 ·next hg=>exact k _ _ _ h (Ext.refl V) (fun _=>Iff.rfl) fun D f _ _=>by unfold onR;rw[hg]
 next j w hg=>
 obtain⟨hdj,dd,hdd⟩:=ho.guard i o j w hi hg;refine aH h fun v hv h=>?_
 split at h
 ·next e=>
  refine cO6 h fun r d' hr h=>?_
  have hr:e=r:=by simpa [Sc.val] using hr
  subst hr;refine k _ _ _ h (Ext.know hv rfl) (fun q=>?_) fun D f hd ha=>?_
  ·simp only[keys,map_cons,mem_cons];exact⟨fun h=>h.elim (fun e=>by rw[e];exact mem_map.2 ⟨_,mO hv,rfl⟩) id,.inr⟩
  have:=ha j _ dd (by unfold lku;rw[Nat.beq_refl];rfl) (hd j hdj) hdd;unfold onR;rw[hg];simp only[hdd];rw[this];show (some e == some w)=_;cases e<;>cases w<;>rfl
 ·next c _=>
  refine k _ _ _ h (Ext.refl V) (fun _=>Iff.rfl) fun D f hd ha=>?_
  have:=ha j _ dd hv (hd j hdj) hdd;unfold onR;rw[hg];simp only[hdd];rw[this];show (yl c.val == some w)=_;split
  ·next b hb=>rw[hb];cases b<;>cases w<;>rfl
  next hb=>rw[hb];cases w<;>rfl
 ·exact h.elim
 exact h.elim
theorem lku_none {α:Type u}{V:List (Nat×α)}{j:Nat}:lku V j=none↔j∉keys V:=by
 induction V with
 | nil=>simp[lku,keys]
 | cons p V ih=>
  obtain⟨i,v⟩:=p;unfold lku;by_cases h:j=i
  ·subst h;rw[Nat.beq_refl];simp[keys]
  rw[lZ h];simp only[cond_false,keys,map_cons,mem_cons,not_or];exact ih.trans ⟨fun a=>⟨h,a⟩,fun a=>a.2⟩
theorem cC3 {n:Nat}{l:List Oper}{Q:Exit->Act->World->Prop}{w0 W:World}{E0 V:List (Nat×SV)}{f0:Nat->Value}(hE:Fr E0 f0) {s:S}{d:D P R}(st:St w0 W s.rs) (fa:Facts w0 W s.B) :
  ∀{js:List Nat}{k:Tr},(rrT P n l E0 V s d js k).holds->(∀j∈js,Pnd P n Q w0 l f0 V s W j)/\k.holds
 | [],k,h=>⟨fun j hj=>(by cases hj),h⟩
 | j::js,k,h=>aH h fun o ho h=>aH h fun x hx h=>by
  obtain⟨hg,h⟩:=h;refine bM3 h st fa fun v s3 d3 h3 e3 e4 fa3 q q2=>?_
  obtain⟨hv,h4⟩:=h3;obtain⟨h5,h6⟩:=cC3 hE st fa h4;refine⟨fun j' hj'=>?_,h6⟩;rcases mem_cons.1 hj' with rfl | hj'
  ·have p0:∀{s1:S}{W1:World},QS P (lkD n l E0 V j') o.op w0 W1 s1.rs v->Pn0 P n Q w0 l f0 V s1 W1 j':=fun {s1 W1} q=>?_
   ·exact⟨p0 q,fun z s1 W1=>p0 (q2 (by unfold slJ at z;rw[ho]at z;exact z) _ _ _)⟩
   refine⟨x,o,hx,ho,fun D f W' a b c d' e' st' hb=>?_⟩;have hon:onR l f o=true:=by
    unfold onR;cases hgg:o.guard with
    | none=>rfl
    | some p=>rw[hgg]at hg;cases hg
   rw[hon];intro KK kk;rw[<- hv]at kk;exact q (d:=o.dst) (ty:=o.type) (pos:=o.pos) (af:=o.after) (g:=o.guard) (aU7 hE a b c d' e') st' hb (fun W'' _ hb2=>kk W'' hb2)
  exact h5 j' hj'
theorem dC4 {n:Nat}{l:List Oper}(ho:OrdOk n l) {Q:Exit->Act->World->Prop}{w0:World}{E0:List (Nat×SV)}{f0:Nat->Value}(hE:Fr E0 f0) {K:List (Nat×SV)->S->D P R->Tr}{G:Prop} :
  ∀{is:List Nat}{V:List (Nat×SV)}{s:S}{d:D P R}{W:World},(drT P n l E0 is V s d K).holds->St w0 W s.rs->Facts w0 W s.B ->
   (∀is2 V2 s2 d2,Stg P n l E0 K is2 V2 s2 d2->St w0 W s2.rs->Facts w0 W s2.B->s2.O=s.O->Ext V V2->(∀j,j∈keys V2∨j∈is2↔j∈keys V∨j∈is)->(∀j∈is2,j∈is)->(∀j∈keys V2,j∈keys V∨Pnd P n Q w0 l f0 V2 s2 W j)->G)->G:=by
 intro is
 induction is with
 | nil=>exact fun h st fa k=>k [] _ _ _ h st fa rfl (Ext.refl _) (fun _=>Iff.rfl) (fun _ h=>h) (fun j hj=>.inl hj)
 | cons i is ih=>
  intro V s d W h st fa k;refine aH h fun o hi h=>?_
  obtain⟨hn,h⟩:=h;have hn:lku V i=none:=by simpa using hn
  refine grdD_ok ho hi h fun on V2 d2 h2 e2 hk2 hon=>?_
  have hn2:lku V2 i=none:=lku_none.2 fun hm=>lku_none.1 hn ((hk2 i).1 hm)
  have mem3:∀{v:SV} j,j∈keys ((i,v)::V2)∨j∈is↔j∈keys V∨j∈i::is:=fun {v} j=>by
   simp only[keys,map_cons,mem_cons];have:=hk2 j;simp only[keys]at this;rw[this];constructor
   ·rintro((h | h) | h)
    ·exact .inr (.inl h)
    ·exact .inl h
    exact .inr (.inr h)
   rintro(h | h | h)
   ·exact .inl (.inr h)
   ·exact .inl (.inl h)
   exact .inr h
  have go:∀{v:SV}{s3:S}{d3:D P R},(drT P n l E0 is ((i,v)::V2) s3 d3 K).holds->s3.O=s.O->Facts w0 W s3.B->Pnd P n Q w0 l f0 ((i,v)::V2) s3 W i->G:=fun {v s3 d3} h3 eO fa3 hp=>by
   refine ih h3 (by rw[S.rs,eO];exact st) fa3 fun is4 V4 s4 d4 g1 g2 g3 g4 g5 g6 g7 g8=>k is4 V4 s4 d4 g1 g2 g3 (g4.trans eO) (e2.trans ((Ext.new hn2).trans g5)) (fun j=>(g6 j).trans (mem3 j)) (fun j hj=>mem_cons_of_mem _ (g7 j hj)) fun j hj=>?_
   rcases g8 j hj with h | h
   ·simp only[keys,map_cons,mem_cons]at h;rcases h with rfl | h
    ·exact .inr (hp.mono g5 ⟨[],by rw[g4];rfl⟩ (Below.refl _ _))
    exact .inl ((hk2 j).1 h)
   exact .inr h
  cases on with
  | false=>
   have p0:∀(s1:S) (W1:World),Pn0 P n Q w0 l f0 ((i,one (.vl undef))::V2) s1 W1 i:=fun s1 W1=>⟨_,o,by unfold lku;rw[Nat.beq_refl];rfl,hi,fun D f W' a b c d' e' st' hb=>by
    rw[hon D f b (d'.of_ext (Ext.new hn2))];exact rfl⟩
   exact go h2 rfl fa ⟨p0 _ _,fun _=>p0⟩
  | true=>
   refine dI h2 fun d2 h2=>?_
   cases hx:isX o.op && cE3 l is i with
   | true=>
    rw[hx]at h2;rw[Bool.and_eq_true]at hx;refine reK_ok h2 st fa fun s5 d5 h5 e5 fa5=>(k (i::is) V2 s5 d5 ⟨o,_,hi,hn2,hx.2,h5,fun D f hd ha=>hon D f hd ha⟩ (by rw[S.rs,e5];exact st) fa5 e5 e2 (fun j=>?_) (fun _ h=>h) (fun j hj=>.inl ((hk2 j).1 hj)))
    rw[hk2 j]
   | false=>
    rw[hx]at h2;refine bM3 h2 st fa fun v s3 d3 h3 e3 e4 fa3 q q2=>?_
    have p0:∀{s1:S}{W1:World},QS P (lkD n l E0 V2 i) o.op w0 W1 s1.rs v->Pn0 P n Q w0 l f0 ((i,v)::V2) s1 W1 i:=fun {s1 W1} q=>⟨_,o,by unfold lku;rw[Nat.beq_refl];rfl,hi,fun D f W' a b c d' e' st' hb=>by
     have ha2:=d'.of_ext (Ext.new hn2);rw[hon D f b ha2];intro KK kk;exact q (d:=o.dst) (ty:=o.type) (pos:=o.pos) (af:=o.after) (g:=o.guard) (aU7 hE a b c ha2 e') st' hb (fun W'' _ hb2=>kk W'' hb2)⟩
    exact go h3 e4 fa3 ⟨p0 (by rw[S.rs,e4];exact q),fun z s1 W1=>p0 (q2 (by unfold slJ at z;rw[hi]at z;exact z) _ _ _)⟩
def IDr (P:Program) {A:Type}{R:A->Prop}(n:Nat) (Q:Exit->Act->World->Prop) (w0:World) (l:List Oper) (E0:List (Nat×SV)) (f0:Nat->Value) (K:List (Nat×SV)->S->D P R->Tr) (D:Nat->Bool) (f:Nat->Value) (W:World):Prop:=
 ∃is V s d,Stg P n l E0 K is V s d/\St w0 W s.rs/\Facts w0 W s.B/\FIa l V D f/\FIb l f0 D f/\(∀j,j<l.length->j∈keys V∨j∈is)/\(∀j∈is,D j=false)/\(∀j,D j=true->j∈keys V)/\∀j∈keys V,D j=false->Pnd P n Q w0 l f0 V s W j
theorem keepDr {n:Nat}{l:List Oper}(ho:OrdOk n l) {Q:Exit->Act->World->Prop}{w0:World}{E0:List (Nat×SV)}{f0:Nat->Value}(hE:Fr E0 f0) {K:List (Nat×SV)->S->D P R->Tr}:KeepI P n Q l (IDr P n Q w0 l E0 f0 K):=by
 refine⟨fun i o D f W hi hDi hd hc ⟨is,V,s,d,hs,st,fa,ha,hb,hcov,hnd,hkd,hp⟩=>?_⟩;have hil:i<l.length:=(gsi_.1 hi).1;have hc:aZ2 l D:=hc;have setD_t:∀j,iJ D i j=true->j=i∨D j=true:=fun j h=>by
  unfold iJ at h;by_cases hj:j=i
  ·exact .inl hj
  rw[lZ hj]at h;exact .inr h
 have setD_f:∀j,j≠i->iJ D i j=D j:=fun j hj=>by unfold iJ;rw[lZ hj];rfl
 have frame:∀{V2:List (Nat×SV)}{x:SV},Ext V V2->(∀j,D j=true->j∈keys V)->lku V2 i=some x->FIa l V2 (iJ D i) (gL f o.dst x.val)/\FIb l f0 (iJ D i) (gL f o.dst x.val):=fun {V2 x} hV2 hk hx=>by
  have hdo:cM l i=o.dst:=by unfold cM;rw[hi];rfl
  constructor
  ·intro j u t hu hj ht;rcases setD_t j hj with rfl | hj
   ·rw[hx]at hu;cases hu;rw[hdo]at ht;rw[ht];show upd f t x.val t=x.val;unfold upd;rw[Nat.beq_refl];rfl
   have hji:j≠i:=fun e=>by rw[e,hDi]at hj;cases hj
   obtain⟨u0,h0,e0⟩:∃u0,lku V j=some u0/\u.val=u0.val:=by
    cases hq:lku V j with
    | none=>exact absurd (hk j hj) (lku_none.1 hq)
    | some u0=>
     obtain⟨u1,h1,h2⟩:=hV2 j u0 hq;rw[hu]at h1;cases h1;exact⟨u0,rfl,h2⟩
   have hf:=ha j u0 t h0 hj ht;rw[e0,<- hf];cases hod:o.dst with
   | none=>rfl
   | some t'=>
    show upd f t' x.val t=f t;unfold upd;have hjl:j<l.length:=by
     unfold cM at ht;cases hq:l[j]? with
     | none=>rw[hq]at ht;cases ht
     | some o=>exact(gsi_.1 hq).1
    rw[lZ fun e=>ho.ne j i t hjl hil hji ht (by rw[hdo,hod,e])];rfl
  intro t ht;have h1:f t=f0 t:=hb t fun j hj=>ht j (by
   by_cases hji:j=i
   ·rw[hji,hDi]at hj;cases hj
   rw[setD_f j hji];exact hj)
  have h2:cM l i≠some t:=ht i (by unfold iJ;rw[Nat.beq_refl];rfl);rw[hdo]at h2;rw[<- h1];cases hod:o.dst with
  | none=>rfl
  | some t'=>
   show upd f t' x.val t=f t;unfold upd;rw[lZ fun e=>h2 (by rw[hod,e])];rfl
 rcases hcov i hil with hik | his
 ·-- it has been read
  obtain⟨⟨x,o',hx,ho',hstep⟩,_⟩:=hp i hik hDi;rw[hi]at ho';cases ho';have hq:=hstep D f W hDi hd hc ha hb st (Below.refl _ _);have next:∀W'',Below W.heap.size W W''->IDr P n Q w0 l E0 f0 K (iJ D i) (gL f o.dst x.val) W'':=fun W'' hb2=>by
   obtain⟨fa1,fb1⟩:=frame (Ext.refl V) hkd hx;have st2:St w0 W'' s.rs:=by simpa using st.call (St.of_below hb2)
   refine⟨is,V,s,d,hs,st2,fa.up hb2,fa1,fb1,hcov,fun j hj=>?_,fun j hj=>?_,fun j hj hDj=>?_⟩
   ·rw[setD_f j fun e=>?_]
    ·exact hnd j hj
    subst e
    match is,hs,hj with
    | i0::is',⟨o0,g0,h1,h2,h3,h4,h5⟩,hj=>
     rcases mem_cons.1 hj with e | hj
     ·subst e;exact lku_none.1 h2 hik
     unfold cE3 at h3;rw[all_eq_true]at h3;by_cases e:j=i0
     ·subst e;exact lku_none.1 h2 hik
     have:=uD hc (h3 j hj) e hd;rw[hnd i0 (by simp)]at this;cases this
   ·rcases setD_t j hj with rfl | hj
    ·exact hik
    exact hkd j hj
   have hji:j≠i:=fun e=>by rw[e]at hDj;unfold iJ at hDj;rw[Nat.beq_refl]at hDj;cases hDj
   rw[setD_f j hji]at hDj;exact(hp j hj hDj).mono (Ext.refl V) ⟨[],rfl⟩ hb2
  cases hon:onR l f o with
  | true=>
   rw[hon]at hq;exact hq _ fun W'' hb2=>next W'' hb2
  | false=>
   rw[hon]at hq;have hq:x.val=undef:=hq;have:=next W (Below.refl _ _);rw[hq]at this;exact this
 match is,hs,his,hcov,hnd with
 | i0::is',⟨o0,g0,h1,h2,h3,h4,h5⟩,his,hcov,hnd=>
  unfold cE3 at h3;rw[all_eq_true]at h3;have hii:i=i0:=by
   rcases mem_cons.1 his with e | hm
   ·exact e
   apply Classical.byContradiction;intro e;have:=uD hc (h3 i hm) e hd;rw[hnd i0 (by simp)]at this;cases this
  subst hii;rw[hi]at h1;cases h1;rw[h5 D f hd ha];refine cD8 (d:=o.dst) (ty:=o.type) (pos:=o.pos) (af:=o.after) (g:=o.guard) h4 (aU7 hE hDi hd hc ha hb) st fa fun v s1 d1 W1 h6 e6 g6 st1 fa1=>?_
  obtain⟨hrr,h6⟩:=cC3 (Q:=Q) hE st1 fa1 h6;refine dC4 ho hE (Q:=Q) h6 st1 fa1 fun is2 V2 s2 d2 k1 k2 k3 k4 k5 k6 k7 k8=>?_
  obtain⟨x,hx,ex⟩:=k5 i v (by unfold lku;rw[Nat.beq_refl];rfl);have hext:Ext V V2:=(Ext.new h2).trans k5;obtain⟨fa2,fb2⟩:=frame hext hkd hx;rw[ex]at fa2 fb2;refine⟨is2,V2,s2,d2,k1,k2,k3,fa2,fb2,fun j hj=>?_,fun j hj=>?_,fun j hj=>?_,fun j hj hDj=>?_⟩
  ·refine(k6 j).2 ?_;rcases hcov j hj with h | h
   ·exact .inl (by simp only[keys,map_cons,mem_cons];exact .inr h)
   rcases mem_cons.1 h with e | h
   ·exact .inl (by simp only[keys,map_cons,mem_cons];exact .inl e)
   exact .inr h
  ·have hj':=k7 j hj;by_cases e:j=i
   ·subst e;have:=(k6 j).1 (.inr hj);exfalso
    match is2,k1,hj with
    | i2::is3,⟨o2,g2,q1,q2,q3,q4,q5⟩,hj=>
     have hjk:j∈keys V2:=Classical.byContradiction fun h=>by
      rw[lku_none.2 h]at hx;cases hx
     rcases mem_cons.1 hj with e | hj
     ·subst e;exact lku_none.1 q2 hjk
     unfold cE3 at q3;rw[all_eq_true]at q3;by_cases e:j=i2
     ·subst e;exact lku_none.1 q2 hjk
     have hb2:=uD hc (q3 j hj) e hd;rw[hnd i2 (mem_cons_of_mem _ (k7 i2 (by simp)))]at hb2;cases hb2
   rw[setD_f j e];exact hnd j (mem_cons_of_mem _ hj')
  ·have hjv:j∈keys ((i,v)::V):=by
    simp only[keys,map_cons,mem_cons];rcases setD_t j hj with e | hj
    ·exact .inl e
    exact .inr (hkd j hj)
   apply Classical.byContradiction;intro hno;cases hq:lku ((i,v)::V) j with
   | none=>exact lku_none.1 hq hjv
   | some u=>
    obtain⟨u',hu',_⟩:=k5 j u hq;rw[lku_none.2 hno]at hu';cases hu'
  rcases k8 j hj with h | h
  ·have hji:j≠i:=fun e=>by rw[e]at hDj;unfold iJ at hDj;rw[Nat.beq_refl]at hDj;cases hDj
   rw[setD_f j hji]at hDj;simp only[keys,map_cons,mem_cons]at h;rcases h with e | h
   ·exact absurd e hji
   cases hg:g0 with
   | true=>
    obtain⟨⟨N,hN⟩,hb1⟩:=g6 hg;exact(hp j h hDj).mono hext ⟨N,by rw[k4,hN]⟩ hb1
   | false=>
    by_cases hcj:(cR7 l j).contains i=true
    ·have:=uD hc hcj (fun e=>hji e.symm) hd;rw[hDj]at this;cases this
    by_cases hsl:slJ l j=true
    ·exact(hp j h hDj).any hsl hext
    refine(hrr j ?_).mono k5 ⟨[],by rw[k4];rfl⟩ (Below.refl _ _);rw[hg];show j∈(keys V).filter _;rw[mem_filter,Bool.and_eq_true];exact⟨h,by simpa using hcj,by simpa using hsl⟩
  exact h
theorem xY {l:List Oper}{V E0:List (Nat×SV)}{t:Nat}{x:SV}:∀{js:List Nat},(∀j∈js,j∈keys V)->lku (aF3 l V js++E0) t=some x->(∃j,lku V j=some x/\cM l j=some t)∨(lku E0 t=some x/\∀j∈js,cM l j≠some t)
 | [],_,h=>.inr ⟨h,fun j hj=>by cases hj⟩
 | a::js,hc,h=>by
  have ih:=xY (l:=l) (E0:=E0) (t:=t) (x:=x) (js:=js) fun j hj=>hc j (mem_cons_of_mem _ hj)
  cases hda:cM l a with
  | none=>
   have e:aF3 l V (a::js)=aF3 l V js:=by simp[aF3,hda]
   rw[e]at h;rcases ih h with h | ⟨h1,h2⟩
   ·exact .inl h
   refine .inr ⟨h1,fun j hj=>?_⟩;rcases mem_cons.1 hj with rfl | hj
   ·rw[hda];exact fun e=>by cases e
   exact h2 j hj
  | some d=>
   cases hv:lku V a with
   | none=>exact absurd (hc a (by simp)) (lku_none.1 hv)
   | some v=>
    have e:aF3 l V (a::js)=(d,v)::aF3 l V js:=by simp[aF3,hda,hv]
    rw[e,cons_append]at h;unfold lku at h;by_cases htd:t=d
    ·subst htd;rw[Nat.beq_refl]at h;simp only[cond_true,Option.some.injEq]at h;subst h;exact .inl ⟨a,hv,hda⟩
    rw[lZ htd]at h;rcases ih h with h | ⟨h1,h2⟩
    ·exact .inl h
    refine .inr ⟨h1,fun j hj=>?_⟩;rcases mem_cons.1 hj with rfl | hj
    ·rw[hda];exact fun e=>by cases e;exact htd rfl
    exact h2 j hj
theorem drawT_ok {w0 W:World}{n id:Nat}{l:List Oper}{s:S}{d:D P R}{K:S->D P R->Tr}{f:Nat->Value}{Q:Exit->Act->World->Prop}(h:(cN7 P n l s d K).holds) (den:Den w0 s f W) (k:∀s' d' f' W',(K s' d').holds->Den w0 s' f' W'->Q .normal (act n f') W'):(Code.region id l.toArray true).wp P Q (act n f) W:=by
 refine iS h den fun s1 d1 h1 den1=>?_
 obtain⟨h2,h3,h4⟩:=h1;rw[Bool.and_eq_true]at h2;rw[all_eq_true]at h3;have ho:=OrdOk.of h2.2
 let K':List (Nat×SV)->S->D P R->Tr:=fun V s' d=>K ⟨aF3 l V (List.range l.length)++s1.E,s'.O,s'.B,s'.nx⟩ d
 have hb0:Below W.heap.size W { W with drawn:=W.drawn+1 }:=(Below.refl _ _).drew;refine bK7 l.length (IDr P n Q w0 l s1.E f K') h2.1 (by rw[take_length];exact h2.2) (by rw[drop_length];rfl) ?_ (by rw[take_length];exact keepDr ho den1.fr) ?_
 ·have st0:St w0 { W with drawn:=W.drawn+1 } s1.rs:=by simpa using den1.st.call (St.of_below hb0)
  refine dC4 ho den1.fr (Q:=Q) (K:=K') h4 st0 (den1.fa.up hb0) fun is2 V2 s2 d2 k1 k2 k3 k4 k5 k6 k7 k8=>(⟨is2,V2,s2,d2,k1,k2,k3,fun j x d _ hD _=>(by cases hD),fun t _=>rfl,fun j hj=>(k6 j).2 (.inr (by simpa using h3 j (mem_range.2 hj))),fun _ _=>rfl,fun j hD=>(by cases hD),fun j hj _=>?_⟩)
  rcases k8 j hj with h | h
  ·cases h
  exact h
 intro D g W' hD ⟨is,V,s2,d2,hs,st,fa,ha,hb,hcov,hnd,hkd,hp⟩;rw[take_length]at hD;rw[drop_length]
 match is,hs,hcov,hnd with
 | i0::is',⟨o0,g0,q1,_⟩,hcov,hnd=>
  have:=hD i0 (gsi_.1 q1).1;rw[hnd i0 (by simp)]at this;cases this
 | [],hs,hcov,hnd=>
  have hs:(K' V s2 d2).holds:=hs;refine bG (k _ _ _ _ hs ⟨?_,st,fa⟩);have hc2:∀j∈List.range l.length,j∈keys V:=fun j hj=>(hcov j (mem_range.1 hj)).elim (fun h=>h) (fun h=>by cases h)
  intro t x hx;rcases xY hc2 hx with⟨j,h5,h6⟩ | ⟨h5,h6⟩
  ·refine ha j x t h5 (hD j ?_) h6;unfold cM at h6;cases hq:l[j]? with
   | none=>rw[hq]at h6;cases h6
   | some o=>exact(gsi_.1 hq).1
  rw[hb t fun j hDj hj=>h6 j ?_ hj]
  ·exact den1.fr t x h5
  unfold cM at hj;cases hq:l[j]? with
  | none=>rw[hq]at hj;cases hj
  | some o=>exact mem_range.2 (gsi_.1 hq).1
end
end Go.Proofs.YtjihdmlkpkkpbaaGreat
namespace Go.Proofs.YtjihdmlkpkkpbaaGreat
set_option maxHeartbeats 1000000
set_option maxHeartbeats 2000000
open Go.RowKit Go.Proofs.Tryz List
def aX1 (l:List Oper):List Nat->Bool
 | []=>true
 | i::is=>(match l[i]? with
  | some o=> !isX o.op || cE3 l is i
  | none=>true) && aX1 l is
def cR5 (l:List Oper) (done:List Nat) (i:Nat):Bool:=(List.range l.length).all fun j=> !dep l i j || done.contains j
def isQ (l:List Oper) (i:Nat):Bool:=
 match l[i]? with
 | some o=> !isX o.op
 | none=>false
def cK1 (l:List Oper) (is done:List Nat):Option Nat:=is.find? fun i=>cR5 l done i && isQ l i
def wo (is:List Nat) (i:Nat):List Nat:=is.filter fun j=> !Nat.beq j i
theorem mem_wo {is:List Nat}{i j:Nat}:j∈wo is i↔j∈is/\j≠i:=by
 unfold wo;rw[mem_filter];by_cases h:j=i
 ·subst h;simp[Nat.beq_refl]
 simp[h,lZ h]
def brA (f:Nat->Tr):List Nat->Tr
 | []=>.ok
 | i::is=>.an (f i) (brA f is)
theorem cE5 {f:Nat->Tr}:∀{is:List Nat},(brA f is).holds->∀i∈is,(f i).holds
 | [],_,i,hi=>by cases hi
 | a::is,h,i,hi=>by
  rcases mem_cons.1 hi with rfl | hi
  ·exact h.1
  ·exact cE5 h.2 i hi
section
variable {P:Program}{A:Type}{R:A->Prop}
def pmA:D P R->Nat->D P R
 | .pm f,i=>f i
 | d,_=>d
def brT (P:Program) {A:Type}{R:A->Prop}(n:Nat) (l:List Oper) (E0:List (Nat×SV)) (base:Nat) (K:List (Nat×SV)->S->D P R->Tr):Nat->List Nat->List (Nat×SV)->S->D P R->Tr
 | 0,_,_,_,_=>.no
 | m+1,is,V,s,d=>match cK1 l is (keys V) with
  | some i=>opt (l[i]?) fun o=>.e0 o.guard.isNone true<|qop P (lkD n l E0 V i) s o.op d fun v s d=>brT P n l E0 base K m (wo is i) ((i,v)::V) s d
  | none=>match is with
   | []=>K V ⟨s.E,s.O,s.B,base+20*l.length⟩ d
   | _::_=>brA (fun i=>opt (l[i]?) fun o=>.e0 o.guard.isNone true<|.e0 (lku V i).isNone true<|nrm (pmA d i) fun d=>eop P (bY0 o.op && !cR1 d) (lkD n l E0 V i) ⟨s.E,s.O,s.B,base+20*i⟩ o.op d fun v s d'=>
     rrT P n l E0 ((i,v)::V) s d' (pnd l ((keys V).filter (isQ l)) i (bY0 o.op && !cR1 d)) (brT P n l E0 base K m (wo is i) ((i,v)::V) s d')) (is.filter (cR5 l (keys V)))
def cN8 (P:Program) {A:Type}{R:A->Prop}(n:Nat) (l:List Oper) (s:S) (d:D P R) (K:S->D P R->Tr):Tr:=
 prp d s fun s d=>.e0 (P.follows .mixedOrders && bD8 n l) true <|
  brT P n l s.E s.nx (fun V s' d=>K ⟨aF3 l V (List.range l.length)++s.E,s'.O,s'.B,s'.nx⟩ d) (l.length+1) (List.range l.length) [] s d
theorem bU6 {l:List Oper}{f:Nat->Value}{o:Oper}(h:o.guard.isNone=true):onR l f o=true:=by
 unfold onR;cases hg:o.guard with
 | none=>rfl
 | some p=>rw[hg]at h;cases h
theorem cO9 {n:Nat}{l:List Oper}{Q:Exit->Act->World->Prop}{w0:World}{E0:List (Nat×SV)}{f0:Nat->Value}(hE:Fr E0 f0) {base:Nat}{K:List (Nat×SV)->S->D P R->Tr}{G:Prop} :
  ∀{m:Nat}{is:List Nat}{V:List (Nat×SV)}{s:S}{d:D P R}{W:World},(brT P n l E0 base K m is V s d).holds->St w0 W s.rs->Facts w0 W s.B->(∀j∈is,j∉keys V) ->
   (∀m2 is2 V2 s2 d2,(brT P n l E0 base K m2 is2 V2 s2 d2).holds->cK1 l is2 (keys V2)=none->St w0 W s2.rs->Facts w0 W s2.B->s2.O=s.O->Ext V V2->(∀j,j∈keys V2∨j∈is2↔j∈keys V∨j∈is)->(∀j∈is2,j∉keys V2)->(∀j∈is2,j∈is)->(∀j∈keys V2,j∈keys V∨isQ l j=true/\Pnd P n Q w0 l f0 V2 s2 W j)->G)->G:=by
 intro m
 induction m with
 | zero=>exact fun h _ _ _ _=>h.elim
 | succ m ih=>
  intro is V s d W h st fa hd k;cases hq:cK1 l is (keys V) with
  | none=>exact k (m+1) is V s d h hq st fa rfl (Ext.refl V) (fun _=>Iff.rfl) hd (fun _ h=>h) (fun j hj=>.inl hj)
  | some i=>
   have h':=h;unfold brT at h;rw[hq]at h;refine aH h fun o hi h=>?_
   obtain⟨hg,h⟩:=h;have his:i∈is:=mem_of_find?_eq_some hq;have hn:lku V i=none:=lku_none.2 (hd i his);refine bM3 h st fa fun v s3 d3 h3 e3 e4 fa3 q q2=>?_
   have mem3:∀j,j∈keys ((i,v)::V)∨j∈wo is i↔j∈keys V∨j∈is:=fun j=>by
    simp only[keys,map_cons,mem_cons,mem_wo];constructor
    ·rintro((e | h) | ⟨h,_⟩)
     ·exact .inr (e▸his)
     ·exact .inl h
     exact .inr h
    rintro(h | h)
    ·exact .inl (.inr h)
    by_cases e:j=i
    ·exact .inl (.inl e)
    exact .inr ⟨h,e⟩
   have hd3:∀j∈wo is i,j∉keys ((i,v)::V):=fun j hj hm=>by
    obtain⟨h1,h2⟩:=mem_wo.1 hj;simp only[keys,map_cons,mem_cons]at hm;rcases hm with e | hm
    ·exact h2 e
    exact hd j h1 hm
   refine ih h3 (by rw[S.rs,e4];exact st) fa3 hd3 fun m4 is4 V4 s4 d4 g1 g2 g3 g4 g5 g6 g7 g8 g9 g10=>k m4 is4 V4 s4 d4 g1 g2 g3 g4 (g5.trans e4) ((Ext.new hn).trans g6) (fun j=>(g7 j).trans (mem3 j)) g8 (fun j hj=>(mem_wo.1 (g9 j hj)).1) fun j hj=>?_
   rcases g10 j hj with h | h
   ·simp only[keys,map_cons,mem_cons]at h;rcases h with rfl | h
    ·have hqq:isQ l j=true:=by
      have:=find?_some hq;simp only[Bool.and_eq_true]at this;exact this.2
     have p0:∀{s1:S}{W1:World},QS P (lkD n l E0 V j) o.op w0 W1 s1.rs v->Pn0 P n Q w0 l f0 ((j,v)::V) s1 W1 j:=fun {s1 W1} q=>⟨v,o,by unfold lku;rw[Nat.beq_refl];rfl,hi,fun D f W' a b c d' e' st' hb=>by
      have ha2:=d'.of_ext (Ext.new hn);rw[bU6 hg];intro KK kk;exact q (d:=o.dst) (ty:=o.type) (pos:=o.pos) (af:=o.after) (g:=o.guard) (aU7 hE a b c ha2 e') st' hb (fun W'' _ hb2=>kk W'' hb2)⟩
     exact .inr ⟨hqq,Pnd.mono (V:=(j,v)::V) (s:=s3) (W:=W) ⟨p0 (by rw[S.rs,e4];exact q),fun z s1 W1=>p0 (q2 (by unfold slJ at z;rw[hi]at z;exact z) _ _ _)⟩ g6 ⟨[],by rw[g5];rfl⟩ (Below.refl _ _)⟩
    exact .inl h
   exact .inr h
def IBr (P:Program) {A:Type}{R:A->Prop}(n:Nat) (Q:Exit->Act->World->Prop) (w0:World) (l:List Oper) (E0:List (Nat×SV)) (f0:Nat->Value) (base:Nat) (K:List (Nat×SV)->S->D P R->Tr) (D:Nat->Bool) (f:Nat->Value) (W:World):Prop:=
 ∃m is V s d,(brT P n l E0 base K m is V s d).holds/\cK1 l is (keys V)=none/\St w0 W s.rs/\Facts w0 W s.B/\FIa l V D f/\FIb l f0 D f/\(∀j,j<l.length->j∈keys V∨j∈is)/\(∀j∈is,j∉keys V)/\(∀j∈is,D j=false)/\(∀j,D j=true->j∈keys V)/\∀j∈keys V,D j=false->isQ l j=true/\Pnd P n Q w0 l f0 V s W j
theorem keepBr {n:Nat}{l:List Oper}(ho:OrdOk n l) {Q:Exit->Act->World->Prop}{w0:World}{E0:List (Nat×SV)}{f0:Nat->Value}(hE:Fr E0 f0) {base:Nat}{K:List (Nat×SV)->S->D P R->Tr}:KeepI P n Q l (IBr P n Q w0 l E0 f0 base K):=by
 refine⟨fun i o D f W hi hDi hd hc ⟨m,is,V,s,d,hs,hnq,st,fa,ha,hb,hcov,hdj,hnd,hkd,hp⟩=>?_⟩;have hil:i<l.length:=(gsi_.1 hi).1;have hc:aZ2 l D:=hc;have setD_t:∀j,iJ D i j=true->j=i∨D j=true:=fun j h=>by
  unfold iJ at h;by_cases hj:j=i
  ·exact .inl hj
  rw[lZ hj]at h;exact .inr h
 have setD_f:∀j,j≠i->iJ D i j=D j:=fun j hj=>by unfold iJ;rw[lZ hj];rfl
 have frame:∀{V2:List (Nat×SV)}{x:SV},Ext V V2->(∀j,D j=true->j∈keys V)->lku V2 i=some x->FIa l V2 (iJ D i) (gL f o.dst x.val)/\FIb l f0 (iJ D i) (gL f o.dst x.val):=fun {V2 x} hV2 hk hx=>by
  have hdo:cM l i=o.dst:=by unfold cM;rw[hi];rfl
  constructor
  ·intro j u t hu hj ht;rcases setD_t j hj with rfl | hj
   ·rw[hx]at hu;cases hu;rw[hdo]at ht;rw[ht];show upd f t x.val t=x.val;unfold upd;rw[Nat.beq_refl];rfl
   have hji:j≠i:=fun e=>by rw[e,hDi]at hj;cases hj
   obtain⟨u0,h0,e0⟩:∃u0,lku V j=some u0/\u.val=u0.val:=by
    cases hq:lku V j with
    | none=>exact absurd (hk j hj) (lku_none.1 hq)
    | some u0=>
     obtain⟨u1,h1,h2⟩:=hV2 j u0 hq;rw[hu]at h1;cases h1;exact⟨u0,rfl,h2⟩
   have hf:=ha j u0 t h0 hj ht;rw[e0,<- hf];cases hod:o.dst with
   | none=>rfl
   | some t'=>
    show upd f t' x.val t=f t;unfold upd;have hjl:j<l.length:=by
     unfold cM at ht;cases hq:l[j]? with
     | none=>rw[hq]at ht;cases ht
     | some o=>exact(gsi_.1 hq).1
    rw[lZ fun e=>ho.ne j i t hjl hil hji ht (by rw[hdo,hod,e])];rfl
  intro t ht;have h1:f t=f0 t:=hb t fun j hj=>ht j (by
   by_cases hji:j=i
   ·rw[hji,hDi]at hj;cases hj
   rw[setD_f j hji];exact hj)
  have h2:cM l i≠some t:=ht i (by unfold iJ;rw[Nat.beq_refl];rfl);rw[hdo]at h2;rw[<- h1];cases hod:o.dst with
  | none=>rfl
  | some t'=>
   show upd f t' x.val t=f t;unfold upd;rw[lZ fun e=>h2 (by rw[hod,e])];rfl
 rcases hcov i hil with hik | his
 ·obtain⟨hqi,⟨x,o',hx,ho',hstep⟩,_⟩:=hp i hik hDi;rw[hi]at ho';cases ho';have hq:=hstep D f W hDi hd hc ha hb st (Below.refl _ _);have next:∀W'',Below W.heap.size W W''->IBr P n Q w0 l E0 f0 base K (iJ D i) (gL f o.dst x.val) W'':=fun W'' hb2=>by
   obtain⟨fa1,fb1⟩:=frame (Ext.refl V) hkd hx;have st2:St w0 W'' s.rs:=by simpa using st.call (St.of_below hb2)
   refine⟨m,is,V,s,d,hs,hnq,st2,fa.up hb2,fa1,fb1,hcov,hdj,fun j hj=>?_,fun j hj=>?_,fun j hj hDj=>?_⟩
   ·rw[setD_f j fun e=>hdj j hj (e▸hik)];exact hnd j hj
   ·rcases setD_t j hj with rfl | hj
    ·exact hik
    exact hkd j hj
   have hji:j≠i:=fun e=>by rw[e]at hDj;unfold iJ at hDj;rw[Nat.beq_refl]at hDj;cases hDj
   rw[setD_f j hji]at hDj;exact⟨(hp j hj hDj).1,(hp j hj hDj).2.mono (Ext.refl V) ⟨[],rfl⟩ hb2⟩
  cases hon:onR l f o with
  | true=>
   rw[hon]at hq;exact hq _ fun W'' hb2=>next W'' hb2
  | false=>
   rw[hon]at hq;have hq:x.val=undef:=hq;have:=next W (Below.refl _ _);rw[hq]at this;exact this
 have hen:cR5 l (keys V) i=true:=by
  unfold cR5;rw[all_eq_true];intro j _;cases hdp:dep l i j with
  | false=>rfl
  | true=>simpa using hkd j (hd j hdp)
 cases m with
 | zero=>exact hs.elim
 | succ m=>
  unfold brT at hs;rw[hnq]at hs
  match is,hs,his,hcov,hdj,hnd with
  | [],_,his,_,_,_=>cases his
  | i0::is0,hs,his,hcov,hdj,hnd=>
   have h1:=cE5 hs i (mem_filter.2 ⟨his,hen⟩);refine aH h1 fun o1 ho1 h2=>?_
   rw[hi]at ho1;cases ho1;obtain⟨hg,hn,h3⟩:=h2;have hn:lku V i=none:=by simpa using hn
   rw[bU6 hg];refine dI h3 fun d' h4=>(cD8 (s:=⟨s.E,s.O,s.B,base+20*i⟩) (d:=o.dst) (ty:=o.type) (pos:=o.pos) (af:=o.after) (g:=o.guard) h4 (aU7 hE hDi hd hc ha hb) st fa fun v s1 d1 W1 h6 e6 g6 st1 fa1=>?_)
   obtain⟨hrr,h6⟩:=cC3 (Q:=Q) hE st1 fa1 h6;have hd3:∀j∈wo (i0::is0) i,j∉keys ((i,v)::V):=fun j hj hm=>by
    obtain⟨h1,h2⟩:=mem_wo.1 hj;simp only[keys,map_cons,mem_cons]at hm;rcases hm with e | hm
    ·exact h2 e
    exact hdj j h1 hm
   refine cO9 hE (Q:=Q) h6 st1 fa1 hd3 fun m2 is2 V2 s2 d2 k1 k2 k3 k4 k5 k6 k7 k8 k9 k10=>?_
   obtain⟨x,hx,ex⟩:=k6 i v (by unfold lku;rw[Nat.beq_refl];rfl);have hext:Ext V V2:=(Ext.new hn).trans k6;obtain⟨fa2,fb2⟩:=frame hext hkd hx;rw[ex]at fa2 fb2;refine⟨m2,is2,V2,s2,d2,k1,k2,k3,k4,fa2,fb2,fun j hj=>?_,k8,fun j hj=>?_,fun j hj=>?_,fun j hj hDj=>?_⟩
   ·refine(k7 j).2 ?_;rcases hcov j hj with h | h
    ·exact .inl (by simp only[keys,map_cons,mem_cons];exact .inr h)
    by_cases e:j=i
    ·exact .inl (by simp only[keys,map_cons,mem_cons];exact .inl e)
    exact .inr (mem_wo.2 ⟨h,e⟩)
   ·obtain⟨h1,h2⟩:=mem_wo.1 (k9 j hj);rw[setD_f j h2];exact hnd j h1
   ·have hjv:j∈keys ((i,v)::V):=by
     simp only[keys,map_cons,mem_cons];rcases setD_t j hj with e | hj
     ·exact .inl e
     exact .inr (hkd j hj)
    apply Classical.byContradiction;intro hno;cases hq:lku ((i,v)::V) j with
    | none=>exact lku_none.1 hq hjv
    | some u=>
     obtain⟨u',hu',_⟩:=k6 j u hq;rw[lku_none.2 hno]at hu';cases hu'
   rcases k10 j hj with h | h
   ·have hji:j≠i:=fun e=>by rw[e]at hDj;unfold iJ at hDj;rw[Nat.beq_refl]at hDj;cases hDj
    rw[setD_f j hji]at hDj;simp only[keys,map_cons,mem_cons]at h;rcases h with e | h
    ·exact absurd e hji
    cases hgg:(bY0 o.op && !cR1 d') with
    | true=>
     obtain⟨⟨N,hN⟩,hb1⟩:=g6 hgg;exact⟨(hp j h hDj).1,(hp j h hDj).2.mono hext ⟨N,by rw[k5,hN]⟩ hb1⟩
    | false=>
     by_cases hcj:(cR7 l j).contains i=true
     ·have:=uD hc hcj (fun e=>hji e.symm) hd;rw[hDj]at this;cases this
     by_cases hsl:slJ l j=true
     ·exact⟨(hp j h hDj).1,(hp j h hDj).2.any hsl hext⟩
     refine⟨(hp j h hDj).1,(hrr j ?_).mono k6 ⟨[],by rw[k5];rfl⟩ (Below.refl _ _)⟩;rw[hgg];show j∈((keys V).filter (isQ l)).filter _;rw[mem_filter,mem_filter,Bool.and_eq_true];exact⟨⟨h,(hp j h hDj).1⟩,by simpa using hcj,by simpa using hsl⟩
   exact h
theorem drawB_ok {w0 W:World}{n id:Nat}{l:List Oper}{s:S}{d:D P R}{K:S->D P R->Tr}{f:Nat->Value}{Q:Exit->Act->World->Prop}(h:(cN8 P n l s d K).holds) (den:Den w0 s f W) (k:∀s' d' f' W',(K s' d').holds->Den w0 s' f' W'->Q .normal (act n f') W'):(Code.region id l.toArray true).wp P Q (act n f) W:=by
 refine iS h den fun s1 d1 h1 den1=>?_
 obtain⟨h2,h4⟩:=h1;rw[Bool.and_eq_true]at h2;have ho:=OrdOk.of h2.2
 let K':List (Nat×SV)->S->D P R->Tr:=fun V s' d=>K ⟨aF3 l V (List.range l.length)++s1.E,s'.O,s'.B,s'.nx⟩ d
 have hb0:Below W.heap.size W { W with drawn:=W.drawn+1 }:=(Below.refl _ _).drew;refine bK7 l.length (IBr P n Q w0 l s1.E f s1.nx K') h2.1 (by rw[take_length];exact h2.2) (by rw[drop_length];rfl) ?_ (by rw[take_length];exact keepBr ho den1.fr) ?_
 ·have st0:St w0 { W with drawn:=W.drawn+1 } s1.rs:=by simpa using den1.st.call (St.of_below hb0)
  refine cO9 den1.fr (Q:=Q) (K:=K') h4 st0 (den1.fa.up hb0) (fun j _ h=>by cases h) fun m2 is2 V2 s2 d2 k1 k2 k3 k4 k5 k6 k7 k8 k9 k10=>?_
  refine⟨m2,is2,V2,s2,d2,k1,k2,k3,k4,fun j x d _ hD _=>(by cases hD),fun t _=>rfl,fun j hj=>(k7 j).2 (.inr (mem_range.2 hj)),k8,fun _ _=>rfl,fun j hD=>(by cases hD),fun j hj _=>?_⟩;rcases k10 j hj with h | h
  ·cases h
  exact h
 intro D g W' hD ⟨m,is,V,s2,d2,hs,hnq,st,fa,ha,hb,hcov,hdj,hnd,hkd,hp⟩;rw[take_length]at hD;rw[drop_length];cases m with
 | zero=>exact hs.elim
 | succ m=>
  unfold brT at hs;rw[hnq]at hs
  match is,hs,hcov,hnd with
  | i0::is',hs,hcov,hnd=>
   exfalso;have hi0:=hnd i0 (by simp);by_cases hlt:i0<l.length
   ·rw[hD i0 hlt]at hi0;cases hi0
   have hen:cR5 l (keys V) i0=true:=by
    unfold cR5;rw[all_eq_true];intro j _;have:dep l i0 j=false:=by
     unfold dep;rw[getElem?_eq_none aA];rfl
    rw[this];rfl
   have h1:=cE5 hs i0 (mem_filter.2 ⟨by simp,hen⟩);rw[getElem?_eq_none aA]at h1;exact h1.elim
  | [],hs,hcov,hnd=>
   have hs:(K' V ⟨s2.E,s2.O,s2.B,s1.nx+20*l.length⟩ d2).holds:=hs;refine bG (k _ _ _ _ hs ⟨?_,st,fa⟩);have hc2:∀j∈List.range l.length,j∈keys V:=fun j hj=>(hcov j (mem_range.1 hj)).elim (fun h=>h) (fun h=>by cases h)
   intro t x hx;rcases xY hc2 hx with⟨j,h5,h6⟩ | ⟨h5,h6⟩
   ·refine ha j x t h5 (hD j ?_) h6;unfold cM at h6;cases hq:l[j]? with
    | none=>rw[hq]at h6;cases h6
    | some o=>exact(gsi_.1 hq).1
   rw[hb t fun j hDj hj=>h6 j ?_ hj]
   ·exact den1.fr t x h5
   unfold cM at hj;cases hq:l[j]? with
   | none=>rw[hq]at hj;cases hj
   | some o=>exact mem_range.2 (gsi_.1 hq).1
end
end Go.Proofs.YtjihdmlkpkkpbaaGreat
namespace Go.Proofs.YtjihdmlkpkkpbaaGreat
set_option maxHeartbeats 1000000
set_option maxHeartbeats 2000000
open Go.RowKit Go.Proofs.Tryz List

def hdOf (O:List (Nat×Ob)) (B:List (Nat×Bool×Bo)) (j:Nat):Hd:=
 match lku O j with
 | some (.own _ h _ _)=>h
 | some (.row _ _ h _ _)=>h
 | some (.rs _ h _ _ _ _ _ _ _)=>h
 | some (.rz _ _ h _ _ _ _ _)=>h
 | _=>match lku B j with
  | some (_,.sl _ h _ _)=>h
  | _=>⟨none,0,0⟩
def ptOf (O:List (Nat×Ob)) (B:List (Nat×Bool×Bo)) (j o:Nat):Sc:=
 match lku O j with
 | some (.bx b pre _ _ _)=>.pt j b pre.length o
 | _=>match lku B j with
  | some (_,.rg b k _)=>.pt j b k o
  | some (_,.el _ _ _ b k _)=>.pt j b k o
  | _=>.vl undef
def tcS (O:List (Nat×Ob)) (B:List (Nat×Bool×Bo)):Tc->Sc
 | .v x=>.vl x
 | .b e=>.bo e
 | .p j o=>ptOf O B j o
 | .r j=>.rf j (hdOf O B j)
def tvS (O:List (Nat×Ob)) (B:List (Nat×Bool×Bo)):Tv->SV
 | .c x=>one (tcS O B x)
 | .a l=>.on (.ag (l.map (tcS O B)))
def pick {α:Type u}:List Nat->List (Nat×α)->List (Nat×α)
 | [],_=>[]
 | j::js,O=>match lku O j with
  | some o=>(j,o)::pick js O
  | none=>pick js O
def bR7 (O:List (Nat×Ob)) (G:Nat->Hd×List Nat):List (Nat×To)->List (Nat×Ob)
 | []=>[]
 | (j,.own i xs)::l=>(j,.own i (G j).1 xs (G j).2)::bR7 O G l
 | (j,.row i e xs)::l=>(j,.row i e (G j).1 xs (G j).2)::bR7 O G l
 | (_,.bx _)::l=>bR7 O G l
 | (j,.oh i xs)::l=>(j,.own i (hdOf O [] j) xs (G j).2)::bR7 O G l
def toBx (s:S) (O1:List (Nat×Ob)):List (Nat×To)->List (Nat×Ob)
 | []=>[]
 | (j,.bx cs)::l=>match lku s.O j with
  | some (.bx b pre _ post t)=>(j,.bx b pre (cs.map (tcS O1 s.B)) post t)::toBx s O1 l
  | _=>toBx s O1 l
 | _::l=>toBx s O1 l
def wB:Code->List Nat
 | .region _ ops _=>ops.toList.filterMap (·.dst)
 | .seq a b=>wB a++wB b
 | .cond _ a b=>wB a++wB b
 | .block _ c=>wB c
 | .loop c=>wB c
 | _=>[]
def reC (OT:List (Nat×Ob)):Sc->Sc
 | .rf j h=>cond (OT.any fun q=>Nat.beq j q.1) (.rf j (hdOf OT [] j)) (.rf j h)
 | c=>c
def isR (OT:List (Nat×Ob)):Sc->Bool
 | .rf j _=>OT.any fun q=>Nat.beq j q.1
 | _=>false
def reV (OT:List (Nat×Ob)):SV->Option SV
 | .on (.ce c)=>some (.on (.ce (reC OT c)))
 | .on (.ag l)=>cond (l.any (isR OT)) none (some (.on (.ag l)))
 | .tu _=>none
def reO (OT:List (Nat×Ob)):Ob->Ob
 | .bx b pre cs post t=>.bx b pre (cs.map (reC OT)) post t
 | o=>o
def cL8 (OT:List (Nat×Ob)):List (Nat×SV)->List Nat->List (Nat×SV)
 | [],_=>[]
 | (t,v)::E,l=>cond (l.any fun q=>Nat.beq t q) (cL8 OT E l) (match reV OT v with
  | some v=>(t,v)::cL8 OT E (t::l)
  | none=>cL8 OT E (t::l))
def pickE (OT:List (Nat×Ob)) (av ks:List Nat) (E:List (Nat×SV)):List (Nat×SV):=
 match ks with
 | k::ks=>cond (Nat.beq k 777777) (cL8 OT E (ks++av)) (pick (k::ks) E)
 | ks=>pick ks E
def pickO (OT:List (Nat×Ob)) (TO:List (Nat×To)) (ko:List Nat) (O:List (Nat×Ob)):List (Nat×Ob):=
 match ko with
 | [k]=>cond (Nat.beq k 777777) ((O.filter fun p=> !(TO.any fun q=>Nat.beq p.1 q.1)).map fun p=>(p.1,reO OT p.2)) (pick [k] O)
 | ko=>pick ko O
def pickB (kb:List Nat) (B:List (Nat×Bool×Bo)):List (Nat×Bool×Bo):=
 match kb with
 | [k]=>cond (Nat.beq k 777777) (lasting B) (pick [999999,k] B)
 | kb=>pick (999999::kb) B
def ist (av:List Nat) (s:S) (ks ko kb:List Nat) (TE:List (Nat×Tv)) (TO:List (Nat×To)) (G:Nat->Hd×List Nat):S:=
 let OT:=bR7 s.O G TO
 let O1:=OT++pickO OT TO ko s.O
 let O2:=toBx s O1 TO++O1
 ⟨TE.map (fun p=>(p.1,tvS O2 s.B p.2))++pickE OT av ks s.E,O2,pickB kb s.B,s.nx⟩
def sgm (sg:List (Nat×Nat)) (j:Nat):Nat:=(lku sg j).getD j
def ghs (O:List (Nat×Ob)) (sg:List (Nat×Nat)) (j:Nat):Hd×List Nat:=
 match lku O (sgm sg j) with
 | some (.own _ h _ fp)=>(h,fp)
 | some (.row _ _ h _ fe)=>(h,fe)
 | _=>(⟨none,0,0⟩,[])
def fitE (E:List (Nat×SV)):List (Nat×SV)->Tr->Tr
 | [],k=>k
 | (t,x)::l,k=>match lku E t with
  | some y=>.e0 y.val x.val (fitE E l k)
  | none=>.no
def fitB (B:List (Nat×Bool×Bo)):List (Nat×Bool×Bo)->Tr->Tr
 | [],k=>k
 | (j,l,b)::r,k=>match lku B j with
  | some (l',b')=>.e1 b' b (.e0 (l' || !l) true (fitB B r k))
  | none=>.no
def fitO (sg:List (Nat×Nat)):List (Nat×Ob)->List (Nat×Ob)->Tr->Tr
 | _,[],k=>k
 | O,(j,ob)::r,k=>match lku O (sgm sg j) with
  | some ob'=>.e0 ob'.res ob.res (fitO sg (bJ O (sgm sg j)) r k)
  | none=>.no
def fit (s T:S) (sg:List (Nat×Nat)) (k:Tr):Tr:=fitE s.E T.E (fitB s.B T.B (fitO sg s.O T.O k))
theorem cM9 {E:List (Nat×SV)}{f:Nat->Value}(hf:Fr E f):∀{T:List (Nat×SV)}{k:Tr},(fitE E T k).holds->Fr T f/\k.holds
 | [],k,h=>⟨fun t x hx=>(by cases hx),h⟩
 | (t,x)::l,k,h=>by
  unfold fitE at h;split at h
  ·next y hy=>
   obtain⟨h1,h2⟩:=h;obtain⟨h3,h4⟩:=cM9 hf h2;exact⟨h3.know t x ((hf t y hy).trans h1),h4⟩
  ·exact h.elim
theorem cN0 {w0 W:World}{B:List (Nat×Bool×Bo)}(hb:Below w0.heap.size w0 W) (fa:Facts w0 W B):∀{T:List (Nat×Bool×Bo)}{k:Tr},(fitB B T k).holds->Facts w0 W T/\k.holds
 | [],k,h=>⟨fun e he=>(by cases he),h⟩
 | (j,l,b)::r,k,h=>by
  unfold fitB at h;split at h
  ·next l' b' hj=>
   obtain⟨rfl,h1,h2⟩:=h;obtain⟨h3,h4⟩:=cN0 hb fa h2;refine⟨fun e he=>?_,h4⟩;rcases mem_cons.1 he with rfl | he
   ·have:=fa _ (mO hj);cases l' with
    | true=>
     cases l with
     | true=>exact this
     | false=>exact Bo.up hb this
    | false=>
     cases l with
     | true=>cases h1
     | false=>exact this
   ·exact h3 e he
  ·exact h.elim
theorem cM8 {w0 W:World}{sg:List (Nat×Nat)}:∀{T O:List (Nat×Ob)}{k:Tr}{rs:List Res},(fitO sg O T k).holds->St w0 W (Or O++rs)->St w0 W (Or T++rs)/\k.holds
 | [],O,k,rs,h,st=>⟨st.sub (sublist_append_right _ _),h⟩
 | (j,ob)::r,O,k,rs,h,st=>by
  unfold fitO at h;split at h
  ·next ob' hj=>
   obtain⟨h1,h2⟩:=h;have st2:St w0 W (Or (bJ O (sgm sg j))++(ob'.res::rs)):=(st.take hj).perm perm_middle;rw[h1]at st2;obtain⟨h3,h4⟩:=cM8 h2 st2;exact⟨h3.perm (perm_middle (a:=ob.res) (l₁:=Or r) (l₂:=rs)).symm,h4⟩
  ·exact h.elim
theorem cD7 {w0 W:World}{s T:S}{sg:List (Nat×Nat)}{k:Tr}{f:Nat->Value}(h:(fit s T sg k).holds) (den:Den w0 s f W):Den w0 T f W/\k.holds:=by
 obtain⟨h1,h⟩:=cM9 den.fr h;obtain⟨h2,h⟩:=cN0 den.st.below den.fa h;have st:St w0 W (Or s.O++[]):=by simpa [Or,S.rs] using den.st
 obtain⟨h3,h⟩:=cM8 h st;exact⟨⟨h1,by simpa [Or,S.rs] using h3,h2⟩,h⟩
section
variable {P:Program}{A:Type}{R:A->Prop}
def unT (K:Exit->S->D P R->Tr) (c:(Exit->S->D P R->Tr)->S->D P R->Tr):Nat->S->D P R->Tr
 | 0,_,_=>.no
 | m+1,s,d=>c (fun e s' d'=>match e with
  | .normal=>unT K c m s' d'
  | e=>K e s' d') s d
def lpC {Γ:Type}(K:Exit->S->D P R->Tr) (c:(Exit->S->D P R->Tr)->S->D P R->Tr) (av:List Nat) (s:S) (J:Γ->Prop) (m:Γ->Nat) (ks ko kb:List Nat) (TE:Γ->List (Nat×Tv)) (TO:Γ->List (Nat×To)) (g:Γ) (sg:List (Nat×Nat)) (k:∀g,J g->Tok J m (m g)->D P R):Tr:=
   .an (fit s (ist av s ks ko kb (TE g) (TO g) (ghs s.O sg)) sg .ok) <|
    .fn fun g:Γ=>.fp (J g) fun hJ=>.fn fun G:Nat->Hd×List Nat=>c (fun e s' d'=>match e with
     | .normal=>prp d' s' fun s' d'=>match d' with
      | .nx (J:=J') (m:=m') (c:=c') _ g' _ _ sg'=>.e1 (⟨J',m',c'⟩:Lsp) ⟨J,m,m g⟩<|.fp ((⟨J',m',c'⟩:Lsp)=⟨J,m,m g⟩) fun he=>
        fit s' (ist av s ks ko kb (TE (cast (congrArg Lsp.Γ he) g')) (TO (cast (congrArg Lsp.Γ he) g')) (ghs s'.O sg')) sg' .ok
      | _=>.no
     | e=>K e s' d') (ist av s ks ko kb (TE g) (TO g) G) (k g hJ ⟨⟩)
def jnT {Δ:Type}(av:List Nat) (s:S) (Je:Δ->Prop) (ks ko kb:List Nat) (TE:Δ->List (Nat×Tv)) (TO:Δ->List (Nat×To)) (s':S) (d':D P R):Tr:=
 prp d' s' fun s' d'=>match d' with
  | .xt Je' g' _ sg'=>.e1 (⟨Je'⟩:Jsp) ⟨Je⟩<|.fp ((⟨Je'⟩:Jsp)=⟨Je⟩) fun he=>fit s' (ist av s ks ko kb (TE (cast (congrArg Jsp.Γ he) g')) (TO (cast (congrArg Jsp.Γ he) g')) (ghs s'.O sg')) sg' .ok
  | _=>.no
theorem cY3 {Δ:Type}{av:List Nat}{w0 W:World}{s:S}{Je:Δ->Prop}{ks ko kb:List Nat}{TE:Δ->List (Nat×Tv)}{TO:Δ->List (Nat×To)}{s':S}{d':D P R}{f:Nat->Value}(h:(jnT av s Je ks ko kb TE TO s' d').holds) (den:Den w0 s' f W) :
  ∃(g:Δ) (G:Nat->Hd×List Nat),Je g/\Den w0 (ist av s ks ko kb (TE g) (TO g) G) f W:=by
 refine iS h den fun s4 d4 h4 den4=>?_
 split at h4
 ·next Δ' Je' g' hJ' sg'=>
  obtain⟨he,h5⟩:=h4;have h6:=h5 he;cases he;obtain⟨den5,_⟩:=cD7 h6 den4;exact⟨g',_,hJ',den5⟩
 exact h4.elim
def jnK {Δ:Type}(K:Exit->S->D P R->Tr) (av:List Nat) (s:S) (ex:Nat) (Je:Δ->Prop) (ks ko kb:List Nat) (TE:Δ->List (Nat×Tv)) (TO:Δ->List (Nat×To)):Exit->S->D P R->Tr
 | .exit i,s',d'=>cond (Nat.beq i ex) (jnT av s Je ks ko kb TE TO s' d') (K (.exit i) s' d')
 | e,s',d'=>K e s' d'
def jcK {Δ:Type}(K:Exit->S->D P R->Tr) (av:List Nat) (s:S) (Je:Δ->Prop) (ks ko kb:List Nat) (TE:Δ->List (Nat×Tv)) (TO:Δ->List (Nat×To)):Exit->S->D P R->Tr
 | .normal,s',d'=>jnT av s Je ks ko kb TE TO s' d'
 | e,s',d'=>K e s' d'
def lpT (K:Exit->S->D P R->Tr) (c:(Exit->S->D P R->Tr)->S->D P R->Tr) (av:List Nat) (s:S) (d:D P R):Tr:=
 prp d s fun s d=>match d with
  | .lp J m ks ko kb TE TO g _ sg k=>lpC K c av s J m ks ko kb TE TO g sg k
  | .lx J m ks ko kb TE TO g _ sg k (Δ:=Δ) Je ex ks2 ko2 kb2 TE2 TO2 k2=>.an (lpC (jnK K av s ex Je ks2 ko2 kb2 TE2 TO2) c av s J m ks ko kb TE TO g sg k) <|
    .fn fun g:Δ=>.fp (Je g) fun hJ=>.fn fun G:Nat->Hd×List Nat=>K (.exit ex) (ist av s ks2 ko2 kb2 (TE2 g) (TO2 g) G) (k2 g hJ)
  | .ul m k=>unT K c m s k
  | _=>.no
def knw (c:Operand) (r:Bool) (s:S):S:=
 match c with
 | .tmp t=>⟨(t,one (.vl (.bool r)))::s.E,s.O,s.B,s.nx⟩
 | _=>s
def isHr {P:Program}{A:Type}{R:A->Prop}:D P R->Bool
 | .hr ..=>true
 | _=>false
def hrT (P:Program) {A:Type}{R:A->Prop}(n:Nat) (ops:Array Oper) (dr:Bool) (s:S) (d:D P R) (K:S->D P R->Tr):Tr:=
 match d with
 | .hr (n:=n') (ops:=ops') (dr:=dr') h k=>.e0 n' n<|.e0 ops' ops<|.e0 dr' dr<|h.T s fun s=>K s k
 | _=>.no
theorem hrT_ok {P:Program}{A:Type}{R:A->Prop}{w0 W:World}{n:Nat}{ops:Array Oper}{dr:Bool}{s:S}{d:D P R}{K:S->D P R->Tr}{f:Nat->Value}{id:Nat}{Q:Exit->Act->World->Prop}(h:(hrT P n ops dr s d K).holds) (den:Den w0 s f W)
  (k:∀s' d' f' W',(K s' d').holds->Den w0 s' f' W'->Q .normal (act n f') W'):(Code.region id ops dr).wp P Q (act n f) W:=by
 unfold hrT at h;split at h
 ·next n' ops' dr' hh kk=>
  obtain⟨rfl,rfl,rfl,h⟩:=h;exact hh.ok h den fun s' f' W' h' den'=>k s' kk f' W' h' den'
 exact h.elim
def chk (P:Program) {A:Type}{R:A->Prop}(n:Nat):Code->(Exit->S->D P R->Tr)->S->D P R->Tr
 | .skip,K=>K .normal
 | .region _ ops dr,K=>fun s d=>cond (isHr d) (hrT P n ops dr s d fun s d=>K .normal s d)<|cond dr (cond (aX1 ops.toList (aL2 ops.toList ops.toList.length [])) (cN7 P n ops.toList s d fun s d=>K .normal s d) (cN8 P n ops.toList s d fun s d=>K .normal s d)) (opsT P n ops.toList ops.toList s d fun s d=>K .normal s d)
 | .seq a b,K=>chk P n a fun e s d=>match e with
  | .normal=>chk P n b K s d
  | e=>K e s d
 | .cond c a b,K=>fun s d=>prp d s fun s d=>match d with
  | .jc (Δ:=Δ) Je ks2 ko2 kb2 TE2 TO2 k k2=>.an (prp k s fun s0 d=>opt (opd n s0 c) fun v=>asC v fun x=>bl x d fun r d=>match r with
    | true=>chk P n a (jcK K (wB a++wB b) s Je ks2 ko2 kb2 TE2 TO2) (knw c true s0) d
    | false=>chk P n b (jcK K (wB a++wB b) s Je ks2 ko2 kb2 TE2 TO2) (knw c false s0) d) <|
    .fn fun g:Δ=>.fp (Je g) fun hJ=>.fn fun G:Nat->Hd×List Nat=>K .normal (ist (wB a++wB b) s ks2 ko2 kb2 (TE2 g) (TO2 g) G) (k2 g hJ)
  | d=>opt (opd n s c) fun v=>asC v fun x=>bl x d fun r d=>match r with
   | true=>chk P n a K (knw c true s) d
   | false=>chk P n b K (knw c false s) d
 | .block id c,K=>chk P n c fun e s d=>match e with
  | .exit i=>cond (Nat.beq i id) (K .normal s d) (K (.exit i) s d)
  | e=>K e s d
 | .loop c,K=>lpT K (chk P n c) (wB c)
 | .exit id,K=>K (.exit id)
 | .ret,K=>K .ret
 | _,_=>fun _ _=>.no
theorem aG2 {w0:World}{n:Nat}:∀(c:Code) {K:Exit->S->D P R->Tr}{s:S}{d:D P R}{f:Nat->Value}{W:World}{Q:Exit->Act->World->Prop},(chk P n c K s d).holds->Den w0 s f W ->
  (∀e s' d' f' W',(K e s' d').holds->Den w0 s' f' W'->Q e (act n f') W')->c.wp P Q (act n f) W:=by
 intro c
 induction c with
 | skip=>exact fun h den k=>wp_skip (k _ _ _ _ _ h den)
 | region id ops dr=>
  intro K s d f W Q h den k;cases hhr:isHr d with
  | true=>
   have h:(cond (isHr d) (hrT P n ops dr s d fun s d=>K .normal s d) _).holds:=h;rw[hhr]at h;have:=hrT_ok (id:=id) (Q:=Q) h den (fun s' d' f' W' h den=>k .normal s' d' f' W' h den);simpa using this
  | false=>
  have h:(cond (isHr d) _ (cond dr (cond (aX1 ops.toList (aL2 ops.toList ops.toList.length [])) (cN7 P n ops.toList s d fun s d=>K .normal s d) (cN8 P n ops.toList s d fun s d=>K .normal s d)) (opsT P n ops.toList ops.toList s d fun s d=>K .normal s d))).holds:=h;rw[hhr]at h;cases dr with
  | true=>
   have h:(cond (aX1 ops.toList (aL2 ops.toList ops.toList.length [])) (cN7 P n ops.toList s d fun s d=>K .normal s d) (cN8 P n ops.toList s d fun s d=>K .normal s d)).holds:=h;cases hc:aX1 ops.toList (aL2 ops.toList ops.toList.length []) with
   | true=>
    rw[hc]at h;have:=drawT_ok (id:=id) h den (fun s' d' f' W' h den=>k .normal s' d' f' W' h den);simpa using this
   | false=>
    rw[hc]at h;have:=drawB_ok (id:=id) h den (fun s' d' f' W' h den=>k .normal s' d' f' W' h den);simpa using this
  | false=>
   have:=aO (id:=id) (bM8 (fun s' d' f' W' h den=>k .normal s' d' f' W' h den) h den);simpa using this
 | seq a b iha ihb=>
  intro K s d f W Q h den k;refine wp_seq (iha h den fun e s' d' f' W' h' den'=>?_);cases e with
  | normal=>exact ihb h' den' k
  | exit id=>exact k _ _ _ _ _ h' den'
  | goto l=>exact k _ _ _ _ _ h' den'
  | ret=>exact k _ _ _ _ _ h' den'
  | panic ch=>exact k _ _ _ _ _ h' den'
  | outgrown=>exact k _ _ _ _ _ h' den'
 | cond c a b iha ihb=>
  intro K s d f W Q h den k;have step:∀{K':Exit->S->D P R->Tr}{s1:S}{d1:D P R},(opt (opd n s1 c) fun v=>asC v fun x=>bl x d1 fun r d=>match r with
    | true=>chk P n a K' (knw c true s1) d
    | false=>chk P n b K' (knw c false s1) d).holds->Den w0 s1 f W->(∀e s' d' f' W',(K' e s' d').holds->Den w0 s' f' W'->Q e (act n f') W')->(Code.cond c a b).wp P Q (act n f) W:=by
   intro K' s1 d1 h1 den1 k';refine aH h1 fun v hv h2=>cO h2 fun x hx h3=>cO6 h3 fun r d2 hr h4=>?_
   subst hx;have hc:=(cC9 den1.fr c _ hv).trans hr;have hk:Den w0 (knw c r s1) f W:=by
    clear h4 h3 h2 h1 h;cases c with
    | tmp t=>
     refine⟨den1.fr.know t _ ?_,den1.st,den1.fa⟩;have hv':lku s1.E t=some (one x):=by
      simp only[opd]at hv;cases hb:Nat.ble (t+1) n with
      | true=>rw[hb]at hv;exact hv
      | false=>rw[hb]at hv;cases hv
     exact(den1.fr t _ hv').trans hr
    | const v=>exact den1
    | global g=>exact den1
    | func g=>exact den1
   cases r with
   | true=>exact cG8 hc (fun _=>iha h4 hk k') (fun h=>by cases h)
   | false=>exact cG8 hc (fun h=>by cases h) (fun _=>ihb h4 hk k')
  refine iS h den fun s1 d1 h1 den1=>?_
  split at h1
  ·next Δ Je ks2 ko2 kb2 TE2 TO2 kk k2=>
   obtain⟨h2,h3⟩:=h1;refine iS h2 den1 fun s0 d0 h4 den0=>step h4 den0 fun e s' d' f' W' h' den'=>?_
   cases e with
   | normal=>
    obtain⟨g,G,hJ,den5⟩:=cY3 h' den';exact k _ _ _ _ _ (h3 g hJ G) den5
   | exit i=>exact k _ _ _ _ _ h' den'
   | goto l=>exact k _ _ _ _ _ h' den'
   | ret=>exact k _ _ _ _ _ h' den'
   | panic ch=>exact k _ _ _ _ _ h' den'
   | outgrown=>exact k _ _ _ _ _ h' den'
  exact step h1 den1 k
 | block id c ih=>
  intro K s d f W Q h den k;refine wp_block (ih h den fun e s' d' f' W' h' den'=>?_);cases e with
  | exit i=>
   show if i=id then Q .normal _ _ else Q (.exit i) _ _
   have h':(cond (Nat.beq i id) (K .normal s' d') (K (.exit i) s' d')).holds:=h';by_cases hi:i=id
   ·rw[if_pos hi];subst hi;rw[Nat.beq_refl]at h';exact k _ _ _ _ _ h' den'
   rw[if_neg hi];rw[lZ hi]at h';exact k _ _ _ _ _ h' den'
  | normal=>exact k _ _ _ _ _ h' den'
  | goto l=>exact k _ _ _ _ _ h' den'
  | ret=>exact k _ _ _ _ _ h' den'
  | panic ch=>exact k _ _ _ _ _ h' den'
  | outgrown=>exact k _ _ _ _ _ h' den'
 | loop c ih=>
  intro K s0 d0 f0 W0 Q h den k;have step:∀{Γ:Type}{K':Exit->S->D P R->Tr}{s:S}{J:Γ->Prop}{m:Γ->Nat}{ks ko kb:List Nat}{TE:Γ->List (Nat×Tv)}{TO:Γ->List (Nat×To)}{g0:Γ}{sg:List (Nat×Nat)}{kk:∀g,J g->Tok J m (m g)->D P R},J g0 ->
    (lpC K' (chk P n c) (wB c) s J m ks ko kb TE TO g0 sg kk).holds->Den w0 s f0 W0->(∀e s' d' f' W',e ≠ .normal->(K' e s' d').holds->Den w0 s' f' W'->Q e (act n f') W')->(Code.loop c).wp P Q (act n f0) W0:=by
   intro Γ K' s J m ks ko kb TE TO g0 sg kk hJ0 h1 den1 k';obtain⟨h2,h3⟩:=h1;obtain⟨den2,_⟩:=cD7 h2 den1;refine aM6 (fun mm f W=>∃(g:Γ) (G:Nat->Hd×List Nat),J g/\m g=mm/\Den w0 (ist (wB c) s ks ko kb (TE g) (TO g) G) f W) (m g0) ⟨g0,_,hJ0,rfl,den2⟩ ?_;rintro mm f W ⟨g,G,hJ,rfl,den3⟩;refine ih (h3 g hJ G) den3 fun e s' d' f' W' h' den'=>?_
   cases e with
   | normal=>
    refine iS h' den' fun s4 d4 h4 den4=>?_
    split at h4
    ·next Γ' J' m' c' t' g' hJ' hm' sg'=>
     obtain⟨he,h5⟩:=h4;have h6:=h5 he;cases he;obtain⟨den5,_⟩:=cD7 h6 den4;exact⟨f',m g',hm',rfl,g',_,hJ',rfl,den5⟩
    exact h4.elim
   | exit i=>exact k' _ _ _ _ _ (fun h=>by cases h) h' den'
   | goto l=>exact k' _ _ _ _ _ (fun h=>by cases h) h' den'
   | ret=>exact k' _ _ _ _ _ (fun h=>by cases h) h' den'
   | panic ch=>exact k' _ _ _ _ _ (fun h=>by cases h) h' den'
   | outgrown=>exact k' _ _ _ _ _ (fun h=>by cases h) h' den'
  refine iS h den fun s d h1 den1=>?_
  split at h1
  ·next hJ0 _ _=>exact step hJ0 h1 den1 fun e s' d' f' W' _ h' den'=>k _ _ _ _ _ h' den'
  ·next Γ J m ks ko kb TE TO g0 hJ0 sg kk Δ Je ex ks2 ko2 kb2 TE2 TO2 k2=>
   obtain⟨h2,h3⟩:=h1;refine step hJ0 h2 den1 fun e s' d' f' W' hne h' den'=>?_
   cases e with
   | normal=>exact absurd rfl hne
   | exit i=>
    have h':(cond (Nat.beq i ex) (jnT (wB c) s Je ks2 ko2 kb2 TE2 TO2 s' d') (K (.exit i) s' d')).holds:=h';by_cases hi:i=ex
    ·subst hi;rw[Nat.beq_refl]at h';obtain⟨g,G,hJ,den5⟩:=cY3 h' den';exact k _ _ _ _ _ (h3 g hJ G) den5
    rw[lZ hi]at h';exact k _ _ _ _ _ h' den'
   | goto l=>exact k _ _ _ _ _ h' den'
   | ret=>exact k _ _ _ _ _ h' den'
   | panic ch=>exact k _ _ _ _ _ h' den'
   | outgrown=>exact k _ _ _ _ _ h' den'
  ·next m0 kk=>
   refine aM6 (fun mm f W=>∃(s:S) (d:D P R),(unT K (chk P n c) mm s d).holds/\Den w0 s f W) m0 ⟨s,kk,h1,den1⟩ ?_;rintro mm f W ⟨s2,d2,h2,den2⟩;cases mm with
   | zero=>exact h2.elim
   | succ mm=>
    refine ih h2 den2 fun e s' d' f' W' h' den'=>?_
    cases e with
    | normal=>exact⟨f',mm,Nat.lt_succ_self _,rfl,s',d',h',den'⟩
    | exit i=>exact k _ _ _ _ _ h' den'
    | goto l=>exact k _ _ _ _ _ h' den'
    | ret=>exact k _ _ _ _ _ h' den'
    | panic ch=>exact k _ _ _ _ _ h' den'
    | outgrown=>exact k _ _ _ _ _ h' den'
  exact h1.elim
 | exit id=>exact fun h den k=>wp_exit (k _ _ _ _ _ h den)
 | ret=>exact fun h den k=>wp_ret (k _ _ _ _ _ h den)
 | _=>intros;exact(by assumption:Tr.no.holds).elim
end
end Go.Proofs.YtjihdmlkpkkpbaaGreat
namespace Go.Proofs.YtjihdmlkpkkpbaaGreat
set_option maxHeartbeats 1000000
set_option maxHeartbeats 2000000
open Go.RowKit Go.Proofs.Tryz List
section
variable {P:Program}{A:Type}{R:A->Prop}
def aM0:List Par->Nat->S->(S->Tr)->Tr
 | [],_,s,K=>K s
 | .v x::ps,t,s,K=>aM0 ps (t+1) ⟨(t,one (sc x))::s.E,s.O,s.B,s.nx⟩ K
 | .b e::ps,t,s,K=>aM0 ps (t+1) ⟨(t,one (.bo e))::s.E,s.O,s.B,s.nx⟩ K
 | .st i x::ps,t,s,K=>xQ true (i.lv x) s fun cs s=>aM0 ps (t+1) ⟨(t,.on (.ag cs))::s.E,s.O,s.B,s.nx⟩ K
 | .ag l::ps,t,s,K=>aM0 ps (t+1) ⟨(t,.on (.ag (l.map sc)))::s.E,s.O,s.B,s.nx⟩ K
 | .sl i xs::ps,t,s,K=>.fn fun g:Hd×List Nat=>aM0 ps (t+1) ⟨(t,one (.rf s.nx g.1))::s.E,s.O,(s.nx,true,.sl i g.1 xs g.2)::s.B,s.nx+1⟩ K
theorem aG3 {w:World}:∀{ls:List Lf}{cs:List Value}{fp:List Nat},dR w cs ls fp->lns ls
 | [],_,_,_=>trivial
 | .v x::ls,[],_,h=>h.elim
 | .s _ _ _::ls,[],_,h=>h.elim
 | .v x::ls,c::cs,fp,h=>aG3 (ls:=ls) h.2
 | .s _ _ ys::ls,c::cs,fp,h=>by
  obtain⟨f1,f2,h1,h2,_⟩:=h;exact⟨h1.len_le,aG3 h2⟩
theorem lQ {G:Prop}{w W:World}{f:Nat->Value}:∀{ps:List Par}{us:List Value}{t:Nat}{s:S}{K:S->Tr},(aM0 ps t s K).holds->Pars w us ps->(∀k v,us[k]? = some v->f (t+k)=v)->Den w s f W ->
  (∀s',(K s').holds->Den w s' f W->gin ps->s'.O=s.O->G)->G
 | [],[],t,s,K,h,hp,hu,den,k=>k s h den trivial rfl
 | [],_::_,t,s,K,h,hp,hu,den,k=>hp.elim
 | p::ps,[],t,s,K,h,hp,hu,den,k=>by cases p<;>exact hp.elim
 | p::ps,u::us,t,s,K,h,hp,hu,den,k=>by
  have h0:f t=u:=hu 0 u rfl;have hu':∀k v,us[k]? = some v->f (t+1+k)=v:=fun k v hk=>by
   rw[Nat.add_assoc,Nat.add_comm 1 k];exact hu (k+1) v (by simpa using hk)
  cases p with
  | v x=>
   obtain⟨rfl,hp⟩:=hp;exact lQ (t:=t+1) (us:=us) h hp hu' ⟨den.fr.know t (one (sc u)) (h0.trans (nI u).symm),den.st,den.fa⟩ k
  | b e=>
   obtain⟨rfl,hp⟩:=hp;exact lQ (t:=t+1) (us:=us) h hp hu' ⟨den.fr.know t (one (.bo e)) h0,den.st,den.fa⟩ k
  | ag l=>
   obtain⟨rfl,hp⟩:=hp;refine lQ (t:=t+1) (us:=us) h hp hu' ⟨den.fr.know t (.on (.ag (l.map sc))) (h0.trans ?_),den.st,den.fa⟩ k;show Value.agg l.toArray = .agg ((l.map sc).map Sc.val).toArray;rw[map_map,show Sc.val ∘ sc=id from funext nI,map_id]
  | st i x=>
   obtain⟨⟨cs,fp,rfl,hc⟩,hp⟩:=hp;obtain⟨hg,hc⟩:=i.out hc;refine oG (l:=true) (w0:=w) (W:=W) h hc den.fa fun scs s1 h1 e1 e2 e3 fa'=>(lQ (t:=t+1) (us:=us) h1 hp hu' ⟨?_,by rw[S.rs,e3];exact den.st,fa'⟩ fun s' h' den' hg' eO=>k s' h' den' ⟨⟨hg,aG3 hc⟩,hg'⟩ (eO.trans e3))
   refine Fr.know (by rw[e2];exact den.fr) t _ (h0.trans ?_);show Value.agg cs.toArray = .agg (scs.map Sc.val).toArray;rw[e1]
  | sl i xs=>
   obtain⟨⟨fp,hs⟩,hp⟩:=hp;obtain⟨hd,rfl,hn⟩:=hs.hd;refine lQ (t:=t+1) (us:=us) (h (hd,fp)) hp hu' ⟨den.fr.know t _ h0,den.st,fun e he=>?_⟩ fun s' h' den' hg' eO=>k s' h' den' ⟨hs.len_le,hg'⟩ eO
   rcases mem_cons.1 he with rfl | he
   ·exact hs
   ·exact den.fa e he
theorem cN4 {G:Prop}{w:World}{f:Nat->Value}{ps:List Par}{us:List Value}{t:Nat}{s:S}{K:S->Tr}(h:(aM0 ps t s K).holds) (hp:Pars w us ps) (hu:∀k v,us[k]? = some v->f (t+k)=v) (den:Den w s f w) (k:∀s',(K s').holds->Den w s' f w->gin ps->G):G:=lQ h hp hu den fun s' a b c _=>k s' a b c
def rgd:List Rk->Prop
 | []=>True
 | .own i x::ks=>i.good x/\rgd ks
 | _::ks=>rgd ks
def resT (P:Program) (n:Nat) (s:S) (r:ResultVar) (K:TV->Tr):Tr:=
 match r with
 | .tmp t=>opt (opd n s (.tmp t)) fun v=>match v with
  | .on v=>K v
  | _=>.no
 | .cell a t=>opt (opd n s (.tmp a)) fun v=>asC v fun c=>ldT P s t c fun v=>match v with
  | .on v=>K v
  | _=>.no
def cC5 (tmps:Array Value):ResultVar->Sem Value
 | .tmp t=>pure (tmps.getD t undef)
 | .cell a t=>do loadVar t (<- asAddr (tmps.getD a undef))
theorem ldT_run {G:Prop}{w0 W:World}{s:S}{t:TypeId}{c:Sc}{K:SV->Tr}(h:(ldT P s t c K).holds) (st:St w0 W s.rs) (fa:Facts w0 W s.B) (k:∀v a,c.val = .pointer (some a)->(loadVar t a).run P W = .ok v.val W->(K v).holds->G):G:=by
 unfold ldT at h;split at h
 ·next j b0 k0 o=>
  refine aH h fun r hr h=>?_
  obtain⟨b,kk,cs⟩:=r;obtain⟨h1,h2,h⟩:=h;simp only at h1 h2;subst h1 h2;have hrg:=bL9 hr st fa;refine aH h fun z hz h=>?_
  cases z with
  | none=>
   refine aH h fun v hvv h=>k _ _ rfl ?_ h
   have:=aV0 (P:=P) (cs:=[v.val]) (o:=k0+o) (b:=b0) (W:=W) hz (by
    intro q u hj;cases q with
    | zero=>
     simp at hj;subst hj;exact hrg o _ (by rw[getElem?_map];simp only at hvv;rw[hvv];rfl)
    | succ j=>simp at hj) rfl
   simp[Instr.loadAt,Instr.sureAddr,Sem.run_bind]at this;exact this
  | some z=>
   obtain⟨h1,h⟩:=h;simp only at h1;refine k _ _ rfl ?_ h;have h5:=xK (i:=o) (z:=z) hrg;have:=aV0 (P:=P) (cs:=((cs.drop o).take z).map Sc.val) (o:=k0+o) (b:=b0) (W:=W) hz (by simpa [map_take,map_drop] using h5) (by simpa using h1);simp only[Instr.loadAt,Instr.sureAddr,Sem.run_bind,Sem.run_pure,Result.andThen_ok]at this;exact this
 exact h.elim
theorem resT_ok {G:Prop}{w0 W:World}{n:Nat}{s:S}{r:ResultVar}{K:TV->Tr}{f:Nat->Value}(h:(resT P n s r K).holds) (den:Den w0 s f W) (k:∀v,(cC5 (act n f).tmps r).run P W = .ok v.val W->(K v).holds->G):G:=by
 have hg:∀t v,opd n s (.tmp t)=some v->(act n f).tmps.getD t undef=v.val:=fun t v hv=>by
  rw[bP7];exact cC9 den.fr (.tmp t) v hv
 cases r with
 | tmp t=>
  refine aH h fun v hv h=>?_
  split at h
  ·next v=>
   refine k v ?_ h;simp only[cC5,hg t _ hv];rfl
  exact h.elim
 | cell a t=>
  refine aH h fun v hv h'=>cO h' fun c hc h=>?_
  subst hc;refine ldT_run h den.st den.fa fun v ad e hl h=>?_
  split at h
  ·next v=>
   refine k v ?_ h;simp only[cC5,hg a _ hv];have:(SV.on (TV.ce c)).val = .pointer (some ad):=e;rw[this];simp[asAddr,Sem.run_bind];exact hl
  exact h.elim
def cC6 (P:Program) (n:Nat) (s:S):List ResultVar->(List TV->Tr)->Tr
 | [],K=>K []
 | r::rs,K=>resT P n s r fun v=>cC6 P n s rs fun vs=>K (v::vs)
theorem uV {G:Prop}{w0 W:World}{n:Nat}{s:S}{f:Nat->Value}(den:Den w0 s f W):∀{rs:List ResultVar}{K:List TV->Tr},(cC6 P n s rs K).holds->(∀vs,(rs.mapM (cC5 (act n f).tmps)).run P W = .ok (vs.map TV.val) W->(K vs).holds->G)->G
 | [],K,h,k=>k [] rfl h
 | r::rs,K,h,k=>resT_ok h den fun v hv h=>uV den (K:=fun vs=>K (v::vs)) h fun vs hvs h=>k (v::vs) (by
   simp[mapM_cons,Sem.run_bind,hv,hvs]) h
theorem mY {fn:Func}{tmps:Array Value}{vs:List Value}{W:World}(h:(fn.results.toList.mapM (cC5 tmps)).run P W = .ok vs W):(results fn tmps).run P W = .ok (aD6 vs) W:=by
 have e:results fn tmps=(do let vs <- fn.results.mapM (cC5 tmps);pure (if h:vs.size=1 then vs[0] else .tuple vs)):=by
  unfold results;congr 1
 rw[e,Array.mapM_eq_mapM_toList,Sem.run_bind];have h2:(List.toArray <$> fn.results.toList.mapM (cC5 tmps)).run P W = .ok vs.toArray W:=by
  rw[map_eq_pure_bind,Sem.run_bind,h];rfl
 rw[h2];show Result.ok _ W=_;congr 1
 match vs with
 | []=>rfl
 | [v]=>rfl
 | _::_::_=>rfl
def rkT:List TV->List Rk->List (Nat×Ob)->(List (Nat×Ob)->Tr)->Tr
 | [],[],O,K=>K O
 | .ce c::ts,.v x::ks,O,K=>.e0 c.val x (rkT ts ks O K)
 | .ag cs::ts,.own i x::ks,O,K=>kO O cs (i.lv x) fun O'=>rkT ts ks O' K
 | .ce c::ts,.sl i xs::ks,O,K=>kO O [c] [.s _ i xs] fun O'=>rkT ts ks O' K
 | .ce c::ts,.rw i e xs::ks,O,K=>ctk O [c] [.r i e xs] fun O'=>rkT ts ks O' K
 | .ag cs::ts,.cl ls::ks,O,K=>ctk O cs ls fun O'=>rkT ts ks O' K
 | _,_,_,_=>.no
theorem cC4 {w0 W:World}:∀{ts:List TV}{ks:List Rk}{O:List (Nat×Ob)}{K:List (Nat×Ob)->Tr}{rs:List Res},(rkT ts ks O K).holds->rgd ks->St w0 W (Or O++rs)->∃r O',(K O').holds/\Rks (ts.map TV.val) ks r/\St w0 W (Or O'++(r++rs)):=by
 intro ts
 induction ts with
 | nil=>
  intro ks O K rs h hg st;cases ks with
  | nil=>exact⟨[],O,h,rfl,st⟩
  | cons=>exact h.elim
 | cons t ts ih=>
  intro ks O K rs h hg st;cases ks with
  | nil=>cases t<;>exact h.elim
  | cons kk ks=>
   have mid:∀{O':List (Nat×Ob)}{r:List Res}{x:Res},St w0 W (Or O'++(r++(x::rs)))->St w0 W (Or O'++((x::r)++rs)):=fun {O' r x} h=>h.perm ((perm_middle (a:=x) (l₁:=r) (l₂:=rs)).symm.append_left (Or O'))
   cases t with
   | ce c=>
    cases kk with
    | v x=>
     obtain⟨h1,h2⟩:=h;obtain⟨r,O',hK,h3,h4⟩:=ih h2 hg st;exact⟨r,O',hK,⟨[],r,⟨h1,rfl⟩,h3,rfl⟩,h4⟩
    | own i x=>exact h.elim
    | cl ls=>exact h.elim
    | rw i e xs=>
     obtain⟨r1,O',h',hl,st1⟩:=aF8 h st;obtain⟨fe,r2,rfl,hl2⟩:=hl;have hl2:r2=[]:=hl2;subst hl2;obtain⟨r,O2,hK,h3,h4⟩:=ih h' hg st1;exact⟨Res.row e c.val xs fe::r,O2,hK,⟨[_],r,⟨fe,rfl⟩,h3,rfl⟩,mid h4⟩
    | sl i xs=>
     refine eY h st fun O' fp h' st'=>?_
     obtain⟨f1,f2,st2⟩:=St.s_pc st';have st3:=st2.d0;obtain⟨r,O2,hK,h3,h4⟩:=ih h' hg (rs:=Res.own c.val xs f1::rs) (st3.perm perm_middle);exact⟨Res.own c.val xs f1::r,O2,hK,⟨[_],r,⟨f1,rfl⟩,h3,rfl⟩,mid h4⟩
   | ag cs=>
    cases kk with
    | v x=>exact h.elim
    | sl i xs=>exact h.elim
    | rw i e xs=>exact h.elim
    | cl ls=>
     obtain⟨r1,O',h',hl,st1⟩:=aF8 h st;obtain⟨r,O2,hK,h3,h4⟩:=ih h' hg st1;refine⟨r1++r,O2,hK,⟨r1,r,⟨_,rfl,hl⟩,h3,rfl⟩,?_⟩;refine h4.perm (List.Perm.append_left (Or O2) ?_);rw[append_assoc,<- append_assoc r r1 rs,<- append_assoc r1 r rs];exact(perm_append_comm (l₁:=r1) (l₂:=r)).append_right rs
    | own i x=>
     refine eY h st fun O' fp h' st'=>?_
     have st2:=St.pc_cs i st' hg.1;obtain⟨r,O2,hK,h3,h4⟩:=ih h' hg.2 (rs := @Res.cs _ i.toShape (cs.map Sc.val) x fp::rs) (st2.perm perm_middle);exact⟨_::r,O2,hK,⟨[_],r,⟨_,fp,rfl,rfl⟩,h3,rfl⟩,mid h4⟩
def unwt {P:Program}{A:Type}{R:A->Prop}:D P R->D P R
 | .wt _ k=>k
 | d=>d
def retT (P:Program) {A:Type}{R:A->Prop}(rk:A->List Rk) (n:Nat) (rs:List ResultVar) (s:S) (d:D P R):Tr:=
 prp d s fun s d=>prp (unwt d) s fun s d=>match d with
  | .rt a _=>cC6 P n s rs fun ts=>rkT ts (rk a) s.O fun _=>.ok
  | _=>.no
def grB:Option Gr->List (Nat×Bool×Bo)
 | none=>[]
 | some g=>[(999999,true,.gr g)]
theorem grB_ok {G:Option Gr}{w:World}(h:Gin G w):Facts w w (grB G):=by
 cases G with
 | none=>intro e he;cases he
 | some g=>
  intro e he;simp only[grB,mem_singleton]at he;subst he;exact h
def vcT (P:Program) (fn:Func) (G:Option Gr) (ps:List Par) {A:Type}{R:A->Prop}(rk:A->List Rk) (d:gin ps->D P (fun a=>R a/\rgd (rk a))):Tr:=
 .e0 (Nat.ble ps.length fn.ntmps) true<|match fn.body with
  | some c=>aM0 ps 0 ⟨[],[],grB G,0⟩ fun s=>.fp (gin ps) fun hg=>chk P fn.ntmps c (fun e s d=>match e with
   | .ret=>retT P rk fn.ntmps fn.results.toList s d
   | .normal=>retT P rk fn.ntmps fn.results.toList s d
   | _=>.no) s (d hg)
  | none=>.no
theorem Pars.len {w:World}:∀{us:List Value}{ps:List Par},Pars w us ps->us.length=ps.length
 | [],[],_=>rfl
 | [],p::_,h=>by cases p<;>exact h.elim
 | _::_,[],h=>h.elim
 | u::us,p::ps,h=>by
  cases p<;>exact congrArg (· + 1) (Pars.len h.2)
theorem vcg {F:FuncId}{fn:Func}{ps:List Par}{rk:A->List Rk}(G:Option Gr) (hf:P.funcs[F]? = some fn) (d:gin ps->D P (fun a=>R a/\rgd (rk a))) (h:(vcT P fn G ps rk d).side true=(vcT P fn G ps rk d).side false):Cg P F G ps R rk:=by
 have h:=Tr.of_side h;obtain⟨h1,h⟩:=h;refine⟨fun w us hG hp=>?_⟩;split at h
 ·next c hb=>
  have hl:us.length<=fn.ntmps:=by rw[hp.len];exact Nat.le_of_ble_eq_true h1
  refine enter us hf hb rfl hl ?_;refine cN4 (t:=0) h hp (f:=fun t=>us.getD t undef) (fun k v hk=>by
   show us.getD (0+k) undef=v;rw[Nat.zero_add,getD_eq_getElem?_getD,hk];rfl) ⟨fun t x hx=>(by cases hx),St.start w,grB_ok hG⟩ fun s' h' den' hg=>?_
  have hret:∀{s:S}{d:D P (fun a=>R a/\rgd (rk a))}{f:Nat->Value}{W:World},(retT P rk fn.ntmps fn.results.toList s d).holds->Den w s f W->∃v,(results fn (act fn.ntmps f).tmps).run P W = .ok v W/\∃a vs rs,R a/\Ending.returned v = .returned (aD6 vs)/\Rks vs (rk a) rs/\St w W rs:=by
   intro s d f W h den;refine iS h den fun s0_ d0_ h0_ den0_=>iS h0_ den0_ fun s1 d1 h1 den1=>?_
   split at h1
   ·next a ha=>
    refine uV den1 h1 fun ts hts h2=>?_
    have st:St w W (Or s1.O++[]):=by simpa [Or,S.rs] using den1.st
    obtain⟨r,O',_,h3,h4⟩:=cC4 h2 ha.2 st;exact⟨_,mY hts,a,_,r,ha.1,rfl,h3,h4.sub (by rw[append_nil];exact sublist_append_right _ _)⟩
   exact h1.elim
  refine aG2 c (h' hg) den' fun e s2 d2 f2 W2 h2 den2=>?_
  cases e with
  | ret=>exact⟨rfl,hret h2 den2⟩
  | normal=>exact⟨rfl,hret h2 den2⟩
  | exit i=>exact h2.elim
  | goto l=>exact h2.elim
  | panic ch=>exact h2.elim
  | outgrown=>exact h2.elim
 exact h.elim
theorem vc {F:FuncId}{fn:Func}{ps:List Par}{rk:A->List Rk}(hf:P.funcs[F]? = some fn) (d:gin ps->D P (fun a=>R a/\rgd (rk a))) (h:(vcT P fn none ps rk d).side true=(vcT P fn none ps rk d).side false):Ct P F ps R rk:=vcg none hf d h
def cZ7:List SV->Nat->List (Nat×SV)
 | [],_=>[]
 | u::us,t=>(t,u)::cZ7 us (t+1)
theorem cM5 {f:Nat->Value}:∀{us:List SV}{t:Nat},(∀k v,(us.map SV.val)[k]? = some v->f (t+k)=v)->Fr (cZ7 us t) f
 | [],t,_=>fun t x hx=>by cases hx
 | u::us,t,h=>by
  refine Fr.know (cM5 (us:=us) (t:=t+1) fun k v hk=>?_) t u (h 0 _ rfl);rw[Nat.add_assoc,Nat.add_comm 1 k];exact h (k+1) v (by simpa using hk)
def retI (P:Program) {A:Type}{R:A->Prop}(n:Nat) (rs:List ResultVar) (K:A->SV->S->Tr) (s:S) (d:D P R):Tr:=
 prp d s fun s d=>prp (unwt d) s fun s d=>match d with
  | .rt a _=>cC6 P n s rs fun ts=>K a (aP3 ts) s
  | _=>.no
def inlT (P:Program) (fn:Func) {A:Type}{R:A->Prop}(d:D P R) (s:S) (us:List SV) (K:A->SV->S->Tr):Tr:=
 .e0 (Nat.ble us.length fn.ntmps) true<|match fn.body with
  | some c=>chk P fn.ntmps c (fun e s d=>match e with
   | .ret=>retI P fn.ntmps fn.results.toList K s d
   | .normal=>retI P fn.ntmps fn.results.toList K s d
   | _=>.no) ⟨cZ7 us 0,s.O,s.B,s.nx⟩ d
  | none=>.no
theorem inlT_ok {F:FuncId}{fn:Func}(hf:P.funcs[F]? = some fn) (d:D P R) {w0 W:World}{s:S}{us:List SV}{K:A->SV->S->Tr}(h:(inlT P fn d s us K).holds) (st:St w0 W s.rs) (fa:Facts w0 W s.B) :
  Calls P F (us.map SV.val).toArray W fun e W'=>∃a v s',R a/\(K a v s').holds/\e = .returned v.val/\St w0 W' s'.rs/\Facts w0 W' s'.B:=by
 obtain⟨h1,h⟩:=h;split at h
 ·next c hb=>
  have hl:(us.map SV.val).length<=fn.ntmps:=by rw[length_map];exact Nat.le_of_ble_eq_true h1
  refine enter (us.map SV.val) hf hb rfl hl ?_;have hret:∀{s:S}{d:D P R}{f:Nat->Value}{W:World},(retI P fn.ntmps fn.results.toList K s d).holds->Den w0 s f W->∃v,(results fn (act fn.ntmps f).tmps).run P W = .ok v W/\∃a u s',R a/\(K a u s').holds/\Ending.returned v = .returned u.val/\St w0 W s'.rs/\Facts w0 W s'.B:=by
   intro s d f W h den;refine iS h den fun s0_ d0_ h0_ den0_=>iS h0_ den0_ fun s1 d1 h1 den1=>?_
   split at h1
   ·next a ha=>
    refine uV den1 h1 fun ts hts h2=>?_
    exact⟨_,mY hts,a,aP3 ts,s1,ha,h2,by rw[kY],den1.st,den1.fa⟩
   exact h1.elim
  refine aG2 (w0:=w0) c h ⟨cM5 (f:=fun t=>(us.map SV.val).getD t undef) fun k v hk=>?_,st,fa⟩ fun e s2 d2 f2 W2 h2 den2=>?_
  ·show (us.map SV.val).getD (0+k) undef=v;rw[Nat.zero_add,getD_eq_getElem?_getD,hk];rfl
  cases e with
  | ret=>exact⟨rfl,hret h2 den2⟩
  | normal=>exact⟨rfl,hret h2 den2⟩
  | exit i=>exact h2.elim
  | goto l=>exact h2.elim
  | panic ch=>exact h2.elim
  | outgrown=>exact h2.elim
 exact h.elim
def inl {F:FuncId}{fn:Func}(hf:P.funcs[F]? = some fn) (d:D P R):Inc P F R:=⟨inlT P fn d,inlT_ok hf d⟩
def Res.all (rs:List Res):Res where
 fp:=rs.flatMap Res.fp
 holds:=fun W=>∀r∈rs,r.holds W
 loc:=fun hs hb h r hr=>r.loc hs (fun b hm=>hb b (mem_flatMap.2 ⟨r,hr,hm⟩)) (h r hr)
 wr:=fun h b hb=>by
  obtain⟨r,hr,hm⟩:=mem_flatMap.1 hb;exact r.wr (h r hr) b hm
theorem St.all_in {w W:World}{a rs:List Res}(h:St w W (a++rs)):St w W (a++[Res.all rs]):=by
 refine⟨h.below,by simpa [Res.all] using h.nodup,fun r hr b hb=>?_,fun r hr=>?_⟩
 ·rcases mem_append.1 hr with hr | hr
  ·exact h.fresh r (mem_append_left _ hr) b hb
  simp only[mem_singleton]at hr;subst hr;obtain⟨q,hq,hm⟩:=mem_flatMap.1 (show b∈rs.flatMap Res.fp from hb);exact h.fresh q (mem_append_right _ hq) b hm
 rcases mem_append.1 hr with hr | hr
 ·exact h.holds r (mem_append_left _ hr)
 simp only[mem_singleton]at hr;subst hr;exact fun q hq=>h.holds q (mem_append_right _ hq)
theorem St.all_out {w W:World}{a rs:List Res}(h:St w W (a++[Res.all rs])):St w W (a++rs):=by
 refine⟨h.below,by simpa [Res.all] using h.nodup,fun r hr b hb=>?_,fun r hr=>?_⟩
 ·rcases mem_append.1 hr with hr | hr
  ·exact h.fresh r (mem_append_left _ hr) b hb
  exact h.fresh (Res.all rs) (by simp) b (mem_flatMap.2 ⟨r,hr,hb⟩)
 rcases mem_append.1 hr with hr | hr
 ·exact h.holds r (mem_append_left _ hr)
 exact h.holds (Res.all rs) (by simp) r hr
def cE6:Nat:=1000000
def retM (P:Program) {A:Type}{R:A->Prop}{α:Type}(i:Dsh α) (y:A->α) (rk:A->List Rk) (n:Nat) (rs:List ResultVar) (b:Nat) (t:TypeId) (pre post:List Value) (r:Res) (s:S) (d:D P R):Tr:=
 prp d s fun s d=>prp (unwt d) s fun s d=>match d with
  | .rt a _=>match lku s.O 0 with
   | some (.bx b' pre' cs post' t')=>.e0 b' b<|.e0 pre' pre<|.e0 post' post<|.e0 t' t<|kO (bJ s.O 0) cs (i.lv (y a)) fun O'=>
     cC6 P n s rs fun ts=>rkT ts (rk a) O' fun O2=>match lku O2 cE6 with
      | some (.raw r')=>.e0 r' r .ok
      | _=>.no
   | _=>.no
  | _=>.no
def vcmT (P:Program) (fn:Func) (ps:List Par) {α:Type}(i:Dsh α) (x:α) {A:Type}{R:A->Prop}(y:A->α) (rk:A->List Rk) (d:gin ps->lns (i.lv x)->D P (fun a=>R a/\rgd (rk a))):Tr:=
 .e0 (Nat.ble (ps.length+1) fn.ntmps) true<|match fn.body with
  | some c=>.fn fun G:(Nat×TypeId)×(List Value×List Value×Res)=>aK8 (i.lv x) ⟨[],[(cE6,.raw G.2.2.2)],[],1⟩ fun scs s=>
    aM0 ps 1 ⟨[(0,one (.pt 0 G.1.1 G.2.1.length 0))],(0,.bx G.1.1 G.2.1 scs G.2.2.1 G.1.2)::s.O,s.B,s.nx⟩ fun s=>.fp (gin ps) fun hg=>.fp (lns (i.lv x)) fun hn=>chk P fn.ntmps c (fun e s d=>match e with
     | .ret=>retM P i y rk fn.ntmps fn.results.toList G.1.1 G.1.2 G.2.1 G.2.2.1 G.2.2.2 s d
     | .normal=>retM P i y rk fn.ntmps fn.results.toList G.1.1 G.1.2 G.2.1 G.2.2.1 G.2.2.2 s d
     | _=>.no) s (d hg hn)
  | none=>.no
theorem vcm {F:FuncId}{fn:Func}{ps:List Par}{α:Type}{i:Dsh α}{x:α}{y:A->α}{rk:A->List Rk}(hf:P.funcs[F]? = some fn) (d:gin ps->lns (i.lv x)->D P (fun a=>R a/\rgd (rk a))) (h:(vcmT P fn ps i x y rk d).side true=(vcmT P fn ps i x y rk d).side false):Cm P F ps i x R y rk:=by
 have h:=Tr.of_side h;obtain⟨h1,h⟩:=h;refine⟨fun w W0 b pre post t cs fp us rs st hp=>?_⟩;split at h
 ·next c hb=>
  have hl:us.length+1<=fn.ntmps:=by rw[hp.len];exact Nat.le_of_ble_eq_true h1
  refine enter (Value.pointer (some ⟨b,pre.length,none⟩)::us) hf hb rfl hl ?_;have st1:St w W0 (Res.pc cs (i.lv x) fp::([Res.bx b (pre++cs++post) t]++[Res.all rs])):=by
   have:=St.all_in (a:=[Res.bx b (pre++cs++post) t,Res.pc cs (i.lv x) fp]) st;exact this.swap
  refine oW (s:=⟨[],[(cE6,.raw (Res.all rs))],[],1⟩) (rs:=[Res.bx b (pre++cs++post) t]) (h ((b,t),(pre,post,Res.all rs))) st1 fun scs s1 h2 e1 e2 e3 _ st2 hn=>?_
  have st3:St w W0 (S.rs ⟨[(0,one (.pt 0 b pre.length 0))],(0,.bx b pre scs post t)::s1.O,s1.B,s1.nx⟩):=by
   have:St w W0 (Res.bx b (pre++cs++post) t::s1.rs):=st2;rw[<- e1]at this;exact this
  have hret:∀{s:S}{d:D P (fun a=>R a/\rgd (rk a))}{f:Nat->Value}{W:World},(retM P i y rk fn.ntmps fn.results.toList b t pre post (Res.all rs) s d).holds->Den w s f W->∃v,(results fn (act fn.ntmps f).tmps).run P W = .ok v W/\∃a vs cs' fp' rr,R a/\Ending.returned v = .returned (aD6 vs)/\Rks vs (rk a) rr/\St w W (Res.bx b (pre++cs'++post) t::Res.pc cs' (i.lv (y a)) fp'::(rr++rs)):=by
   intro s d f W h den;refine iS h den fun s0_ d0_ h0_ den0_=>iS h0_ den0_ fun s1 d1 h1 den1=>?_
   split at h1
   ·next a ha=>
    split at h1
    ·next b' pre' cs' post' t' hj=>
     obtain⟨rfl,rfl,rfl,rfl,g2⟩:=h1;have st:St w W (Or s1.O++[]):=by simpa [Or,S.rs] using den1.st
     have g1:St w W (Or (bJ s1.O 0)++[Res.bx b' (pre'++cs'.map Sc.val++post') t']):=by
      have:=st.take hj;rw[append_nil]at this;exact this.perm (perm_append_comm (l₁:=Or (bJ s1.O 0)) (l₂:=[_]))
     refine eY g2 g1 fun O' fp' h3 st2=>(uV den1 h3 fun ts hts h4=>?_)
     have st3:St w W (Or O'++[Res.pc (cs'.map Sc.val) (i.lv (y a)) fp',Res.bx b' (pre'++cs'.map Sc.val++post') t']):=st2.perm (perm_middle (a:=Res.pc (cs'.map Sc.val) (i.lv (y a)) fp') (l₁:=Or O') (l₂:=[_]));obtain⟨rr,O2,hK,h5,st4⟩:=cC4 h4 ha.2 st3;split at hK
     ·next r' hr=>
      obtain⟨rfl,_⟩:=hK;have st5:=st4.take hr;have st6:St w W ((Res.bx b' (pre'++cs'.map Sc.val++post') t'::Res.pc (cs'.map Sc.val) (i.lv (y a)) fp'::rr)++[Res.all rs]):=by
       have st7:St w W (Res.all rs::(rr++[Res.pc (cs'.map Sc.val) (i.lv (y a)) fp',Res.bx b' (pre'++cs'.map Sc.val++post') t'])):=st5.sub (List.Sublist.cons_cons _ (sublist_append_right _ _));refine st7.perm ((perm_append_comm (l₂:=[Res.all rs])).trans (List.Perm.cons _ ((List.Perm.swap _ _ _).trans ?_)));exact perm_append_comm (l₁:=[Res.pc (cs'.map Sc.val) (i.lv (y a)) fp',Res.bx b' (pre'++cs'.map Sc.val++post') t']) (l₂:=rr)
      have st8:=St.all_out st6;exact⟨_,mY hts,a,_,cs'.map Sc.val,fp',rr,ha.1,rfl,h5,st8⟩
     exact hK.elim
    exact h1.elim
   exact h1.elim
  refine lQ (t:=1) h2 hp (f:=fun t=>(Value.pointer (some ⟨b,pre.length,none⟩)::us).getD t undef) (fun k v hk=>by
   show (Value.pointer (some ⟨b,pre.length,none⟩)::us).getD (1+k) undef=v;rw[Nat.add_comm,getD_eq_getElem?_getD,getElem?_cons_succ,hk];rfl) (W:=W0) ⟨?_,st3,by rw[e3];intro e he;cases he⟩ fun s' h' den' hg _=>?_
  ·refine Fr.know (E:=[]) (fun t x hx=>by cases hx) 0 _ rfl
  refine aG2 c (h' hg hn) den' fun e s2 d2 f2 W2 h2 den2=>?_
  cases e with
  | ret=>exact⟨rfl,hret h2 den2⟩
  | normal=>exact⟨rfl,hret h2 den2⟩
  | exit i=>exact h2.elim
  | goto l=>exact h2.elim
  | panic ch=>exact h2.elim
  | outgrown=>exact h2.elim
 exact h.elim
def cR4:List Pw->Prop
 | []=>True
 | .bw p::ps=>gin [p]/\cR4 ps
 | .ow i x::ps=>lns (i.lv x)/\cR4 ps
def entW:List Pw->Nat->S->(S->Tr)->Tr
 | [],_,s,K=>K s
 | .bw p::ps,t,s,K=>aM0 [p] t s fun s=>entW ps (t+1) s K
 | .ow i x::ps,t,s,K=>aK8 (i.lv x) s fun cs s=>entW ps (t+1) ⟨(t,.on (.ag cs))::s.E,s.O,s.B,s.nx⟩ K
theorem bP0 {G:Prop}{w W:World}{f:Nat->Value}:∀{ps:List Pw}{us:List Value}{t:Nat}{s:S}{r:List Res}{K:S->Tr},(entW ps t s K).holds->PwAt w us ps r->(∀k v,us[k]? = some v->f (t+k)=v)->Fr s.E f->Facts w W s.B->St w W (r++s.rs) ->
  (∀s',(K s').holds->Den w s' f W->cR4 ps->G)->G
 | [],[],t,s,r,K,h,hp,hu,fr,fa,st,k=>by
  have hp:r=[]:=hp;subst hp;exact k s h ⟨fr,st,fa⟩ trivial
 | [],_::_,t,s,r,K,h,hp,hu,fr,fa,st,k=>hp.elim
 | p::ps,[],t,s,r,K,h,hp,hu,fr,fa,st,k=>by cases p<;>exact hp.elim
 | p::ps,u::us,t,s,r,K,h,hp,hu,fr,fa,st,k=>by
  have h0:f t=u:=hu 0 u rfl;have hu':∀k v,us[k]? = some v->f (t+1+k)=v:=fun k v hk=>by
   rw[Nat.add_assoc,Nat.add_comm 1 k];exact hu (k+1) v (by simpa using hk)
  cases p with
  | bw p=>
   refine lQ (us:=[u]) (K:=fun s=>entW ps (t+1) s K) h ⟨hp.1,trivial⟩ (fun k v hk=>?_) ⟨fr,st.sub (sublist_append_right _ _),fa⟩ fun s' h' den' hg eO=>?_
   ·cases k with
    | zero=>simp only[getElem?_cons_zero,Option.some.injEq]at hk;rw[<- hk];exact h0
    | succ k=>simp at hk
   ·exact bP0 (t:=t+1) h' hp.2 hu' den'.fr den'.fa (by rw[S.rs,eO];exact st) fun s2 h2 den2 hg2=>k s2 h2 den2 ⟨hg,hg2⟩
  | ow i x=>
   obtain⟨cs,fp,r2,rfl,rfl,hp⟩:=hp;refine oW (rs:=r2) h st fun scs s' h' e1 e2 e3 _ st' hl=>(bP0 (t:=t+1) (s:=⟨(t,.on (.ag scs))::s'.E,s'.O,s'.B,s'.nx⟩) h' hp hu' ?_ (by rw[e3];exact fa) st' fun s2 h2 den2 hg2=>k s2 h2 den2 ⟨hl,hg2⟩)
   refine Fr.know (by rw[e2];exact fr) t _ (h0.trans ?_);show Value.agg cs.toArray = .agg (scs.map Sc.val).toArray;rw[e1]
def retO (P:Program) {A:Type}{R:A->Prop}(rk:A->List Rk) (n:Nat) (rs:List ResultVar) (r:Res) (s:S) (d:D P R):Tr:=
 prp d s fun s d=>prp (unwt d) s fun s d=>match d with
  | .rt a _=>cC6 P n s rs fun ts=>rkT ts (rk a) s.O fun O2=>match lku O2 cE6 with
   | some (.raw r')=>.e0 r' r .ok
   | _=>.no
  | _=>.no
theorem aN2 {w W:World}{rk:A->List Rk}{fn:Func}{rs:List Res}{s:S}{d:D P (fun a=>R a/\rgd (rk a))}{f:Nat->Value}(h:(retO P rk fn.ntmps fn.results.toList (Res.all rs) s d).holds) (den:Den w s f W) :
  ∃v,(results fn (act fn.ntmps f).tmps).run P W = .ok v W/\∃a vs rr,R a/\Ending.returned v = .returned (aD6 vs)/\Rks vs (rk a) rr/\St w W (rr++rs):=by
 refine iS h den fun s0_ d0_ h0_ den0_=>iS h0_ den0_ fun s1 d1 h1 den1=>?_
 split at h1
 ·next a ha=>
  refine uV den1 h1 fun ts hts h4=>?_
  have st3:St w W (Or s1.O++[]):=by simpa [Or,S.rs] using den1.st
  obtain⟨rr,O2,hK,h5,st4⟩:=cC4 h4 ha.2 st3;split at hK
  ·next r' hr=>
   obtain⟨rfl,_⟩:=hK;have st5:=st4.take hr;have st6:St w W (rr++[Res.all rs]):=by
    have st7:St w W (Res.all rs::(rr++[])):=st5.sub (List.Sublist.cons_cons _ (sublist_append_right _ _));rw[append_nil]at st7;exact st7.perm (perm_append_comm (l₁:=rr) (l₂:=[Res.all rs]))
   exact⟨_,mY hts,a,_,rr,ha.1,rfl,h5,St.all_out st6⟩
  exact hK.elim
 exact h1.elim
def vcoT (P:Program) (fn:Func) (ow:List Lr) (ag:Bool) (ps:List Par) {A:Type}{R:A->Prop}(rk:A->List Rk) (d:gin ps->lrs ow->D P (fun a=>R a/\rgd (rk a))):Tr:=
 .e0 (Nat.ble (ps.length+1) fn.ntmps) true<|match fn.body with
  | some c=>.fn fun r:Res=>crb ow ⟨[],[(cE6,.raw r)],[],0⟩ fun scs s=>
    aM0 ps 1 ⟨[(0,cond ag (.on (.ag scs)) (one (scs.headD (.vl undef))))],s.O,s.B,s.nx⟩ fun s=>.fp (gin ps) fun hg=>.fp (lrs ow) fun hn=>chk P fn.ntmps c (fun e s d=>match e with
     | .ret=>retO P rk fn.ntmps fn.results.toList r s d
     | .normal=>retO P rk fn.ntmps fn.results.toList r s d
     | _=>.no) s (d hg hn)
  | none=>.no
theorem vco {F:FuncId}{fn:Func}{ow:List Lr}{ag:Bool}{ps:List Par}{rk:A->List Rk}(hf:P.funcs[F]? = some fn) (d:gin ps->lrs ow->D P (fun a=>R a/\rgd (rk a))) (h:(vcoT P fn ow ag ps rk d).side true=(vcoT P fn ow ag ps rk d).side false):Co P F ow ag ps R rk:=by
 have h:=Tr.of_side h;obtain⟨h1,h⟩:=h;refine⟨fun w W0 cs r us rs hlv st hp=>?_⟩;split at h
 ·next c hb=>
  have hl:us.length+1<=fn.ntmps:=by rw[hp.len];exact Nat.le_of_ble_eq_true h1
  refine enter (cond ag (.agg cs.toArray) (cs.headD undef)::us) hf hb rfl hl ?_;have st1:St w W0 (r++([]++S.rs ⟨[],[(cE6,.raw (Res.all rs))],[],0⟩)):=St.all_in (a:=r) st;refine aW9 (rs:=[]) (h (Res.all rs)) hlv st1 fun scs s1 h2 e1 e2 e3 _ st2 hn=>?_
  refine lQ (t:=1) h2 hp (f:=fun t=>(cond ag (.agg cs.toArray) (cs.headD undef)::us).getD t undef) (fun k v hk=>by
   show (cond ag (.agg cs.toArray) (cs.headD undef)::us).getD (1+k) undef=v;rw[Nat.add_comm,getD_eq_getElem?_getD,getElem?_cons_succ,hk];rfl) (W:=W0) ⟨?_,st2,by rw[e3];intro e he;cases he⟩ fun s' h' den' hg _=>?_
  ·refine Fr.know (E:=[]) (fun t x hx=>by cases hx) 0 _ ?_;show cond ag (.agg cs.toArray) (cs.headD undef)=_;cases ag with
   | true=>rw[<- e1];rfl
   | false=>
    rw[<- e1];cases scs with
    | nil=>rfl
    | cons a l=>rfl
  refine aG2 c (h' hg hn) den' fun e s2 d2 f2 W2 h2 den2=>?_
  cases e with
  | ret=>exact⟨rfl,aN2 h2 den2⟩
  | normal=>exact⟨rfl,aN2 h2 den2⟩
  | exit i=>exact h2.elim
  | goto l=>exact h2.elim
  | panic ch=>exact h2.elim
  | outgrown=>exact h2.elim
 exact h.elim
def vcwT (P:Program) (fn:Func) (ps:List Pw) {A:Type}{R:A->Prop}(rk:A->List Rk) (d:cR4 ps->D P (fun a=>R a/\rgd (rk a))):Tr:=
 .e0 (Nat.ble ps.length fn.ntmps) true<|match fn.body with
  | some c=>.fn fun r:Res=>entW ps 0 ⟨[],[(cE6,.raw r)],[],0⟩ fun s=>.fp (cR4 ps) fun hg=>chk P fn.ntmps c (fun e s d=>match e with
    | .ret=>retO P rk fn.ntmps fn.results.toList r s d
    | .normal=>retO P rk fn.ntmps fn.results.toList r s d
    | _=>.no) s (d hg)
  | none=>.no
theorem PwAt.len {w:World}:∀{us:List Value}{ps:List Pw}{r:List Res},PwAt w us ps r->us.length=ps.length
 | [],[],_,_=>rfl
 | [],p::_,_,h=>by cases p<;>exact h.elim
 | _::_,[],_,h=>h.elim
 | u::us,.bw p::ps,_,h=>congrArg (· + 1) (PwAt.len h.2)
 | u::us,.ow i x::ps,_,h=>by
  obtain⟨_,_,r2,_,_,h⟩:=h;exact congrArg (· + 1) (PwAt.len h)
theorem vcw {F:FuncId}{fn:Func}{ps:List Pw}{rk:A->List Rk}(hf:P.funcs[F]? = some fn) (d:cR4 ps->D P (fun a=>R a/\rgd (rk a))) (h:(vcwT P fn ps rk d).side true=(vcwT P fn ps rk d).side false):Cw P F ps R rk:=by
 have h:=Tr.of_side h;obtain⟨h1,h⟩:=h;refine⟨fun w W0 us r rs hp st=>?_⟩;split at h
 ·next c hb=>
  have hl:us.length<=fn.ntmps:=by rw[hp.len];exact Nat.le_of_ble_eq_true h1
  refine enter us hf hb rfl hl ?_;refine bP0 (t:=0) (r:=r) (W:=W0) (h (Res.all rs)) hp (f:=fun t=>us.getD t undef) (fun k v hk=>by
   show us.getD (0+k) undef=v;rw[Nat.zero_add,getD_eq_getElem?_getD,hk];rfl) (fun t x hx=>(by cases hx)) (fun e he=>by cases he) (St.all_in (a:=r) st) fun s' h' den' hg=>?_
  refine aG2 c (h' hg) den' fun e s2 d2 f2 W2 h2 den2=>?_
  cases e with
  | ret=>exact⟨rfl,aN2 h2 den2⟩
  | normal=>exact⟨rfl,aN2 h2 den2⟩
  | exit i=>exact h2.elim
  | goto l=>exact h2.elim
  | panic ch=>exact h2.elim
  | outgrown=>exact h2.elim
 exact h.elim
def retB (P:Program) {A:Type}{R:A->Prop}{α:Type}(i:Dsh α) (x:α) (n:Nat) (rs:List ResultVar) (s:S) (d:D P R):Tr:=
 prp d s fun s d=>prp (unwt d) s fun s d=>match d with
  | .rt _ _=>cC6 P n s rs fun ts=>match ts with
   | [.ag cs]=>aG6 ⟨[],[],lasting s.B,0⟩ cs (i.lv x) .ok
   | _=>.no
  | _=>.no
def vcbT (P:Program) (fn:Func) (ps:List Par) {α:Type}(i:Dsh α) (x:α) (d:gin ps->D P (fun _:Unit=>i.good x)):Tr:=
 .e0 (Nat.ble ps.length fn.ntmps) true<|match fn.body with
  | some c=>aM0 ps 0 ⟨[],[],[],0⟩ fun s=>.fp (gin ps) fun hg=>chk P fn.ntmps c (fun e s d=>match e with
   | .ret=>retB P i x fn.ntmps fn.results.toList s d
   | .normal=>retB P i x fn.ntmps fn.results.toList s d
   | _=>.no) s (d hg)
  | none=>.no
theorem vcb {F:FuncId}{fn:Func}{ps:List Par}{α:Type}{i:Dsh α}{x:α}(hf:P.funcs[F]? = some fn) (d:gin ps->D P (fun _:Unit=>i.good x)) (h:(vcbT P fn ps i x d).side true=(vcbT P fn ps i x d).side false):Cb P F ps i x:=by
 have h:=Tr.of_side h;obtain⟨h1,h⟩:=h;refine⟨fun w us hp=>?_⟩;split at h
 ·next c hb=>
  have hl:us.length<=fn.ntmps:=by rw[hp.len];exact Nat.le_of_ble_eq_true h1
  refine enter us hf hb rfl hl ?_;refine cN4 (t:=0) h hp (f:=fun t=>us.getD t undef) (fun k v hk=>by
   show us.getD (0+k) undef=v;rw[Nat.zero_add,getD_eq_getElem?_getD,hk];rfl) ⟨fun t x hx=>(by cases hx),St.start w,fun e he=>by cases he⟩ fun s' h' den' hg=>?_
  have hret:∀{s:S}{d:D P (fun _:Unit=>i.good x)}{f:Nat->Value}{W:World},(retB P i x fn.ntmps fn.results.toList s d).holds->Den w s f W->∃v,(results fn (act fn.ntmps f).tmps).run P W = .ok v W/\∃cs fp,i.C w cs x fp/\Ending.returned v = .returned (.agg cs.toArray)/\St w W []:=by
   intro s d f W h den;refine iS h den fun s0_ d0_ h0_ den0_=>iS h0_ den0_ fun s1 d1 h1 den1=>?_
   split at h1
   ·next a ha=>
    refine uV den1 h1 fun ts hts h2=>?_
    split at h2
    ·next cs=>
     obtain⟨⟨fp,hc⟩,_⟩:=rT (s:=⟨[],[],lasting s1.B,0⟩) (w0:=w) (W:=w) (St.start w) den1.fa.base h2;exact⟨_,mY hts,cs.map Sc.val,fp,i.inn ha hc,rfl,den1.st.bare⟩
    exact h2.elim
   exact h1.elim
  refine aG2 c (h' hg) den' fun e s2 d2 f2 W2 h2 den2=>?_
  cases e with
  | ret=>exact⟨rfl,hret h2 den2⟩
  | normal=>exact⟨rfl,hret h2 den2⟩
  | exit i=>exact h2.elim
  | goto l=>exact h2.elim
  | panic ch=>exact h2.elim
  | outgrown=>exact h2.elim
 exact h.elim
end
end Go.Proofs.YtjihdmlkpkkpbaaGreat
namespace Go.Proofs.YtjihdmlkpkkpbaaGreat
set_option maxRecDepth 100000
set_option maxHeartbeats 2000000
open Go.RowKit Go.Proofs.Tryz List
abbrev lS {β:Type}[i:Shape β] (ys:List β):Lf := .s β i ys
theorem aE {w:World}{cs:List Value}{u:Value}{ls:List Lf}{fp:List Nat}(h:dR w cs (.v u::ls) fp):∃r,cs=u::r/\dR w r ls fp:=by
 cases cs with
 | nil=>exact h.elim
 | cons c r=>exact⟨r,by rw[h.1],h.2⟩
theorem eP {w:World}{cs:List Value}{β:Type}{i:Shape β}{ys:List β}{ls:List Lf}{fp:List Nat}(h:dR w cs (.s β i ys::ls) fp):∃c r f1 f2,cs=c::r/\Sl w c ys f1/\dR w r ls f2/\fp=f1++f2:=by
 cases cs with
 | nil=>exact h.elim
 | cons c r=>obtain⟨f1,f2,h1,h2,h3⟩:=h;exact⟨c,r,f1,f2,rfl,h1,h2,h3⟩
theorem eQ {w:World}{cs:List Value}{fp:List Nat}(h:dR w cs [] fp):cs=[]/\fp=[]:=by
 cases cs with
 | nil=>exact⟨rfl,h⟩
 | cons=>exact h.elim
instance:Dsh Int where
 lv:=fun n=>[.v (I n)]
 good:=I64
 out:=fun ⟨h1,h2,h3⟩=>by subst h1;subst h2;exact⟨h3,rfl,rfl⟩
 inn:=fun hg h=>by obtain⟨r,rfl,h2⟩:=aE h;obtain⟨rfl,rfl⟩:=eQ h2;exact⟨rfl,rfl,hg⟩
instance:Dsh Bool where
 lv:=fun b=>[.v (.bool b)]
 good:=fun _=>True
 out:=fun ⟨h1,h2,h3⟩=>by subst h1;subst h2;exact⟨h3,rfl,rfl⟩
 inn:=fun hg h=>by obtain⟨r,rfl,h2⟩:=aE h;obtain⟨rfl,rfl⟩:=eQ h2;exact⟨rfl,rfl,hg⟩
instance:Dsh ByteArray where
 lv:=fun b=>[.v (.string b)]
 good:=fun s=>s.size<=maxLen
 out:=fun ⟨h1,h2,h3⟩=>by subst h1;subst h2;exact⟨h3,rfl,rfl⟩
 inn:=fun hg h=>by obtain⟨r,rfl,h2⟩:=aE h;obtain⟨rfl,rfl⟩:=eQ h2;exact⟨rfl,rfl,hg⟩
instance {α:Type}[Shape α]:Dsh (List α) where
 lv:=fun xs=>[.s α _ xs]
 good:=fun _=>True
 out:=fun ⟨v,h1,h2⟩=>by subst h1;exact⟨trivial,_,[],h2,rfl,by simp⟩
 inn:=fun hg h=>by obtain⟨c,r,f1,f2,rfl,h1,h2,rfl⟩:=eP h;obtain⟨rfl,rfl⟩:=eQ h2;exact⟨c,rfl,by simpa using h1⟩
instance:Dsh Edge where
 lv:=fun x=>[.v (I x.from_),.v (I x.to_)]
 good:=Edge.ok
 out:=fun {w cs x fp} h=>by obtain⟨h1,h2,h3⟩:=h;subst h1;subst h2;exact⟨h3,rfl,rfl,rfl⟩
 inn:=fun hg h=>by obtain⟨r0,e0,z0⟩:=aE h;obtain⟨r1,e1,z1⟩:=aE z0;obtain⟨e2,p0⟩:=eQ z1;subst e2 e1 e0;subst p0;exact⟨rfl,rfl,hg⟩
instance:Dsh Plan where
 lv:=fun x=>[.v (I x.prio),.v (I x.most),.v (I x.wait),.v (I x.tasks),lS x.edges]
 good:=Plan.ok
 out:=fun {w cs x fp} h=>by
  obtain⟨v0,f0,hcs,hok,h0,hfp⟩:=h;refine⟨hok,?_⟩;rw[hcs,hfp];have h:dR w [I x.prio,I x.most,I x.wait,I x.tasks,v0] [.v (I x.prio),.v (I x.most),.v (I x.wait),.v (I x.tasks),lS x.edges] (f0++[]):=⟨rfl,⟨rfl,⟨rfl,⟨rfl,⟨f0,_,h0,rfl,rfl⟩⟩⟩⟩⟩;simpa using h
 inn:=fun hg h=>by
  obtain⟨r0,e0,z0⟩:=aE h;obtain⟨r1,e1,z1⟩:=aE z0;obtain⟨r2,e2,z2⟩:=aE z1;obtain⟨r3,e3,z3⟩:=aE z2;obtain⟨c0,r4,f0,g0,e4,h0,z4,p0⟩:=eP z3;obtain⟨e5,p1⟩:=eQ z4;subst e5 e4 e3 e2 e1 e0;subst p1 p0;exact⟨c0,f0,rfl,hg,h0,by simp⟩
instance:Dsh Entry where
 lv:=fun x=>[.v (I x.prio),.v (I x.seq),.v (I x.run),.v (I x.task)]
 good:=Entry.ok
 out:=fun {w cs x fp} h=>by obtain⟨h1,h2,h3⟩:=h;subst h1;subst h2;exact⟨h3,rfl,rfl,rfl,rfl,rfl⟩
 inn:=fun hg h=>by obtain⟨r0,e0,z0⟩:=aE h;obtain⟨r1,e1,z1⟩:=aE z0;obtain⟨r2,e2,z2⟩:=aE z1;obtain⟨r3,e3,z3⟩:=aE z2;obtain⟨e4,p0⟩:=eQ z3;subst e4 e3 e2 e1 e0;subst p0;exact⟨rfl,rfl,hg⟩
instance:Dsh Task where
 lv:=fun x=>[.v (I x.state),.v (I x.need),.v (I x.try_),.v (I x.until_)]
 good:=Task.ok
 out:=fun {w cs x fp} h=>by obtain⟨h1,h2,h3⟩:=h;subst h1;subst h2;exact⟨h3,rfl,rfl,rfl,rfl,rfl⟩
 inn:=fun hg h=>by obtain⟨r0,e0,z0⟩:=aE h;obtain⟨r1,e1,z1⟩:=aE z0;obtain⟨r2,e2,z2⟩:=aE z1;obtain⟨r3,e3,z3⟩:=aE z2;obtain⟨e4,p0⟩:=eQ z3;subst e4 e3 e2 e1 e0;subst p0;exact⟨rfl,rfl,hg⟩
instance:Dsh Run where
 lv:=fun x=>[.v (I x.id),.v (I x.plan.prio),.v (I x.plan.most),.v (I x.plan.wait),.v (I x.plan.tasks),lS x.plan.edges,.v (I x.state),lS x.tasks]
 good:=Run.ok
 out:=fun {w cs x fp} h=>by
  obtain⟨v0,v1,f0,f1,hcs,hok,h0,h1,hfp⟩:=h;refine⟨hok,?_⟩;rw[hcs,hfp];have h:dR w [I x.id,I x.plan.prio,I x.plan.most,I x.plan.wait,I x.plan.tasks,v0,I x.state,v1] [.v (I x.id),.v (I x.plan.prio),.v (I x.plan.most),.v (I x.plan.wait),.v (I x.plan.tasks),lS x.plan.edges,.v (I x.state),lS x.tasks] (f0++(f1++[])):=⟨rfl,⟨rfl,⟨rfl,⟨rfl,⟨rfl,⟨f0,_,h0,⟨rfl,⟨f1,_,h1,rfl,rfl⟩⟩,rfl⟩⟩⟩⟩⟩⟩;simpa using h
 inn:=fun hg h=>by
  obtain⟨r0,e0,z0⟩:=aE h;obtain⟨r1,e1,z1⟩:=aE z0;obtain⟨r2,e2,z2⟩:=aE z1;obtain⟨r3,e3,z3⟩:=aE z2;obtain⟨r4,e4,z4⟩:=aE z3;obtain⟨c0,r5,f0,g0,e5,h0,z5,p0⟩:=eP z4;obtain⟨r6,e6,z6⟩:=aE z5;obtain⟨c1,r7,f1,g1,e7,h1,z7,p1⟩:=eP z6;obtain⟨e8,p2⟩:=eQ z7;subst e8 e7 e6 e5 e4 e3 e2 e1 e0;subst p2 p1 p0;exact⟨c0,c1,f0,f1,rfl,hg,h0,h1,by simp⟩
instance:Dsh Yard where
 lv:=fun x=>[.v (I x.now),.v (I x.seq),lS x.shelf,lS x.runs]
 good:=Yard.ok
 out:=fun {w cs x fp} h=>by
  obtain⟨v0,v1,f0,f1,hcs,hok,h0,h1,hfp⟩:=h;refine⟨hok,?_⟩;rw[hcs,hfp];have h:dR w [I x.now,I x.seq,v0,v1] [.v (I x.now),.v (I x.seq),lS x.shelf,lS x.runs] (f0++(f1++[])):=⟨rfl,⟨rfl,⟨f0,_,h0,⟨f1,_,h1,rfl,rfl⟩,rfl⟩⟩⟩;simpa using h
 inn:=fun hg h=>by
  obtain⟨r0,e0,z0⟩:=aE h;obtain⟨r1,e1,z1⟩:=aE z0;obtain⟨c0,r2,f0,g0,e2,h0,z2,p0⟩:=eP z1;obtain⟨c1,r3,f1,g1,e3,h1,z3,p1⟩:=eP z2;obtain⟨e4,p2⟩:=eQ z3;subst e4 e3 e2 e1 e0;subst p2 p1 p0;exact⟨c0,c1,f0,f1,rfl,hg,h0,h1,by simp⟩
instance:Dsh Reply where
 lv:=fun x=>[.v (I x.code),.v (I x.run),.v (I x.task),.v (I x.try_)]
 good:=Reply.ok
 out:=fun {w cs x fp} h=>by obtain⟨h1,h2,h3⟩:=h;subst h1;subst h2;exact⟨h3,rfl,rfl,rfl,rfl,rfl⟩
 inn:=fun hg h=>by obtain⟨r0,e0,z0⟩:=aE h;obtain⟨r1,e1,z1⟩:=aE z0;obtain⟨r2,e2,z2⟩:=aE z1;obtain⟨r3,e3,z3⟩:=aE z2;obtain⟨e4,p0⟩:=eQ z3;subst e4 e3 e2 e1 e0;subst p0;exact⟨rfl,rfl,hg⟩
instance:Dsh Deed where
 lv:=fun x=>[.v (I x.kind),.v (I x.run),.v (I x.plan.prio),.v (I x.plan.most),.v (I x.plan.wait),.v (I x.plan.tasks),lS x.plan.edges,.v (I x.task),.v (I x.try_),.v (I x.worker),.v (I x.draw)]
 good:=Deed.ok
 out:=fun {w cs x fp} h=>by
  obtain⟨v0,f0,hcs,hok,h0,hfp⟩:=h;refine⟨hok,?_⟩;rw[hcs,hfp];have h:dR w [I x.kind,I x.run,I x.plan.prio,I x.plan.most,I x.plan.wait,I x.plan.tasks,v0,I x.task,I x.try_,I x.worker,I x.draw] [.v (I x.kind),.v (I x.run),.v (I x.plan.prio),.v (I x.plan.most),.v (I x.plan.wait),.v (I x.plan.tasks),lS x.plan.edges,.v (I x.task),.v (I x.try_),.v (I x.worker),.v (I x.draw)] (f0++[]):=⟨rfl,⟨rfl,⟨rfl,⟨rfl,⟨rfl,⟨rfl,⟨f0,_,h0,⟨rfl,⟨rfl,⟨rfl,⟨rfl,rfl⟩⟩⟩⟩,rfl⟩⟩⟩⟩⟩⟩⟩;simpa using h
 inn:=fun hg h=>by
  obtain⟨r0,e0,z0⟩:=aE h;obtain⟨r1,e1,z1⟩:=aE z0;obtain⟨r2,e2,z2⟩:=aE z1;obtain⟨r3,e3,z3⟩:=aE z2;obtain⟨r4,e4,z4⟩:=aE z3;obtain⟨r5,e5,z5⟩:=aE z4;obtain⟨c0,r6,f0,g0,e6,h0,z6,p0⟩:=eP z5;obtain⟨r7,e7,z7⟩:=aE z6;obtain⟨r8,e8,z8⟩:=aE z7;obtain⟨r9,e9,z9⟩:=aE z8;obtain⟨r10,e10,z10⟩:=aE z9;obtain⟨e11,p1⟩:=eQ z10;subst e11 e10 e9 e8 e7 e6 e5 e4 e3 e2 e1 e0;subst p1 p0;exact⟨c0,f0,rfl,hg,h0,by simp⟩
instance:Dsh Note where
 lv:=fun x=>[.v (I x.seq),.v (I x.deed.kind),.v (I x.deed.run),.v (I x.deed.plan.prio),.v (I x.deed.plan.most),.v (I x.deed.plan.wait),.v (I x.deed.plan.tasks),lS x.deed.plan.edges,.v (I x.deed.task),.v (I x.deed.try_),.v (I x.deed.worker),.v (I x.deed.draw)]
 good:=Note.ok
 out:=fun {w cs x fp} h=>by
  obtain⟨v0,f0,hcs,hok,h0,hfp⟩:=h;refine⟨hok,?_⟩;rw[hcs,hfp];have h:dR w [I x.seq,I x.deed.kind,I x.deed.run,I x.deed.plan.prio,I x.deed.plan.most,I x.deed.plan.wait,I x.deed.plan.tasks,v0,I x.deed.task,I x.deed.try_,I x.deed.worker,I x.deed.draw] [.v (I x.seq),.v (I x.deed.kind),.v (I x.deed.run),.v (I x.deed.plan.prio),.v (I x.deed.plan.most),.v (I x.deed.plan.wait),.v (I x.deed.plan.tasks),lS x.deed.plan.edges,.v (I x.deed.task),.v (I x.deed.try_),.v (I x.deed.worker),.v (I x.deed.draw)] (f0++[]):=⟨rfl,⟨rfl,⟨rfl,⟨rfl,⟨rfl,⟨rfl,⟨rfl,⟨f0,_,h0,⟨rfl,⟨rfl,⟨rfl,⟨rfl,rfl⟩⟩⟩⟩,rfl⟩⟩⟩⟩⟩⟩⟩⟩;simpa using h
 inn:=fun hg h=>by
  obtain⟨r0,e0,z0⟩:=aE h;obtain⟨r1,e1,z1⟩:=aE z0;obtain⟨r2,e2,z2⟩:=aE z1;obtain⟨r3,e3,z3⟩:=aE z2;obtain⟨r4,e4,z4⟩:=aE z3;obtain⟨r5,e5,z5⟩:=aE z4;obtain⟨r6,e6,z6⟩:=aE z5;obtain⟨c0,r7,f0,g0,e7,h0,z7,p0⟩:=eP z6;obtain⟨r8,e8,z8⟩:=aE z7;obtain⟨r9,e9,z9⟩:=aE z8;obtain⟨r10,e10,z10⟩:=aE z9;obtain⟨r11,e11,z11⟩:=aE z10;obtain⟨e12,p1⟩:=eQ z11;subst e12 e11 e10 e9 e8 e7 e6 e5 e4 e3 e2 e1 e0;subst p1 p0;exact⟨c0,f0,rfl,hg,h0,by simp⟩
instance:Dsh Wait where
 lv:=fun x=>[.v (I x.call),.v (I x.reply.code),.v (I x.reply.run),.v (I x.reply.task),.v (I x.reply.try_)]
 good:=Wait.ok
 out:=fun {w cs x fp} h=>by obtain⟨h1,h2,h3⟩:=h;subst h1;subst h2;exact⟨h3,rfl,rfl,rfl,rfl,rfl,rfl⟩
 inn:=fun hg h=>by obtain⟨r0,e0,z0⟩:=aE h;obtain⟨r1,e1,z1⟩:=aE z0;obtain⟨r2,e2,z2⟩:=aE z1;obtain⟨r3,e3,z3⟩:=aE z2;obtain⟨r4,e4,z4⟩:=aE z3;obtain⟨e5,p0⟩:=eQ z4;subst e5 e4 e3 e2 e1 e0;subst p0;exact⟨rfl,rfl,hg⟩
instance:Dsh File where
 lv:=fun x=>[.v (.string x.name),.v (.string x.data),.v (I x.safe)]
 good:=File.ok
 out:=fun {w cs x fp} h=>by obtain⟨h1,h2,h3⟩:=h;subst h1;subst h2;exact⟨h3,rfl,rfl,rfl,rfl⟩
 inn:=fun hg h=>by obtain⟨r0,e0,z0⟩:=aE h;obtain⟨r1,e1,z1⟩:=aE z0;obtain⟨r2,e2,z2⟩:=aE z1;obtain⟨e3,p0⟩:=eQ z2;subst e3 e2 e1 e0;subst p0;exact⟨rfl,rfl,hg⟩
instance:Dsh Disk where
 lv:=fun x=>[lS x.files]
 good:=Disk.ok
 out:=fun {w cs x fp} h=>by
  obtain⟨v0,f0,hcs,hok,h0,hfp⟩:=h;refine⟨hok,?_⟩;rw[hcs,hfp];have h:dR w [v0] [lS x.files] (f0++[]):=⟨f0,_,h0,rfl,rfl⟩;simpa using h
 inn:=fun hg h=>by
  obtain⟨c0,r0,f0,g0,e0,h0,z0,p0⟩:=eP h;obtain⟨e1,p1⟩:=eQ z0;subst e1 e0;subst p1 p0;exact⟨c0,f0,rfl,hg,h0,by simp⟩
instance:Dsh Engine where
 lv:=fun x=>[.v (I x.yard.now),.v (I x.yard.seq),lS x.yard.shelf,lS x.yard.runs,lS x.disk.files,.v (I x.next),.v (I x.calls),lS x.waits,.v (I x.state),.v (.bool x.broken)]
 good:=Engine.ok
 out:=fun {w cs x fp} h=>by
  obtain⟨v0,v1,v2,v3,f0,f1,f2,f3,hcs,hok,h0,h1,h2,h3,hfp⟩:=h;refine⟨hok,?_⟩;rw[hcs,hfp];have h:dR w [I x.yard.now,I x.yard.seq,v0,v1,v2,I x.next,I x.calls,v3,I x.state,.bool x.broken] [.v (I x.yard.now),.v (I x.yard.seq),lS x.yard.shelf,lS x.yard.runs,lS x.disk.files,.v (I x.next),.v (I x.calls),lS x.waits,.v (I x.state),.v (.bool x.broken)] (f0++(f1++(f2++(f3++[])))):=⟨rfl,⟨rfl,⟨f0,_,h0,⟨f1,_,h1,⟨f2,_,h2,⟨rfl,⟨rfl,⟨f3,_,h3,⟨rfl,⟨rfl,rfl⟩⟩,rfl⟩⟩⟩,rfl⟩,rfl⟩,rfl⟩⟩⟩;simpa using h
 inn:=fun hg h=>by
  obtain⟨r0,e0,z0⟩:=aE h;obtain⟨r1,e1,z1⟩:=aE z0;obtain⟨c0,r2,f0,g0,e2,h0,z2,p0⟩:=eP z1;obtain⟨c1,r3,f1,g1,e3,h1,z3,p1⟩:=eP z2;obtain⟨c2,r4,f2,g2,e4,h2,z4,p2⟩:=eP z3;obtain⟨r5,e5,z5⟩:=aE z4;obtain⟨r6,e6,z6⟩:=aE z5;obtain⟨c3,r7,f3,g3,e7,h3,z7,p3⟩:=eP z6;obtain⟨r8,e8,z8⟩:=aE z7;obtain⟨r9,e9,z9⟩:=aE z8;obtain⟨e10,p4⟩:=eQ z9;subst e10 e9 e8 e7 e6 e5 e4 e3 e2 e1 e0;subst p4 p3 p2 p1 p0;exact⟨c0,c1,c2,c3,f0,f1,f2,f3,rfl,hg,h0,h1,h2,h3,by simp⟩
instance:Dsh WorldD where
 lv:=fun x=>[.v (I x.engine.yard.now),.v (I x.engine.yard.seq),lS x.engine.yard.shelf,lS x.engine.yard.runs,lS x.engine.disk.files,.v (I x.engine.next),.v (I x.engine.calls),lS x.engine.waits,.v (I x.engine.state),.v (.bool x.engine.broken),lS x.deeds,lS x.replies,.v (I x.told),.v (I x.fell)]
 good:=WorldD.ok
 out:=fun {w cs x fp} h=>by
  obtain⟨v0,v1,v2,v3,v4,v5,f0,f1,f2,f3,f4,f5,hcs,hok,h0,h1,h2,h3,h4,h5,hfp⟩:=h;refine⟨hok,?_⟩;rw[hcs,hfp];have h:dR w [I x.engine.yard.now,I x.engine.yard.seq,v0,v1,v2,I x.engine.next,I x.engine.calls,v3,I x.engine.state,.bool x.engine.broken,v4,v5,I x.told,I x.fell] [.v (I x.engine.yard.now),.v (I x.engine.yard.seq),lS x.engine.yard.shelf,lS x.engine.yard.runs,lS x.engine.disk.files,.v (I x.engine.next),.v (I x.engine.calls),lS x.engine.waits,.v (I x.engine.state),.v (.bool x.engine.broken),lS x.deeds,lS x.replies,.v (I x.told),.v (I x.fell)] (f0++(f1++(f2++(f3++(f4++(f5++[])))))):=⟨rfl,⟨rfl,⟨f0,_,h0,⟨f1,_,h1,⟨f2,_,h2,⟨rfl,⟨rfl,⟨f3,_,h3,⟨rfl,⟨rfl,⟨f4,_,h4,⟨f5,_,h5,⟨rfl,⟨rfl,rfl⟩⟩,rfl⟩,rfl⟩⟩⟩,rfl⟩⟩⟩,rfl⟩,rfl⟩,rfl⟩⟩⟩;simpa using h
 inn:=fun hg h=>by
  obtain⟨r0,e0,z0⟩:=aE h;obtain⟨r1,e1,z1⟩:=aE z0;obtain⟨c0,r2,f0,g0,e2,h0,z2,p0⟩:=eP z1;obtain⟨c1,r3,f1,g1,e3,h1,z3,p1⟩:=eP z2;obtain⟨c2,r4,f2,g2,e4,h2,z4,p2⟩:=eP z3;obtain⟨r5,e5,z5⟩:=aE z4;obtain⟨r6,e6,z6⟩:=aE z5;obtain⟨c3,r7,f3,g3,e7,h3,z7,p3⟩:=eP z6;obtain⟨r8,e8,z8⟩:=aE z7;obtain⟨r9,e9,z9⟩:=aE z8;obtain⟨c4,r10,f4,g4,e10,h4,z10,p4⟩:=eP z9;obtain⟨c5,r11,f5,g5,e11,h5,z11,p5⟩:=eP z10;obtain⟨r12,e12,z12⟩:=aE z11;obtain⟨r13,e13,z13⟩:=aE z12;obtain⟨e14,p6⟩:=eQ z13;subst e14 e13 e12 e11 e10 e9 e8 e7 e6 e5 e4 e3 e2 e1 e0;subst p6 p5 p4 p3 p2 p1 p0;exact⟨c0,c1,c2,c3,c4,c5,f0,f1,f2,f3,f4,f5,rfl,hg,h0,h1,h2,h3,h4,h5,by simp⟩
instance:Dsh ActD where
 lv:=fun x=>[.v (I x.kind),.v (I x.deed.kind),.v (I x.deed.run),.v (I x.deed.plan.prio),.v (I x.deed.plan.most),.v (I x.deed.plan.wait),.v (I x.deed.plan.tasks),lS x.deed.plan.edges,.v (I x.deed.task),.v (I x.deed.try_),.v (I x.deed.worker),.v (I x.deed.draw),.v (I x.n),lS x.keep]
 good:=ActD.ok
 out:=fun {w cs x fp} h=>by
  obtain⟨v0,v1,f0,f1,hcs,hok,h0,h1,hfp⟩:=h;refine⟨hok,?_⟩;rw[hcs,hfp];have h:dR w [I x.kind,I x.deed.kind,I x.deed.run,I x.deed.plan.prio,I x.deed.plan.most,I x.deed.plan.wait,I x.deed.plan.tasks,v0,I x.deed.task,I x.deed.try_,I x.deed.worker,I x.deed.draw,I x.n,v1] [.v (I x.kind),.v (I x.deed.kind),.v (I x.deed.run),.v (I x.deed.plan.prio),.v (I x.deed.plan.most),.v (I x.deed.plan.wait),.v (I x.deed.plan.tasks),lS x.deed.plan.edges,.v (I x.deed.task),.v (I x.deed.try_),.v (I x.deed.worker),.v (I x.deed.draw),.v (I x.n),lS x.keep] (f0++(f1++[])):=⟨rfl,⟨rfl,⟨rfl,⟨rfl,⟨rfl,⟨rfl,⟨rfl,⟨f0,_,h0,⟨rfl,⟨rfl,⟨rfl,⟨rfl,⟨rfl,⟨f1,_,h1,rfl,rfl⟩⟩⟩⟩⟩⟩,rfl⟩⟩⟩⟩⟩⟩⟩⟩;simpa using h
 inn:=fun hg h=>by
  obtain⟨r0,e0,z0⟩:=aE h;obtain⟨r1,e1,z1⟩:=aE z0;obtain⟨r2,e2,z2⟩:=aE z1;obtain⟨r3,e3,z3⟩:=aE z2;obtain⟨r4,e4,z4⟩:=aE z3;obtain⟨r5,e5,z5⟩:=aE z4;obtain⟨r6,e6,z6⟩:=aE z5;obtain⟨c0,r7,f0,g0,e7,h0,z7,p0⟩:=eP z6;obtain⟨r8,e8,z8⟩:=aE z7;obtain⟨r9,e9,z9⟩:=aE z8;obtain⟨r10,e10,z10⟩:=aE z9;obtain⟨r11,e11,z11⟩:=aE z10;obtain⟨r12,e12,z12⟩:=aE z11;obtain⟨c1,r13,f1,g1,e13,h1,z13,p1⟩:=eP z12;obtain⟨e14,p2⟩:=eQ z13;subst e14 e13 e12 e11 e10 e9 e8 e7 e6 e5 e4 e3 e2 e1 e0;subst p2 p1 p0;exact⟨c0,c1,f0,f1,rfl,hg,h0,h1,by simp⟩
end Go.Proofs.YtjihdmlkpkkpbaaGreat
namespace Go.Proofs.YtjihdmlkpkkpbaaGreat
set_option maxHeartbeats 2000000
open Go.RowKit Go.Proofs.Tryz List
theorem aY3 {α:Type}{p:α->Prop}{y:α}(h:p y):∀z∈[y],p z:=fun z hz=>by rw[mem_singleton]at hz;rw[hz];exact h
theorem bA3 {α:Type}{p:α->Prop}{x y:α}(h:p x) (h2:p y):∀z∈[x,y],p z:=fun z hz=>by
 rcases mem_cons.1 hz with rfl | hz
 ·exact h
 ·exact aY3 h2 z hz
abbrev vi (e:Int):Value:=I e
namespace Par
abbrev I (e:Int):Par := .v (vi e)
abbrev T (e:ByteArray):Par := .v (.string e)
abbrev S {α:Type}[i:Dsh α] (x:α):Par := .st i x
abbrev L {α:Type}[i:Shape α] (x:List α):Par := .sl i x
end Par
namespace Rk
abbrev I (e:Int):Rk := .v (vi e)
abbrev B (e:Bool):Rk := .v (.bool e)
abbrev T (e:ByteArray):Rk := .v (.string e)
abbrev S {α:Type}[i:Dsh α] (x:α):Rk := .own i x
abbrev L {α:Type}[i:Shape α] (x:List α):Rk := .sl i x
end Rk
abbrev vI (t:Nat) (e:Int):Nat×Tv:=(t,.c (.v (I e)))
abbrev vT (t:Nat) (e:ByteArray):Nat×Tv:=(t,.c (.v (.string e)))
abbrev vR (t j:Nat):Nat×Tv:=(t,.c (.r j))
abbrev oR {α:Type}[i:Shape α] (j e:Nat) (xs:List α):Nat×To:=(j,.row i e xs)
abbrev oO {α:Type}[i:Shape α] (j:Nat) (xs:List α):Nat×To:=(j,.own i xs)
abbrev oH {α:Type}[i:Shape α] (j:Nat) (xs:List α):Nat×To:=(j,.oh i xs)
abbrev oB (j:Nat) (cs:List Tc):Nat×To:=(j,.bx cs)
theorem Cg.one {P:Program}{F:FuncId}{G:Option Gr}{ps:List Par}{A:Type}{rk:A->List Rk}(a0:A) (h:Cg P F G ps (fun a=>a=a0) rk):Cg P F G ps (fun _:Unit=>True) (fun _=>rk a0):=
 ⟨fun w us hG hp=>(h.run w us hG hp).mono fun e W hh=>by
  obtain⟨a,vs,rs,ha,hh⟩:=hh;subst ha;exact⟨(),vs,rs,trivial,hh⟩⟩
theorem Ct.one {P:Program}{F:FuncId}{ps:List Par}{A:Type}{rk:A->List Rk}(a0:A) (h:Ct P F ps (fun a=>a=a0) rk):Ct1 P F ps (rk a0):=Cg.one a0 h
theorem Cm.one {P:Program}{F:FuncId}{ps:List Par}{α:Type}{i:Dsh α}{x:α}{A:Type}{y:A->α}{rk:A->List Rk}(a0:A) (h:Cm P F ps i x (fun a=>a=a0) y rk):Cm P F ps i x (fun _:Unit=>True) (fun _=>y a0) (fun _=>rk a0):=
 ⟨fun w W0 b pre post t cs fp us rs st hp=>(h.run w W0 b pre post t cs fp us rs st hp).mono fun e W hh=>by
  obtain⟨a,vs,cs',fp',rr,ha,hh⟩:=hh;subst ha;exact⟨(),vs,cs',fp',rr,trivial,hh⟩⟩
theorem Cv.one {P:Program}{F:FuncId}{i:Shape UInt8}{code:List UInt8}{ps:List Par}{c:Cur}{A:Type}{y:A->Cur}{rk:A->List Rk}(a0:A) (h:Cv P F i code ps c (fun a=>a=a0) y rk):Cv P F i code ps c (fun _:Unit=>True) (fun _=>y a0) (fun _=>rk a0):=
 ⟨fun w W0 b t hd fp us rs hs st hp=>(h.run w W0 b t hd fp us rs hs st hp).mono fun e W hh=>by
  obtain⟨a,vs,rr,ha,hh⟩:=hh;subst ha;exact⟨(),vs,rr,trivial,hh⟩⟩
theorem Cw.one {P:Program}{F:FuncId}{ps:List Pw}{A:Type}{rk:A->List Rk}(a0:A) (h:Cw P F ps (fun a=>a=a0) rk):Cw P F ps (fun _:Unit=>True) (fun _=>rk a0):=
 ⟨fun w W0 us r rs hp st=>(h.run w W0 us r rs hp st).mono fun e W hh=>by
  obtain⟨a,vs,rr,ha,hh⟩:=hh;subst ha;exact⟨(),vs,rr,trivial,hh⟩⟩
theorem bnT {e:Bool}(h:(!e)=true):e=false:=by cases e<;>simp_all
theorem bnF {e:Bool}(h:(!e)=false):e=true:=by cases e<;>simp_all
namespace D
variable {P:Program}{A:Type}{R:A->Prop}
abbrev x {α:Type}[i:Dsh α] (xs:List α) (n:Nat) (k:∀x,xs[n]? = some x->i.good x->D P R) (h:n<xs.length:=by omega):D P R:=
 .ex (p:=fun x=>xs[n]? = some x) ⟨xs[n],getElem?_eq_getElem h⟩ fun x hx=>.ix i xs n x hx n rfl (k x hx)
abbrev xe {α:Type}[i:Dsh α] (xs:List α) (n:Nat) (e:Int) (k:∀x,xs[n]? = some x->i.good x->D P R) (h:n<xs.length:=by omega) (he:e=n:=by omega):D P R:=
 .ex (p:=fun x=>xs[n]? = some x) ⟨xs[n],getElem?_eq_getElem h⟩ fun x hx=>.ix i xs n x hx e he (k x hx)
abbrev y {α:Type}[i:Dsh α] {xs:List α}{n:Nat}{x:α}(hx:xs[n]? = some x) (k:i.good x->D P R):D P R := .ix i xs n x hx n rfl k
abbrev ye {α:Type}[i:Dsh α] {xs:List α}{n:Nat}{x:α}(hx:xs[n]? = some x) (e:Int) (k:i.good x->D P R) (he:e=n:=by omega):D P R := .ix i xs n x hx e he k
abbrev z (j n:Nat) (k:D P R):D P R := .iy j n n rfl k
abbrev p (x y:Int) (k:D P R) (h:I64 (x+y):=by first | (unfold I64;omega) | (simp only[I64]at *;omega)):D P R := .ad x y h k
abbrev m (x y:Int) (k:D P R) (h:I64 (x-y):=by first | (unfold I64;omega) | (simp only[I64]at *;omega)):D P R := .su x y h k
abbrev o (x y:Int) (k:D P R) (h:I64 (x*y):=by first | (unfold I64;omega) | (simp only[I64]at *;omega)):D P R := .mu x y h k
abbrev q (x y:Int) (k:D P R) (h:(0<=x/\x<=9223372036854775807)/\0<y:=by omega):D P R := .qu x y h k
abbrev s (p:Prop) [i:Decidable p] (t:p->D P R) (f:¬p->D P R):D P R := .sp p i t f
abbrev u (p:Prop) [i:Decidable p] (t:¬p->D P R) (f:p->D P R):D P R := .sn p i t f
abbrev v (e:Bool) (t:e=false->D P R) (f:e=true->D P R):D P R := .sb (!e) (fun h=>t (bnT h)) (fun h=>f (bnF h))
abbrev kt (p:Prop) [i:Decidable p] (h:p) (k:D P R):D P R := .kn (decide p) true (decide_eq_true h) k
abbrev kf (p:Prop) [i:Decidable p] (h:¬p) (k:D P R):D P R := .kn (decide p) false (decide_eq_false h) k
abbrev ut (p:Prop) [i:Decidable p] (h:¬p) (k:D P R):D P R := .kn (!decide p) true (by rw[decide_eq_false h];rfl) k
abbrev uf (p:Prop) [i:Decidable p] (h:p) (k:D P R):D P R := .kn (!decide p) false (by rw[decide_eq_true h];rfl) k
abbrev c {ps:List Par}{rk:List Rk}{F:FuncId}{fn:Func}{G:Option Gr}(hf:P.funcs[F]? = some fn) (h:Cg P F G ps (fun _:Unit=>True) (fun _=>rk)) (k:gds rk->D P R) (hg:gps ps:=by repeat' (first | exact trivial | assumption | constructor)):D P R := .cq F hf h hg k
abbrev l {Γ:Type}(J:Γ->Prop) (m:Γ->Nat) (ks ko kb:List Nat) (TE:Γ->List (Nat×Tv)) (TO:Γ->List (Nat×To)) (g:Γ) (k:∀g,J g->Tok J m (m g)->D P R) (h:J g:=by repeat' (first | exact trivial | assumption | omega | constructor)):D P R := .lp J m ks ko kb TE TO g h [] k
abbrev la {Γ:Type}(J:Γ->Prop) (m:Γ->Nat) (TE:Γ->List (Nat×Tv)) (TO:Γ->List (Nat×To)) (g:Γ) (k:∀g,J g->Tok J m (m g)->D P R) (h:J g:=by repeat' (first | exact trivial | assumption | omega | constructor)):D P R := .lp J m [777777] [777777] [777777] TE TO g h [] k
abbrev n {Γ:Type}{J:Γ->Prop}{m:Γ->Nat}{c:Nat}(t:Tok J m c) (g:Γ) (sg:List (Nat×Nat)) (h1:J g:=by repeat' (first | exact trivial | assumption | omega | constructor)) (h2:m g<c:=by first | omega | (dsimp only;omega)):D P R := .nx t g h1 h2 sg
abbrev a {α:Type}[i:Dsh α] (xs:List α) (y:α) (bytes:Nat) (k:D P R) (hy:i.good y:=by first | exact trivial | assumption | (show I64 _;unfold I64;omega)) (h63:xs.length+1<=maxLen:=by unfold maxLen;omega) (hby:(xs.length+1)*bytes<=140737488355328:=by omega):D P R := .ap i xs [y] (aY3 hy) bytes h63 hby k
abbrev g {α:Type}[i:Shape α] (j:Nat) {xs ys:List α}(h:xs=ys) (k:D P R):D P R := .rw i j xs ys h k
abbrev e (α:Type) [i:Shape α] (k:D P R):D P R := .em i k
abbrev w (α:Type) [i:Shape α] (e t:Nat) (k:D P R):D P R := .rn i e t k
abbrev b {α:Type}[i:Dsh α] (j:Nat) (xs:List α) (n:Nat) (k:∀x,xs[n]? = some x->i.good x->D P R) (h:n<xs.length:=by omega):D P R:=
 .ex (p:=fun x=>xs[n]? = some x) ⟨xs[n],getElem?_eq_getElem h⟩ fun x hx=>.le i j xs n x hx (k x hx)
abbrev d {α:Type}[i:Dsh α] (j:Nat) {xs:List α}{n:Nat}{x:α}(hx:xs[n]? = some x) (k:i.good x->D P R):D P R := .le i j xs n x hx k
abbrev f {α:Type}[i:Dsh α] (j:Nat) (xs:List α) (y:α) (k:D P R) (h:i.good y:=by first | exact trivial | assumption):D P R := .gi i j xs y h k
abbrev i (n:Nat) (k:D P R):D P R := .il n n rfl k
abbrev in_ {F:FuncId}{fn:Func}{A':Type}{R':A'->Prop}(hf:P.funcs[F]? = some fn) (d':D P R') (k:∀a,R' a->D P R):D P R := .iv F hf (inl hf d') k
abbrev ma {α:Type}[i:Dsh α] (z:α) (n:Nat) (bytes:Nat) (k:D P R) (hn:n<=67108864:=by omega) (hb:n*bytes<=140737488355328:=by omega) (hz:i.good z:=by first | exact trivial | assumption):D P R := .mk i z n n rfl bytes hn hb hz k
abbrev ie (n:Nat) (e:Int) (k:D P R) (he:e=n:=by omega):D P R := .il n e he k
end D
end Go.Proofs.YtjihdmlkpkkpbaaGreat
namespace Go.Proofs.YtjihdmlkpkkpbaaGreat
set_option maxRecDepth 100000
set_option maxHeartbeats 2000000
open Go.RowKit Go.Proofs.Tryz List
abbrev U (c:UInt8):Value := .int .u8 (c.toNat:Int)
instance:Dsh UInt8 where
 lv:=fun b=>[.v (U b)]
 good:=fun _=>True
 out:=fun {w cs x fp} h=>by obtain⟨h1,h2,h3⟩:=h;subst h1;subst h2;exact⟨h3,rfl,rfl⟩
 inn:=fun hg h=>by
  obtain⟨r,e0,z0⟩:=aE h;obtain⟨e1,p1⟩:=eQ z0;subst e1 e0 p1;exact⟨rfl,rfl,hg⟩
theorem gH (c:UInt8):c.toNat<256:=by have:=c.toNat_lt;omega
theorem aA1 {P:Program}{t:TypeId}{s:ByteArray}{i:Nat}{c:UInt8}{e:Int}(hu:P.underlying t=some .string) (h:s.data.toList[i]? = some c) (he:e=i):XOk P t (.string s) (I e) (U c):=by
 intro n f W Q K d ty pos af g xo yo hx hy k;subst he;obtain⟨hi,rfl⟩:=gsi_.1 h;refine Stp.run (v:=U (s.data.toList[i])) ?_ k;have hs:0<=(i:Int)/\(i:Int)<s.size:=⟨by omega,by have:s.size=s.data.toList.length:=rfl;omega⟩;have:=run_index_string (P:=P) (w:=W) t s .i64 i hu;rw[dif_pos hs]at this;simp only[execOp,hx,hy,Sem.run_bind,this,Result.andThen_ok];rfl
theorem hk_lt {P:Program}(a b:Int):BOk P .lss (.int .u8 a) (.int .u8 b) (.bool (decide (a<b))):=by
 intro n f W Q K d ty pos af g t t' xo yo hx hy k;refine Stp.run (v := .bool (decide (a<b))) ?_ k;simp[execOp,hx,hy,go_sem]
theorem sM {P:Program}{t t':TypeId}(c:UInt8) (hs:P.underlying t=some (.int .u8)) (hd:P.underlying t'=some (.int .i64)):COk P t t' (U c) (I c.toNat):=by
 intro n f W Q K d ty pos af g xo hx k;refine Stp.run (v:=I c.toNat) ?_ k;have hc:=gH c;have hk:P.intKind t' = .i64:=by simp[Program.intKind,hd]
 have hw:IntKind.i64.wrap (c.toNat:Int)=c.toNat:=jU ⟨by omega,by omega⟩;have hd':P.underlying t'=some (.int (P.intKind t')):=by rw[hk];exact hd
 have:=run_convert_int (P:=P) W t t' .u8 c.toNat (by rw[hs];rfl) hd';rw[hk,hw]at this;simp only[execOp,hx,Sem.run_bind,this,Result.andThen_ok];rfl
theorem bO6 {P:Program}{t:TypeId}{s:ByteArray}{a b:Nat}(hu:P.underlying t=some .string) (h1:a<=b) (h2:b<=s.size):LOk P t (.string s) (some (I a)) (some (I b)) (.string (s.extract a b)):=by
 intro n f W Q K d ty pos af g xo lo hi hx hl hh k;cases lo with
 | none=>cases hl
 | some lo=>
  cases hi with
  | none=>cases hh
  | some hi=>
   simp only[Option.map_some,Option.some.injEq]at hl hh;refine Stp.run (v := .string (s.extract a b)) ?_ k;have:=run_slice_string (P:=P) W t s .i64 .i64 a b hu aA aA aA;simp only[execOp,hx,hl,hh,Sem.run_bind,Option.map_some,Option.map_none];rw[run_sliceAt_string (h:=hu)];have e:Sem.run P (Instr.slice t (Value.string s) (some (I a)) (some (I b)) none) W=Result.ok (Value.string (s.extract a b)) W:=by simpa using this
   rw[e];rfl
def wtL {α:Type}(f:α->Nat) (xs:List α):Nat:=xs.length+(xs.map f).sum
def Plan.wt (x:Plan):Nat:=x.edges.length
def Run.wt (x:Run):Nat:=x.plan.wt+x.tasks.length
def Yard.wt (x:Yard):Nat:=wtL (fun y:List Entry=>y.length) (x.shelf)+wtL (fun y:Run=>y.wt) (x.runs)
def Deed.wt (x:Deed):Nat:=x.plan.wt
def Note.wt (x:Note):Nat:=x.deed.wt
def File.wt (x:File):Nat:=x.name.size+x.data.size
def Disk.wt (x:Disk):Nat:=wtL (fun y:File=>y.wt) (x.files)
def Engine.wt (x:Engine):Nat:=x.yard.wt+x.disk.wt+x.waits.length
def WorldD.wt (x:WorldD):Nat:=x.engine.wt+wtL (fun y:Deed=>y.wt) (x.deeds)+x.replies.length
def ActD.wt (x:ActD):Nat:=x.deed.wt+x.keep.length
def Span.wt (x:Span):Nat:=x.deed.wt
def Crew.wt (x:Crew):Nat:=x.yard.wt+x.holds.length
def szL (l:Int) (n:Nat):Int:=if l<n then -1 else l-n
theorem szL_t {l:Int}{n:Nat}(h:l<n):szL l n = -1:=by simp[szL,h]
theorem szL_f {l:Int}{n:Nat}(h:¬l<n):szL l n=l-n:=by simp[szL,h]
theorem yR {α:Type}(f:α->Nat) (xs:List α) (n:Nat) (h:n<xs.length):((xs.take (n+1)).map f).sum=((xs.take n).map f).sum+f xs[n]:=by
 rw[take_succ_eq_append_getElem h,map_append,sum_append];simp only[map_cons,map_nil,sum_cons,sum_nil];omega
theorem kL {α:Type}(f:α->Nat):∀(xs:List α) (n:Nat),((xs.take n).map f).sum<=(xs.map f).sum
 | [],n=>by simp
 | x::xs,0=>by simp
 | x::xs,n+1=>by have:=kL f xs n;simp only[take_succ_cons,map_cons,sum_cons];omega
theorem cF2 {α:Type}(f:α->Nat):∀(xs:List α) (n:Nat) (h:n<xs.length),f xs[n]<=(xs.map f).sum
 | x::xs,0,_=>by simp
 | x::xs,n+1,h=>by have:=cF2 f xs n (by simpa using h);simp;omega
theorem wtL_at {α:Type}(f:α->Nat) {xs:List α}{k:Nat}{e:α}(h:xs[k]? = some e):f e<=wtL f xs:=by
 obtain⟨hk,rfl⟩:=gsi_.1 h;have h1:=yR f xs k hk;have h2:=kL f xs (k+1);unfold wtL;omega
def toZ {α:Type}(z:α) (xs:List α) (k:Nat):List α:=xs.take k++List.replicate (xs.length-k) z
theorem cS7 {α:Type}(z:α) (xs:List α):List.replicate xs.length z=toZ z xs 0:=rfl
theorem cB7 {α:Type}(z:α) {xs:List α}{k:Nat}{e:α}(h:xs[k]? = some e):(toZ z xs k)[k]? = some z:=by
 obtain⟨hk,rfl⟩:=gsi_.1 h;unfold toZ;rw[getElem?_append_right (by rw[length_take];omega),length_take,getElem?_replicate,if_pos aA]
theorem cS5 {α:Type}(z:α) {xs:List α}{k:Nat}{e:α}(h:xs[k]? = some e):(toZ z xs k).set k e=toZ z xs (k+1):=by
 obtain⟨hk,rfl⟩:=gsi_.1 h;unfold toZ;have h1:(xs.take k).length=k:=by rw[length_take];omega
 rw[set_append_right _ _ aA,h1,Nat.sub_self,show xs.length-k=(xs.length-(k+1))+1 by omega,replicate_succ,set_cons_zero,take_succ_eq_append_getElem hk,append_assoc];rfl
theorem cS6 {α:Type}(z:α) {xs:List α}{k:Nat}(h:¬(k:Int)<xs.length):toZ z xs k=xs:=by
 unfold toZ;rw[take_of_length_le aA,show xs.length-k=0 by omega];simp
theorem toIntS_d (xs:List (Int)) (hw:xs.length<=1048576):Ct1 prog 47 [.L xs] [.L xs]:=
 vc func47 (fun hg=>let hl:xs.length<=1048576:=aA
  .ma (0:Int) xs.length 8 (hz:=(by show I64 0;unfold I64;omega))<|.g 1 (cS7 (0:Int) xs)<|.la (Γ:=Nat) (fun k=>k<=xs.length) (fun k=>xs.length-k) (fun k=>[vI 4 k]) (fun k=>[oO 1 (toZ (0:Int) xs k)]) 0 fun k hk t=>.s ((k:Int)<xs.length)
   (fun h=>.x xs k (h:=by omega) fun e he ge=>.d 1 (cB7 (0:Int) he) fun _=>.i k<|.wt 12<|.f 1 (toZ (0:Int) xs k) e (h:=ge)<|.g 1 (cS5 (0:Int) he)<|.p k 1<|.n t (k+1) [])
   (fun h=>.g 1 (cS6 (0:Int) h)<|.rt () ⟨trivial,trivial⟩)) aB
theorem toEdge_d (x:Edge):Ct1 prog 220 [.S x] [.S x]:=
 vc func220 (fun (hg:gin [Par.S x])=>let gx:=hg.1.1
  .rt () ⟨trivial,gx,trivial⟩) aB
theorem toEdgeS_d (xs:List (Edge)) (hw:xs.length<=1048576):Ct1 prog 148 [.L xs] [.L xs]:=
 vc func148 (fun hg=>let hl:xs.length<=1048576:=aA
  .ma (⟨0,0⟩:Edge) xs.length 16 (hz:=(by simp[Dsh.good,Edge.ok,Plan.ok,Entry.ok,Task.ok,Run.ok,Yard.ok,Reply.ok,Deed.ok,Note.ok,Wait.ok,File.ok,Disk.ok,Engine.ok,WorldD.ok,ActD.ok,Hand.ok,Span.ok,Crew.ok,View.ok,I64,maxLen]))<|.g 1 (cS7 (⟨0,0⟩:Edge) xs)<|.la (Γ:=Nat) (fun k=>k<=xs.length) (fun k=>xs.length-k) (fun k=>[vI 4 k]) (fun k=>[oO 1 (toZ (⟨0,0⟩:Edge) xs k)]) 0 fun k hk t=>.s ((k:Int)<xs.length)
   (fun h=>.x xs k (h:=by omega) fun e he ge=>.c func220 (toEdge_d e) (hg:=⟨ge,trivial⟩) fun _=>.d 1 (cB7 (⟨0,0⟩:Edge) he) fun _=>.i k<|.wt 12<|.f 1 (toZ (⟨0,0⟩:Edge) xs k) e (h:=ge)<|.g 1 (cS5 (⟨0,0⟩:Edge) he)<|.p k 1<|.n t (k+1) [])
   (fun h=>.g 1 (cS6 (⟨0,0⟩:Edge) h)<|.rt () ⟨trivial,trivial⟩)) aB
theorem toPlan_d (x:Plan) (hw:x.wt<=1048576):Ct1 prog 87 [.S x] [.S x]:=
 vc func87 (fun (hg:gin [Par.S x])=>let gx:=hg.1.1
  .c func148 (toEdgeS_d x.edges (by unfold Plan.wt at hw;omega)) fun _=>.rt () ⟨trivial,gx,trivial⟩) aB
theorem toDeed_d (x:Deed) (hw:x.wt<=1048576):Ct1 prog 46 [.S x] [.S x]:=
 vc func46 (fun (hg:gin [Par.S x])=>let gx:=hg.1.1
  .c func87 (toPlan_d x.plan (by unfold Deed.wt at hw;omega)) (hg:=⟨(show Deed.ok _ from gx).2.2.1,trivial⟩) fun _=>.rt () ⟨trivial,gx,trivial⟩) aB
theorem toAct_d (x:ActD) (hw:x.wt<=1048576):Ct1 prog 19 [.S x] [.S x]:=
 vc func19 (fun (hg:gin [Par.S x])=>let gx:=hg.1.1
  .c func46 (toDeed_d x.deed (by unfold ActD.wt at hw;omega)) (hg:=⟨(show ActD.ok _ from gx).2.1,trivial⟩) fun _=>.c func47 (toIntS_d x.keep (by unfold ActD.wt at hw;omega)) fun _=>.rt () ⟨trivial,gx,trivial⟩) aB
theorem toActS_d (xs:List (ActD)) (hw:wtL (fun y:ActD=>y.wt) xs<=1048576):Ct1 prog 6 [.L xs] [.L xs]:=
 vc func6 (fun hg=>let hl:xs.length<=1048576:=(by unfold wtL at hw;omega)
  .ma (⟨0,⟨0,0,⟨0,0,0,0,[]⟩,0,0,0,0⟩,0,[]⟩:ActD) xs.length 144 (hz:=(by simp[Dsh.good,Edge.ok,Plan.ok,Entry.ok,Task.ok,Run.ok,Yard.ok,Reply.ok,Deed.ok,Note.ok,Wait.ok,File.ok,Disk.ok,Engine.ok,WorldD.ok,ActD.ok,Hand.ok,Span.ok,Crew.ok,View.ok,I64,maxLen]))<|.g 1 (cS7 (⟨0,⟨0,0,⟨0,0,0,0,[]⟩,0,0,0,0⟩,0,[]⟩:ActD) xs)<|.la (Γ:=Nat) (fun k=>k<=xs.length) (fun k=>xs.length-k) (fun k=>[vI 4 k]) (fun k=>[oO 1 (toZ (⟨0,⟨0,0,⟨0,0,0,0,[]⟩,0,0,0,0⟩,0,[]⟩:ActD) xs k)]) 0 fun k hk t=>.s ((k:Int)<xs.length)
   (fun h=>.x xs k (h:=by omega) fun e he ge=>.c func19 (toAct_d e (by have:=wtL_at (fun y:ActD=>y.wt) he;omega)) (hg:=⟨ge,trivial⟩) fun _=>.d 1 (cB7 (⟨0,⟨0,0,⟨0,0,0,0,[]⟩,0,0,0,0⟩,0,[]⟩:ActD) he) fun _=>.i k<|.wt 12<|.f 1 (toZ (⟨0,⟨0,0,⟨0,0,0,0,[]⟩,0,0,0,0⟩,0,[]⟩:ActD) xs k) e (h:=ge)<|.g 1 (cS5 (⟨0,⟨0,0,⟨0,0,0,0,[]⟩,0,0,0,0⟩,0,[]⟩:ActD) he)<|.p k 1<|.n t (k+1) [])
   (fun h=>.g 1 (cS6 (⟨0,⟨0,0,⟨0,0,0,0,[]⟩,0,0,0,0⟩,0,[]⟩:ActD) h)<|.rt () ⟨trivial,trivial⟩)) aB
theorem aQ1 {l:Int}{n:Nat}(h:szL l n<0) (hl:0<=l):l<n:=by
 unfold szL at h;split at h<;>omega
theorem aD0 {l:Int}{n:Nat}(h:¬szL l n<0) (hl:0<=l):(n:Int)<=l/\szL l n=l-n:=by
 unfold szL at h ⊢;split at h<;>split<;>omega
theorem bS3 {l:Int}{n:Nat}(h:l<n) : -1=szL l n:=(szL_t h).symm
theorem cQ9 {l v:Int}{n:Nat}(h:v=l-n) (h0:0<=v):v=szL l n:=by rw[szL_f aA,h]
theorem sz_at {α:Type}(f:α->Nat) (xs:List α) (k:Nat) (h:k<xs.length):∃e,xs[k]? = some e/\((xs.take (k+1)).map f).sum=((xs.take k).map f).sum+f e:=⟨xs[k],getElem?_eq_getElem h,yR f xs k h⟩
theorem sz_e {α:Type}{f:α->Nat}{xs:List α}{k n:Nat}{g l:Int}(h:g+(((xs.take k).map f).sum:Nat)=l-(xs.length:Int)) (hk:xs.length<=k) (hn:n=xs.length+(xs.map f).sum) (h0:0<=g):g=szL l n:=by
 rw[take_of_length_le hk]at h;exact cQ9 aA h0
theorem szEdgeS_d (xs:List (Edge)) (l:Int) (hl:0<=l) (hl2:l<=1048576):Ct1 prog 116 [.L xs,.I l] [.I (szL l (xs.length))]:=
 .one (szL l (xs.length)) (rk:=fun b=>[.I b])<|vc func116 (fun (hg:gin [Par.L xs,Par.I l])=>let hcap:=hg.1
  .m l (xs.length:Int) (h:=by unfold I64;omega)<|.s (l-(xs.length:Int)<0) (fun h=>.rt (-1) ⟨bS3 aA,trivial⟩) (fun h=>.rt (l-(xs.length:Int)) ⟨cQ9 aA aA,trivial⟩)) aB
theorem szPlan_d (x:Plan) (l:Int) (hl:0<=l) (hl2:l<=1048576):Ct1 prog 71 [.S x,.I l] [.I (szL l x.wt)]:=
 .one (szL l x.wt) (rk:=fun b=>[.I b])<|vc func71 (fun (hg:gin [Par.S x,Par.I l])=>let gx:=hg.1.1
  let hwt:x.wt=x.edges.length:=rfl
  .c func116 (szEdgeS_d x.edges (l) aA aA) fun _=>.s (szL (l) (x.edges.length)<0) (fun h0=>.rt (-1) ⟨bS3 (by have:=aQ1 h0 aA;omega),trivial⟩) (fun h0=>let q0:=aD0 h0 aA;.rv 1 (I (l-((x.edges.length:Nat):Int))) (congrArg I q0.2)<|.rt (l-((x.edges.length:Nat):Int)) ⟨cQ9 aA aA,trivial⟩)) aB
theorem szDeed_d (x:Deed) (l:Int) (hl:0<=l) (hl2:l<=1048576):Ct1 prog 33 [.S x,.I l] [.I (szL l x.wt)]:=
 .one (szL l x.wt) (rk:=fun b=>[.I b])<|vc func33 (fun (hg:gin [Par.S x,Par.I l])=>let gx:=hg.1.1
  let hwt:x.wt=x.plan.wt:=rfl
  .c func71 (szPlan_d x.plan (l) aA aA) (hg:=⟨(show Deed.ok _ from gx).2.2.1,trivial⟩) fun _=>.s (szL (l) (x.plan.wt)<0) (fun h0=>.rt (-1) ⟨bS3 (by have:=aQ1 h0 aA;omega),trivial⟩) (fun h0=>let q0:=aD0 h0 aA;.rv 1 (I (l-((x.plan.wt:Nat):Int))) (congrArg I q0.2)<|.rt (l-((x.plan.wt:Nat):Int)) ⟨cQ9 aA aA,trivial⟩)) aB
theorem szIntS_d (xs:List (Int)) (l:Int) (hl:0<=l) (hl2:l<=1048576):Ct1 prog 34 [.L xs,.I l] [.I (szL l (xs.length))]:=
 .one (szL l (xs.length)) (rk:=fun b=>[.I b])<|vc func34 (fun (hg:gin [Par.L xs,Par.I l])=>let hcap:=hg.1
  .m l (xs.length:Int) (h:=by unfold I64;omega)<|.s (l-(xs.length:Int)<0) (fun h=>.rt (-1) ⟨bS3 aA,trivial⟩) (fun h=>.rt (l-(xs.length:Int)) ⟨cQ9 aA aA,trivial⟩)) aB
theorem szAct_d (x:ActD) (l:Int) (hl:0<=l) (hl2:l<=1048576):Ct1 prog 16 [.S x,.I l] [.I (szL l x.wt)]:=
 .one (szL l x.wt) (rk:=fun b=>[.I b])<|vc func16 (fun (hg:gin [Par.S x,Par.I l])=>let gx:=hg.1.1
  let hwt:x.wt=x.deed.wt+x.keep.length:=rfl
  .c func33 (szDeed_d x.deed (l) aA aA) (hg:=⟨(show ActD.ok _ from gx).2.1,trivial⟩) fun _=>.s (szL (l) (x.deed.wt)<0) (fun h0=>.rt (-1) ⟨bS3 (by have:=aQ1 h0 aA;omega),trivial⟩) (fun h0=>let q0:=aD0 h0 aA;.rv 1 (I (l-((x.deed.wt:Nat):Int))) (congrArg I q0.2)<|.c func34 (szIntS_d x.keep (l-((x.deed.wt:Nat):Int)) aA aA) fun _=>.s (szL (l-((x.deed.wt:Nat):Int)) (x.keep.length)<0) (fun h1=>.rt (-1) ⟨bS3 (by have:=aQ1 h1 aA;omega),trivial⟩) (fun h1=>let q1:=aD0 h1 aA;.rv 1 (I (l-((x.deed.wt:Nat):Int)-((x.keep.length:Nat):Int))) (congrArg I q1.2)<|.rt (l-((x.deed.wt:Nat):Int)-((x.keep.length:Nat):Int)) ⟨cQ9 aA aA,trivial⟩))) aB
theorem szActS_d (xs:List (ActD)) (l:Int) (hl:0<=l) (hl2:l<=1048576):Ct1 prog 4 [.L xs,.I l] [.I (szL l (wtL (fun y:ActD=>y.wt) xs))]:=
 .one (szL l (wtL (fun y:ActD=>y.wt) xs)) (rk:=fun b=>[.I b])<|vc func4 (fun (hg:gin [Par.L xs,Par.I l])=>let hcap:=hg.1
  let hwt:wtL (fun y:ActD=>y.wt) xs=xs.length+(xs.map (fun y:ActD=>y.wt)).sum:=rfl
  .m l (xs.length:Int) (h:=by unfold I64;omega)<|.s (l-(xs.length:Int)<0) (fun h=>.rt (-1) ⟨bS3 aA,trivial⟩) (fun h=>.l (Γ:=Nat×Int) (fun g=>g.1<=xs.length/\0<=g.2/\g.2+(((xs.take g.1).map (fun y:ActD=>y.wt)).sum:Nat)=l-(xs.length:Int)) (fun g=>xs.length-g.1) [0] [] [0] (fun g=>[vI 5 g.1,vI 1 g.2]) (fun g=>[]) (0,l-(xs.length:Int)) (h:=⟨Nat.zero_le _,by show 0<=l-(xs.length:Int);omega,by simp⟩) fun g hJ tk=>.s ((g.1:Int)<xs.length)
   (fun h2=>.ex (p:=fun e=>xs[g.1]? = some e/\((xs.take (g.1+1)).map (fun y:ActD=>y.wt)).sum=((xs.take g.1).map (fun y:ActD=>y.wt)).sum+(fun y:ActD=>y.wt) e) (sz_at (fun y:ActD=>y.wt) xs g.1 aA) fun e he=>.y he.1 fun ge=>let hle:=kL (fun y:ActD=>y.wt) xs (g.1+1)
    let he2:((xs.take (g.1+1)).map (fun y:ActD=>y.wt)).sum=((xs.take g.1).map (fun y:ActD=>y.wt)).sum+e.wt:=he.2
    .c func16 (szAct_d e g.2 aA aA) (hg:=⟨ge,trivial⟩) fun _=>.s (szL g.2 (e.wt)<0) (fun h3=>.rt (-1) ⟨bS3 (by have:=aQ1 h3 aA;omega),trivial⟩)
     (fun h3=>let q:=aD0 h3 aA;.rv 1 (I (g.2-((e.wt:Nat):Int))) (congrArg I q.2)<|.p g.1 1<|.n tk (g.1+1,g.2-((e.wt:Nat):Int)) [] (h1:=⟨by show g.1+1<=_;omega,by show 0<=g.2-((e.wt:Nat):Int);omega,by show g.2-((e.wt:Nat):Int)+(((xs.take (g.1+1)).map (fun y:ActD=>y.wt)).sum:Nat)=_;omega⟩) (h2:=by show xs.length-(g.1+1)<_;omega)))
   (fun h2=>.rt g.2 ⟨sz_e hJ.2.2 (show xs.length<=g.1 by omega) hwt hJ.2.1,trivial⟩))) aB
theorem bS2 {α:Type}{xs:List α}{k:Nat}{x:α}(h:xs[k]? = some x):xs.take k++[x]=xs.take (k+1):=by
 obtain⟨hk,rfl⟩:=gsi_.1 h;rw[take_succ_eq_append_getElem hk]
theorem pC {α:Type}[DecidableEq α] {xs ys:List α}(h:¬(xs.length:Int)=ys.length):false=eqB xs ys:=(aB1 fun e=>h (by rw[e])).symm
theorem tY {α:Type}[DecidableEq α] {xs ys:List α}{k:Nat}{x y:α}(hx:xs[k]? = some x) (hy:ys[k]? = some y) (h:eqB x y=false):false=eqB xs ys:=(aB1 fun e=>by rw[e,hy]at hx;cases hx;rw[jX rfl]at h;cases h).symm
theorem tX {α:Type}[DecidableEq α] {xs ys:List α}{k:Nat}{x y:α}(h:xs.take k=ys.take k) (hx:xs[k]? = some x) (hy:ys[k]? = some y) (he:eqB x y=true):xs.take (k+1)=ys.take (k+1):=by
 rw[<- bS2 hx,<- bS2 hy,h,eqB_iff.1 he]
theorem pA {α:Type}[DecidableEq α] {xs ys:List α}{k:Nat}(hl:(xs.length:Int)=ys.length) (h:xs.take k=ys.take k) (hk:¬(k:Int)<xs.length):true=eqB xs ys:=by
 rw[take_of_length_le aA,take_of_length_le aA]at h;exact(jX h).symm
theorem iB {α:Type}[DecidableEq α] {x y:α}{p:Prop}(h:¬p) (k:x=y->p):false=eqB x y:=(aB1 fun e=>h (k e)).symm
theorem vY {α β:Type}[DecidableEq α] [DecidableEq β] {x y:α}{a b:β}(h:eqB a b=false) (k:x=y->a=b):false=eqB x y:=(aB1 fun e=>by rw[jX (k e)]at h;cases h).symm
theorem ne_x {α:Type}[DecidableEq α] {x y:α}{a b:Bool}(h:(a == b)=false) (k:x=y->a=b):false=eqB x y:=(aB1 fun e=>by rw[k e]at h;cases b<;>cases h).symm
theorem Edge_ext {x y:Edge}(h0:x.from_=y.from_) (h1:x.to_=y.to_):x=y:=by
 cases x;cases y;simp only at *;subst_vars;rfl
theorem eqEdge_d (x y:Edge):Ct1 prog 265 [.S x,.S y] [.B (eqB x y)]:=
 .one (eqB x y) (rk:=fun b=>[.B b])<|vc func265 (fun (hg:gin [Par.S x,Par.S y])=>let g1:=hg.1.1
  let g2:=hg.2.1.1
  .u (x.from_=y.from_) (fun h=>.rt false ⟨iB h (fun e=>by rw[e]),trivial⟩) (fun h0=>.u (x.to_=y.to_) (fun h=>.rt false ⟨iB h (fun e=>by rw[e]),trivial⟩) (fun h1=>.rt true ⟨(jX (Edge_ext h0 h1)).symm,trivial⟩))) aB
theorem eqEdgeS_d (xs ys:List (Edge)):Ct1 prog 185 [.L xs,.L ys] [.B (eqB xs ys)]:=
 .one (eqB xs ys) (rk:=fun b=>[.B b])<|vc func185 (fun (hg:gin [Par.L xs,Par.L ys])=>let h1:=hg.1
  .u ((xs.length:Int)=ys.length) (fun h=>.rt false ⟨pC h,trivial⟩)
   (fun h=>.l (Γ:=Nat) (fun k=>k<=xs.length/\xs.take k=ys.take k) (fun k=>xs.length-k) [0,1] [] [0,1] (fun k=>[vI 5 k]) (fun k=>[]) 0 (h:=⟨Nat.zero_le _,rfl⟩) fun k hk t=>.s ((k:Int)<xs.length)
    (fun h2=>.x xs k (h:=by omega) fun e he ge=>.x ys k (h:=by omega) fun f hf gf=>.c func265 (eqEdge_d e f) (hg:=⟨ge,gf,trivial⟩) fun _=>.v (eqB e f) (fun h3=>.rt false ⟨tY he hf h3,trivial⟩) (fun h3=>.p k 1<|.n t (k+1) [] (h1:=⟨by omega,tX hk.2 he hf h3⟩)))
    (fun h2=>.rt true ⟨pA h hk.2 h2,trivial⟩))) aB
theorem cB3 {x y:Plan}(h0:x.prio=y.prio) (h1:x.most=y.most) (h2:x.wait=y.wait) (h3:x.tasks=y.tasks) (h4:x.edges=y.edges):x=y:=by
 cases x;cases y;simp only at *;subst_vars;rfl
theorem bZ4 (x y:Plan):Ct1 prog 109 [.S x,.S y] [.B (eqB x y)]:=
 .one (eqB x y) (rk:=fun b=>[.B b])<|vc func109 (fun (hg:gin [Par.S x,Par.S y])=>let g1:=hg.1.1
  let g2:=hg.2.1.1
  .u (x.prio=y.prio) (fun h=>.rt false ⟨iB h (fun e=>by rw[e]),trivial⟩) (fun h0=>.u (x.most=y.most) (fun h=>.rt false ⟨iB h (fun e=>by rw[e]),trivial⟩) (fun h1=>.u (x.wait=y.wait) (fun h=>.rt false ⟨iB h (fun e=>by rw[e]),trivial⟩) (fun h2=>.u (x.tasks=y.tasks) (fun h=>.rt false ⟨iB h (fun e=>by rw[e]),trivial⟩) (fun h3=>.c func185 (eqEdgeS_d x.edges y.edges) fun _=>.v (eqB x.edges y.edges) (fun h=>.rt false ⟨vY h (fun e=>by rw[e]),trivial⟩) (fun h4=>.rt true ⟨(jX (cB3 h0 h1 h2 h3 (eqB_iff.1 h4))).symm,trivial⟩)))))) aB
theorem Entry_ext {x y:Entry}(h0:x.prio=y.prio) (h1:x.seq=y.seq) (h2:x.run=y.run) (h3:x.task=y.task):x=y:=by
 cases x;cases y;simp only at *;subst_vars;rfl
theorem eqEntry_d (x y:Entry):Ct1 prog 263 [.S x,.S y] [.B (eqB x y)]:=
 .one (eqB x y) (rk:=fun b=>[.B b])<|vc func263 (fun (hg:gin [Par.S x,Par.S y])=>let g1:=hg.1.1
  let g2:=hg.2.1.1
  .u (x.prio=y.prio) (fun h=>.rt false ⟨iB h (fun e=>by rw[e]),trivial⟩) (fun h0=>.u (x.seq=y.seq) (fun h=>.rt false ⟨iB h (fun e=>by rw[e]),trivial⟩) (fun h1=>.u (x.run=y.run) (fun h=>.rt false ⟨iB h (fun e=>by rw[e]),trivial⟩) (fun h2=>.u (x.task=y.task) (fun h=>.rt false ⟨iB h (fun e=>by rw[e]),trivial⟩) (fun h3=>.rt true ⟨(jX (Entry_ext h0 h1 h2 h3)).symm,trivial⟩))))) aB
theorem eqEntryS_d (xs ys:List (Entry)):Ct1 prog 182 [.L xs,.L ys] [.B (eqB xs ys)]:=
 .one (eqB xs ys) (rk:=fun b=>[.B b])<|vc func182 (fun (hg:gin [Par.L xs,Par.L ys])=>let h1:=hg.1
  .u ((xs.length:Int)=ys.length) (fun h=>.rt false ⟨pC h,trivial⟩)
   (fun h=>.l (Γ:=Nat) (fun k=>k<=xs.length/\xs.take k=ys.take k) (fun k=>xs.length-k) [0,1] [] [0,1] (fun k=>[vI 5 k]) (fun k=>[]) 0 (h:=⟨Nat.zero_le _,rfl⟩) fun k hk t=>.s ((k:Int)<xs.length)
    (fun h2=>.x xs k (h:=by omega) fun e he ge=>.x ys k (h:=by omega) fun f hf gf=>.c func263 (eqEntry_d e f) (hg:=⟨ge,gf,trivial⟩) fun _=>.v (eqB e f) (fun h3=>.rt false ⟨tY he hf h3,trivial⟩) (fun h3=>.p k 1<|.n t (k+1) [] (h1:=⟨by omega,tX hk.2 he hf h3⟩)))
    (fun h2=>.rt true ⟨pA h hk.2 h2,trivial⟩))) aB
theorem Task_ext {x y:Task}(h0:x.state=y.state) (h1:x.need=y.need) (h2:x.try_=y.try_) (h3:x.until_=y.until_):x=y:=by
 cases x;cases y;simp only at *;subst_vars;rfl
theorem eqTask_d (x y:Task):Ct1 prog 300 [.S x,.S y] [.B (eqB x y)]:=
 .one (eqB x y) (rk:=fun b=>[.B b])<|vc func300 (fun (hg:gin [Par.S x,Par.S y])=>let g1:=hg.1.1
  let g2:=hg.2.1.1
  .u (x.state=y.state) (fun h=>.rt false ⟨iB h (fun e=>by rw[e]),trivial⟩) (fun h0=>.u (x.need=y.need) (fun h=>.rt false ⟨iB h (fun e=>by rw[e]),trivial⟩) (fun h1=>.u (x.try_=y.try_) (fun h=>.rt false ⟨iB h (fun e=>by rw[e]),trivial⟩) (fun h2=>.u (x.until_=y.until_) (fun h=>.rt false ⟨iB h (fun e=>by rw[e]),trivial⟩) (fun h3=>.rt true ⟨(jX (Task_ext h0 h1 h2 h3)).symm,trivial⟩))))) aB
theorem eqTaskS_d (xs ys:List (Task)):Ct1 prog 264 [.L xs,.L ys] [.B (eqB xs ys)]:=
 .one (eqB xs ys) (rk:=fun b=>[.B b])<|vc func264 (fun (hg:gin [Par.L xs,Par.L ys])=>let h1:=hg.1
  .u ((xs.length:Int)=ys.length) (fun h=>.rt false ⟨pC h,trivial⟩)
   (fun h=>.l (Γ:=Nat) (fun k=>k<=xs.length/\xs.take k=ys.take k) (fun k=>xs.length-k) [0,1] [] [0,1] (fun k=>[vI 5 k]) (fun k=>[]) 0 (h:=⟨Nat.zero_le _,rfl⟩) fun k hk t=>.s ((k:Int)<xs.length)
    (fun h2=>.x xs k (h:=by omega) fun e he ge=>.x ys k (h:=by omega) fun f hf gf=>.c func300 (eqTask_d e f) (hg:=⟨ge,gf,trivial⟩) fun _=>.v (eqB e f) (fun h3=>.rt false ⟨tY he hf h3,trivial⟩) (fun h3=>.p k 1<|.n t (k+1) [] (h1:=⟨by omega,tX hk.2 he hf h3⟩)))
    (fun h2=>.rt true ⟨pA h hk.2 h2,trivial⟩))) aB
theorem Run_ext {x y:Run}(h0:x.id=y.id) (h1:x.plan=y.plan) (h2:x.state=y.state) (h3:x.tasks=y.tasks):x=y:=by
 cases x;cases y;simp only at *;subst_vars;rfl
theorem eqRun_d (x y:Run):Ct1 prog 183 [.S x,.S y] [.B (eqB x y)]:=
 .one (eqB x y) (rk:=fun b=>[.B b])<|vc func183 (fun (hg:gin [Par.S x,Par.S y])=>let g1:=hg.1.1
  let g2:=hg.2.1.1
  .u (x.id=y.id) (fun h=>.rt false ⟨iB h (fun e=>by rw[e]),trivial⟩) (fun h0=>.c func109 (bZ4 x.plan y.plan) (hg:=⟨(show Run.ok _ from g1).2.1,(show Run.ok _ from g2).2.1,trivial⟩) fun _=>.v (eqB x.plan y.plan) (fun h=>.rt false ⟨vY h (fun e=>by rw[e]),trivial⟩) (fun h1=>.u (x.state=y.state) (fun h=>.rt false ⟨iB h (fun e=>by rw[e]),trivial⟩) (fun h2=>.c func264 (eqTaskS_d x.tasks y.tasks) fun _=>.v (eqB x.tasks y.tasks) (fun h=>.rt false ⟨vY h (fun e=>by rw[e]),trivial⟩) (fun h3=>.rt true ⟨(jX (Run_ext h0 (eqB_iff.1 h1) h2 (eqB_iff.1 h3))).symm,trivial⟩))))) aB
theorem eqRunS_d (xs ys:List (Run)):Ct1 prog 106 [.L xs,.L ys] [.B (eqB xs ys)]:=
 .one (eqB xs ys) (rk:=fun b=>[.B b])<|vc func106 (fun (hg:gin [Par.L xs,Par.L ys])=>let h1:=hg.1
  .u ((xs.length:Int)=ys.length) (fun h=>.rt false ⟨pC h,trivial⟩)
   (fun h=>.l (Γ:=Nat) (fun k=>k<=xs.length/\xs.take k=ys.take k) (fun k=>xs.length-k) [0,1] [] [0,1] (fun k=>[vI 5 k]) (fun k=>[]) 0 (h:=⟨Nat.zero_le _,rfl⟩) fun k hk t=>.s ((k:Int)<xs.length)
    (fun h2=>.x xs k (h:=by omega) fun e he ge=>.x ys k (h:=by omega) fun f hf gf=>.c func183 (eqRun_d e f) (hg:=⟨ge,gf,trivial⟩) fun _=>.v (eqB e f) (fun h3=>.rt false ⟨tY he hf h3,trivial⟩) (fun h3=>.p k 1<|.n t (k+1) [] (h1:=⟨by omega,tX hk.2 he hf h3⟩)))
    (fun h2=>.rt true ⟨pA h hk.2 h2,trivial⟩))) aB
theorem eqEntrySS_d (xs ys:List (List Entry)):Ct1 prog 105 [.L xs,.L ys] [.B (eqB xs ys)]:=
 .one (eqB xs ys) (rk:=fun b=>[.B b])<|vc func105 (fun (hg:gin [Par.L xs,Par.L ys])=>let h1:=hg.1
  .u ((xs.length:Int)=ys.length) (fun h=>.rt false ⟨pC h,trivial⟩)
   (fun h=>.l (Γ:=Nat) (fun k=>k<=xs.length/\xs.take k=ys.take k) (fun k=>xs.length-k) [0,1] [] [0,1] (fun k=>[vI 5 k]) (fun k=>[]) 0 (h:=⟨Nat.zero_le _,rfl⟩) fun k hk t=>.s ((k:Int)<xs.length)
    (fun h2=>.x xs k (h:=by omega) fun e he ge=>.x ys k (h:=by omega) fun f hf gf=>.c func182 (eqEntryS_d e f) fun _=>.v (eqB e f) (fun h3=>.rt false ⟨tY he hf h3,trivial⟩) (fun h3=>.p k 1<|.n t (k+1) [] (h1:=⟨by omega,tX hk.2 he hf h3⟩)))
    (fun h2=>.rt true ⟨pA h hk.2 h2,trivial⟩))) aB
theorem Yard_ext {x y:Yard}(h0:x.now=y.now) (h1:x.seq=y.seq) (h2:x.shelf=y.shelf) (h3:x.runs=y.runs):x=y:=by
 cases x;cases y;simp only at *;subst_vars;rfl
theorem eqYard_d (x y:Yard):Ct1 prog 59 [.S x,.S y] [.B (eqB x y)]:=
 .one (eqB x y) (rk:=fun b=>[.B b])<|vc func59 (fun (hg:gin [Par.S x,Par.S y])=>let g1:=hg.1.1
  let g2:=hg.2.1.1
  .u (x.now=y.now) (fun h=>.rt false ⟨iB h (fun e=>by rw[e]),trivial⟩) (fun h0=>.u (x.seq=y.seq) (fun h=>.rt false ⟨iB h (fun e=>by rw[e]),trivial⟩) (fun h1=>.c func105 (eqEntrySS_d x.shelf y.shelf) fun _=>.v (eqB x.shelf y.shelf) (fun h=>.rt false ⟨vY h (fun e=>by rw[e]),trivial⟩) (fun h2=>.c func106 (eqRunS_d x.runs y.runs) fun _=>.v (eqB x.runs y.runs) (fun h=>.rt false ⟨vY h (fun e=>by rw[e]),trivial⟩) (fun h3=>.rt true ⟨(jX (Yard_ext h0 h1 (eqB_iff.1 h2) (eqB_iff.1 h3))).symm,trivial⟩))))) aB
theorem Reply_ext {x y:Reply}(h0:x.code=y.code) (h1:x.run=y.run) (h2:x.task=y.task) (h3:x.try_=y.try_):x=y:=by
 cases x;cases y;simp only at *;subst_vars;rfl
theorem bG2 (x y:Reply):Ct1 prog 63 [.S x,.S y] [.B (eqB x y)]:=
 .one (eqB x y) (rk:=fun b=>[.B b])<|vc func63 (fun (hg:gin [Par.S x,Par.S y])=>let g1:=hg.1.1
  let g2:=hg.2.1.1
  .u (x.code=y.code) (fun h=>.rt false ⟨iB h (fun e=>by rw[e]),trivial⟩) (fun h0=>.u (x.run=y.run) (fun h=>.rt false ⟨iB h (fun e=>by rw[e]),trivial⟩) (fun h1=>.u (x.task=y.task) (fun h=>.rt false ⟨iB h (fun e=>by rw[e]),trivial⟩) (fun h2=>.u (x.try_=y.try_) (fun h=>.rt false ⟨iB h (fun e=>by rw[e]),trivial⟩) (fun h3=>.rt true ⟨(jX (Reply_ext h0 h1 h2 h3)).symm,trivial⟩))))) aB
theorem eqReplyS_d (xs ys:List (Reply)):Ct1 prog 24 [.L xs,.L ys] [.B (eqB xs ys)]:=
 .one (eqB xs ys) (rk:=fun b=>[.B b])<|vc func24 (fun (hg:gin [Par.L xs,Par.L ys])=>let h1:=hg.1
  .u ((xs.length:Int)=ys.length) (fun h=>.rt false ⟨pC h,trivial⟩)
   (fun h=>.l (Γ:=Nat) (fun k=>k<=xs.length/\xs.take k=ys.take k) (fun k=>xs.length-k) [0,1] [] [0,1] (fun k=>[vI 5 k]) (fun k=>[]) 0 (h:=⟨Nat.zero_le _,rfl⟩) fun k hk t=>.s ((k:Int)<xs.length)
    (fun h2=>.x xs k (h:=by omega) fun e he ge=>.x ys k (h:=by omega) fun f hf gf=>.c func63 (bG2 e f) (hg:=⟨ge,gf,trivial⟩) fun _=>.v (eqB e f) (fun h3=>.rt false ⟨tY he hf h3,trivial⟩) (fun h3=>.p k 1<|.n t (k+1) [] (h1:=⟨by omega,tX hk.2 he hf h3⟩)))
    (fun h2=>.rt true ⟨pA h hk.2 h2,trivial⟩))) aB
theorem cB4 {x y:Deed}(h0:x.kind=y.kind) (h1:x.run=y.run) (h2:x.plan=y.plan) (h3:x.task=y.task) (h4:x.try_=y.try_) (h5:x.worker=y.worker) (h6:x.draw=y.draw):x=y:=by
 cases x;cases y;simp only at *;subst_vars;rfl
theorem bZ5 (x y:Deed):Ct1 prog 62 [.S x,.S y] [.B (eqB x y)]:=
 .one (eqB x y) (rk:=fun b=>[.B b])<|vc func62 (fun (hg:gin [Par.S x,Par.S y])=>let g1:=hg.1.1
  let g2:=hg.2.1.1
  .u (x.kind=y.kind) (fun h=>.rt false ⟨iB h (fun e=>by rw[e]),trivial⟩) (fun h0=>.u (x.run=y.run) (fun h=>.rt false ⟨iB h (fun e=>by rw[e]),trivial⟩) (fun h1=>.c func109 (bZ4 x.plan y.plan) (hg:=⟨(show Deed.ok _ from g1).2.2.1,(show Deed.ok _ from g2).2.2.1,trivial⟩) fun _=>.v (eqB x.plan y.plan) (fun h=>.rt false ⟨vY h (fun e=>by rw[e]),trivial⟩) (fun h2=>.u (x.task=y.task) (fun h=>.rt false ⟨iB h (fun e=>by rw[e]),trivial⟩) (fun h3=>.u (x.try_=y.try_) (fun h=>.rt false ⟨iB h (fun e=>by rw[e]),trivial⟩) (fun h4=>.u (x.worker=y.worker) (fun h=>.rt false ⟨iB h (fun e=>by rw[e]),trivial⟩) (fun h5=>.u (x.draw=y.draw) (fun h=>.rt false ⟨iB h (fun e=>by rw[e]),trivial⟩) (fun h6=>.rt true ⟨(jX (cB4 h0 h1 (eqB_iff.1 h2) h3 h4 h5 h6)).symm,trivial⟩)))))))) aB
theorem eqDeedS_d (xs ys:List (Deed)):Ct1 prog 23 [.L xs,.L ys] [.B (eqB xs ys)]:=
 .one (eqB xs ys) (rk:=fun b=>[.B b])<|vc func23 (fun (hg:gin [Par.L xs,Par.L ys])=>let h1:=hg.1
  .u ((xs.length:Int)=ys.length) (fun h=>.rt false ⟨pC h,trivial⟩)
   (fun h=>.l (Γ:=Nat) (fun k=>k<=xs.length/\xs.take k=ys.take k) (fun k=>xs.length-k) [0,1] [] [0,1] (fun k=>[vI 5 k]) (fun k=>[]) 0 (h:=⟨Nat.zero_le _,rfl⟩) fun k hk t=>.s ((k:Int)<xs.length)
    (fun h2=>.x xs k (h:=by omega) fun e he ge=>.x ys k (h:=by omega) fun f hf gf=>.c func62 (bZ5 e f) (hg:=⟨ge,gf,trivial⟩) fun _=>.v (eqB e f) (fun h3=>.rt false ⟨tY he hf h3,trivial⟩) (fun h3=>.p k 1<|.n t (k+1) [] (h1:=⟨by omega,tX hk.2 he hf h3⟩)))
    (fun h2=>.rt true ⟨pA h hk.2 h2,trivial⟩))) aB
theorem Wait_ext {x y:Wait}(h0:x.call=y.call) (h1:x.reply=y.reply):x=y:=by
 cases x;cases y;simp only at *;subst_vars;rfl
theorem eqWait_d (x y:Wait):Ct1 prog 108 [.S x,.S y] [.B (eqB x y)]:=
 .one (eqB x y) (rk:=fun b=>[.B b])<|vc func108 (fun (hg:gin [Par.S x,Par.S y])=>let g1:=hg.1.1
  let g2:=hg.2.1.1
  .u (x.call=y.call) (fun h=>.rt false ⟨iB h (fun e=>by rw[e]),trivial⟩) (fun h0=>.c func63 (bG2 x.reply y.reply) (hg:=⟨(show Wait.ok _ from g1).2,(show Wait.ok _ from g2).2,trivial⟩) fun _=>.v (eqB x.reply y.reply) (fun h=>.rt false ⟨vY h (fun e=>by rw[e]),trivial⟩) (fun h1=>.rt true ⟨(jX (Wait_ext h0 (eqB_iff.1 h1))).symm,trivial⟩))) aB
theorem eqWaitS_d (xs ys:List (Wait)):Ct1 prog 61 [.L xs,.L ys] [.B (eqB xs ys)]:=
 .one (eqB xs ys) (rk:=fun b=>[.B b])<|vc func61 (fun (hg:gin [Par.L xs,Par.L ys])=>let h1:=hg.1
  .u ((xs.length:Int)=ys.length) (fun h=>.rt false ⟨pC h,trivial⟩)
   (fun h=>.l (Γ:=Nat) (fun k=>k<=xs.length/\xs.take k=ys.take k) (fun k=>xs.length-k) [0,1] [] [0,1] (fun k=>[vI 5 k]) (fun k=>[]) 0 (h:=⟨Nat.zero_le _,rfl⟩) fun k hk t=>.s ((k:Int)<xs.length)
    (fun h2=>.x xs k (h:=by omega) fun e he ge=>.x ys k (h:=by omega) fun f hf gf=>.c func108 (eqWait_d e f) (hg:=⟨ge,gf,trivial⟩) fun _=>.v (eqB e f) (fun h3=>.rt false ⟨tY he hf h3,trivial⟩) (fun h3=>.p k 1<|.n t (k+1) [] (h1:=⟨by omega,tX hk.2 he hf h3⟩)))
    (fun h2=>.rt true ⟨pA h hk.2 h2,trivial⟩))) aB
theorem File_ext {x y:File}(h0:x.name=y.name) (h1:x.data=y.data) (h2:x.safe=y.safe):x=y:=by
 cases x;cases y;simp only at *;subst_vars;rfl
theorem eqFile_d (x y:File):Ct1 prog 184 [.S x,.S y] [.B (eqB x y)]:=
 .one (eqB x y) (rk:=fun b=>[.B b])<|vc func184 (fun (hg:gin [Par.S x,Par.S y])=>let g1:=hg.1.1
  let g2:=hg.2.1.1
  .u (x.name=y.name) (fun h=>.rt false ⟨iB h (fun e=>by rw[e]),trivial⟩) (fun h0=>.u (x.data=y.data) (fun h=>.rt false ⟨iB h (fun e=>by rw[e]),trivial⟩) (fun h1=>.u (x.safe=y.safe) (fun h=>.rt false ⟨iB h (fun e=>by rw[e]),trivial⟩) (fun h2=>.rt true ⟨(jX (File_ext h0 h1 h2)).symm,trivial⟩)))) aB
theorem eqFileS_d (xs ys:List (File)):Ct1 prog 107 [.L xs,.L ys] [.B (eqB xs ys)]:=
 .one (eqB xs ys) (rk:=fun b=>[.B b])<|vc func107 (fun (hg:gin [Par.L xs,Par.L ys])=>let h1:=hg.1
  .u ((xs.length:Int)=ys.length) (fun h=>.rt false ⟨pC h,trivial⟩)
   (fun h=>.l (Γ:=Nat) (fun k=>k<=xs.length/\xs.take k=ys.take k) (fun k=>xs.length-k) [0,1] [] [0,1] (fun k=>[vI 5 k]) (fun k=>[]) 0 (h:=⟨Nat.zero_le _,rfl⟩) fun k hk t=>.s ((k:Int)<xs.length)
    (fun h2=>.x xs k (h:=by omega) fun e he ge=>.x ys k (h:=by omega) fun f hf gf=>.c func184 (eqFile_d e f) (hg:=⟨ge,gf,trivial⟩) fun _=>.v (eqB e f) (fun h3=>.rt false ⟨tY he hf h3,trivial⟩) (fun h3=>.p k 1<|.n t (k+1) [] (h1:=⟨by omega,tX hk.2 he hf h3⟩)))
    (fun h2=>.rt true ⟨pA h hk.2 h2,trivial⟩))) aB
theorem Disk_ext {x y:Disk}(h0:x.files=y.files):x=y:=by
 cases x;cases y;simp only at *;subst_vars;rfl
theorem eqDisk_d (x y:Disk):Ct1 prog 60 [.S x,.S y] [.B (eqB x y)]:=
 .one (eqB x y) (rk:=fun b=>[.B b])<|vc func60 (fun (hg:gin [Par.S x,Par.S y])=>let g1:=hg.1.1
  let g2:=hg.2.1.1
  .c func107 (eqFileS_d x.files y.files) fun _=>.v (eqB x.files y.files) (fun h=>.rt false ⟨vY h (fun e=>by rw[e]),trivial⟩) (fun h0=>.rt true ⟨(jX (Disk_ext (eqB_iff.1 h0))).symm,trivial⟩)) aB
theorem Engine_ext {x y:Engine}(h0:x.yard=y.yard) (h1:x.disk=y.disk) (h2:x.next=y.next) (h3:x.calls=y.calls) (h4:x.waits=y.waits) (h5:x.state=y.state) (h6:x.broken=y.broken):x=y:=by
 cases x;cases y;simp only at *;subst_vars;rfl
theorem eqEngine_d (x y:Engine):Ct1 prog 22 [.S x,.S y] [.B (eqB x y)]:=
 .one (eqB x y) (rk:=fun b=>[.B b])<|vc func22 (fun (hg:gin [Par.S x,Par.S y])=>let g1:=hg.1.1
  let g2:=hg.2.1.1
  .c func59 (eqYard_d x.yard y.yard) (hg:=⟨(show Engine.ok _ from g1).1,(show Engine.ok _ from g2).1,trivial⟩) fun _=>.v (eqB x.yard y.yard) (fun h=>.rt false ⟨vY h (fun e=>by rw[e]),trivial⟩) (fun h0=>.c func60 (eqDisk_d x.disk y.disk) (hg:=⟨trivial,trivial,trivial⟩) fun _=>.v (eqB x.disk y.disk) (fun h=>.rt false ⟨vY h (fun e=>by rw[e]),trivial⟩) (fun h1=>.u (x.next=y.next) (fun h=>.rt false ⟨iB h (fun e=>by rw[e]),trivial⟩) (fun h2=>.u (x.calls=y.calls) (fun h=>.rt false ⟨iB h (fun e=>by rw[e]),trivial⟩) (fun h3=>.c func61 (eqWaitS_d x.waits y.waits) fun _=>.v (eqB x.waits y.waits) (fun h=>.rt false ⟨vY h (fun e=>by rw[e]),trivial⟩) (fun h4=>.u (x.state=y.state) (fun h=>.rt false ⟨iB h (fun e=>by rw[e]),trivial⟩) (fun h5=>.v (x.broken == y.broken) (fun h=>.rt false ⟨ne_x h (fun e=>by rw[e]),trivial⟩) (fun h_=>let h6:=eq_of_beq h_;.rt true ⟨(jX (Engine_ext (eqB_iff.1 h0) (eqB_iff.1 h1) h2 h3 (eqB_iff.1 h4) h5 h6)).symm,trivial⟩)))))))) aB
theorem World_ext {x y:WorldD}(h0:x.engine=y.engine) (h1:x.deeds=y.deeds) (h2:x.replies=y.replies) (h3:x.told=y.told) (h4:x.fell=y.fell):x=y:=by
 cases x;cases y;simp only at *;subst_vars;rfl
theorem aF5 (x y:WorldD):Ct1 prog 8 [.S x,.S y] [.B (eqB x y)]:=
 .one (eqB x y) (rk:=fun b=>[.B b])<|vc func8 (fun (hg:gin [Par.S x,Par.S y])=>let g1:=hg.1.1
  let g2:=hg.2.1.1
  .c func22 (eqEngine_d x.engine y.engine) (hg:=⟨(show WorldD.ok _ from g1).1,(show WorldD.ok _ from g2).1,trivial⟩) fun _=>.v (eqB x.engine y.engine) (fun h=>.rt false ⟨vY h (fun e=>by rw[e]),trivial⟩) (fun h0=>.c func23 (eqDeedS_d x.deeds y.deeds) fun _=>.v (eqB x.deeds y.deeds) (fun h=>.rt false ⟨vY h (fun e=>by rw[e]),trivial⟩) (fun h1=>.c func24 (eqReplyS_d x.replies y.replies) fun _=>.v (eqB x.replies y.replies) (fun h=>.rt false ⟨vY h (fun e=>by rw[e]),trivial⟩) (fun h2=>.u (x.told=y.told) (fun h=>.rt false ⟨iB h (fun e=>by rw[e]),trivial⟩) (fun h3=>.u (x.fell=y.fell) (fun h=>.rt false ⟨iB h (fun e=>by rw[e]),trivial⟩) (fun h4=>.rt true ⟨(jX (World_ext (eqB_iff.1 h0) (eqB_iff.1 h1) (eqB_iff.1 h2) h3 h4)).symm,trivial⟩)))))) aB
theorem aB0 (xs ys:List (Int)):Ct1 prog 9 [.L xs,.L ys] [.B (eqB xs ys)]:=
 .one (eqB xs ys) (rk:=fun b=>[.B b])<|vc func9 (fun (hg:gin [Par.L xs,Par.L ys])=>let h1:=hg.1
  .u ((xs.length:Int)=ys.length) (fun h=>.rt false ⟨pC h,trivial⟩)
   (fun h=>.l (Γ:=Nat) (fun k=>k<=xs.length/\xs.take k=ys.take k) (fun k=>xs.length-k) [0,1] [] [0,1] (fun k=>[vI 5 k]) (fun k=>[]) 0 (h:=⟨Nat.zero_le _,rfl⟩) fun k hk t=>.s ((k:Int)<xs.length)
    (fun h2=>.x xs k (h:=by omega) fun e he ge=>.x ys k (h:=by omega) fun f hf gf=>.u (e=f) (fun h3=>.rt false ⟨tY he hf (aB1 h3),trivial⟩) (fun h3=>.p k 1<|.n t (k+1) [] (h1:=⟨by omega,tX hk.2 he hf (jX h3)⟩)))
    (fun h2=>.rt true ⟨pA h hk.2 h2,trivial⟩))) aB
theorem Act_ext {x y:ActD}(h0:x.kind=y.kind) (h1:x.deed=y.deed) (h2:x.n=y.n) (h3:x.keep=y.keep):x=y:=by
 cases x;cases y;simp only at *;subst_vars;rfl
theorem eqAct_d (x y:ActD):Ct1 prog 25 [.S x,.S y] [.B (eqB x y)]:=
 .one (eqB x y) (rk:=fun b=>[.B b])<|vc func25 (fun (hg:gin [Par.S x,Par.S y])=>let g1:=hg.1.1
  let g2:=hg.2.1.1
  .u (x.kind=y.kind) (fun h=>.rt false ⟨iB h (fun e=>by rw[e]),trivial⟩) (fun h0=>.c func62 (bZ5 x.deed y.deed) (hg:=⟨(show ActD.ok _ from g1).2.1,(show ActD.ok _ from g2).2.1,trivial⟩) fun _=>.v (eqB x.deed y.deed) (fun h=>.rt false ⟨vY h (fun e=>by rw[e]),trivial⟩) (fun h1=>.u (x.n=y.n) (fun h=>.rt false ⟨iB h (fun e=>by rw[e]),trivial⟩) (fun h2=>.c func9 (aB0 x.keep y.keep) fun _=>.v (eqB x.keep y.keep) (fun h=>.rt false ⟨vY h (fun e=>by rw[e]),trivial⟩) (fun h3=>.rt true ⟨(jX (Act_ext h0 (eqB_iff.1 h1) h2 (eqB_iff.1 h3))).symm,trivial⟩))))) aB
theorem eqActS_d (xs ys:List (ActD)):Ct1 prog 10 [.L xs,.L ys] [.B (eqB xs ys)]:=
 .one (eqB xs ys) (rk:=fun b=>[.B b])<|vc func10 (fun (hg:gin [Par.L xs,Par.L ys])=>let h1:=hg.1
  .u ((xs.length:Int)=ys.length) (fun h=>.rt false ⟨pC h,trivial⟩)
   (fun h=>.l (Γ:=Nat) (fun k=>k<=xs.length/\xs.take k=ys.take k) (fun k=>xs.length-k) [0,1] [] [0,1] (fun k=>[vI 5 k]) (fun k=>[]) 0 (h:=⟨Nat.zero_le _,rfl⟩) fun k hk t=>.s ((k:Int)<xs.length)
    (fun h2=>.x xs k (h:=by omega) fun e he ge=>.x ys k (h:=by omega) fun f hf gf=>.c func25 (eqAct_d e f) (hg:=⟨ge,gf,trivial⟩) fun _=>.v (eqB e f) (fun h3=>.rt false ⟨tY he hf h3,trivial⟩) (fun h3=>.p k 1<|.n t (k+1) [] (h1:=⟨by omega,tX hk.2 he hf h3⟩)))
    (fun h2=>.rt true ⟨pA h hk.2 h2,trivial⟩))) aB
def dch (k:Nat):ByteArray:=⟨#[UInt8.ofNat (48+k % 10)]⟩
def bA2 (k:Nat) (out:ByteArray):ByteArray:=if h:k=0 then out else bA2 (k / 10) (dch k++out)
termination_by k
decreasing_by omega
theorem cZ5 (out:ByteArray):bA2 0 out=out:=by rw[bA2];simp
theorem cZ4 {k:Nat}(h:0<k) (out:ByteArray):bA2 k out=bA2 (k / 10) (dch k++out):=by
 conv=>lhs;rw[bA2]
 rw[dif_neg aA]
theorem figs_size:∀(k:Nat) (out:ByteArray),(bA2 k out).size<=k+out.size:=by
 intro k
 induction k using Nat.strongRecOn with
 | _ k ih=>
  intro out;by_cases h:k=0
  ·subst h;rw[cZ5];omega
  rw[cZ4 aA];have:=ih (k / 10) aA (dch k++out);rw[ByteArray.size_append]at this;have e:(dch k).size=1:=rfl;omega
def bM:ByteArray:=⟨#[109]⟩
def bM0:ByteArray:=⟨#[109,48]⟩
def pS (k:Int):ByteArray:=if k<=0 then bM0 else bM++bA2 k.toNat ⟨#[]⟩

theorem iC {k:Int}(h:k<=4611686018427387904):(pS k).size<=maxLen:=by
 unfold pS maxLen;split
 ·show 2<=_;omega
 rw[ByteArray.size_append];have:=figs_size k.toNat ⟨#[]⟩;have e1:bM.size=1:=rfl;have e2:(⟨#[]⟩:ByteArray).size=0:=rfl;omega
def mkL {α:Type}(f:α->Int->α) (n:α->Nat):List α->Int->List α
 | [],_=>[]
 | x::xs,k=>f x k::mkL f n xs (k+(n x:Nat))
def cL {α:Type}(n:α->Nat) (xs:List α):Nat:=(xs.map n).sum
section
variable {α:Type}{f:α->Int->α}{n:α->Nat}
theorem pT:∀(xs:List α) (k:Int),(mkL f n xs k).length=xs.length
 | [],_=>rfl
 | x::xs,k=>by simp[mkL,pT xs]
theorem cL_take (n:α->Nat) (xs:List α) (i:Nat) (h:i<xs.length):cL n (xs.take (i+1))=cL n (xs.take i)+n xs[i]:=yR n xs i h
theorem cL_take_le (n:α->Nat) (xs:List α) (i:Nat):cL n (xs.take i)<=cL n xs:=kL n xs i
theorem xP:∀(xs ys:List α) (k:Int),mkL f n (xs++ys) k=mkL f n xs k++mkL f n ys (k+(cL n xs:Nat))
 | [],ys,k=>by simp[mkL,cL]
 | x::xs,ys,k=>by
  simp only[cons_append,mkL,xP xs ys,cL,map_cons,sum_cons];congr 3
  push_cast;omega
theorem mk_get? {xs:List α}{k:Int}{i:Nat}(h:i<xs.length):(mkL f n (xs.take i) k++xs.drop i)[i]? = some xs[i]:=by
 have hl:(mkL f n (xs.take i) k).length=i:=by rw[pT,length_take];omega
 rw[getElem?_append_right aA,hl,Nat.sub_self,getElem?_drop,Nat.add_zero,getElem?_eq_getElem h]
theorem mk_step {xs:List α}{k K:Int}{i:Nat}(h:i<xs.length) (hK:K=k+(cL n (xs.take i):Nat)):(mkL f n (xs.take i) k++xs.drop i).set i (f xs[i] K)=mkL f n (xs.take (i+1)) k++xs.drop (i+1):=by
 have hl:(mkL f n (xs.take i) k).length=i:=by rw[pT,length_take];omega
 rw[set_append_right _ _ aA,hl,Nat.sub_self,drop_eq_getElem_cons h,set_cons_zero,take_succ_eq_append_getElem h,xP,append_assoc];subst hK;rfl
theorem mk_all {xs:List α}{k:Int}{i:Nat}(h:i=xs.length):mkL f n (xs.take i) k++xs.drop i=mkL f n xs k:=by subst h;simp
theorem mk_get {xs:List α}{k:Int}{i:Nat}(h:i<xs.length):(mkL f n xs k)[i]? = some (f xs[i] (k+(cL n (xs.take i):Nat))):=by
 have e:xs=xs.take i++xs.drop i:=by simp
 have hl:(mkL f n (xs.take i) k).length=i:=by rw[pT,length_take];omega
 conv=>lhs;rw[e,xP]
 rw[getElem?_append_right aA,hl,Nat.sub_self,drop_eq_getElem_cons h];rfl
end
section
variable {α:Type}{f:α->Int->α}{n:α->Nat}
theorem aX7 (n:α->Nat) {xs:List α}{i:Nat}{y:α}(h:xs[i]? = some y):cL n (xs.take (i+1))=cL n (xs.take i)+n y:=by
 obtain⟨hl,rfl⟩:=gsi_.1 h;exact cL_take n xs i hl
theorem mk_gety {xs:List α}{k:Int}{i:Nat}{y:α}(h:xs[i]? = some y):(mkL f n (xs.take i) k++xs.drop i)[i]? = some y:=by
 obtain⟨hl,rfl⟩:=gsi_.1 h;exact mk_get? hl
theorem mk_stepy {xs:List α}{k K:Int}{i:Nat}{y:α}(h:xs[i]? = some y) (hK:K=k+(cL n (xs.take i):Nat)):(mkL f n (xs.take i) k++xs.drop i).set i (f y K)=mkL f n (xs.take (i+1)) k++xs.drop (i+1):=by
 obtain⟨hl,rfl⟩:=gsi_.1 h;exact mk_step hl hK
end
theorem cI2 {α:Type}{xs:List α}{i:Nat}(h:i<xs.length):∃y,xs[i]? = some y:=⟨_,getElem?_eq_getElem h⟩
def neI {α:Type}(_:α):Nat:=1
def mkI (_:Int) (k:Int):Int:=k
def aF (x:Edge):Nat:=2
def nC (x:Edge) (k:Int):Edge:=⟨k,k+1⟩

def aJ (x:Entry):Nat:=4
def jI (x:Entry) (k:Int):Entry:=⟨k,k+1,(k+1)+1,((k+1)+1)+1⟩

def cE (x:Task):Nat:=4
def rC (x:Task) (k:Int):Task:=⟨k,k+1,(k+1)+1,((k+1)+1)+1⟩

def eA (x:Run):Nat:=6+cL aF x.plan.edges+cL cE x.tasks
def vC (x:Run) (k:Int):Run:=⟨k,⟨k+1,(k+1)+1,((k+1)+1)+1,(((k+1)+1)+1)+1,mkL nC aF x.plan.edges (((((k+1)+1)+1)+1)+1)⟩,(((((k+1)+1)+1)+1)+1)+(cL aF x.plan.edges:Nat),mkL rC cE x.tasks (((((((k+1)+1)+1)+1)+1)+(cL aF x.plan.edges:Nat))+1)⟩

def dD (x:Yard):Nat:=cL (cL aJ) x.shelf+cL eA x.runs
def aU0 (x:Yard) (k:Int):Yard:=⟨x.now,x.seq,mkL (mkL jI aJ) (cL aJ) x.shelf k,mkL vC eA x.runs (k+(cL (cL aJ) x.shelf:Nat))⟩

def cK (x:Reply):Nat:=4
def oF (x:Reply) (k:Int):Reply:=⟨k,k+1,(k+1)+1,((k+1)+1)+1⟩

def cF (x:Deed):Nat:=10+cL aF x.plan.edges
def rE (x:Deed) (k:Int):Deed:=⟨k,k+1,⟨(k+1)+1,((k+1)+1)+1,(((k+1)+1)+1)+1,((((k+1)+1)+1)+1)+1,mkL nC aF x.plan.edges ((((((k+1)+1)+1)+1)+1)+1)⟩,((((((k+1)+1)+1)+1)+1)+1)+(cL aF x.plan.edges:Nat),(((((((k+1)+1)+1)+1)+1)+1)+(cL aF x.plan.edges:Nat))+1,((((((((k+1)+1)+1)+1)+1)+1)+(cL aF x.plan.edges:Nat))+1)+1,(((((((((k+1)+1)+1)+1)+1)+1)+(cL aF x.plan.edges:Nat))+1)+1)+1⟩

def dE (x:Wait):Nat:=5
def rB (x:Wait) (k:Int):Wait:=⟨k,⟨k+1,(k+1)+1,((k+1)+1)+1,(((k+1)+1)+1)+1⟩⟩

def cV (x:File):Nat:=3
def rD (x:File) (k:Int):File:=⟨pS k,pS (k+1),(k+1)+1⟩

def eJ (x:Disk):Nat:=cL cV x.files
def aU1 (x:Disk) (k:Int):Disk:=⟨mkL rD cV x.files k⟩

def bT (x:Engine):Nat:=dD x.yard+eJ x.disk+cL dE x.waits
def xO (x:Engine) (k:Int):Engine:=⟨aU0 x.yard k,aU1 x.disk (k+(dD x.yard:Nat)),x.next,x.calls,mkL rB dE x.waits ((k+(dD x.yard:Nat))+(eJ x.disk:Nat)),x.state,x.broken⟩

def cY (x:WorldD):Nat:=bT x.engine+cL cF x.deeds+cL cK x.replies
def vB (x:WorldD) (k:Int):WorldD:=⟨xO x.engine k,mkL rE cF x.deeds (k+(bT x.engine:Nat)),mkL oF cK x.replies ((k+(bT x.engine:Nat))+(cL cF x.deeds:Nat)),x.told,x.fell⟩

def kB (x:ActD):Nat:=12+cL aF x.deed.plan.edges+cL neI x.keep
def bO0 (x:ActD) (k:Int):ActD:=⟨k,⟨k+1,(k+1)+1,⟨((k+1)+1)+1,(((k+1)+1)+1)+1,((((k+1)+1)+1)+1)+1,(((((k+1)+1)+1)+1)+1)+1,mkL nC aF x.deed.plan.edges (((((((k+1)+1)+1)+1)+1)+1)+1)⟩,(((((((k+1)+1)+1)+1)+1)+1)+1)+(cL aF x.deed.plan.edges:Nat),((((((((k+1)+1)+1)+1)+1)+1)+1)+(cL aF x.deed.plan.edges:Nat))+1,(((((((((k+1)+1)+1)+1)+1)+1)+1)+(cL aF x.deed.plan.edges:Nat))+1)+1,((((((((((k+1)+1)+1)+1)+1)+1)+1)+(cL aF x.deed.plan.edges:Nat))+1)+1)+1⟩,(((((((((((k+1)+1)+1)+1)+1)+1)+1)+(cL aF x.deed.plan.edges:Nat))+1)+1)+1)+1,mkL mkI neI x.keep (((((((((((((k+1)+1)+1)+1)+1)+1)+1)+(cL aF x.deed.plan.edges:Nat))+1)+1)+1)+1)+1)⟩

theorem rV {α:Type}{n f:α->Nat}(h:∀x,n x<=16*(1+f x)):∀xs:List α,cL n xs<=16*wtL f xs
 | []=>by simp[cL,wtL]
 | x::xs=>by
  have h1:=h x;have h2:=rV h xs;simp only[cL,wtL,map_cons,sum_cons,length_cons]at *;omega
theorem sX {α:Type}{n:α->Nat}{c:Nat}(h:∀x,n x<=c):∀xs:List α,cL n xs<=c*xs.length
 | []=>by simp[cL]
 | x::xs=>by
  have h1:=h x;have h2:=sX h xs;simp only[cL,map_cons,sum_cons,length_cons,Nat.mul_add]at *;omega

theorem aX5 (xs:List Edge):cL aF xs<=16*xs.length:=Nat.le_trans (sX (n:=aF) (c:=16) (fun y=>by simp[aF]) xs) (Nat.le_refl _)
theorem cb_EntryS (xs:List Entry):cL aJ xs<=16*xs.length:=Nat.le_trans (sX (n:=aJ) (c:=16) (fun y=>by simp[aJ]) xs) (Nat.le_refl _)
theorem cb_TaskS (xs:List Task):cL cE xs<=16*xs.length:=Nat.le_trans (sX (n:=cE) (c:=16) (fun y=>by simp[cE]) xs) (Nat.le_refl _)
theorem nb_Run (x:Run):eA x<=16*(1+x.wt):=by
 have h0:=aX5 x.plan.edges;have h1:=cb_TaskS x.tasks;simp only[eA,Plan.wt,Run.wt,Yard.wt,Deed.wt,Note.wt,File.wt,Disk.wt,Engine.wt,WorldD.wt,ActD.wt,Span.wt,Crew.wt]at *;omega
theorem cb_RunS (xs:List Run):cL eA xs<=16*(wtL (fun y:Run=>y.wt) xs):=rV (n:=eA) (f:=fun y:Run=>y.wt) (fun y=>nb_Run y) xs
theorem cb_EntrySS (xs:List (List Entry)):cL (cL aJ) xs<=16*(wtL (fun y:List Entry=>y.length) xs):=rV (n:=cL aJ) (f:=fun y:List Entry=>y.length) (fun y=>by have:=cb_EntryS y;omega) xs
theorem nt_Yard (x:Yard):dD x<=16*x.wt:=by
 have h2:=cb_EntrySS x.shelf;have h3:=cb_RunS x.runs;unfold dD;have hw:x.wt=(wtL (fun y:List Entry=>y.length) x.shelf)+(wtL (fun y:Run=>y.wt) x.runs):=rfl;omega
theorem cb_ReplyS (xs:List Reply):cL cK xs<=16*xs.length:=Nat.le_trans (sX (n:=cK) (c:=16) (fun y=>by simp[cK]) xs) (Nat.le_refl _)
theorem nb_Deed (x:Deed):cF x<=16*(1+x.wt):=by
 have h0:=aX5 x.plan.edges;simp only[cF,Plan.wt,Run.wt,Yard.wt,Deed.wt,Note.wt,File.wt,Disk.wt,Engine.wt,WorldD.wt,ActD.wt,Span.wt,Crew.wt]at *;omega
theorem cb_DeedS (xs:List Deed):cL cF xs<=16*(wtL (fun y:Deed=>y.wt) xs):=rV (n:=cF) (f:=fun y:Deed=>y.wt) (fun y=>nb_Deed y) xs
theorem cb_WaitS (xs:List Wait):cL dE xs<=16*xs.length:=Nat.le_trans (sX (n:=dE) (c:=16) (fun y=>by simp[dE]) xs) (Nat.le_refl _)
theorem nb_File (x:File):cV x<=16*(1+x.wt):=by unfold cV;omega
theorem cb_FileS (xs:List File):cL cV xs<=16*(wtL (fun y:File=>y.wt) xs):=rV (n:=cV) (f:=fun y:File=>y.wt) (fun y=>nb_File y) xs
theorem nt_Disk (x:Disk):eJ x<=16*x.wt:=by
 have h0:=cb_FileS x.files;unfold eJ;have hw:x.wt=(wtL (fun y:File=>y.wt) x.files):=rfl;omega
theorem nt_Engine (x:Engine):bT x<=16*x.wt:=by
 have h0:=nt_Yard x.yard;have h1:=nt_Disk x.disk;have h4:=cb_WaitS x.waits;unfold bT;have hw:x.wt=x.yard.wt+x.disk.wt+x.waits.length:=rfl;omega
theorem nt_World (x:WorldD):cY x<=16*x.wt:=by
 have h0:=nt_Engine x.engine;have h1:=cb_DeedS x.deeds;have h2:=cb_ReplyS x.replies;unfold cY;have hw:x.wt=x.engine.wt+(wtL (fun y:Deed=>y.wt) x.deeds)+x.replies.length:=rfl;omega
theorem cO3 (xs:List Int):cL neI xs<=16*xs.length:=Nat.le_trans (sX (n:=neI) (c:=16) (fun y=>by simp[neI]) xs) (Nat.le_refl _)
theorem nb_Act (x:ActD):kB x<=16*(1+x.wt):=by
 have h0:=aX5 x.deed.plan.edges;have h1:=cO3 x.keep;simp only[kB,Plan.wt,Run.wt,Yard.wt,Deed.wt,Note.wt,File.wt,Disk.wt,Engine.wt,WorldD.wt,ActD.wt,Span.wt,Crew.wt]at *;omega
theorem cb_ActS (xs:List ActD):cL kB xs<=16*(wtL (fun y:ActD=>y.wt) xs):=rV (n:=kB) (f:=fun y:ActD=>y.wt) (fun y=>nb_Act y) xs
end Go.Proofs.YtjihdmlkpkkpbaaGreat
namespace Go.Proofs.YtjihdmlkpkkpbaaGreat
set_option maxHeartbeats 2000000
open Go.RowKit Go.Proofs.Tryz List Go.Lib
section
variable {P:Program}{n:Nat}{f:Nat->Value}{W:World}{Q:Exit->Act->World->Prop}{K:Value->World->Prop}{d:Option Tmp}{ty:TypeId}{pos:String}{af:Array Go.Edge}{g:Option (Nat×Bool)}{x y:Operand}{t t':TypeId}
theorem kS (a:Nat) (h:a<2 ^ 32):(BitVec.ofInt 64 (a:Int)).toNat=a:=by
 simp[BitVec.toNat_ofInt];omega
theorem stp_or {a b:Nat}(hx:ev n f x=I (a:Int)) (hy:ev n f y=I (b:Int)) (ha:a<2 ^ 32) (hb:b<2 ^ 32) (k:K (I ((a ||| b:Nat):Int)) W):Stp P n ⟨d,.binOp .or t x y t',ty,pos,af,g⟩ f W Q K:=
 Stp.run (v:=I ((a ||| b:Nat):Int)) (by
  have h:=Nat.or_lt_two_pow ha hb;have hw:IntKind.i64.wrap ((BitVec.ofInt 64 (a:Int) ||| BitVec.ofInt 64 (b:Int)).toNat:Int)=((a ||| b:Nat):Int):=by
   rw[BitVec.toNat_or,kS a ha,kS b hb];exact jU ⟨by omega,by omega⟩
  simp[execOp,hx,hy,go_sem];exact hw) k
theorem stp_and {a b:Nat}(hx:ev n f x=I (a:Int)) (hy:ev n f y=I (b:Int)) (ha:a<2 ^ 32) (hb:b<2 ^ 32) (k:K (I ((a &&& b:Nat):Int)) W):Stp P n ⟨d,.binOp .and t x y t',ty,pos,af,g⟩ f W Q K:=
 Stp.run (v:=I ((a &&& b:Nat):Int)) (by
  have h:a &&& b<2 ^ 32:=Nat.and_lt_two_pow _ hb;have hw:IntKind.i64.wrap ((BitVec.ofInt 64 (a:Int) &&& BitVec.ofInt 64 (b:Int)).toNat:Int)=((a &&& b:Nat):Int):=by
   rw[BitVec.toNat_and,kS a ha,kS b hb];exact jU ⟨by omega,by omega⟩
  simp[execOp,hx,hy,go_sem];exact hw) k
end
end Go.Proofs.YtjihdmlkpkkpbaaGreat
