/-
  Appending to what is one's own. Theory alone.
  Appending a string's bytes to what is one's own. Theory alone.
  Calls that are handed a pointer to what is one's own; elements that are lent. Theory alone.
  Whole regions, whole bodies. Theory alone.
  A region that draws its order, some operations of which take what is the call's own, and make it: each is shown once, whatever else has come.
  A region that draws its order, read: what only reads may be done whenever; what makes memory, calls or writes has all else ahead of it or behind it. Theory alone.
  A region that draws its order, all orders of what writes being read one by one: for regions in which nothing bars the rest. Theory alone.
  Whole bodies; what a function is handed, and what it hands back. Theory alone.
  A function's contract, of what is told of its walk. Theory alone.
-/
import Derived.Lib.AppendStr
import Derived.Test.YtpdgdnpajmcaeaaGreatQ01
import Derived.Test.YtpdgdnpajmcaeaaGreatQ02
universe u
set_option linter.unusedSimpArgs false
set_option linter.unusedVariables false
namespace Go.Proofs.YtpdgdnpajmcaeaaGreat
set_option maxHeartbeats 1000000
set_option maxHeartbeats 2000000
open Go.RowKit Go.Proofs.Tryz List

theorem xA {W:World}:∀{l1 l2:List Lf}{cs:List Value}{fp:List Nat},cW W cs (l1++l2) fp->∃c1 c2 f1 f2,cs=c1++c2/\cW W c1 l1 f1/\cW W c2 l2 f2/\fp=f1++f2
 | [],l2,cs,fp,h=>⟨[],cs,[],fp,rfl,rfl,h,rfl⟩
 | .v x::l1,l2,c::cs,fp,h=>by
  obtain⟨c1,c2,f1,f2,rfl,h1,h2,rfl⟩:=xA (l1:=l1) h.2;exact⟨c::c1,c2,f1,f2,rfl,⟨h.1,h1⟩,h2,rfl⟩
 | .s β i ys::l1,l2,c::cs,fp,h=>by
  obtain⟨g1,g2,h0,h,rfl⟩:=h;obtain⟨c1,c2,f1,f2,rfl,h1,h2,rfl⟩:=xA (l1:=l1) h;exact⟨c::c1,c2,g1++f1,f2,rfl,⟨g1,f1,h0,h1,rfl⟩,h2,by simp⟩
 | .v x::l1,l2,[],fp,h=>h.elim
 | .s β i ys::l1,l2,[],fp,h=>h.elim
def lvs {α:Type}(i:Dsh α):List α->List Lf
 | []=>[]
 | y::ys=>i.lv y++lvs i ys
theorem nP {α:Type}(i:Dsh α) {W:World}:∀{ys:List α}{cs:List Value}{fp:List Nat},cW W cs (lvs i ys) fp->(∀y∈ys,i.good y) -> @Elems α i.toShape W cs ys fp
 | [],[],fp,h,_=>⟨rfl,h⟩
 | [],_::_,fp,h,_=>h.elim
 | y::ys,cs,fp,h,hg=>by
  obtain⟨c1,c2,f1,f2,rfl,h1,h2,rfl⟩:=xA h;exact⟨c1,c2,f1,f2,rfl,i.inn (hg y mem_cons_self) h1,nP i h2 fun y hy=>hg y (mem_cons_of_mem _ hy),rfl⟩
theorem qG {w w':World}(hb:Below w.heap.size w w'):∀{cs:List Value}{ls:List Lf}{fp:List Nat},cW w cs ls fp->cW w' cs ls fp
 | [],[],_,h=>h
 | [],.v _::_,_,h=>h.elim
 | [],.s _ _ _::_,_,h=>h.elim
 | _::_,[],_,h=>h.elim
 | c::cs,.v u::ls,fp,h=>⟨h.1,qG hb h.2⟩
 | c::cs,.s β i ys::ls,fp,h=>by
  obtain⟨f1,f2,h1,h2,e⟩:=h;exact⟨f1,f2,Sl.below h1 hb,qG hb h2,e⟩
theorem uN {α:Type}[Shape α] (hp:lF α) {W:World}:∀{xs:List α}{cells:List Value}{fp:List Nat},Elems W cells xs fp->fp=[]
 | [],_,_,h=>h.2
 | x::xs,_,_,⟨cs,rest,f1,f2,h1,h2,h3,h4⟩=>by rw[h4,hp _ _ _ _ h2,uN hp h3];rfl
section
variable {P:Program}{n:Nat}{f:Nat->Value}{w0 W:World}{rs:List Res}{Q:Exit->Act->World->Prop}{d:Option Tmp}{ty:TypeId}{pos:String}{af:Array Go.Edge}{g:Option (Nat×Bool)}{K:Value->World->Prop}
theorem rY {α:Type}(i:Dsh α) {t e e':TypeId}{bytes:Nat}{s x:Operand}{v:Value}{xs ys:List α}{fe fz:List Nat}{b m:Nat}{cs:List Value}(hT:ApOk P t e α bytes) (hs:ev n f s=v) (hx:ev n f x = .slice (some ⟨b,0,none⟩) m m) (hm:ys.length=m) (hg:∀y∈ys,i.good y)
  (hst:St w0 W (Res.row e v xs fe::Res.bx b cs e'::Res.pc cs (lvs i ys) fz::rs)) (h63:xs.length+m<=maxLen) (hby:(xs.length+m)*bytes<=140737488355328)
  (k:∀v' fe' W',St w0 W' (Res.row e v' (xs++ys) fe'::rs)->K v' W') :
  Stp P n ⟨d,.call { callee := .builtin .append,args := #[s,x],argTypes := #[t,t] },ty,pos,af,g⟩ f W Q K:=by
 have hc:=hst.get 2 rfl;have hst2:St w0 W (Res.row e v xs fe::Res.bx b cs e'::rs):=hst.d2;have hb:=hst.get 1 rfl;have hn:=hst.nodup;have h2:=hst.f2;have hn2:=h2.nodup;rw[flatMap_cons,nodup_append]at hn2;refine jX hT hs hx hm hst2 (nP i hc.1 hg) ?_ hc.2 hn2.1 ?_ h63 hby fun v' W' st'=>k v' _ W' st'.d1
 ·intro j u hj;rw[Addr.add_mid];exact bE hb j u hj
 intro a ha;refine⟨fun h=>hn2.2.2 a ha a ?_ rfl,fun h=>hn2.2.2 a ha a ?_ rfl,h2.fresh (Res.pc cs (lvs i ys) fz) (by simp) a ha⟩
 ·rw[flatMap_cons];exact mem_append_left _ h
 rw[flatMap_cons];exact mem_append_right _ h
end
theorem St.lit {α:Type}(i:Dsh α) {w0 W:World}{b:Nat}{cs:List Value}{t:TypeId}{ys:List α}{fp:List Nat}{rs:List Res}(hne:ys≠[]) (hl:ys.length<=67108864) (hg:∀y∈ys,i.good y) (st:St w0 W (Res.bx b cs t::Res.pc cs (lvs i ys) fp::rs)):St w0 W (@Res.own (List α) _ _ (Hd.val ⟨some ⟨b,0,none⟩,ys.length,ys.length⟩) ys (b::fp)::rs):=by
 have hb:W.heap[b]? = some (.cells cs.toArray t (0,0)):=st.get 0 rfl;have hc:=st.get 1 rfl;have he:=nP i hc.1 hg;refine St.trade (rs1:=[Res.bx b cs t,Res.pc cs (lvs i ys) fp]) (rs2:=[_]) st ?_ ?_ ?_
 ·have hn:=st.nodup;rw[flatMap_cons,flatMap_cons,<- append_assoc,nodup_append]at hn;simpa [Res.own,Res.bx,Res.pc] using hn.1
 ·intro c hc;simpa [Res.own,Res.bx,Res.pc] using hc
 intro r hr;simp only[mem_singleton]at hr;subst hr;have hsl:Sl W (Hd.val ⟨some ⟨b,0,none⟩,ys.length,ys.length⟩) ys (b::fp):=
  ⟨some ⟨b,0,none⟩,ys.length,rfl,Nat.le_refl _,by omega,.inr ⟨b,0,fp,hne,rfl,rfl,(Array.getElem?_eq_some_iff.1 hb).1,he.at 0 (bE hb)⟩⟩
 refine⟨hsl.v,fun c hm=>?_⟩;rcases mem_cons.1 hm with rfl | hm
 ·exact⟨_,_,hb⟩
 exact hc.2 c hm
theorem wZ {W:World}:∀{c1:List Value}{l1:List Lf}{f1:List Nat}{c2:List Value}{l2:List Lf}{f2:List Nat},cW W c1 l1 f1->cW W c2 l2 f2->cW W (c1++c2) (l1++l2) (f1++f2)
 | [],[],f1,c2,l2,f2,h,h2=>by
  have h:f1=[]:=h;subst h;exact h2
 | [],.v _::_,f1,c2,l2,f2,h,_=>h.elim
 | [],.s _ _ _::_,f1,c2,l2,f2,h,_=>h.elim
 | _::_,[],f1,c2,l2,f2,h,_=>h.elim
 | c::c1,.v u::l1,f1,c2,l2,f2,h,h2=>⟨h.1,wZ h.2 h2⟩
 | c::c1,.s β i ys::l1,f1,c2,l2,f2,h,h2=>by
  obtain⟨g1,g2,h3,h4,rfl⟩:=h;exact⟨g1,g2++f2,h3,wZ h4 h2,by rw[append_assoc]⟩
theorem bN1 (z:List Value) (hz:0<z.length):∀(n k:Nat),k<n*z.length->(reps z n)[k]? = z[k % z.length]?
 | 0,k,h=>by simp at h
 | n+1,k,h=>by
  show (z++reps z n)[k]? = _;by_cases hk:k<z.length
  ·rw[getElem?_append_left hk,Nat.mod_eq_of_lt hk]
  ·rw[getElem?_append_right aA,bN1 z hz n (k-z.length) (by rw[Nat.add_mul]at h;omega)]
   conv=>rhs;rw[show k=(k-z.length)+z.length by omega,Nat.add_mod_right]
theorem aZ2 {α:Type}(z:List α):∀n,(reps z n).length=n*z.length
 | 0=>by simp[reps]
 | n+1=>by show (z++reps z n).length=_;rw[length_append,aZ2 z n,Nat.add_mul];omega
theorem made_reps (z:Array Value) (n:Nat) (hz:0<z.size):(madeCells z (n*z.size)).toList=reps z.toList n:=by
 apply ext_getElem?;intro k;by_cases hk:k<n*z.size
 ·rw[bN1 z.toList (by simpa using hz) n k (by simpa using hk)];have hm:k % z.size<z.size:=Nat.mod_lt _ hz;simp only[madeCells,Array.toList_map,Array.toList_range,getElem?_map,getElem?_range hk,Option.map_some,Array.length_toList];rw[getElem!_pos z _ hm];simp[hm]
 rw[getElem?_eq_none (by rw[Array.length_toList,size_madeCells];omega),getElem?_eq_none (by rw[aZ2];simpa using hk)]
def aW9:List Sc->List Lf->Tr->Tr
 | [],[],k=>k
 | c::cs,.v x::ls,k=>.e0 c.val x (aW9 cs ls k)
 | c::cs,.s _ i ys::ls,k=>match c with
  | .vl (.slice none 0 0)=>.e1 (⟨i,[]⟩:Dat) ⟨i,ys⟩ (aW9 cs ls k)
  | _=>.no
 | _,_,_=>.no
theorem tP {W:World}:∀{cs:List Sc}{ls:List Lf}{k:Tr},(aW9 cs ls k).holds->cW W (cs.map Sc.val) ls []/\k.holds
 | [],[],k,h=>⟨rfl,h⟩
 | c::cs,.v x::ls,k,h=>by
  obtain⟨h1,h2⟩:=h;obtain⟨h3,h4⟩:=tP h2;exact⟨⟨h1,h3⟩,h4⟩
 | c::cs,.s β i ys::ls,k,h=>by
  unfold aW9 at h;split at h
  ·obtain⟨h1,h2⟩:=h;simp only[Dat.mk.injEq,heq_eq_eq,true_and]at h1;subst h1;obtain⟨h3,h4⟩:=tP h2;exact⟨⟨[],[],bH9,h3,rfl⟩,h4⟩
  ·exact h.elim
 | [],.v _::_,_,h=>h.elim
 | [],.s _ _ _::_,_,h=>h.elim
 | _::_,[],_,h=>h.elim
theorem aH6 {α:Type}(i:Dsh α) {W:World}{cs:List Value}{z:α}(h:cW W cs (i.lv z) []):∀n,cW W (reps cs n) (lvs i (List.replicate n z)) []
 | 0=>rfl
 | n+1=>by
  rw[replicate_succ];exact wZ h (aH6 i h n)
theorem St.made {α:Type}(i:Dsh α) {w0 W:World}{b n:Nat}{cs:List Value}{t:TypeId}{z:α}{rs:List Res}(hc:∀W,cW W cs (i.lv z) []) (hn:n<=67108864) (hz:i.good z) (st:St w0 W (Res.bx b (reps cs n) t::rs)):∃fp,St w0 W (@Res.own (List α) _ _ (Hd.val ⟨some ⟨b,0,none⟩,n,n⟩) (List.replicate n z) fp::rs):=by
 cases n with
 | zero=>
  refine⟨[],St.trade (rs1:=[Res.bx b (reps cs 0) t]) (rs2:=[_]) st ?_ ?_ ?_⟩
  ·simp[Res.own]
  ·intro c hc;simp[Res.own]at hc
  intro r hr;simp only[mem_singleton]at hr;subst hr;have hsl:Sl W (Hd.val ⟨some ⟨b,0,none⟩,0,0⟩) ([]:List α) []:=⟨some ⟨b,0,none⟩,0,rfl,Nat.le_refl _,by omega,.inl ⟨rfl,rfl⟩⟩;exact⟨hsl.v,fun c hm=>by cases hm⟩
 | succ n=>
  have st2:St w0 W (Res.bx b (reps cs (n+1)) t::Res.pc (reps cs (n+1)) (lvs i (List.replicate (n+1) z)) []::rs):=by
   refine St.trade (rs1:=[Res.bx b (reps cs (n+1)) t]) (rs2:=[Res.bx b (reps cs (n+1)) t,Res.pc (reps cs (n+1)) (lvs i (List.replicate (n+1) z)) []]) st ?_ ?_ ?_
   ·simp[Res.bx,Res.pc]
   ·intro c hc;simpa [Res.bx,Res.pc] using hc
   intro r hr;rcases mem_cons.1 hr with rfl | hr
   ·exact st.get 0 rfl
   simp only[mem_singleton]at hr;subst hr;exact⟨aH6 i (hc W) _,fun c hm=>by cases hm⟩
  have:=St.lit i (ys:=List.replicate (n+1) z) (by simp) (by simpa using hn) (fun y hy=>by rw[(mem_replicate.1 hy).2];exact hz) st2;rw[length_replicate]at this;exact⟨_,this⟩
section
variable {P:Program}{A:Type}{R:A->Prop}
def mkN (P:Program) {A:Type}{R:A->Prop}(s:S) (t:TypeId) (c cy:Sc) (d:D P R) (K:SV->S->D P R->Tr):Tr:=
 match d with
 | .mk i z n e _ bytes _ _ _ k=>.e0 c.val (I e)<|.e0 cy.val c.val<|.e0 (P.underlying t) (some (.slice (elT P t))) <|
   opt ((P.info? (elT P t)).bind fun i=>i.zero.map fun z=>(i.size,i.bytes,z.cells)) fun q=>.e0 q.1 (iT P (elT P t)).length<|.e0 q.2.1 bytes<|.e0 (q.2.2) (((iT P (elT P t)).map Sc.val).toArray)<|.e0 (Nat.ble 1 (iT P (elT P t)).length) true<|aW9 (iT P (elT P t)) (i.lv z) <|
   .fn fun g:Nat×List Nat=>K (one (.rf s.nx ⟨some ⟨g.1,0,none⟩,n,n⟩)) ⟨s.E,(s.nx,.own i.toShape ⟨some ⟨g.1,0,none⟩,n,n⟩ (List.replicate n z) g.2)::s.O,s.B,s.nx+1⟩ k
 | _=>mkT P s t c cy fun v s=>K v s d
theorem mkN_ok {w0 W:World}{s:S}{t:TypeId}{x y:Operand}{c cy:Sc}{dd:D P R}{K:SV->S->D P R->Tr}{n:Nat}{f:Nat->Value}{Q:Exit->Act->World->Prop}{KK:Value->World->Prop}{d:Option Tmp}{ty:TypeId}{pos:String}{af:Array Go.Edge}{g:Option (Nat×Bool)}
  (hx:ev n f x=c.val) (hy:ev n f y=cy.val) (h:(mkN P s t c cy dd K).holds) (st:St w0 W s.rs) (fa:Facts w0 W s.B) (k:∀v s' d' W',(K v s' d').holds->s'.E=s.E->(∃N,s'.O=N++s.O)->Below W.heap.size W W'->St w0 W' s'.rs->Facts w0 W' s'.B->KK v.val W'):Stp P n ⟨d,.makeSlice t x y,ty,pos,af,g⟩ f W Q KK:=by
 unfold mkN at h;split at h
 ·next α i z m e he bytes hn hb hz kk=>
  obtain⟨h1,h2,h3,h⟩:=h;refine aD h fun q hq h=>?_
  obtain⟨h4,h5,h6,h7,h⟩:=h;obtain⟨h8,h9⟩:=tP (W:=W) h;obtain⟨fi,hi,hq⟩:=Option.bind_eq_some_iff.1 hq;obtain⟨zv,hzv,rfl⟩:=Option.map_eq_some_iff.1 hq;simp only at h4 h5 h6;subst he;have h7:=Nat.le_of_ble_eq_true h7;have hb':(m:Int)*(fi.bytes:Int)<=140737488355328:=by rw[h5];have:=Int.ofNat_le.2 hb;rw[Int.natCast_mul]at this;exact this
  have hmk:=run_make (P:=P) W t (elT P t) fi zv h3 hi hzv .i64 .i64 m m aA aA (by rw[Int.mul_comm];omega) aA;rw[Int.toNat_natCast]at hmk;have hx':ev n f x = .int .i64 (m:Int):=hx.trans h1;have hy':ev n f y = .int .i64 (m:Int):=hy.trans (h2.trans h1);have hsz:fi.size=zv.cells.size:=by rw[h6,h4];simp
  have hlen:0<zv.cells.size:=by rw[h6,size_toArray,length_map];exact h7
  have hcl:(madeCells zv.cells (m*fi.size)).toList=reps ((iT P (elT P t)).map Sc.val) m:=by rw[hsz,made_reps _ _ hlen,h6]
  refine Stp.run (v := .slice (some ⟨W.heap.size,0,none⟩) m m) (W':=W.alloc (.cells (madeCells zv.cells (m*fi.size)) (elT P t))) (by simp only[execOp,hx',hy',Sem.run_bind,hmk,Result.andThen_ok];rfl) ?_;have hst:=st.alloc (madeCells zv.cells (m*fi.size)).toList (elT P t);rw[Array.toArray_toList,hcl]at hst;obtain⟨fp,hst2⟩:=St.made i (fun W=>(tP (W:=W) h).1) hn hz hst;have hbl:Below W.heap.size W (W.alloc (.cells (madeCells zv.cells (m*fi.size)) (elT P t))):=fH (Below.refl _ _);exact k _ _ _ _ (h9 (W.heap.size,fp)) rfl ⟨[_],rfl⟩ hbl hst2 (fa.up hbl)
 exact mkT_ok hx hy h st fa fun v s' W' h' e g1 g2 st' fa'=>k v s' _ W' h' e g1 g2 st' fa'
end
def vfit:List Sc->List Lf->Tr->Tr
 | [],[],k=>k
 | c::cs,.v x::ls,k=>.e0 c.val x (vfit cs ls k)
 | _,_,_=>.no
theorem aR6 {W:World}:∀{cs:List Sc}{ls:List Lf}{k:Tr},(vfit cs ls k).holds->cW W (cs.map Sc.val) ls []/\k.holds
 | [],[],k,h=>⟨rfl,h⟩
 | c::cs,.v x::ls,k,h=>by
  obtain⟨h1,h2⟩:=h;obtain⟨h3,h4⟩:=aR6 h2;exact⟨⟨h1,h3⟩,h4⟩
 | c::cs,.s _ _ _::ls,_,h=>h.elim
 | [],_::_,_,h=>h.elim
 | _::_,[],_,h=>h.elim
theorem St.pcN {w0 W:World}{b:Nat}{cs:List Value}{t:TypeId}{ls:List Lf}{rs:List Res}(h:cW W cs ls []) (st:St w0 W (Res.bx b cs t::rs)):St w0 W (Res.bx b cs t::Res.pc cs ls []::rs):=by
 refine St.trade (rs1:=[Res.bx b cs t]) (rs2:=[Res.bx b cs t,Res.pc cs ls []]) st ?_ ?_ ?_
 ·simp[Res.bx,Res.pc]
 ·intro c hc;simpa [Res.bx,Res.pc] using hc
 intro r hr;rcases mem_cons.1 hr with rfl | hr
 ·exact st.get 0 rfl
 simp only[mem_singleton]at hr;subst hr;exact⟨h,fun c hm=>by cases hm⟩
theorem St.litrow {α:Type}(i:Dsh α) (hp : @lF α i.toShape) {w0 W:World}{b:Nat}{cs:List Value}{t:TypeId}{ys:List α}{fp:List Nat}{rs:List Res}(hl:ys.length<=1000000) (hg:∀y∈ys,i.good y) (st:St w0 W (Res.bx b cs t::Res.pc cs (lvs i ys) fp::rs)):St w0 W (@Res.row α i.toShape t (Hd.val ⟨some ⟨b,0,none⟩,ys.length,ys.length⟩) ys []::rs):=by
 have hc:=st.get 1 rfl;have he:=nP i hc.1 hg;have hf:=uN hp he;subst hf;exact St.row_lit (m:=ys.length) (st.d1) rfl (by unfold maxLen;omega) he
section
variable {P:Program}{A:Type}{R:A->Prop}
def isLo:D P R->Bool
 | .lo ..=>true
 | .lr _ _ t ..=>Nat.beq t 999999
 | .lb ..=>true
 | _=>false
def isDz:D P R->Bool
 | .dz _=>true
 | _=>false
def loT (P:Program) {A:Type}{R:A->Prop}(s:S) (t:TypeId) (len:Nat) (vs:List (Nat×SV)) (d:D P R) (K:SV->S->D P R->Tr):Tr:=
 let cs:=bsU (iT P (elT P t)).length vs (reps (iT P (elT P t)) len)
 match d with
 | .lo i ys _ _ _ k=>.e0 (fun W=>(Instr.buildSlice t len (vs.map fun p=>(p.1,p.2.val)).toArray).run P W) (fun W=>.ok (.slice (some ⟨W.heap.size,0,none⟩) len len) (W.alloc (.cells (cs.map Sc.val).toArray (elT P t))))<|.e0 len ys.length<|vfit cs (lvs i ys) <|
   .fn fun g:Nat=>K (one (.rf s.nx ⟨some ⟨g,0,none⟩,ys.length,ys.length⟩)) ⟨s.E,(s.nx,.own i.toShape ⟨some ⟨g,0,none⟩,ys.length,ys.length⟩ ys [g])::s.O,s.B,s.nx+1⟩ k
 | .lr i _ _ ys _ _ k=>.e0 (fun W=>(Instr.buildSlice t len (vs.map fun p=>(p.1,p.2.val)).toArray).run P W) (fun W=>.ok (.slice (some ⟨W.heap.size,0,none⟩) len len) (W.alloc (.cells (cs.map Sc.val).toArray (elT P t))))<|.e0 len ys.length<|vfit cs (lvs i ys) <|
   .fn fun g:Nat=>K (one (.rf s.nx ⟨some ⟨g,0,none⟩,ys.length,ys.length⟩)) ⟨s.E,(s.nx,.row i.toShape (elT P t) ⟨some ⟨g,0,none⟩,ys.length,ys.length⟩ ys [])::s.O,s.B,s.nx+1⟩ k
 | .lb i ys _ _ _ k=>.e0 (fun W=>(Instr.buildSlice t len (vs.map fun p=>(p.1,p.2.val)).toArray).run P W) (fun W=>.ok (.slice (some ⟨W.heap.size,0,none⟩) len len) (W.alloc (.cells (cs.map Sc.val).toArray (elT P t))))<|.e0 len ys.length<|xB s cs (lvs i ys) <|
   .fn fun g:Nat×List Nat=>K (one (.rf s.nx ⟨some ⟨g.1,0,none⟩,ys.length,ys.length⟩)) ⟨s.E,s.O,(s.nx,false,.sl i.toShape ⟨some ⟨g.1,0,none⟩,ys.length,ys.length⟩ ys g.2)::s.B,s.nx+1⟩ k
 | _=>.no
theorem loT_ok {w0 W:World}{s:S}{t:TypeId}{len:Nat}{ps:List (Nat×Operand)}{vs:List (Nat×SV)}{dd:D P R}{K:SV->S->D P R->Tr}{n:Nat}{f:Nat->Value}{Q:Exit->Act->World->Prop}{KK:Value->World->Prop}{d:Option Tmp}{ty:TypeId}{pos:String}{af:Array Go.Edge}{g:Option (Nat×Bool)}
  (hx:ps.map (fun (i,x)=>(i,ev n f x))=vs.map fun p=>(p.1,p.2.val)) (h:(loT P s t len vs dd K).holds) (st:St w0 W s.rs) (fa:Facts w0 W s.B) (k:∀v s' d' W',(K v s' d').holds->s'.E=s.E->(∃N,s'.O=N++s.O)->Below W.heap.size W W'->St w0 W' s'.rs->Facts w0 W' s'.B->KK v.val W'):Stp P n ⟨d,.buildSlice t len ps.toArray,ty,pos,af,g⟩ f W Q KK:=by
 unfold loT at h;simp only at h;split at h
 ·next α i ys hne hl hg kk=>
  obtain⟨h1,rfl,h2⟩:=h;refine fE hx (congrFun h1 W) st fun b W' hb st'=>?_
  obtain⟨h3,h4⟩:=aR6 (W:=W') h2;have st2:=St.lit i hne (Nat.le_trans hl eZ) hg (St.pcN h3 st');exact k _ _ _ W' (h4 b) rfl ⟨[_],rfl⟩ hb st2 (fa.up hb)
 ·next α i hp _ ys hl hg kk=>
  obtain⟨h1,rfl,h2⟩:=h;refine fE hx (congrFun h1 W) st fun b W' hb st'=>?_
  obtain⟨h3,h4⟩:=aR6 (W:=W') h2;have st2:=St.litrow i hp hl hg (St.pcN h3 st');exact k _ _ _ W' (h4 b) rfl ⟨[_],rfl⟩ hb st2 (fa.up hb)
 ·next α i ys hne hl hg kk=>
  obtain⟨h1,rfl,h2⟩:=h;obtain⟨⟨fp,hc⟩,h4⟩:=nU st fa h2;refine fE hx (congrFun h1 W) st fun b W' hb st'=>?_
  have hbx:=st'.get 0 rfl;have hc':=qG hb hc;have he:=nP i hc' hg;refine k _ _ _ W' (h4 (b,b::fp)) rfl ⟨[],rfl⟩ hb st'.d0 fun e he'=>?_
  rcases mem_cons.1 he' with rfl | he'
  ·exact⟨some ⟨b,0,none⟩,ys.length,rfl,Nat.le_refl _,by omega,.inr ⟨b,0,fp,hne,rfl,rfl,(Array.getElem?_eq_some_iff.1 hbx).1,he.at 0 (bE hbx)⟩⟩
  exact fa.up hb e he'
 exact h.elim
theorem aY5 (ao:Option Addr) (h c s:Nat):sliced ao 0 h c s = .slice ao h c:=by
 cases ao with
 | none=>simp[sliced]
 | some a=>by_cases hc:c=0<;>simp[sliced,hc,Addr.add]
theorem sB:∀(C Z:List Value) (o m:Nat),m<=o->(aK C o Z).take m=C.take m
 | C,Z,o,0,_=>by simp
 | [],Z,o,m+1,_=>by cases o<;>cases Z<;>rfl
 | c::C,Z,0,m+1,h=>by omega
 | c::C,Z,o+1,m+1,h=>by
  have:=sB C Z o m aA;show (c::aK C o Z).take (m+1)=_;simp[this]
def czT (P:Program) {A:Type}{R:A->Prop}(s:S) (t:TypeId) (c:Sc) (d:D P R) (K:SV->S->D P R->Tr):Tr:=
 nrm d fun d=>match c,d with
  | .rf r h2,.cz i j xs a _ k=>match lku s.B (r+2000000),lku s.O j with
   | some (_,.dv h2' h1 a' sz),some (.own i' h xs' _)=>.e0 h2 h2'<|.e0 h h1<|.e0 a' a<|.e0 sz i.size<|.e1 (⟨i',xs'⟩:Dat) ⟨i.toShape,xs⟩<|.e0 (Nat.ble 1 i.size) true<|.e0 (P.underlying t) (some (.slice (elT P t))) <|
     .e0 (((P.info? (elT P t)).bind (·.zero)).map (·.cells)) (some ((iT P (elT P t)).map Sc.val).toArray)<|.e0 ((iT P (elT P t)).map Sc.val).length i.size<|.e0 (((iT P (elT P t)).map Sc.val).all Value.oneCell') true <|
     .fn fun fp:List Nat=>K (.tu []) ⟨s.E,(j,.own i.toShape ⟨h.ao,a,h.cap⟩ (xs.take a) fp)::bB s.O j,lasting s.B,s.nx⟩ k
   | _,_=>.no
  | _,_=>.no
theorem czT_ok {w0 W:World}{s:S}{t:TypeId}{x:Operand}{c:Sc}{dd:D P R}{K:SV->S->D P R->Tr}{n:Nat}{f:Nat->Value}{Q:Exit->Act->World->Prop}{KK:Value->World->Prop}{d:Option Tmp}{ty:TypeId}{pos:String}{af:Array Go.Edge}{g:Option (Nat×Bool)}
  (hx:ev n f x=c.val) (h:(czT P s t c dd K).holds) (st:St w0 W s.rs) (fa:Facts w0 W s.B) (k:∀v s' d' W',(K v s' d').holds->s'.E=s.E->St w0 W' s'.rs->Facts w0 W' s'.B->KK v.val W') :
  Stp P n ⟨d,.call { callee := .builtin .clear,args := #[x],argTypes := #[t] },ty,pos,af,g⟩ f W Q KK:=by
 unfold czT at h;refine cG h fun d' h1=>?_
 clear h;split at h1
 ·next _ _ r h2 α i j xs a ha kk=>
  split at h1
  ·next l0 h2' hh1 a' sz _ i' h xs' fp hB hO=>
   obtain⟨rfl,rfl,rfl,rfl,h4,h5,h6,h7,h8,h9,h10⟩:=h1;simp only[Dat.mk.injEq]at h4;obtain⟨rfl,h11,h12⟩:=h4;obtain⟨rfl,rfl⟩:=And.intro (eq_of_heq h11) (eq_of_heq h12);have hdv:h2.val=sliced h.ao a' h.n h.cap i.size:=by
    have:=fa _ (kI hB);cases l0<;>exact this
   have hsz:0<i.size:=Nat.le_of_ble_eq_true h5;have st2:=St.take (rs:=[]) (by simpa [Or,S.rs] using st) hO;rw[append_nil]at st2;obtain⟨b,off,cap,C,e,fe,e1,e2,e3,e4,st3⟩ := @St.ownOpen' _ i.toShape _ _ _ _ _ _ st2 hsz aA;have e1:Value.slice h.ao h.n h.cap = .slice (some ⟨b,off,none⟩) xs'.length cap:=e1;simp only[Value.slice.injEq]at e1;obtain⟨e5,e6,e7⟩:=e1;have hxv:ev n f x = .slice (some ⟨b,off+a'*i.size,none⟩) (xs'.length-a') (cap-a'):=by
    rw[hx];show h2.val=_;rw[hdv,e5,e6,e7,nE aA]
   have hmul:a'*i.size+(xs'.length-a')*i.size=xs'.length*i.size:=by rw[<- Nat.add_mul];congr 1;omega
   refine sP (s:=i.size) h6 h7 h8 hsz (fun v hv=>by rw[all_eq_true]at h9;exact h9 v hv) hxv aA st3 (by have:off+xs'.length*i.size<=C.length:=e4;omega) fun Z W' hZ st4=>?_
   obtain⟨f1,f2,hfe,p1,_⟩ := @Elems.parts' _ i.toShape W' xs' _ fe a' aA (st4.get 1 rfl).1;have st5:St w0 W' (Res.bx b (aK C (off+a'*i.size) Z) e :: @Res.es _ i.toShape (((C.drop off).take (xs'.length*i.size)).take (a'*i.size)) (xs'.take a') f1::Or (bB s.O j)):=by
    have h13:=St.es_sub (fe':=f1) st4.f1 (by rw[hfe];exact sublist_append_left _ _) p1;exact h13.swap
   obtain⟨fp',st6⟩ := @St.ownShut' _ i.toShape _ _ _ b off cap a' _ _ e _ _ st5 (by
    show _=((aK C (off+a'*i.size) Z).drop off).take (a'*i.size);have hle:a'*i.size<=xs'.length*i.size:=by omega
    rw[take_take,Nat.min_eq_left hle];have h14:=sB C Z (off+a'*i.size) (off+a'*i.size) (Nat.le_refl _);have h15:∀L:List Value,(L.drop off).take (a'*i.size)=(L.take (off+a'*i.size)).drop off:=fun L=>by rw[drop_take];congr 1;omega
    rw[h15,h15,h14]) (by rw[length_take];omega) aA e3
   refine k _ _ _ W' (h10 fp') rfl ?_ fa.lasting;show St w0 W' (Res.own (Value.slice h.ao a' h.cap) (xs'.take a') fp'::Or (bB s.O j));rw[e5,e7];exact st6
  exact h1.elim
 exact h1.elim
def dzT (P:Program) {A:Type}{R:A->Prop}(s:S) (t:TypeId) (c y:Sc) (d:D P R) (K:SV->S->D P R->Tr):Tr:=
 match c,d with
  | .rf j h,.dz k=>match lku s.O j with
   | some (.own i h' _ _)=>.e0 h.ao h'.ao<|.e0 h.cap h'.cap<|.e0 y.val (I h'.n)<|.e0 (elK P t) (some i.size)<|K (one (.rf j h')) s k
   | _=>.no
  | _,_=>.no
theorem dzT_ok {w0 W:World}{s:S}{t:TypeId}{x y:Operand}{c cy:Sc}{dd:D P R}{K:SV->S->D P R->Tr}{n:Nat}{f:Nat->Value}{Q:Exit->Act->World->Prop}{KK:Value->World->Prop}{d:Option Tmp}{ty:TypeId}{pos:String}{af:Array Go.Edge}{g:Option (Nat×Bool)}
  (hx:ev n f x=c.val) (hy:ev n f y=cy.val) (h:(dzT P s t c cy dd K).holds) (st:St w0 W s.rs) (fa:Facts w0 W s.B) (k:∀v s' d',(K v s' d').holds->s'.E=s.E->St w0 W s'.rs->Facts w0 W s'.B->KK v.val W):Stp P n ⟨d,.slice t x none (some y) none,ty,pos,af,g⟩ f W Q KK:=by
 unfold dzT at h;split at h
 ·next j hd kk=>
  split at h
  ·next i h' xs fp hj=>
   obtain⟨h1,h2,h3,h4,h5⟩:=h;obtain⟨e2,hT⟩:=nF h4;have hs:=gQ (st.holds _ (oG hj));obtain⟨ao,cap,e0,hc,_⟩:=hs;have e0:Value.slice h'.ao h'.n h'.cap = .slice ao xs.length cap:=e0;simp only[Value.slice.injEq]at e0;have hel:P.elem t=e2:=by simp[Program.elem,hT.desc]
   have hu:P.underlying t=some (.slice (P.elem t)):=by rw[hel];exact hT.desc
   refine Stp.run (v:=h'.val) ?_ (k _ _ _ h5 rfl st fa);have hx':ev n f x = .slice hd.ao hd.n hd.cap:=hx;have hy':ev n f y = .int .i64 (h'.n:Int):=hy.trans h3;simp only[execOp,hx',hy',Sem.run_bind,Option.map_none,Option.map_some];rw[run_sliceAt_slice (h:=hu),run_slice_h (ht:=hu) (h0:=by omega) (h2:=by omega),hel,eT hT.size];simp only[Result.andThen_ok,Int.toNat_natCast,aY5,h1,h2];rfl
  exact h.elim
 exact h.elim
end
theorem pY {W:World}:∀xs:List UInt8,Elems W (xs.map fun y=>Value.int .u8 (y.toNat:Int)) xs []
 | []=>⟨rfl,rfl⟩
 | y::xs=>⟨[.int .u8 (y.toNat:Int)],_,[],[],rfl,⟨rfl,rfl,trivial⟩,pY xs,rfl⟩
theorem stp_bytesOf_sl {P:Program}{n:Nat}{f:Nat->Value}{W w0:World}{rs:List Res}{Q:Exit->Act->World->Prop}{K:Value->World->Prop}{d:Option Tmp}{ty:TypeId}{pos:String}{af:Array Go.Edge}{g:Option (Nat×Bool)}{x:Operand}{t t' e:TypeId}{s:ByteArray}
  (hs:P.underlying t=some .string) (hd:P.underlying t'=some (.slice e)) (he:P.underlying e=some (.int .u8)) (hx:ev n f x = .string s) (hl:s.size<=maxLen) (hst:St w0 W rs)
  (k:∀v fp W',Below W.heap.size W W'->St w0 W' rs->Sl W' v s.data.toList fp->K v W'):Stp P n ⟨d,.convert t t' x,ty,pos,af,g⟩ f W Q K:=by
 have hrun:=run_bytes_of_string (P:=P) W t t' e s hs hd he;have hge:=grownCap_ge W s.size 0 e;have hcm:=grownCap_le_maxLen W s.size 0 e hl;have hl2:s.data.toList.length=s.size:=by rw[Array.length_toList];rfl
 refine Stp.run (v:=_) (W':=_) (by simp only[execOp,hx,Sem.run_bind,hrun,Result.andThen_ok];rfl) (k _ (if s.data.toList=[] then [] else [W.heap.size]) _ ?_ ?_ ?_)
 ·exact⟨rfl,rfl,rfl,by simp,fun j hj=>Below.heap_alloc W.drew _ j hj⟩
 ·exact hst.call (rs':=[]) (St.of_below ⟨rfl,rfl,rfl,by simp,fun j hj=>Below.heap_alloc W.drew _ j hj⟩)
 refine⟨some ⟨W.heap.size,0,none⟩,grownCap W s.size 0 e,by rw[hl2],by rw[hl2];exact hge,hcm,?_⟩;by_cases hne:s.data.toList=[]
 ·exact .inl ⟨hne,by rw[if_pos hne]⟩
 have hh:=heap_alloc_new W.drew (.cells (bytesRow s (grownCap W s.size 0 e)) e ((bytesRow s (grownCap W s.size 0 e)).size,(bytesRow s (grownCap W s.size 0 e)).size+1));refine .inr ⟨W.heap.size,0,[],hne,rfl,by rw[if_neg hne],(Array.getElem?_eq_some_iff.1 hh).1,(pY s.data.toList).at 0 ?_⟩;intro j u hj;have hjl:j<s.data.toList.length:=by
  have:=(gsi_.1 hj).1;simpa using this
 rw[cell_of_row _ W.heap.size (0+j) _ e _ hh];rw[<- Array.getElem?_toList];unfold bytesRow;rw[Array.toList_append,Array.toList_map,Nat.zero_add,getElem?_append_left (by simpa using hjl)];exact hj
section
variable {P:Program}{A:Type}{R:A->Prop}
def byT (P:Program) {A:Type}{R:A->Prop}(s:S) (t t':TypeId) (c:Sc) (d:D P R) (K:SV->S->D P R->Tr):Tr:=
 match d with
 | .by_ b _ k=>.e0 c.val (.string b)<|.e0 (P.underlying t) (some .string)<|.e0 (P.underlying t') (some (.slice (elT0 P t')))<|.e0 (P.underlying (elT0 P t')) (some (.int .u8)) <|
   .fn fun g:Hd×List Nat=>K (one (.rf s.nx g.1)) ⟨s.E,s.O,(s.nx,false,.sl (inferInstance:Shape UInt8) g.1 b.data.toList g.2)::s.B,s.nx+1⟩ k
 | _=>.no
theorem byT_ok {w0 W:World}{s:S}{t t':TypeId}{x:Operand}{c:Sc}{dd:D P R}{K:SV->S->D P R->Tr}{n:Nat}{f:Nat->Value}{Q:Exit->Act->World->Prop}{KK:Value->World->Prop}{d:Option Tmp}{ty:TypeId}{pos:String}{af:Array Go.Edge}{g:Option (Nat×Bool)}
  (hx:ev n f x=c.val) (h:(byT P s t t' c dd K).holds) (st:St w0 W s.rs) (fa:Facts w0 W s.B) (k:∀v s' d' W',(K v s' d').holds->s'.E=s.E->s'.O=s.O->Below W.heap.size W W'->St w0 W' s'.rs->Facts w0 W' s'.B->KK v.val W'):Stp P n ⟨d,.convert t t' x,ty,pos,af,g⟩ f W Q KK:=by
 unfold byT at h;split at h
 ·next b hb kk=>
  obtain⟨h1,h2,h3,h4,h5⟩:=h;refine stp_bytesOf_sl h2 h3 h4 (hx.trans h1) hb st fun v fp W' hbl st' hs=>?_
  obtain⟨hd,rfl,_⟩:=hs.hd;refine k _ _ _ W' (h5 (hd,fp)) rfl rfl hbl st' fun e he=>?_
  rcases mem_cons.1 he with rfl | he
  ·exact hs
  exact fa.up hbl e he
 exact h.elim
end
theorem plain_nodup {α:Type}[Shape α] (hp:lF α) {W:World}{v:Value}{xs:List α}{g:List Nat}(h:Sl W v xs g):g.Nodup:=by
 obtain⟨ao,cap,rfl,_,_,h⟩:=h;rcases h with⟨_,rfl⟩ | ⟨b,o,fp,_,_,rfl,_,hs⟩
 ·exact nodup_nil
 rw[hs.plain hp];simp
section
variable {P:Program}{A:Type}{R:A->Prop}
def dqT (P:Program) {A:Type}{R:A->Prop}(s:S) (t:TypeId) (c y:Sc) (d:D P R) (K:SV->S->D P R->Tr):Tr:=
 match c,d with
 | .rf j h,.dq i _ xs n _ e _ k=>match lku s.O j with
  | some (.own i' h' xs' _)=>.e0 h h'<|.e1 (⟨i',xs'⟩:Dat) ⟨i,xs⟩<|.e0 y.val (I e)<|.e0 (elK P t) (some i.size) <|
    .fn fun g:Hd×List Nat=>K (one (.rf j g.1)) ⟨s.E,(j,.own i g.1 (xs.drop n) g.2)::bB s.O j,s.B,s.nx⟩ k
  | some (.row i' _ h' xs' _)=>.e0 h h'<|.e1 (⟨i',xs'⟩:Dat) ⟨i,xs⟩<|.e0 y.val (I e)<|.e0 (elK P t) (some i.size) <|
    .fn fun g:Hd×List Nat=>K (one (.rf j g.1)) ⟨s.E,(j,.own i g.1 (xs.drop n) g.2)::bB s.O j,s.B,s.nx⟩ k
  | _=>.no
 | _,_=>.no
theorem dqT_ok {w0 W:World}{s:S}{t:TypeId}{x y:Operand}{c cy:Sc}{dd:D P R}{K:SV->S->D P R->Tr}{n:Nat}{f:Nat->Value}{Q:Exit->Act->World->Prop}{KK:Value->World->Prop}{d:Option Tmp}{ty:TypeId}{pos:String}{af:Array Go.Edge}{g:Option (Nat×Bool)}
  (hx:ev n f x=c.val) (hy:ev n f y=cy.val) (h:(dqT P s t c cy dd K).holds) (st:St w0 W s.rs) (fa:Facts w0 W s.B) (k:∀v s' d',(K v s' d').holds->s'.E=s.E->St w0 W s'.rs->Facts w0 W s'.B->KK v.val W) :
  Stp P n ⟨d,.slice t x (some y) none none,ty,pos,af,g⟩ f W Q KK:=by
 unfold dqT at h;have st1:St w0 W (Or s.O++[]):=by simpa [Or,S.rs] using st
 have key:∀{α:Type}{i:Shape α}(hp:lF α) {xs:List α}{m:Nat}(hm:m<=xs.length) {e:Int}(he:e=m) {h':Hd}{fp:List Nat}{rs:List Res}(h1:c.val=h'.val) (h2:cy.val=I e) (h3:elK P t=some i.size) (st2:St w0 W (Res.own h'.val xs fp::rs)) (kk:∀(hd:Hd) (g:List Nat),St w0 W (Res.own hd.val (xs.drop m) g::rs)->KK hd.val W),Stp P n ⟨d,.slice t x (some y) none none,ty,pos,af,g⟩ f W Q KK:=by
  intro α i hp xs m hm e he h' fp rs h1 h2 h3 st2 kk;have hs:=gQ (st2.get 0 rfl);obtain⟨u,gg,hs',hsub,hstep⟩:=slq_l hs hm;obtain⟨hd2,rfl,_⟩:=hs'.hd;obtain⟨e2,hT⟩:=nF h3;refine hstep hT (hx.trans h1) (hy.trans h2) he (kk hd2 gg (St.trade (rs1:=[Res.own h'.val xs fp]) (rs2:=[Res.own hd2.val (xs.drop m) gg]) st2 ?_ ?_ ?_))
  ·simpa [Res.own] using plain_nodup hp hs'
  ·intro b hb;simp only[flatMap_cons,flatMap_nil,append_nil,Res.own]at hb ⊢;exact hsub b hb
  intro r hr;simp only[mem_singleton]at hr;subst hr;exact⟨hs'.v,fun b hb=>(st2.get 0 rfl).2 b (hsub b hb)⟩
 split at h
 ·next α j hd i hp xs m hm e he kk=>
  split at h
  ·next i' h' xs' fp hj=>
   obtain⟨rfl,h4,h5,h6,h7⟩:=h;simp only[Dat.mk.injEq]at h4;obtain⟨rfl,h8,h9⟩:=h4;obtain⟨rfl,rfl⟩:=And.intro (eq_of_heq h8) (eq_of_heq h9);have st2:=st1.take hj;refine key hp hm he rfl h5 h6 st2 fun hd2 gg st3=>k _ _ _ (h7 (hd2,gg)) rfl ?_ fa
   have st4:=st3;rw[append_nil]at st4;exact st4
  ·next i' te h' xs' fe hj=>
   obtain⟨rfl,h4,h5,h6,h7⟩:=h;simp only[Dat.mk.injEq]at h4;obtain⟨rfl,h8,h9⟩:=h4;obtain⟨rfl,rfl⟩:=And.intro (eq_of_heq h8) (eq_of_heq h9);obtain⟨fp,st2⟩:=St.shut (st1.take hj);refine key hp hm he rfl h5 h6 st2 fun hd2 gg st3=>k _ _ _ (h7 (hd2,gg)) rfl ?_ fa
   have st4:=st3;rw[append_nil]at st4;exact st4
  exact h.elim
 exact h.elim
def aQ5 {α:Type}(P:Program) (s:S) (t:TypeId) (c:Sc) (i:Shape α) (xs:List α) (bytes:Nat) (K:Nat->TypeId->List (Nat×Ob)->Nat->Tr):Tr:=
 .e0 (P.underlying t) (some (.slice (elT P t)))<|.e0 ((P.info? (elT P t)).bind (fun i=>i.zero.map (fun z=>(i.size,i.bytes,z.cells.size)))) (some (i.size,bytes,i.size))<|.e0 (Nat.ble 1 i.size) true <|
  match c with
  | .rf j h=>match lku s.O j with
   | some (.row i' e h' xs' _)=>.e0 h h'<|.e0 e (elT P t)<|.e1 (⟨i',xs'⟩:Dat) ⟨i,xs⟩ (K j e (bB s.O j) s.nx)
   | _=>.no
  | .vl (.slice none 0 0)=>.e1 (⟨i,[]⟩:Dat) ⟨i,xs⟩ (K s.nx (elT P t) s.O (s.nx+1))
  | _=>.no
theorem qJ {G:Prop}{α:Type}{s:S}{t:TypeId}{c:Sc}{i:Shape α}{xs:List α}{bytes:Nat}{K:Nat->TypeId->List (Nat×Ob)->Nat->Tr}{w0 W:World}(h:(aQ5 P s t c i xs bytes K).holds) (st:St w0 W s.rs)
  (k:∀j e O nx fe,(K j e O nx).holds->ApOk P t e α bytes->St w0 W (Res.row e c.val xs fe::Or O)->G):G:=by
 obtain⟨h1,h2,h3,h⟩:=h;have hT:ApOk P t (elT P t) α bytes:=apOk h1 h2 (Nat.le_of_ble_eq_true h3);split at h
 ·split at h
  ·next j hd _ i' e h' xs' fe hj=>
   obtain⟨rfl,rfl,h4,h⟩:=h;simp only[Dat.mk.injEq]at h4;obtain⟨rfl,h5,h6⟩:=h4;obtain⟨rfl,rfl⟩:=And.intro (eq_of_heq h5) (eq_of_heq h6);have st2:=St.take (rs:=[]) (by simpa [Or,S.rs] using st) hj;simp only[append_nil]at st2;exact k _ _ _ _ fe h hT st2
  exact h.elim
 ·obtain⟨h4,h⟩:=h;simp only[Dat.mk.injEq,heq_eq_eq,true_and]at h4;subst h4;exact k _ _ _ _ [] h hT (st.row_nil _)
 exact h.elim
def alB (j:Nat):List Sc->Nat->List (Nat×Bool×Bo)
 | [],_=>[]
 | .rf t _::cs,k=>(t,true,.al j k)::alB j cs (k+1)
 | _::cs,k=>alB j cs (k+1)
theorem bJ2 {w0 W:World}{j:Nat}{B:List (Nat×Bool×Bo)}(h:Facts w0 W B):∀(cs:List Sc) (k:Nat),Facts w0 W (alB j cs k++B)
 | [],_=>h
 | c::cs,k=>by
  cases c with
  | rf t hd=>
   intro e he;rcases mem_cons.1 he with rfl | he
   ·exact trivial
   ·exact bJ2 h cs (k+1) e he
  | _=>exact bJ2 h cs (k+1)
def apT (P:Program) {A:Type}{R:A->Prop}(s:S) (t:TypeId) (c y:Sc) (d:D P R) (K:SV->S->D P R->Tr):Tr:=
 nrm d fun d=>match d with
  | .ap i xs ys _ bytes _ _ k=>aQ5 P s t c i.toShape xs bytes fun j e O nx=>match y with
   | .lt j2 b m=>.e0 ys.length m<|match lku O j2 with
    | some (.bx b' pre cs post e')=>.e0 b b'<|.e0 pre []<|.e0 post []<|iI (bB O j2) cs (lvs i ys) fun O'=>
      .fn fun g:Hd×List Nat=>K (one (.rf j g.1)) ⟨s.E,(j,.row i.toShape e g.1 (xs++ys) g.2)::O',lasting s.B,nx⟩ k
    | _=>.no
   | _=>.no
  | .az i xs z _ bytes _ _ k=>aQ5 P s t c i.toShape xs bytes fun j e O nx=>match y with
   | .lt j2 b m=>.e0 1 m<|match lku O j2 with
    | some (.bx b' pre cs post e')=>.e0 b b'<|.e0 pre []<|.e0 post []<|.e0 e' e<|iI (bB O j2) cs (i.lv z) fun O'=>
      .fn fun g:Hd×List Nat×List Nat=>K (one (.rf j g.1)) ⟨s.E,(j,.rz i e g.1 xs g.2.1 cs z g.2.2)::O',alB j cs 0++lasting s.B,nx⟩ k
    | _=>.no
   | _=>.no
  | .as i _ xs ys bytes _ _ k=>aQ5 P s t c i xs bytes fun j e O nx=>slT ⟨s.E,O,s.B,s.nx⟩ y i ys <|
    .fn fun g:Hd×List Nat=>K (one (.rf j g.1)) ⟨s.E,(j,.row i e g.1 (xs++ys) g.2)::O,lasting s.B,nx⟩ k
  | .ar i xs ys _ bytes _ _ k=>aQ5 P s t c i xs bytes fun j e O nx=>match y with
   | .rf j2 h2=>match lku O j2 with
    | some (.row i2 _ h2' ys' _)=>.e0 h2 h2'<|.e1 (⟨i2,ys'⟩:Dat) ⟨i,ys⟩<|.fn fun g:Hd×List Nat=>K (one (.rf j g.1)) ⟨s.E,(j,.row i e g.1 (xs++ys) g.2)::bB O j2,lasting s.B,nx⟩ k
    | _=>.no
   | _=>.no
  | .ac i cut j xs m _ ys _ _ bytes _ _ k=>.e0 (P.underlying t) (some (.slice (elT P t)))<|.e0 ((P.info? (elT P t)).bind (fun i=>i.zero.map (fun z=>(i.size,i.bytes,z.cells.size)))) (some (i.size,bytes,i.size))<|.e0 (Nat.ble 1 i.size) true <|
    match c,y with
    | .rf r h2,.lt j2 b q=>match lku s.B (r+2000000),lku s.O j,lku (bB s.O j) j2 with
     | some (_,.dv h2' h1 a sz),some (.row i' e h' xs' _),some (.bx b' pre cs post _)=>.e0 h2 h2'<|.e0 h1 ⟨h'.ao,m,cond cut m h'.cap⟩<|.e0 a 0<|.e0 sz i.size<|.e1 (⟨i',xs'⟩:Dat) ⟨i.toShape,xs⟩<|.e0 e (elT P t)<|.e0 ys.length q <|
       .e0 b b'<|.e0 pre []<|.e0 post []<|iI (bB (bB s.O j) j2) cs (lvs i ys) fun O'=>
       .fn fun g:Hd×List Nat=>K (one (.rf j g.1)) ⟨s.E,(j,.row i.toShape e g.1 (xs.take m++ys) g.2)::O',lasting s.B,s.nx⟩ k
     | _,_,_=>.no
    | _,_=>.no
  | _=>.no
theorem apT_ok {w0 W:World}{s:S}{t:TypeId}{x y:Operand}{c cy:Sc}{dd:D P R}{K:SV->S->D P R->Tr}{n:Nat}{f:Nat->Value}{Q:Exit->Act->World->Prop}{KK:Value->World->Prop}{d:Option Tmp}{ty:TypeId}{pos:String}{af:Array Go.Edge}{g:Option (Nat×Bool)}
  (hx:ev n f x=c.val) (hy:ev n f y=cy.val) (h:(apT P s t c cy dd K).holds) (st:St w0 W s.rs) (fa:Facts w0 W s.B) (k:∀v s' d' W',(K v s' d').holds->s'.E=s.E->St w0 W' s'.rs->Facts w0 W' s'.B->KK v.val W') :
  Stp P n ⟨d,.call { callee := .builtin .append,args := #[x,y],argTypes := #[t,t] },ty,pos,af,g⟩ f W Q KK:=by
 unfold apT at h;refine cG h fun d' h1=>?_
 clear h;split at h1
 ·next α i xs ys hg bytes h63 hby kk=>
  refine qJ h1 st fun j e O nx fe h hT st2=>?_
  clear h1;split at h
  ·next j2 b m=>
   obtain⟨rfl,h2⟩:=h;split at h2
   ·next b' pre cs post e' hj=>
    obtain⟨rfl,rfl,rfl,h⟩:=h2;have st3:St w0 W (Or O++[Res.row e c.val xs fe]):=st2.perm (perm_append_comm.trans (by simp));have st4:=st3.take hj;have st5:St w0 W (Or (bB O j2)++[Res.row e c.val xs fe,Res.bx b (cs.map Sc.val) e']):=by
     have:=st4;simp only[Ob.res,nil_append,append_nil]at this;exact this.perm (by
      refine(perm_append_comm (l₁:=Or (bB O j2)) (l₂:=[Res.row e c.val xs fe,Res.bx b (cs.map Sc.val) e'])).trans ((List.Perm.swap _ _ _).trans ?_);exact(perm_append_comm (l₁:=[Res.row e c.val xs fe]) (l₂:=Or (bB O j2))).cons _)
    refine dO h st5 fun O' fp h' st6=>?_
    have st7:St w0 W (Res.row e c.val xs fe::Res.bx b (cs.map Sc.val) e'::Res.pc (cs.map Sc.val) (lvs i ys) fp::Or O'):=by
     refine st6.perm ((perm_append_comm (l₁:=[Res.row e c.val xs fe,Res.bx b (cs.map Sc.val) e']) (l₂:=Res.pc (cs.map Sc.val) (lvs i ys) fp::Or O')).trans ?_);exact List.Perm.refl _
    refine rY i hT hx hy rfl hg st7 h63 hby fun v' fe' W' st'=>?_
    have hs:=gO (st'.get 0 rfl);obtain⟨hd,rfl,hn⟩:=hs.hd;exact k _ _ _ W' (h' (hd,fe')) rfl st' fa.lasting
   exact h2.elim
  exact h.elim
 ·next α i xs z hg bytes h63 hby kk=>
  refine qJ h1 st fun j e O nx fe h hT st2=>?_
  clear h1;split at h
  ·next j2 b m=>
   obtain⟨rfl,h2⟩:=h;split at h2
   ·next b' pre cs post e' hj=>
    obtain⟨rfl,rfl,rfl,rfl,h⟩:=h2;have st3:St w0 W (Or O++[Res.row e' c.val xs fe]):=st2.perm (perm_append_comm.trans (by simp));have st4:=st3.take hj;have st5:St w0 W (Or (bB O j2)++[Res.row e' c.val xs fe,Res.bx b (cs.map Sc.val) e']):=by
     have:=st4;simp only[Ob.res,nil_append,append_nil]at this;exact this.perm (by
      refine(perm_append_comm (l₁:=Or (bB O j2)) (l₂:=[Res.row e' c.val xs fe,Res.bx b (cs.map Sc.val) e'])).trans ((List.Perm.swap _ _ _).trans ?_);exact(perm_append_comm (l₁:=[Res.row e' c.val xs fe]) (l₂:=Or (bB O j2))).cons _)
    refine dO h st5 fun O' fp h' st6=>?_
    have st7:St w0 W (Res.row e' c.val xs fe::Res.bx b (cs.map Sc.val) e' :: @Res.cs α i.toShape (cs.map Sc.val) z fp::Or O'):=by
     have st8:=St.pc_cs i st6 hg;refine st8.perm ((perm_append_comm (l₁:=[Res.row e' c.val xs fe,Res.bx b (cs.map Sc.val) e']) (l₂ := @Res.cs α i.toShape (cs.map Sc.val) z fp::Or O')).trans ?_);exact List.Perm.refl _
    refine stp_append_ownz hT hx hy st7 h63 hby fun v' W' st'=>?_
    have hs:=gO (st'.get 0 rfl).1;obtain⟨hd,rfl,hn⟩:=hs.hd;exact k _ _ _ W' (h' (hd,fe,fp)) rfl st' (bJ2 fa.lasting cs 0)
   exact h2.elim
  exact h.elim
 ·next α i hp xs ys bytes h63 hby kk=>
  refine qJ h1 st fun j e O nx fe h hT st2=>?_
  obtain⟨⟨fp,hs⟩,h⟩:=bH0 h (w0:=w0) (W:=W) st2.d0 fa;have hfe:fe=[]:=by
   obtain⟨⟨cells,_,he⟩,_⟩:=st2.get 0 rfl;exact uN hp he
  subst hfe;refine stp_append_sl hp hT hx hy hs (Below.refl _ _) st2 h63 hby fun v' W' st'=>?_
  have hs:=gO (st'.get 0 rfl);obtain⟨hd,rfl,hn⟩:=hs.hd;exact k _ _ _ W' (h (hd,[])) rfl st' fa.lasting
 ·next α i xs ys hne bytes h63 hby kk=>
  refine qJ h1 st fun j e O nx fe h hT st2=>?_
  clear h1;split at h
  ·next j2 h2=>
   split at h
   ·next _ i2 e2 h2' ys' fy hj=>
    obtain⟨rfl,h3,h⟩:=h;simp only[Dat.mk.injEq]at h3;obtain⟨rfl,h4,h5⟩:=h3;obtain⟨rfl,rfl⟩:=And.intro (eq_of_heq h4) (eq_of_heq h5);have st3:St w0 W (Or O++[Res.row e c.val xs fe]):=st2.perm (perm_append_comm.trans (by simp));have st4:=st3.take hj;have st5:St w0 W (Res.row e c.val xs fe :: @Res.row _ i2 e2 h2.val ys' fy::Or (bB O j2)):=by
     refine st4.perm ((List.Perm.swap _ _ _).trans ?_);exact((perm_append_comm (l₁:=[Res.row e c.val xs fe]) (l₂:=Or (bB O j2)))).cons _
    refine stp_append_mv hT hx hy hne st5 h63 hby fun v' fe' W' st'=>?_
    have hs:=gO (st'.get 0 rfl);obtain⟨hd,rfl,hn⟩:=hs.hd;exact k _ _ _ W' (h (hd,fe')) rfl st' fa.lasting
   exact h.elim
  exact h.elim
 ·next α i cut j xs m hm ys hne hg bytes h63 hby kk=>
  obtain⟨a1,a2,a3,h⟩:=h1;have hT : @ApOk P t (elT P t) α i.toShape bytes:=apOk a1 a2 (Nat.le_of_ble_eq_true a3);split at h
  ·next r h2 j2 b q=>
   split at h
   ·next l0 h2' hh1 a sz _ i' e h' xs' fe b' pre cs post e' hB hO hj=>
    obtain⟨rfl,rfl,rfl,rfl,b5,rfl,rfl,rfl,rfl,rfl,h⟩:=h;simp only[Dat.mk.injEq]at b5;obtain⟨rfl,b6,b7⟩:=b5;obtain⟨rfl,rfl⟩:=And.intro (eq_of_heq b6) (eq_of_heq b7);have hdv:h2.val=sliced h'.ao 0 m (cond cut m h'.cap) i.size:=by
     have:=fa _ (kI hB);cases l0<;>exact this
    rw[aY5]at hdv;have st1:=St.take (rs:=[]) (by simpa [Or,S.rs] using st) hO;have st3:St w0 W (Or (bB s.O j)++[@Res.row _ i.toShape (elT P t) h'.val xs' fe]):=by
     rw[append_nil]at st1;exact st1.perm (perm_append_comm (l₁:=Or (bB s.O j)) (l₂:=[@Res.row _ i.toShape (elT P t) h'.val xs' fe]))
    have st4:=st3.take hj;have st5:St w0 W (Or (bB (bB s.O j) j2)++[@Res.row _ i.toShape (elT P t) h'.val xs' fe,Res.bx b (cs.map Sc.val) e']):=by
     have:=st4;simp only[Ob.res,nil_append,append_nil]at this;exact this.perm (by
      refine(perm_append_comm (l₁:=Or (bB (bB s.O j) j2)) (l₂:=[@Res.row _ i.toShape (elT P t) h'.val xs' fe,Res.bx b (cs.map Sc.val) e'])).trans ((List.Perm.swap _ _ _).trans ?_);exact(perm_append_comm (l₁:=[@Res.row _ i.toShape (elT P t) h'.val xs' fe]) (l₂:=Or (bB (bB s.O j) j2))).cons _)
    refine dO h st5 fun O' fp hK st6=>?_
    have st7:St w0 W (@Res.row _ i.toShape (elT P t) h'.val xs' fe::Res.bx b (cs.map Sc.val) e'::Res.pc (cs.map Sc.val) (lvs i ys) fp::Or O'):=by
     refine st6.perm ((perm_append_comm (l₁:=[@Res.row _ i.toShape (elT P t) h'.val xs' fe,Res.bx b (cs.map Sc.val) e']) (l₂:=Res.pc (cs.map Sc.val) (lvs i ys) fp::Or O')).trans ?_);exact List.Perm.refl _
    have hpos:0<ys.length:=length_pos_iff.2 hne;cases cut with
    | true=>
     refine@stp_append_cut _ i.toShape _ _ _ _ _ _ _ _ _ _ _ _ _ _ _ _ _ _ _ xs' ys fe fp b ys.length m (cs.map Sc.val) e' _ hT (hx.trans hdv) hy rfl hpos hm st7 rfl (fun W h=>⟨nP i h.1 hg,h.2⟩) h63 hby fun v' fe' W' st'=>?_
     have hs := @gO _ i.toShape _ _ _ _ _ (st'.get 0 rfl);obtain⟨hd,rfl,hn⟩:=hs.hd;exact k _ _ _ W' (hK (hd,fe')) rfl st' fa.lasting
    | false=>
     obtain⟨fe2,st8⟩ := @St.row_front _ i.toShape _ _ _ _ _ _ _ _ hm st7;have hl:(xs'.take m).length=m:=by rw[length_take];omega
     refine rY i hT (hx.trans hdv) hy rfl hg st8 (by rw[hl];exact h63) (by rw[hl];exact hby) fun v' fe' W' st'=>?_
     have hs := @gO _ i.toShape _ _ _ _ _ (st'.get 0 rfl);obtain⟨hd,rfl,hn⟩:=hs.hd;exact k _ _ _ W' (hK (hd,fe')) rfl st' fa.lasting
   exact h.elim
  exact h.elim
 exact h1.elim
end
end Go.Proofs.YtpdgdnpajmcaeaaGreat
namespace Go.Proofs.YtpdgdnpajmcaeaaGreat
set_option maxHeartbeats 1000000
set_option maxHeartbeats 2000000
open Go.RowKit Go.Proofs.Tryz List Go.Lib
theorem append_block_str {P:Program}{W W':World}{t u ty e:TypeId}{i:TypeInfo}(ht:P.underlying t=some (.slice e)) (hu:P.underlying u=some .string) (hi:P.info? e=some i) (hz:i.zero=some (.int .u8 0)) (hsize:i.size=1) (hby:i.bytes=1)
  {v v':Value}{n:Nat}{xs:List Value}(hown:W.ownsRow 0 e 1 v n xs) {s:ByteArray}(h63:n+s.size<=maxLen) (hbytes:n+s.size<=140737488355328) (hrun:(Builtin.append_ #[t,u] ty #[v,.string s]).run P W = .ok v' W') :
  ∀a,v'.ownBlock=some a->v.ownBlock=some a∨W.heap.size<=a:=by
 have hxl:xs.length=n:=by simpa using hown.1
 have hsmall:n+s.size<=9223372036854775807:=by simp only[maxLen]at h63;omega
 rcases hown.2 with⟨rfl,rfl⟩ | ⟨g,cap,cur,rfl,hbg,hg,hnc,hcm,hcs,htake⟩
 ·by_cases hm:s.size=0
  ·have hf:=run_firstCells_string (P:=P) W 1 s;rw[hm]at hf;have hr:(Builtin.append_ #[t,u] ty #[.slice none 0 0,.string s]).run P W = .ok (.slice none 0 0) W:=by
    simp[Builtin.append_,run_underlying ht,run_underlying hu,sizeOf,typeInfo,hi,hsize,Builtin.lenOf,hm,hf]
   rw[hr]at hrun
   injection hrun with h1 h2
   subst h1;intro a ha;simp[Value.ownBlock]at ha
  have hr:=run_append_nil_string (P:=P) W t u ty e i (.int .u8 0) ht hu hi hz s aA aA (by rw[hby];omega);rw[hr]at hrun
  injection hrun with h1 h2
  subst h1;intro a ha;simp[Value.ownBlock]at ha;omega
 by_cases hroom:n+s.size<=cap
 ·have hcs':cur.size=cap:=by simpa using hcs
  have hr:=run_append_room_string (P:=P) W t u ty e i ht hu hi hsize g n cap cur hg s hroom aA;rw[hr]at hrun
  injection hrun with h1 h2
  subst h1;intro a ha;exact .inl (by simpa [Value.ownBlock] using ha)
 have holds:∀j u,xs[j]? = some u->W.cell? ((⟨g,0,none⟩:Addr).add j)=some u:=hown.cells (g:=g) rfl;have hr:=run_append_grow_string (P:=P) W t u ty e i (.int .u8 0) ht hu hi hz ⟨g,0,none⟩ n cap xs (by rw[hsize];simpa using hxl) holds s aA aA (by rw[hby];exact growslice_fits aA aA);rw[hr]at hrun
 injection hrun with h1 h2
 subst h1;intro a ha;simp[Value.ownBlock]at ha;omega
section
variable {P:Program}{n:Nat}{f:Nat->Value}{w0 W:World}{rs:List Res}{Q:Exit->Act->World->Prop}{d:Option Tmp}{ty:TypeId}{pos:String}{af:Array Go.Edge}{g:Option (Nat×Bool)}{K:Value->World->Prop}
theorem stp_append_str {t t' e:TypeId}{s x:Operand}{v:Value}{xs:List UInt8}{b:ByteArray}(hT:ApOk P t e UInt8 1) (hu:P.underlying t'=some .string) (hz0:(P.info? e).bind (·.zero)=some (.int .u8 0)) (hs:ev n f s=v) (hx:ev n f x = .string b)
  (hst:St w0 W (Res.row e v xs []::rs)) (h63:xs.length+b.size<=maxLen) (hby:xs.length+b.size<=140737488355328)
  (k:∀v' W',St w0 W' (Res.row e v' (xs++b.data.toList) []::rs)->K v' W') :
  Stp P n ⟨d,.call { callee := .builtin .append,args := #[s,x],argTypes := #[t,t'] },ty,pos,af,g⟩ f W Q K:=by
 obtain⟨⟨cells,ho,he⟩,hw⟩:=hst.get 0 rfl;obtain⟨i,z,hi,hz,h1,h2,h3⟩:=hT.info;have hz1:i.zero=some (.int .u8 0):=by simpa [hi] using hz0
 have h1':i.size=1:=h1;obtain⟨v',W',hrun,ho',hg,_⟩:=run_append_own_string (P:=P) W 0 t t' ty e i hT.desc hu hi hz1 h1' h2 v xs.length cells ho b h63 hby (Nat.zero_le _);have hblk:=append_block_str hT.desc hu hi hz1 h1' h2 ho h63 hby hrun;refine Stp.run (v:=v') (W':=W') ?_ (k v' W' ?_)
 ·simp only[execOp,resolve,invoke,builtin,Sem.run_bind,Sem.run_pure,Result.andThen_ok,map_toArray,map_cons,map_nil,hs,hx,hrun]
 have hl:(xs++b.data.toList).length=xs.length+b.size:=by rw[length_append];rfl
 have hn:Elems W' (strCells b) b.data.toList []:=pY b.data.toList;have hrow:(Res.row e v' (xs++b.data.toList) []).holds W':=by
  refine⟨⟨cells++strCells b,by rw[hl];exact ho',?_⟩,fun b hb=>by cases hb⟩;have:=(he.loc hg.size (fun b hb=>by cases hb)).append hn;simpa using this
 have hst2:St w0 W (Res.row e v xs []::rs):=hst;refine hst2.turn hg.os hg.tape hg.output hg.size (fun k hk hne=>hg.block k hk (fun e=>hne (by simp[Res.row,<- e]))) hrow ?_ ?_
 ·show (v'.ownBlock.toList++[]).Nodup;cases v'.ownBlock<;>simp
 intro c hc;have hc:c∈v'.ownBlock.toList++[]:=hc;rw[append_nil]at hc;have hc':v'.ownBlock=some c:=by simpa using hc
 rcases hblk c hc' with h | h
 ·exact .inl (by show c∈v.ownBlock.toList++[];simp[h])
 exact .inr h
end
section
variable {P:Program}{A:Type}{R:A->Prop}
def abT (P:Program) {A:Type}{R:A->Prop}(s:S) (t t':TypeId) (c u:Sc) (d:D P R) (K:SV->S->D P R->Tr):Tr:=
 match d with
 | .bs xs b _ _ k=>.e0 u.val (.string b)<|.e0 (P.underlying t') (some .string)<|.e0 ((P.info? (elT P t)).bind (·.zero)) (some (.int .u8 0)) <|
   aQ5 P s t c (inferInstance:Shape UInt8) xs 1 fun j e O nx=>.fn fun g:Hd=>K (one (.rf j g)) ⟨s.E,(j,.row (inferInstance:Shape UInt8) e g (xs++b.data.toList) [])::O,lasting s.B,nx⟩ k
 | _=>.no
theorem abT_ok {w0 W:World}{s:S}{t t':TypeId}{x y:Operand}{c u:Sc}{dd:D P R}{K:SV->S->D P R->Tr}{n:Nat}{f:Nat->Value}{Q:Exit->Act->World->Prop}{KK:Value->World->Prop}{d:Option Tmp}{ty:TypeId}{pos:String}{af:Array Go.Edge}{g:Option (Nat×Bool)}
  (hx:ev n f x=c.val) (hy:ev n f y=u.val) (h:(abT P s t t' c u dd K).holds) (st:St w0 W s.rs) (fa:Facts w0 W s.B) (k:∀v s' d' W',(K v s' d').holds->s'.E=s.E->St w0 W' s'.rs->Facts w0 W' s'.B->KK v.val W') :
  Stp P n ⟨d,.call { callee := .builtin .append,args := #[x,y],argTypes := #[t,t'] },ty,pos,af,g⟩ f W Q KK:=by
 unfold abT at h;split at h
 ·next xs b h63 hby kk=>
  obtain⟨h1,h2,h3,h⟩:=h;refine qJ h st fun j e O nx fe h hT st2=>?_
  have he:elT P t=e:=by unfold elT;rw[hT.desc]
  have hfe:fe=[]:=by
   obtain⟨⟨cells,_,he⟩,_⟩:=st2.get 0 rfl;have hp:∀{xs:List UInt8}{cells:List Value}{fp:List Nat},Elems W cells xs fp->fp=[]:=by
    intro xs
    induction xs with
    | nil=>exact fun h=>h.2
    | cons x xs ih=>
     rintro cells fp ⟨cs,rest,f1,f2,g1,g2,g3,g4⟩;have h5:f1=[]:=g2.2.1;rw[g4,h5,ih g3];rfl
   exact hp he
  subst hfe;refine stp_append_str hT h2 (by rw[<- he];exact h3) hx (hy.trans h1) st2 h63 hby fun v' W' st'=>?_
  have hs:=gO (st'.get 0 rfl);obtain⟨hd,rfl,hn⟩:=hs.hd;exact k _ _ _ W' (h hd) rfl st' fa.lasting
 exact h.elim
end
end Go.Proofs.YtpdgdnpajmcaeaaGreat
namespace Go.Proofs.YtpdgdnpajmcaeaaGreat
set_option maxHeartbeats 1000000
set_option maxHeartbeats 2000000
open Go.RowKit Go.Proofs.Tryz List
section
variable {P:Program}{A:Type}{R:A->Prop}
theorem split3 (cs:List Sc) (o m:Nat):cs=cs.take o++((cs.drop o).take m++cs.drop (o+m)):=by
 rw[<- drop_drop,take_append_drop,take_append_drop]
def cmT (s:S) (lk:Operand->Option SV) (F:FuncId) (xs:List Operand) (d:D P R) (K:SV->S->D P R->Tr):Tr:=
 nrm d fun d=>match d with
  | .cm (ps:=ps) (i:=i) (x:=x) (R':=R') (y:=y) (rk:=rk) F' (fn:=fn) _ _ _ k=>.e0 F F'<|.e0 ((fn.name == "runtime.NumGoroutine") || fn.body.isNone) false<|opt (lkv lk xs) fun us=>match us with
   | .on (.ce (.pt j b q o))::us=>match lku s.O j with
    | some (.bx b' pre cs post t)=>.e0 b b'<|.e0 q pre.length<|.e0 (Nat.ble (o+(i.lv x).length) cs.length) true <|
      iI (bB s.O j) ((cs.drop o).take (i.lv x).length) (i.lv x) fun O'=>jT ⟨[],[],lasting s.B,0⟩ us ps <|
      .fn fun a=>.fp (R' a) fun ha=>yI (i.lv (y a)) ⟨s.E,O',lasting s.B,s.nx⟩ fun scs s2=>.fp (lns (i.lv (y a))) fun hn=>rkb (rk a) ⟨s2.E,(j,.bx b' pre (cs.take o++(scs++cs.drop (o+(i.lv x).length))) post t)::s2.O,s2.B,s2.nx⟩ fun ts s3=>.fp (gds (rk a)) fun hg=>K (aA1 ts) s3 (k a ha hn hg)
    | _=>.no
   | _=>.no
  | _=>.no
theorem Facts.base {w0 W:World}:∀{B:List (Nat×Bool×Bo)},Facts w0 W B->Facts w0 w0 (Go.Proofs.YtpdgdnpajmcaeaaGreat.lasting B):=fun h=>h.lasting
theorem cmT_ok {w0 W:World}{s:S}{lk:Operand->Option SV}{F:FuncId}{xs:List Operand}{ats:Array TypeId}{dd:D P R}{K:SV->S->D P R->Tr}{n:Nat}{f:Nat->Value}{Q:Exit->Act->World->Prop}{KK:Value->World->Prop}{d:Option Tmp}{ty:TypeId}{pos:String}{af:Array Go.Edge}{g:Option (Nat×Bool)}
  (hl:∀x u,lk x=some u->ev n f x=u.val) (h:(cmT s lk F xs dd K).holds) (st:St w0 W s.rs) (fa:Facts w0 W s.B) (k:∀v s' d' W',(K v s' d').holds->s'.E=s.E->St w0 W' s'.rs->Facts w0 W' s'.B->KK v.val W'):Stp P n ⟨d,.call { callee := .value (.func F),args:=xs.toArray,argTypes:=ats },ty,pos,af,g⟩ f W Q KK:=by
 unfold cmT at h;refine cG h fun d' h1=>?_
 clear h;split at h1
 ·next ps α i x A' R' y rk F' fn hf hct hg kk=>
  obtain⟨rfl,ho,h1⟩:=h1;refine aD h1 fun us hus h2=>?_
  clear h1;split at h2
  ·next j b q o us'=>
   split at h2
   ·next b' pre cs post t hj=>
    obtain⟨rfl,rfl,hle,h3⟩:=h2;have st1:St w0 W (Or s.O++[]):=by simpa [Or,S.rs] using st
    have st2:=st1.take hj;have st3:St w0 W (Or (bB s.O j)++[Res.bx b (pre++cs.map Sc.val++post) t]):=by
     have:St w0 W (Res.bx b (pre++cs.map Sc.val++post) t::(Or (bB s.O j)++[])):=st2;rw[append_nil]at this;exact this.perm perm_append_comm
    refine dO h3 st3 fun O' fp h4 st4=>?_
    obtain⟨hp,h5⟩:=fO (s:=⟨[],[],lasting s.B,0⟩) (w0:=w0) (W:=w0) (St.start w0) fa.base h4 hg;have hlen:((cs.drop o).take (i.lv x).length).length=(i.lv x).length:=by
     have:=Nat.le_of_ble_eq_true hle;rw[length_take,length_drop];omega
    have hto:(cs.take o).length=o:=by
     have:=Nat.le_of_ble_eq_true hle;rw[length_take];omega
    have e1:pre++cs.map Sc.val++post=(pre++(cs.take o).map Sc.val)++((cs.drop o).take (i.lv x).length).map Sc.val++((cs.drop (o+(i.lv x).length)).map Sc.val++post):=by
     conv=>lhs;rw[split3 cs o (i.lv x).length]
     simp[map_append,append_assoc]
    have e2:(pre++(cs.take o).map Sc.val).length=pre.length+o:=by rw[length_append,length_map,hto]
    have st5:St w0 W (Res.bx b ((pre++(cs.take o).map Sc.val)++((cs.drop o).take (i.lv x).length).map Sc.val++((cs.drop (o+(i.lv x).length)).map Sc.val++post)) t::Res.pc (((cs.drop o).take (i.lv x).length).map Sc.val) (i.lv x) fp::Or O'):=by
     rw[<- e1];refine st4.perm ((perm_append_comm (l₁:=[Res.bx b (pre++cs.map Sc.val++post) t]) (l₂:=Res.pc (((cs.drop o).take (i.lv x).length).map Sc.val) (i.lv x) fp::Or O')).trans ?_);exact List.Perm.refl _
    have hc:=hct.run w0 W b _ _ t _ fp (us'.map SV.val) _ st5 hp;rw[e2]at hc;refine gT hf ho (iF hl hus) (hc.mono ?_);rintro e W' ⟨a,vs,cs',fp',rr,ha,rfl,hr,st6⟩;have h6:=h5 a ha;have st7:St w0 W' (Res.pc cs' (i.lv (y a)) fp'::((Res.bx b ((pre++(cs.take o).map Sc.val)++cs'++((cs.drop (o+(i.lv x).length)).map Sc.val++post)) t::rr)++Or O')):=st6.swap;refine mA (s:=⟨s.E,O',lasting s.B,s.nx⟩) h6 st7 fun scs s2 h7 e3 e4 e5 _ st8 hn=>?_
    have h8:=h7 hn;have e9:(pre++(cs.take o).map Sc.val)++cs'++((cs.drop (o+(i.lv x).length)).map Sc.val++post)=pre++(cs.take o++(scs++cs.drop (o+(i.lv x).length))).map Sc.val++post:=by
     rw[<- e3];simp[map_append,append_assoc]
    have st9:St w0 W' (rr++S.rs ⟨s2.E,(j,.bx b pre (cs.take o++(scs++cs.drop (o+(i.lv x).length))) post t)::s2.O,s2.B,s2.nx⟩):=by
     rw[e9]at st8;exact st8.perm (perm_middle (a:=(Ob.bx b pre (cs.take o++(scs++cs.drop (o+(i.lv x).length))) post t).res) (l₁:=rr) (l₂:=s2.rs))
    refine jZ h8 hr st9 fun ts s3 h9 e6 e7 e8 _ st10 hgd=>?_
    have fa3:Facts w0 W' s3.B:=by
     rw[e8];show Facts w0 W' s2.B;rw[e5];exact fa.lasting
    exact⟨_,rfl,by rw[<- e6,<- iW];exact k _ s3 _ W' (h9 hgd) (e7.trans e4) st10 fa3⟩
   exact h2.elim
  exact h2.elim
 exact h1.elim
def cvT (s:S) (lk:Operand->Option SV) (F:FuncId) (xs:List Operand) (d:D P R) (K:SV->S->D P R->Tr):Tr:=
 nrm d fun d=>match d with
  | .cv (i:=i) (code:=code) (ps:=ps) (c:=c) (R':=R') (y:=y) (rk:=rk) F' (fn:=fn) _ _ _ k=>.e0 F F'<|.e0 ((fn.name == "runtime.NumGoroutine") || fn.body.isNone) false<|opt (lkv lk xs) fun us=>match us with
   | .on (.ce (.pt j b q o))::us=>.e0 q 0<|.e0 o 0<|match lku s.O j with
    | some (.bx b' pre [.rf jj hd,c1,c2] post t)=>.e0 b b'<|.e0 pre []<|.e0 post []<|.e0 c1.val (I c.i)<|.e0 c2.val (I c.h)<|match rK s jj with
     | some (l,hd',dd)=>.e0 l true<|.e0 hd' hd<|.e1 dd ⟨i,code⟩<|jT ⟨[],[],lasting s.B,0⟩ us ps <|
       .fn fun a=>.fp (R' a) fun ha=>rkb (rk a) ⟨s.E,(j,.bx b' [] [.rf jj hd,.vl (I (y a).i),.vl (I (y a).h)] [] t)::bB s.O j,lasting s.B,s.nx⟩ fun ts s3=>.fp (gds (rk a)) fun hg=>K (aA1 ts) s3 (k a ha hg)
     | none=>.no
    | _=>.no
   | _=>.no
  | _=>.no
theorem cvT_ok {w0 W:World}{s:S}{lk:Operand->Option SV}{F:FuncId}{xs:List Operand}{ats:Array TypeId}{dd:D P R}{K:SV->S->D P R->Tr}{n:Nat}{f:Nat->Value}{Q:Exit->Act->World->Prop}{KK:Value->World->Prop}{d:Option Tmp}{ty:TypeId}{pos:String}{af:Array Go.Edge}{g:Option (Nat×Bool)}
  (hl:∀x u,lk x=some u->ev n f x=u.val) (h:(cvT s lk F xs dd K).holds) (st:St w0 W s.rs) (fa:Facts w0 W s.B) (k:∀v s' d' W',(K v s' d').holds->s'.E=s.E->St w0 W' s'.rs->Facts w0 W' s'.B->KK v.val W'):Stp P n ⟨d,.call { callee := .value (.func F),args:=xs.toArray,argTypes:=ats },ty,pos,af,g⟩ f W Q KK:=by
 unfold cvT at h;refine cG h fun d' h1=>?_
 clear h;split at h1
 ·next i code ps c A' R' y rk F' fn hf hct hg kk=>
  obtain⟨rfl,ho,h1⟩:=h1;refine aD h1 fun us hus h2=>?_
  clear h1;split at h2
  ·next j b q o us'=>
   obtain⟨rfl,rfl,h2⟩:=h2;split at h2
   ·next b' pre jj hd c1 c2 post t hj=>
    obtain⟨rfl,rfl,rfl,e1,e2,h3⟩:=h2;split at h3
    ·next l hd' dd he=>
     obtain⟨rfl,rfl,rfl,h4⟩:=h3;obtain⟨fp,hsl⟩:=jB he st fa;have hsl : @Sl _ i w0 hd'.val code fp:=hsl;have st1:St w0 W (Or s.O++[]):=by simpa [Or,S.rs] using st
     have st2:St w0 W (Res.bx b [hd'.val,I c.i,I c.h] t::Or (bB s.O j)):=by
      have this:St w0 W (Res.bx b [hd'.val,c1.val,c2.val] t::(Or (bB s.O j)++[])):=st1.take hj;rw[append_nil,e1,e2]at this;exact this
     obtain⟨hp,h5⟩:=fO (s:=⟨[],[],lasting s.B,0⟩) (w0:=w0) (W:=w0) (St.start w0) fa.base h4 hg;have hc:=hct.run w0 W b t hd' fp (us'.map SV.val) _ hsl st2 hp;refine gT hf ho (iF hl hus) (hc.mono ?_);rintro e W' ⟨a,vs,rr,ha,rfl,hr,st3⟩;have h6:=h5 a ha;have st4:St w0 W' (rr++S.rs ⟨s.E,(j,.bx b [] [.rf jj hd',.vl (I (y a).i),.vl (I (y a).h)] [] t)::bB s.O j,lasting s.B,s.nx⟩):=by
      have:St w0 W' (Res.bx b [hd'.val,I (y a).i,I (y a).h] t::(rr++Or (bB s.O j))):=st3;exact this.perm (perm_middle (a:=Res.bx b [hd'.val,I (y a).i,I (y a).h] t) (l₁:=rr) (l₂:=Or (bB s.O j)))
     refine jZ h6 hr st4 fun ts s3 h9 e6 e7 e8 _ st10 hgd=>?_
     have fa3:Facts w0 W' s3.B:=by
      rw[e8];exact fa.lasting
     exact⟨_,rfl,by rw[<- e6,<- iW];exact k _ s3 _ W' (h9 hgd) e7 st10 fa3⟩
    exact h3.elim
   exact h2.elim
  exact h2.elim
 exact h1.elim
def ctk:List (Nat×Ob)->List Sc->List Lr->(List (Nat×Ob)->Tr)->Tr
 | O,[],[],K=>K O
 | O,c::cs,.v x::ls,K=>.e0 c.val x (ctk O cs ls K)
 | O,c::cs,.o i xs::ls,K=>iI O [c] [.s _ i xs] fun O'=>ctk O' cs ls K
 | O,c::cs,.r i e xs::ls,K=>match c with
  | .rf j h=>match lku O j with
   | some (.row i' e' h' xs' _)=>.e0 e' e<|.e0 h h'<|.e1 (⟨i',xs'⟩:Dat) ⟨i,xs⟩ (ctk (bB O j) cs ls K)
   | _=>.no
  | _=>.no
 | _,_,_,_=>.no
theorem wW {w0 W:World}:∀{cs:List Sc}{ls:List Lr}{O:List (Nat×Ob)}{K:List (Nat×Ob)->Tr}{rs:List Res},(ctk O cs ls K).holds->St w0 W (Or O++rs)->∃r O',(K O').holds/\LvR (cs.map Sc.val) ls r/\St w0 W (Or O'++(r++rs))
 | [],[],O,K,rs,h,st=>⟨[],O,h,rfl,st⟩
 | [],.v _::_,O,K,rs,h,st=>h.elim
 | [],.o _ _::_,O,K,rs,h,st=>h.elim
 | [],.r _ _ _::_,O,K,rs,h,st=>h.elim
 | _::_,[],O,K,rs,h,st=>h.elim
 | c::cs,.v x::ls,O,K,rs,h,st=>by
  obtain⟨h1,h2⟩:=h;obtain⟨r,O',hK,h3,h4⟩:=wW h2 st;exact⟨r,O',hK,⟨h1,h3⟩,h4⟩
 | c::cs,.o i xs::ls,O,K,rs,h,st=>by
  refine dO h st fun O' fp h' st'=>?_
  obtain⟨f1,f2,st2⟩:=St.s_pc st';obtain⟨r,O2,hK,h3,h4⟩:=wW h' (rs:=Res.own c.val xs f1::rs) (st2.d0.perm perm_middle);refine⟨Res.own c.val xs f1::r,O2,hK,⟨f1,r,rfl,h3⟩,?_⟩;exact h4.perm ((perm_middle (a:=Res.own c.val xs f1) (l₁:=r) (l₂:=rs)).symm.append_left (Or O2))
 | c::cs,.r i e xs::ls,O,K,rs,h,st=>by
  unfold ctk at h;split at h
  ·next j hd=>
   split at h
   ·next i' e' h' xs' fe hj=>
    obtain⟨rfl,rfl,h4,h5⟩:=h;simp only[Dat.mk.injEq]at h4;obtain⟨rfl,h6,h7⟩:=h4;obtain⟨rfl,rfl⟩:=And.intro (eq_of_heq h6) (eq_of_heq h7);obtain⟨r,O2,hK,h3,h8⟩:=wW h5 (rs:=Res.row e' hd.val xs' fe::rs) ((st.take hj).perm perm_middle);refine⟨Res.row e' hd.val xs' fe::r,O2,hK,⟨fe,r,rfl,h3⟩,?_⟩;exact h8.perm ((perm_middle (a:=Res.row e' hd.val xs' fe) (l₁:=r) (l₂:=rs)).symm.append_left (Or O2))
   ·exact h.elim
  ·exact h.elim
def coT (s:S) (lk:Operand->Option SV) (F:FuncId) (xs:List Operand) (d:D P R) (K:SV->S->D P R->Tr):Tr:=
 nrm d fun d=>match d with
  | .co (ps:=ps) (ow:=ow) (ag:=ag) (R':=R') (rk:=rk) F' (fn:=fn) _ _ _ k=>.e0 F F'<|.e0 ((fn.name == "runtime.NumGoroutine") || fn.body.isNone) false<|opt (lkv lk xs) fun us=>match ag,us with
   | true,.on (.ag l)::us=>ctk s.O l ow fun O'=>jT ⟨[],[],lasting s.B,0⟩ us ps<|.fn fun a=>.fp (R' a) fun ha=>rkb (rk a) ⟨s.E,O',lasting s.B,s.nx⟩ fun ts s3=>.fp (gds (rk a)) fun hg=>K (aA1 ts) s3 (k a ha hg)
   | false,.on (.ce c)::us=>ctk s.O [c] ow fun O'=>jT ⟨[],[],lasting s.B,0⟩ us ps<|.fn fun a=>.fp (R' a) fun ha=>rkb (rk a) ⟨s.E,O',lasting s.B,s.nx⟩ fun ts s3=>.fp (gds (rk a)) fun hg=>K (aA1 ts) s3 (k a ha hg)
   | _,_=>.no
  | _=>.no
theorem coT_ok {w0 W:World}{s:S}{lk:Operand->Option SV}{F:FuncId}{xs:List Operand}{ats:Array TypeId}{dd:D P R}{K:SV->S->D P R->Tr}{n:Nat}{f:Nat->Value}{Q:Exit->Act->World->Prop}{KK:Value->World->Prop}{d:Option Tmp}{ty:TypeId}{pos:String}{af:Array Go.Edge}{g:Option (Nat×Bool)}
  (hl:∀x u,lk x=some u->ev n f x=u.val) (h:(coT s lk F xs dd K).holds) (st:St w0 W s.rs) (fa:Facts w0 W s.B) (k:∀v s' d' W',(K v s' d').holds->s'.E=s.E->St w0 W' s'.rs->Facts w0 W' s'.B->KK v.val W'):Stp P n ⟨d,.call { callee := .value (.func F),args:=xs.toArray,argTypes:=ats },ty,pos,af,g⟩ f W Q KK:=by
 unfold coT at h;refine cG h fun d' h1=>?_
 clear h;split at h1
 ·next ps ow ag A' R' rk F' fn hf hct hg kk=>
  obtain⟨rfl,ho,h1⟩:=h1;refine aD h1 fun us hus h2=>?_
  clear h1;have key:∀{l:List Sc}{us':List SV}(hv:us.map SV.val=cond ag (.agg (l.map Sc.val).toArray) ((l.map Sc.val).headD undef)::us'.map SV.val) (h3:(ctk s.O l ow fun O'=>jT ⟨[],[],lasting s.B,0⟩ us' ps<|.fn fun a=>.fp (R' a) fun ha=>rkb (rk a) ⟨s.E,O',lasting s.B,s.nx⟩ fun ts s3=>.fp (gds (rk a)) fun hg=>K (aA1 ts) s3 (kk a ha hg)).holds),Stp P n ⟨d,.call { callee := .value (.func F),args:=xs.toArray,argTypes:=ats },ty,pos,af,g⟩ f W Q KK:=by
   intro l us' hv h3;have st1:St w0 W (Or s.O++[]):=by simpa [Or,S.rs] using st
   obtain⟨r,O',h4,hlv,st2⟩:=wW h3 st1;obtain⟨hp,h5⟩:=fO (s:=⟨[],[],lasting s.B,0⟩) (w0:=w0) (W:=w0) (St.start w0) fa.base h4 hg;have st3:St w0 W (r++Or O'):=by
    rw[append_nil]at st2;exact st2.perm perm_append_comm
   have hc:=hct.run w0 W _ r (us'.map SV.val) (Or O') hlv st3 hp;rw[<- hv]at hc;refine gT hf ho (iF hl hus) (hc.mono ?_);rintro e W' ⟨a,vs,rr,ha,rfl,hr,st4⟩;refine jZ (s:=⟨s.E,O',lasting s.B,s.nx⟩) (h5 a ha) hr st4 fun ts s3 h9 e6 e7 e8 _ st10 hgd=>?_
   have fa3:Facts w0 W' s3.B:=by
    rw[e8];exact fa.lasting
   exact⟨_,rfl,by rw[<- e6,<- iW];exact k _ s3 _ W' (h9 hgd) e7 st10 fa3⟩
  split at h2
  ·exact key rfl h2
  ·exact key rfl h2
  exact h2.elim
 exact h1.elim
def pwT (B:List (Nat×Bool×Bo)):List (Nat×Ob)->List SV->List Pw->(List (Nat×Ob)->Tr)->Tr
 | O,[],[],K=>K O
 | O,u::us,.bw p::ps,K=>jT ⟨[],[],lasting B,0⟩ [u] [p] (pwT B O us ps K)
 | O,.on (.ag l)::us,.ow i x::ps,K=>iI O l (i.lv x) fun O'=>pwT B O' us ps K
 | _,_,_,_=>.no
theorem pwT_ok {w0 W:World}{B:List (Nat×Bool×Bo)}(fa:Facts w0 W B):∀{us:List SV}{ps:List Pw}{O:List (Nat×Ob)}{K:List (Nat×Ob)->Tr}{rs:List Res},(pwT B O us ps K).holds->gpw ps->St w0 W (Or O++rs)->∃r O',(K O').holds/\PwAt w0 (us.map SV.val) ps r/\St w0 W (Or O'++(r++rs)):=by
 intro us
 induction us with
 | nil=>
  intro ps O K rs h hg st;cases ps with
  | nil=>exact⟨[],O,h,rfl,st⟩
  | cons p ps=>cases p<;>exact h.elim
 | cons u us ih=>
  intro ps O K rs h hg st;cases ps with
  | nil=>exact h.elim
  | cons p ps=>
   cases p with
   | bw p=>
    have h:(jT ⟨[],[],lasting B,0⟩ [u] [p] (pwT B O us ps K)).holds:=h;obtain⟨hp,h2⟩:=fO (s:=⟨[],[],lasting B,0⟩) (w0:=w0) (W:=w0) (St.start w0) fa.base h hg.1;obtain⟨r,O',hK,h3,h4⟩:=ih h2 hg.2 st;exact⟨r,O',hK,⟨hp.1,h3⟩,h4⟩
   | @ow α i x=>
    match u,h with
    | .on (.ag l),h=>
     have h:(iI O l (i.lv x) fun O'=>pwT B O' us ps K).holds:=h;refine dO h st fun O' fp h' st'=>?_
     obtain⟨r,O2,hK,h3,h4⟩:=ih (rs:=Res.pc (l.map Sc.val) (i.lv x) fp::rs) h' hg (st'.perm perm_middle);refine⟨Res.pc (l.map Sc.val) (i.lv x) fp::r,O2,hK,⟨_,fp,r,rfl,rfl,h3⟩,?_⟩;exact h4.perm (((perm_middle (a:=Res.pc (l.map Sc.val) (i.lv x) fp) (l₁:=r) (l₂:=rs)).symm).append_left (Or O2))
def cwT (s:S) (lk:Operand->Option SV) (F:FuncId) (xs:List Operand) (d:D P R) (K:SV->S->D P R->Tr):Tr:=
 nrm d fun d=>match d with
  | .cw (ps:=ps) (R':=R') (rk:=rk) F' (fn:=fn) _ _ _ k=>.e0 F F'<|.e0 ((fn.name == "runtime.NumGoroutine") || fn.body.isNone) false<|opt (lkv lk xs) fun us=>
    pwT s.B s.O us ps fun O'=>.fn fun a=>.fp (R' a) fun ha=>rkb (rk a) ⟨s.E,O',lasting s.B,s.nx⟩ fun ts s3=>.fp (gds (rk a)) fun hg=>K (aA1 ts) s3 (k a ha hg)
  | _=>.no
theorem cwT_ok {w0 W:World}{s:S}{lk:Operand->Option SV}{F:FuncId}{xs:List Operand}{ats:Array TypeId}{dd:D P R}{K:SV->S->D P R->Tr}{n:Nat}{f:Nat->Value}{Q:Exit->Act->World->Prop}{KK:Value->World->Prop}{d:Option Tmp}{ty:TypeId}{pos:String}{af:Array Go.Edge}{g:Option (Nat×Bool)}
  (hl:∀x u,lk x=some u->ev n f x=u.val) (h:(cwT s lk F xs dd K).holds) (st:St w0 W s.rs) (fa:Facts w0 W s.B) (k:∀v s' d' W',(K v s' d').holds->s'.E=s.E->St w0 W' s'.rs->Facts w0 W' s'.B->KK v.val W'):Stp P n ⟨d,.call { callee := .value (.func F),args:=xs.toArray,argTypes:=ats },ty,pos,af,g⟩ f W Q KK:=by
 unfold cwT at h;refine cG h fun d' h1=>?_
 clear h;split at h1
 ·next ps A' R' rk F' fn hf hct hg kk=>
  obtain⟨rfl,ho,h1⟩:=h1;refine aD h1 fun us hus h2=>?_
  clear h1;have st1:St w0 W (Or s.O++[]):=by simpa [Or,S.rs] using st
  obtain⟨r,O',h4,hlv,st2⟩:=pwT_ok fa h2 hg st1;have st3:St w0 W (r++Or O'):=by
   rw[append_nil]at st2;exact st2.perm perm_append_comm
  refine gT hf ho (iF hl hus) ((hct.run w0 W (us.map SV.val) r (Or O') hlv st3).mono ?_);rintro e W' ⟨a,vs,rr,ha,rfl,hr,st4⟩;refine jZ (s:=⟨s.E,O',lasting s.B,s.nx⟩) (h4 a ha) hr st4 fun ts s3 h9 e6 e7 e8 _ st10 hgd=>?_
  have fa3:Facts w0 W' s3.B:=by
   rw[e8];exact fa.lasting
  exact⟨_,rfl,by rw[<- e6,<- iW];exact k _ s3 _ W' (h9 hgd) e7 st10 fa3⟩
 exact h1.elim
theorem St.lendG {α:Type}(i:Dsh α) (hp:Nat.ble 1 i.size=true) {w0 W:World}{rs:List Res}{v:Value}{xs:List α}{fp:List Nat}(h:St w0 W (@Res.own (List α) (@instShapeList α i.toShape) _ v xs fp::rs)) {n:Nat}{x:α}(hi:xs[n]? = some x) :
  ∃b e pre cs post fi fr,i.good x/\St w0 W (Res.pc cs (i.lv x) fi::(Res.bx b (pre++cs++post) e :: @Res.rest α i.toShape v b pre post xs n fr::rs)):=by
 obtain⟨b,e,pre,cs,post,fi,fr,_,hc,st⟩:=St.lendx (Nat.le_of_ble_eq_true hp) h hi;obtain⟨st2,hg⟩:=St.cs_pc i st.f1;exact⟨b,e,pre,cs,post,fi,fr,hg,st2⟩
theorem St.giveG {α:Type}(i:Dsh α) {w0 W:World}{rs:List Res}{v:Value}{xs:List α}{b n:Nat}{e:TypeId}{pre cs post:List Value}{y:α}{fi fr:List Nat}(hg:i.good y)
  (h:St w0 W (Res.pc cs (i.lv y) fi::(Res.bx b (pre++cs++post) e :: @Res.rest α i.toShape v b pre post xs n fr::rs))):∃fp,St w0 W (@Res.own (List α) (@instShapeList α i.toShape) _ v (xs.set n y) fp::rs):=
 St.give (St.pc_cs i h hg).swap
def leT {α:Type}(i:Dsh α) (j:Nat) (xs:List α) (n:Nat) (x:α) (s:S) (K:i.good x->S->Tr):Tr:=
 match lku s.O j with
 | some (.own i' h xs' _)=>.e1 (⟨i',xs'⟩:Dat) ⟨i.toShape,xs⟩<|.e0 (Nat.ble 1 i.size) true<|.fn fun G:(Nat×TypeId×List Value)×(List Value×List Nat)=>
   yI (i.lv x) ⟨s.E,(j,.rs i.toShape h G.1.1 G.1.2.2 G.2.1 xs n G.2.2 s.nx)::bB s.O j,s.B,s.nx+1⟩ fun scs s2=>.fp (i.good x) fun hg=>K hg ⟨s2.E,(s.nx,.bx G.1.1 G.1.2.2 scs G.2.1 G.1.2.1)::s2.O,s2.B,s2.nx⟩
 | _=>.no
theorem leT_ok {G:Prop}{α:Type}{i:Dsh α}{j:Nat}{xs:List α}{n:Nat}{x:α}(hx:xs[n]? = some x) {s:S}{K:i.good x->S->Tr}{w0 W:World}{f:Nat->Value}(h:(leT i j xs n x s K).holds) (den:Den w0 s f W)
  (k:∀hg s',(K hg s').holds->Den w0 s' f W->G):G:=by
 unfold leT at h;split at h
 ·next i' h' xs' fp hj=>
  obtain⟨h1,h2,h3⟩:=h;simp only[Dat.mk.injEq]at h1;obtain⟨rfl,h5,h6⟩:=h1;obtain⟨rfl,rfl⟩:=And.intro (eq_of_heq h5) (eq_of_heq h6);have st1:St w0 W (Or s.O++[]):=by simpa [Or,S.rs] using den.st
  obtain⟨b,e,pre,cs,post,fi,fr,hg,st2⟩:=St.lendG i h2 (st1.take hj) hx;rw[append_nil]at st2;refine mA (rs:=[Res.bx b (pre++cs++post) e]) (h3 ((b,e,pre),(post,fr))) st2 fun scs s2 h4 e1 e2 e3 _ st3 hn=>k hg _ (h4 hg) ⟨by rw[e2];exact den.fr,?_,by rw[e3];exact den.fa⟩
  rw[<- e1]at st3;exact st3
 exact h.elim
def giT {α:Type}(i:Dsh α) (j:Nat) (xs:List α) (y:α) (s:S) (K:S->Tr):Tr:=
 match lku s.O j with
 | some (.rs i' h b pre post xs' n _ r)=>.e1 (⟨i',xs'⟩:Dat) ⟨i.toShape,xs⟩<|match lku (bB s.O j) r with
  | some (.bx b' pre' cs post' _)=>.e0 b' b<|.e0 pre' pre<|.e0 post' post<|iI (bB (bB s.O j) r) cs (i.lv y) fun O'=>.fn fun fp:List Nat=>K ⟨s.E,(j,.own i.toShape h (xs.set n y) fp)::O',s.B,s.nx⟩
  | _=>.no
 | _=>.no
theorem giT_ok {G:Prop}{α:Type}{i:Dsh α}{j:Nat}{xs:List α}{y:α}(hy:i.good y) {s:S}{K:S->Tr}{w0 W:World}{f:Nat->Value}(h:(giT i j xs y s K).holds) (den:Den w0 s f W)
  (k:∀s',(K s').holds->Den w0 s' f W->G):G:=by
 unfold giT at h;split at h
 ·next i' h' b pre post xs' n fr r hj=>
  obtain⟨h1,h2⟩:=h;simp only[Dat.mk.injEq]at h1;obtain⟨rfl,h5,h6⟩:=h1;obtain⟨rfl,rfl⟩:=And.intro (eq_of_heq h5) (eq_of_heq h6);split at h2
  ·next b' pre' cs post' t hr=>
   obtain⟨rfl,rfl,rfl,h3⟩:=h2;have st1:St w0 W (Or s.O++[]):=by simpa [Or,S.rs] using den.st
   have st2:=st1.take hj;have st3:St w0 W (Or (bB s.O j)++[@Res.rest _ i.toShape h'.val b' pre' post' xs' n fr]):=by
    refine st2.perm ?_;rw[append_nil];exact perm_append_comm (l₁:=Or (bB s.O j)) (l₂:=[_])
   have st4:=st3.take hr;have st5:St w0 W (Or (bB (bB s.O j) r)++[Res.bx b' (pre'++cs.map Sc.val++post') t,@Res.rest _ i.toShape h'.val b' pre' post' xs' n fr]):=
    st4.perm (perm_middle (a:=Res.bx b' (pre'++cs.map Sc.val++post') t))
   refine dO h3 st5 fun O' fp h4 st6=>?_
   have st7:St w0 W (Res.pc (cs.map Sc.val) (i.lv y) fp::(Res.bx b' (pre'++cs.map Sc.val++post') t :: @Res.rest _ i.toShape h'.val b' pre' post' xs' n fr::Or O')):=
    st6.perm ((perm_append_comm (l₁:=[Res.bx b' (pre'++cs.map Sc.val++post') t,@Res.rest _ i.toShape h'.val b' pre' post' xs' n fr]) (l₂:=Or O')).cons _)
   obtain⟨fp2,st8⟩:=St.giveG i hy st7;exact k _ (h4 fp2) ⟨den.fr,st8,den.fa⟩
  exact h2.elim
 exact h.elim
end
end Go.Proofs.YtpdgdnpajmcaeaaGreat
namespace Go.Proofs.YtpdgdnpajmcaeaaGreat
set_option maxHeartbeats 1000000
set_option maxHeartbeats 2000000
open Go.RowKit Go.Proofs.Tryz List

section
variable {P:Program}{A:Type}{R:A->Prop}
def opd (n:Nat) (s:S):Operand->Option SV
 | .tmp t=>cond (Nat.ble (t+1) n) (lku s.E t) none
 | .const v=>some (one (.vl v))
 | .global _=>none
 | .func g=>some (one (.vl (.func (.func g) #[] #[])))
theorem bH7 {n:Nat}{s:S}{f:Nat->Value}(h:Fr s.E f) (x:Operand) (u:SV) (e:opd n s x=some u):ev n f x=u.val:=by
 cases x with
 | tmp t=>
  simp only[opd]at e;cases hb:Nat.ble (t+1) n with
  | true=>rw[hb]at e;simp only[ev,hb,cond_true];exact h t u e
  | false=>rw[hb]at e;cases e
 | const v=>simp only[opd,Option.some.injEq]at e;subst e;rfl
 | global g=>cases e
 | func g=>simp only[opd,Option.some.injEq]at e;subst e;rfl
def reT {α:Type}(i:Shape α) (r j:Nat) (xs:List α) (n:Nat) (s:S) (K:S->Tr):Tr:=
 match lku s.B (r+2000000),rK s j with
 | some (_,.dv h2 h1 a sz),some (l,h',d)=>.e0 h1 ⟨h'.ao,n,h'.cap⟩<|.e0 a 0<|.e0 sz i.size<|.e1 d ⟨i,xs⟩<|.fn fun fp:List Nat=>K ⟨s.E,s.O,(r,l,.sl i h2 (xs.take n) fp)::s.B,s.nx⟩
 | _,_=>.no
theorem bY3 {G:Prop}{α:Type}{i:Shape α}{r j:Nat}{xs:List α}{n:Nat}{s:S}{K:S->Tr}{w0 W:World}(h:(reT i r j xs n s K).holds) (hn:n<=xs.length) (st:St w0 W s.rs) (fa:Facts w0 W s.B)
  (k:∀s',(K s').holds->s'.E=s.E->s'.O=s.O->Facts w0 W s'.B->G):G:=by
 unfold reT at h;split at h
 ·next l0 h2 h1 a sz l h' d hB hS=>
  obtain⟨rfl,rfl,rfl,rfl,h3⟩:=h;have hdv:=fa _ (kI hB);have hdv:h2.val=sliced h'.ao 0 n h'.cap i.size:=by
   cases l0<;>exact hdv
  obtain⟨fp,hs⟩:=jB hS st fa;obtain⟨u,g,hs',hu,_⟩:=slq_h hs hn;refine k _ (h3 g) rfl rfl fun e he=>?_
  rcases mem_cons.1 he with rfl | he
  ·show Sl _ h2.val _ _;rw[hdv,<- hu _ _ _ rfl];exact hs'
  exact fa e he
 exact h.elim
def prp:D P R->S->(S->D P R->Tr)->Tr
 | .ex (p:=p) _ k,s,K=>.fn fun x=>.fp (p x) fun hx=>prp (k x hx) s K
 | .oc (p:=p) (q:=q) _ a b,s,K=>.an (.fp p fun h=>prp (a h) s K) (.fp q fun h=>prp (b h) s K)
 | .ab _,_,_=>.ok
 | .rw i j xs ys _ k,s,K=>match lku s.O j with
  | some (.own i' h xs' fp)=>.e1 (⟨i',xs'⟩:Dat) ⟨i,xs⟩ (prp k ⟨s.E,(j,.own i h ys fp)::bB s.O j,s.B,s.nx⟩ K)
  | some (.row i' e h xs' fe)=>.e1 (⟨i',xs'⟩:Dat) ⟨i,xs⟩ (prp k ⟨s.E,(j,.row i e h ys fe)::bB s.O j,s.B,s.nx⟩ K)
  | _=>.no
 | .rv t x (y:=y) _ k,s,K=>match lku s.E t with
  | some v=>.e0 v.val y (prp k ⟨(t,one (.vl x))::s.E,s.O,s.B,s.nx⟩ K)
  | none=>.no
 | .rd i r j xs n _ k,s,K=>match lku s.B (r+2000000),rK s j with
  | some (_,.dv h2 h1 a sz),some (l,h',d)=>.e0 h' h1<|.e0 a n<|.e0 sz i.size<|.e1 d ⟨i,xs⟩<|.fn fun fp:List Nat=>prp k ⟨s.E,s.O,(r,l,.sl i h2 (xs.drop n) fp)::s.B,s.nx⟩ K
  | _,_=>.no
 | .re i r j xs n _ k,s,K=>reT i r j xs n s fun s=>prp k s K
 | .li i t ys hne hl hg k,s,K=>match lku s.E t with
  | some (.on (.ce (.lt j b n)))=>match lku s.O j with
   | some (.bx b' pre cs post _)=>.e0 b b'<|.e0 pre []<|.e0 post []<|.e0 n ys.length<|iI (bB s.O j) cs (lvs i ys) fun O'=>.fn fun fp:List Nat=>
     prp k ⟨(t,one (.rf j ⟨some ⟨b,0,none⟩,ys.length,ys.length⟩))::s.E,(j,.own i.toShape ⟨some ⟨b,0,none⟩,ys.length,ys.length⟩ ys (b::fp))::O',s.B,s.nx⟩ K
   | _=>.no
  | _=>K s (.li i t ys hne hl hg k)
 | .lr i hp t ys hl hg k,s,K=>match lku s.E t with
  | some (.on (.ce (.lt j b n)))=>match lku s.O j with
   | some (.bx b' pre cs post te)=>.e0 b b'<|.e0 pre []<|.e0 post []<|.e0 n ys.length<|iI (bB s.O j) cs (lvs i ys) fun O'=> 
     prp k ⟨(t,one (.rf j ⟨some ⟨b,0,none⟩,ys.length,ys.length⟩))::s.E,(j,.row i.toShape te ⟨some ⟨b,0,none⟩,ys.length,ys.length⟩ ys [])::O',s.B,s.nx⟩ K
   | _=>.no
  | _=>K s (.lr i hp t ys hl hg k)
 | .lj i r o ys hne hl hg k,s,K=>match lku s.O r with
  | some (.bx b0 pre0 cs0 post0 t0)=>match cs0[o]? with
   | some (.lt j b n)=>match lku (bB s.O r) j with
    | some (.bx b' pre cs post _)=>.e0 b b'<|.e0 pre []<|.e0 post []<|.e0 n ys.length<|iI (bB (bB s.O r) j) cs (lvs i ys) fun O'=>.fn fun fp:List Nat=>
      prp k ⟨s.E,(j,.own i.toShape ⟨some ⟨b,0,none⟩,ys.length,ys.length⟩ ys (b::fp))::(r,.bx b0 pre0 (cs0.set o (.rf j ⟨some ⟨b,0,none⟩,ys.length,ys.length⟩)) post0 t0)::O',s.B,s.nx⟩ K
    | _=>.no
   | _=>.no
  | _=>.no
 | .sh j k,s,K=>match lku s.O j with
  | some (.row i _ h xs _)=>.fn fun fp:List Nat=>prp k ⟨s.E,(j,.own i h xs fp)::bB s.O j,s.B,s.nx⟩ K
  | _=>.no
 | .r0 i e k,s,K=>prp k ⟨s.E,(s.nx,.row i e ⟨none,0,0⟩ [] [])::s.O,s.B,s.nx+1⟩ K
 | .rn i e t k,s,K=>match lku s.E t with
  | some (.on (.ce (.vl (.slice none 0 0))))=>prp k ⟨(t,one (.rf s.nx ⟨none,0,0⟩))::s.E,(s.nx,.row i e ⟨none,0,0⟩ [] [])::s.O,s.B,s.nx+1⟩ K
  | _=>K s (.rn i e t k)
 | .le i j xs n x hx k,s,K=>match lku s.O j with
  | some _=>leT i j xs n x s fun hg s=>prp (k hg) s K
  | none=>K s (.le i j xs n x hx k)
 | .gi i j xs y _ k,s,K=>giT i j xs y s fun s=>prp k s K
 | .wt t k,s,K=>match lku s.E t with
  | some _=>prp k s K
  | none=>K s (.wt t k)
 | .hx j k,s,K=>match rK s j with
  | some (_,h,_)=>prp (k h) s K
  | none=>.no
 | .w1 k,s,K=>K s k
 | .zr j k,s,K=>match lku s.O j with
  | some (.rz i e h xs fe _ z fz)=>prp k ⟨s.E,(j,.row i.toShape e h (xs++[z]) (fe++fz))::bB s.O j,s.B,s.nx⟩ K
  | _=>.no
 | .lq t j k,s,K=>match lku s.E t with
  | some (.on (.ce (.pt m b1 k1 o)))=>match lku s.B m,lku s.O j with
   | some (_,.el h z n b k0 _),some (.rs i h' b' pre _ _ n' _ r)=>.e0 h h'<|.e0 n n'<|.e0 z i.size<|.e0 b1 b<|.e0 k1 k0<|prp k ⟨(t,one (.pt r b' pre.length o))::s.E,s.O,s.B,s.nx⟩ K
   | _,_=>.no
  | _=>.no
 | .rc t c j k,s,K=>match lku s.E t,rK s j with
  | some (.on (.ag cs)),some (_,h,_)=>match cs[c]? with
   | some x=>.e0 x.val h.val (prp k ⟨(t,.on (.ag (cs.set c (.rf j h))))::s.E,s.O,s.B,s.nx⟩ K)
   | none=>.no
  | _,_=>.no
 | .rb r c j k,s,K=>match lku s.O r,rK s j with
  | some (.bx b pre cs post t),some (_,h,_)=>match cs[c]? with
   | some x=>.e0 x.val h.val (prp k ⟨s.E,(r,.bx b pre (cs.set c (.rf j h)) post t)::bB s.O r,s.B,s.nx⟩ K)
   | none=>.no
  | _,_=>.no
 | d,s,K=>K s d
theorem yE {cs:List Sc}{c:Nat}{x y:Sc}(hx:cs[c]? = some x) (e:x.val=y.val):(cs.set c y).map Sc.val=cs.map Sc.val:=by
 obtain⟨hlt,ho⟩:=gsi_.1 hx;have hs:cs.map Sc.val=(cs.map Sc.val).set c ((cs.map Sc.val)[c]'(by simpa using hlt)):=(set_getElem_self _).symm;rw[hs,map_set];congr 1;rw[getElem_map,ho,e]
theorem fF {G:Prop}{w0:World}{f:Nat->Value}{W:World}:∀{d:D P R}{s:S}{K:S->D P R->Tr},(prp d s K).holds->Den w0 s f W->(∀s' d',(K s' d').holds->Den w0 s' f W->G)->G:=by
 intro d
 induction d with
 | ex h k ih=>
  intro s K hh den kk;obtain⟨x,hx⟩:=h;exact ih x hx (hh x hx) den kk
 | oc h a b iha ihb=>
  intro s K hh den kk;rcases h with h | h
  ·exact iha h (hh.1 h) den kk
  exact ihb h (hh.2 h) den kk
 | ab h=>exact fun _ _ _=>h.elim
 | rw i j xs ys he k ih=>
  intro s K hh den kk;subst he;unfold prp at hh;split at hh
  ·next i' h xs' fp hj=>
   obtain⟨h4,hh⟩:=hh;simp only[Dat.mk.injEq]at h4;obtain⟨rfl,h5,h6⟩:=h4;obtain⟨rfl,rfl⟩:=And.intro (eq_of_heq h5) (eq_of_heq h6);refine ih hh ⟨den.fr,?_,den.fa⟩ kk;have:=St.take (rs:=[]) (by simpa [Or,S.rs] using den.st) hj;simpa [Or,S.rs] using this
  ·next i' te h xs' fp hj=>
   obtain⟨h4,hh⟩:=hh;simp only[Dat.mk.injEq]at h4;obtain⟨rfl,h5,h6⟩:=h4;obtain⟨rfl,rfl⟩:=And.intro (eq_of_heq h5) (eq_of_heq h6);refine ih hh ⟨den.fr,?_,den.fa⟩ kk;have:=St.take (rs:=[]) (by simpa [Or,S.rs] using den.st) hj;simpa [Or,S.rs] using this
  exact hh.elim
 | rv t x he k ih=>
  intro s K hh den kk;subst he;unfold prp at hh;split at hh
  ·next v hv=>
   obtain⟨h1,hh⟩:=hh;exact ih hh ⟨den.fr.know t _ ((den.fr t v hv).trans h1),den.st,den.fa⟩ kk
  exact hh.elim
 | rd i r j xs n hn k ih=>
  intro s K hh den kk;unfold prp at hh;split at hh
  ·next l0 h2 h1 a sz l h' d hB hS=>
   obtain⟨rfl,rfl,rfl,rfl,h3⟩:=hh;have hdv:=den.fa _ (kI hB);have hdv:h2.val=sliced h'.ao a h'.n h'.cap i.size:=by
    cases l0<;>exact hdv
   obtain⟨fp,hs⟩:=jB hS den.st den.fa;obtain⟨g,hs',_⟩:=bX0 hs hn;refine ih (h3 g) ⟨den.fr,den.st,fun e he=>?_⟩ kk;rcases mem_cons.1 he with rfl | he
   ·show Sl _ h2.val _ _;rw[hdv];exact hs'
   exact den.fa e he
  exact hh.elim
 | re i r j xs n hn k ih=>
  intro s K hh den kk;unfold prp at hh;exact bY3 hh hn den.st den.fa fun s' h e1 e2 fa=>ih h ⟨by rw[e1];exact den.fr,by rw[S.rs,e2];exact den.st,fa⟩ kk
 | li i t ys hne hl hg k ih=>
  intro s K hh den kk;unfold prp at hh;split at hh
  ·next j b n hE=>
   split at hh
   ·next b' pre cs post t' hj=>
    obtain⟨rfl,rfl,rfl,rfl,h3⟩:=hh;have st1:St w0 W (Or s.O++[]):=by simpa [Or,S.rs] using den.st
    have st2:=st1.take hj;have st3:St w0 W (Or (bB s.O j)++[Res.bx b (cs.map Sc.val) t']):=by
     have h4:St w0 W (Res.bx b ([]++cs.map Sc.val++[]) t'::(Or (bB s.O j)++[])):=st2;rw[append_nil,append_nil,nil_append]at h4;exact h4.perm (perm_append_comm (l₁:=Or (bB s.O j)) (l₂:=[_]))
    refine dO h3 st3 fun O' fp h5 st4=>?_
    have st5:St w0 W (Res.bx b (cs.map Sc.val) t'::Res.pc (cs.map Sc.val) (lvs i ys) fp::Or O'):=by
     refine st4.perm ((List.Perm.swap _ _ _).trans ?_);exact(perm_append_comm (l₁:=[Res.bx b (cs.map Sc.val) t']) (l₂:=Or O')).cons _
    have st6:=St.lit i hne (Nat.le_trans hl eZ) hg st5;refine ih (h5 fp) ⟨?_,st6,den.fa⟩ kk;have e:=den.fr t _ hE;exact den.fr.know t _ e
   exact hh.elim
  exact kk _ _ hh den
 | lr i hp t ys hl hg k ih=>
  intro s K hh den kk;unfold prp at hh;split at hh
  ·next j b n hE=>
   split at hh
   ·next b' pre cs post t' hj=>
    obtain⟨rfl,rfl,rfl,rfl,h3⟩:=hh;have st1:St w0 W (Or s.O++[]):=by simpa [Or,S.rs] using den.st
    have st2:=st1.take hj;have st3:St w0 W (Or (bB s.O j)++[Res.bx b (cs.map Sc.val) t']):=by
     have h4:St w0 W (Res.bx b ([]++cs.map Sc.val++[]) t'::(Or (bB s.O j)++[])):=st2;rw[append_nil,append_nil,nil_append]at h4;exact h4.perm (perm_append_comm (l₁:=Or (bB s.O j)) (l₂:=[_]))
    refine dO h3 st3 fun O' fp h5 st4=>?_
    have st5:St w0 W (Res.bx b (cs.map Sc.val) t'::Res.pc (cs.map Sc.val) (lvs i ys) fp::Or O'):=by
     refine st4.perm ((List.Perm.swap _ _ _).trans ?_);exact(perm_append_comm (l₁:=[Res.bx b (cs.map Sc.val) t']) (l₂:=Or O')).cons _
    have st6:=St.litrow i hp hl hg st5;refine ih h5 ⟨?_,st6,den.fa⟩ kk;have e:=den.fr t _ hE;exact den.fr.know t _ e
   exact hh.elim
  exact kk _ _ hh den
 | lj i r o ys hne hl hg k ih=>
  intro s K hh den kk;unfold prp at hh;split at hh
  ·next b0 pre0 cs0 post0 t0 hr=>
   split at hh
   ·next j b n ho=>
    split at hh
    ·next b' pre cs post t' hj=>
     obtain⟨rfl,rfl,rfl,rfl,h3⟩:=hh;have st1:St w0 W (Or s.O++[]):=by simpa [Or,S.rs] using den.st
     have st2:=st1.take hr;have st3:St w0 W (Or (bB s.O r)++[(Ob.bx b0 pre0 cs0 post0 t0).res]):=by
      rw[append_nil]at st2;exact st2.perm (perm_append_comm (l₁:=Or (bB s.O r)) (l₂:=[_]))
     have st4:=st3.take hj;have st5:St w0 W (Or (bB (bB s.O r) j)++[Res.bx b (cs.map Sc.val) t',(Ob.bx b0 pre0 cs0 post0 t0).res]):=by
      have h4:St w0 W (Res.bx b ([]++cs.map Sc.val++[]) t'::(Or (bB (bB s.O r) j)++[(Ob.bx b0 pre0 cs0 post0 t0).res])):=st4;rw[append_nil,nil_append]at h4;exact h4.perm (perm_middle (a:=Res.bx b (cs.map Sc.val) t') (l₁:=Or (bB (bB s.O r) j)) (l₂:=[(Ob.bx b0 pre0 cs0 post0 t0).res]))
     refine dO h3 st5 fun O' fp h5 st6=>?_
     have st7:St w0 W (Res.bx b (cs.map Sc.val) t'::Res.pc (cs.map Sc.val) (lvs i ys) fp::((Ob.bx b0 pre0 cs0 post0 t0).res::Or O')):=by
      refine st6.perm ((List.Perm.swap _ _ _).trans ?_);exact(perm_append_comm (l₁:=[Res.bx b (cs.map Sc.val) t',(Ob.bx b0 pre0 cs0 post0 t0).res]) (l₂:=Or O')).cons _
     have st8:=St.lit i hne (Nat.le_trans hl eZ) hg st7;have e:(Ob.bx b0 pre0 cs0 post0 t0).res=(Ob.bx b0 pre0 (cs0.set o (.rf j ⟨some ⟨b,0,none⟩,ys.length,ys.length⟩)) post0 t0).res:=by
      simp only[Ob.res];congr 2;obtain⟨hlt,ho⟩:=gsi_.1 ho;have hs:cs0.map Sc.val=(cs0.map Sc.val).set o ((cs0.map Sc.val)[o]'(by simpa using hlt)):=(set_getElem_self _).symm;rw[hs,map_set];congr 1;rw[getElem_map,ho];rfl
     rw[e]at st8;exact ih (h5 fp) ⟨den.fr,st8,den.fa⟩ kk
    exact hh.elim
   exact hh.elim
  exact hh.elim
 | sh j k ih=>
  intro s K hh den kk;unfold prp at hh;split at hh
  ·next i e h xs fe hj=>
   obtain⟨fp,st1⟩:=St.shut (St.take (rs:=[]) (by simpa [Or,S.rs] using den.st) hj);refine ih (hh fp) ⟨den.fr,?_,den.fa⟩ kk;rw[append_nil]at st1;exact st1
  exact hh.elim
 | r0 i e k ih=>
  intro s K hh den kk;exact ih hh ⟨den.fr,den.st.row_nil e,den.fa⟩ kk
 | rn i e t k ih=>
  intro s K hh den kk;unfold prp at hh;split at hh
  ·next hv=>
   have e1:=den.fr t _ hv;exact ih hh ⟨den.fr.know t (one (.rf s.nx ⟨none,0,0⟩)) e1,den.st.row_nil e,den.fa⟩ kk
  exact kk _ _ hh den
 | le i j xs n x hx k ih=>
  intro s K hh den kk;unfold prp at hh;split at hh
  ·exact leT_ok hx hh den fun hg s' h' den'=>ih hg h' den' kk
  exact kk _ _ hh den
 | wt t k ih=>
  intro s K hh den kk;unfold prp at hh;split at hh
  ·exact ih hh den kk
  exact kk _ _ hh den
 | gi i j xs y hy k ih=>
  intro s K hh den kk;exact giT_ok hy hh den fun s' h' den'=>ih h' den' kk
 | w1 k ih=>exact fun hh den kk=>kk _ _ hh den
 | zr j k ih=>
  intro s K hh den kk;unfold prp at hh;split at hh
  ·next i e h xs fe cs z fz hj=>
   have st2:=St.take (rs:=[]) (by simpa [Or,S.rs] using den.st) hj;rw[append_nil]at st2;exact ih hh ⟨den.fr,St.zrow st2,den.fa⟩ kk
  exact hh.elim
 | lq t j k ih=>
  intro s K hh den kk;unfold prp at hh;split at hh
  ·next m b1 k1 o hE=>
   split at hh
   ·next l h z n b k0 cs α i h' b' pre post xs n' fr r hB hO=>
    obtain⟨rfl,rfl,rfl,rfl,rfl,h1⟩:=hh;have hpa:PA h.val _ n b1 k1:=(den.fa.now den.st.below hB).1;obtain⟨off,cap,f1,f2,p0,c1,c2,q0,e1,e2,e3,e4,e5,e6,e7,e8,e9,e10⟩:=(den.st.holds _ (oG hO)).1;obtain⟨off',n2,cap',e11,e12,e13⟩:=hpa;rw[e1]at e11;simp only[Value.slice.injEq,Option.some.injEq,Addr.mk.injEq]at e11;have hl:=e8.len;rw[length_take,Nat.min_eq_left aA]at hl;refine ih h1 ⟨den.fr.know t _ ((den.fr t _ hE).trans ?_),den.st,den.fa⟩ kk;show Value.pointer (some ⟨b1,k1+o,none⟩)=Value.pointer (some ⟨b',pre.length+o,none⟩);rw[e5,length_append,e6,hl,e13,e11.1.1,e11.1.2.1]
   exact hh.elim
  exact hh.elim
 | hx j k ih=>
  intro s K hh den kk;unfold prp at hh;split at hh
  ·exact ih _ hh den kk
  exact hh.elim
 | rc t c j k ih=>
  intro s K hh den kk;unfold prp at hh;split at hh
  ·next cs l h d hE hj=>
   split at hh
   ·next x hx=>
    obtain⟨e,hh⟩:=hh;refine ih hh ⟨den.fr.know t _ ((den.fr t _ hE).trans ?_),den.st,den.fa⟩ kk;show Value.agg _=Value.agg _;rw[yE hx (y := .rf j h) e]
   exact hh.elim
  exact hh.elim
 | rb r c j k ih=>
  intro s K hh den kk;unfold prp at hh;split at hh
  ·next b pre cs post t l h d hO hj=>
   split at hh
   ·next x hx=>
    obtain⟨e,hh⟩:=hh;have st2:=St.take (rs:=[]) (by simpa [Or,S.rs] using den.st) hO;rw[append_nil]at st2;have e2:(Ob.bx b pre cs post t).res=(Ob.bx b pre (cs.set c (.rf j h)) post t).res:=by
     show Res.bx b (pre++cs.map Sc.val++post) t=Res.bx b (pre++(cs.set c (.rf j h)).map Sc.val++post) t;rw[yE hx (y := .rf j h) e]
    rw[e2]at st2;exact ih hh ⟨den.fr,st2,den.fa⟩ kk
   exact hh.elim
  exact hh.elim
 | _=>exact fun hh den kk=>kk _ _ hh den
def isDq:D P R->Bool
 | .dq ..=>true
 | _=>false
def isBy:D P R->Bool
 | .by_ ..=>true
 | _=>false
def isBs:D P R->Bool
 | .bs ..=>true
 | _=>false
def isCo:D P R->Bool
 | .co ..=>true
 | _=>false
def isCw:D P R->Bool
 | .cw ..=>true
 | _=>false
def isIv:D P R->Bool
 | .iv ..=>true
 | _=>false
def isCv:D P R->Bool
 | .cv ..=>true
 | _=>false
def bU7:D P R->Bool
 | .cm ..=>true
 | .cv ..=>true
 | .iv ..=>true
 | .co ..=>true
 | .cw ..=>true
 | _=>false
def eop (P:Program) {A:Type}{R:A->Prop}(g:Bool) (lk:Operand->Option SV) (s:S) (o:Op) (d:D P R) (K:SV->S->D P R->Tr):Tr:=
 match o with
 | .alloc t=>alT P s t fun v s=>K v s d
 | .box t x=>opt (lk x) fun v=>bxT s t v fun v s=>K v s d
 | .buildSlice t len ps=>opt (lkp lk ps.toList) fun vs=>nrm d fun d=>match isLo d with
  | true=>loT P s t len vs d K
  | false=>bsT P s t len vs d K
 | .store t x y=>opt (lk x) fun v=>asC v fun c=>opt (lk y) fun u=>cond g .no (stT P s t c u fun s'=>K (one (.vl undef)) s' d)
 | .call ⟨.builtin .append,xs,ts⟩=>match xs.toList,ts.toList with
  | [x,y],[t,t']=>nrm d fun d=>match isBs d with
   | true=>opt (lk x) fun v=>asC v fun c=>opt (lk y) fun u=>asC u fun cy=>cond g .no (abT P s t t' c cy d K)
   | false=>.e0 t' t<|opt (lk x) fun v=>asC v fun c=>opt (lk y) fun u=>asC u fun cy=>cond g .no (apT P s t c cy d K)
  | _,_=>.no
 | .makeSlice t x y=>opt (lk x) fun v=>asC v fun c=>opt (lk y) fun u=>asC u fun cy=>nrm d fun d=>mkN P s t c cy d K
 | .call ⟨.value (.func F),xs,_⟩=>nrm d fun d=>match bU7 d with
  | true=>cond g .no (cond (isCw d) (cwT s lk F xs.toList d K) (cond (isCo d) (coT s lk F xs.toList d K) (cond (isIv d) (ivT s F (lkv lk xs.toList) d K) (cond (isCv d) (cvT s lk F xs.toList d K) (cmT s lk F xs.toList d K)))))
  | false=>clT s lk F xs.toList d K
 | .call ⟨.value (.tmp t),xs,_⟩=>cond g .no (cfT s lk t xs.toList d K)
 | .call ⟨.builtin .clear,xs,ts⟩=>match xs.toList,ts.toList with
  | [x],[t]=>opt (lk x) fun v=>asC v fun c=>cond g .no (czT P s t c d K)
  | _,_=>.no
 | .slice t x none (some y) none=>nrm d fun d=>match isDz d with
  | true=>cond g .no (opt (lk x) fun v=>asC v fun c=>opt (lk y) fun u=>asC u fun cy=>dzT P s t c cy d K)
  | false=>qop P lk s (.slice t x none (some y) none) d K
 | .slice t x (some y) none none=>nrm d fun d=>match isDq d with
  | true=>cond g .no (opt (lk x) fun v=>asC v fun c=>opt (lk y) fun u=>asC u fun cy=>dqT P s t c cy d K)
  | false=>qop P lk s (.slice t x (some y) none none) d K
 | .convert t t' x=>nrm d fun d=>match isBy d with
  | true=>opt (lk x) fun v=>asC v fun c=>byT P s t t' c d K
  | false=>qop P lk s (.convert t t' x) d K
 | o=>qop P lk s o d K
def bD5:Op->Bool
 | .alloc _ | .box _ _ | .buildSlice _ _ _ | .makeSlice _ _ _=>true
 | .call ⟨.value (.func _),_,_⟩=>true
 | _=>false
theorem bI6 {w0:World}{gw:Bool}{s:S}{lk:Operand->Option SV}{o:Op}{dd:D P R}{K:SV->S->D P R->Tr}{n:Nat}{f:Nat->Value}{W:World}{Q:Exit->Act->World->Prop}{KK:Value->World->Prop}{d:Option Tmp}{ty:TypeId}{pos:String}{af:Array Go.Edge}{g:Option (Nat×Bool)}
  (h:(eop P gw lk s o dd K).holds) (hl:∀x u,lk x=some u->ev n f x=u.val) (hst:St w0 W s.rs) (hfa:Facts w0 W s.B) (k:∀v s' d' W',(K v s' d').holds->s'.E=s.E->(gw=true->(∃N,s'.O=N++s.O)/\Below W.heap.size W W')->St w0 W' s'.rs->Facts w0 W' s'.B->KK v.val W'):Stp P n ⟨d,o,ty,pos,af,g⟩ f W Q KK:=by
 unfold eop at h;split at h
 ·exact alT_ok h hst hfa fun v s' W' h' e g1 g2 st' fa'=>k v s' _ W' h' e (fun _=>⟨g1,g2⟩) st' fa'
 ·exact aD h fun v hv h=>bxT_ok (hl _ _ hv) h hst hfa fun v s' W' h' e g1 g2 st' fa'=>k v s' _ W' h' e (fun _=>⟨g1,g2⟩) st' fa'
 ·refine aD h fun vs hvs h=>cG h fun d' h=>?_
  split at h
  ·have:=loT_ok (d:=d) (ty:=ty) (pos:=pos) (af:=af) (g:=g) (Q:=Q) (KK:=KK) (aU0 hl hvs) h hst hfa fun v s' d' W' h' e g1 g2 st' fa'=>k v s' d' W' h' e (fun _=>⟨g1,g2⟩) st' fa'
   simpa using this
  have:=bsT_ok (d:=d) (ty:=ty) (pos:=pos) (af:=af) (g:=g) (Q:=Q) (KK:=KK) (aU0 hl hvs) h hst hfa fun v s' d' W' h' e g1 g2 st' fa'=>k v s' d' W' h' e (fun _=>⟨g1,g2⟩) st' fa'
  simpa using this
 ·refine aD h fun v hv h'=>bT h' fun c hc h=>aD h fun u hu h=>?_
  subst hc;cases gw with
  | true=>exact h.elim
  | false=>
   simp only[cond_false]at h;exact stT_ok (hl _ _ hv) (hl _ _ hu) h hst hfa fun s' W' h' e st' fa'=>k (one (.vl undef)) s' _ W' h' e (fun hg=>by cases hg) st' fa'
 ·next xs ts=>
  split at h
  ·next x y t t' e1 e2=>
   have e1:xs = #[x,y]:=by rw[<- Array.toArray_toList (xs:=xs),e1]
   have e2:ts = #[t,t']:=by rw[<- Array.toArray_toList (xs:=ts),e2]
   subst e1 e2;refine cG h fun d' h=>?_
   split at h
   ·refine aD h fun v hv h'=>bT h' fun c hc h=>aD h fun u hu h''=>bT h'' fun cy hcy h=>?_
    subst hc hcy;cases gw with
    | true=>exact h.elim
    | false=>
     simp only[cond_false]at h;exact abT_ok (hl _ _ hv) (hl _ _ hu) h hst hfa fun v s' d' W' h' e st' fa'=>k v s' d' W' h' e (fun hg=>by cases hg) st' fa'
   obtain⟨rfl,h⟩:=h;refine aD h fun v hv h'=>bT h' fun c hc h=>aD h fun u hu h''=>bT h'' fun cy hcy h=>?_
   subst hc hcy;cases gw with
   | true=>exact h.elim
   | false=>
    simp only[cond_false]at h;exact apT_ok (hl _ _ hv) (hl _ _ hu) h hst hfa fun v s' d' W' h' e st' fa'=>k v s' d' W' h' e (fun hg=>by cases hg) st' fa'
  exact h.elim
 ·refine aD h fun v hv h'=>bT h' fun c hc h=>aD h fun u hu h''=>bT h'' fun cy hcy h=>?_
  subst hc hcy;refine cG h fun d' h=>?_
  exact mkN_ok (hl _ _ hv) (hl _ _ hu) h hst hfa fun v s' d' W' h' e g1 g2 st' fa'=>k v s' d' W' h' e (fun _=>⟨g1,g2⟩) st' fa'
 ·next F xs ts=>
  refine cG h fun d' h1=>?_
  split at h1
  ·cases gw with
   | true=>exact h1.elim
   | false=>
    simp only[cond_false]at h1;cases hcw:isCw d' with
    | true=>
     rw[hcw]at h1;have:=cwT_ok (ats:=ts) (d:=d) (ty:=ty) (pos:=pos) (af:=af) (g:=g) (Q:=Q) (KK:=KK) hl h1 hst hfa fun v s' d' W' h' e st' fa'=>k v s' d' W' h' e (fun hg=>by cases hg) st' fa'
     simpa using this
    | false=>
    rw[hcw]at h1;simp only[cond_false]at h1;cases hco:isCo d' with
    | true=>
     rw[hco]at h1;have:=coT_ok (ats:=ts) (d:=d) (ty:=ty) (pos:=pos) (af:=af) (g:=g) (Q:=Q) (KK:=KK) hl h1 hst hfa fun v s' d' W' h' e st' fa'=>k v s' d' W' h' e (fun hg=>by cases hg) st' fa'
     simpa using this
    | false=>
    rw[hco]at h1;simp only[cond_false]at h1;cases hiv:isIv d' with
    | true=>
     rw[hiv]at h1;refine cB1 h1 hst hfa (fun v s' d' W' h' e st' fa'=>k v s' d' W' h' e (fun hg=>by cases hg) st' fa') fun hf ho hus hc=>?_
     have:=gT (P:=P) (n:=n) (f:=f) (W:=W) (Q:=Q) (K:=KK) (d:=d) (ty:=ty) (pos:=pos) (af:=af) (g:=g) (ats:=ts) hf ho (iF hl hus) hc;simpa using this
    | false=>
    rw[hiv]at h1;simp only[cond_false]at h1;cases hcv:isCv d' with
    | true=>
     rw[hcv]at h1;have:=cvT_ok (ats:=ts) (d:=d) (ty:=ty) (pos:=pos) (af:=af) (g:=g) (Q:=Q) (KK:=KK) hl h1 hst hfa fun v s' d' W' h' e st' fa'=>k v s' d' W' h' e (fun hg=>by cases hg) st' fa'
     simpa using this
    | false=>
    rw[hcv]at h1;have:=cmT_ok (ats:=ts) (d:=d) (ty:=ty) (pos:=pos) (af:=af) (g:=g) (Q:=Q) (KK:=KK) hl h1 hst hfa fun v s' d' W' h' e st' fa'=>k v s' d' W' h' e (fun hg=>by cases hg) st' fa'
    simpa using this
  have:=clT_ok (ats:=ts) (d:=d) (ty:=ty) (pos:=pos) (af:=af) (g:=g) (Q:=Q) (KK:=KK) hl h1 hst hfa fun v s' d' W' h' e g1 g2 st' fa'=>k v s' d' W' h' e (fun _=>⟨g1,g2⟩) st' fa'
  simpa using this
 ·next t xs ts=>
  cases gw with
  | true=>exact h.elim
  | false=>
   simp only[cond_false]at h;have:=cfT_ok (ats:=ts) (d:=d) (ty:=ty) (pos:=pos) (af:=af) (g:=g) (Q:=Q) (KK:=KK) hl h hst hfa fun v s' d' W' h' e st' fa'=>k v s' d' W' h' e (fun hg=>by cases hg) st' fa'
   simpa using this
 ·next xs ts=>
  split at h
  ·next x t e1 e2=>
   have e1:xs = #[x]:=by rw[<- Array.toArray_toList (xs:=xs),e1]
   have e2:ts = #[t]:=by rw[<- Array.toArray_toList (xs:=ts),e2]
   subst e1 e2;refine aD h fun v hv h'=>bT h' fun c hc h=>?_
   subst hc;cases gw with
   | true=>exact h.elim
   | false=>
    simp only[cond_false]at h;exact czT_ok (hl _ _ hv) h hst hfa fun v s' d' W' h' e st' fa'=>k v s' d' W' h' e (fun hg=>by cases hg) st' fa'
  exact h.elim
 ·next t x y=>
  refine cG h fun d' h1=>?_
  split at h1
  ·cases gw with
   | true=>exact h1.elim
   | false=>
    simp only[cond_false]at h1;refine aD h1 fun v hv h2=>bT h2 fun c hc h3=>aD h3 fun u hu h4=>bT h4 fun cy hcy h5=>?_
    subst hc hcy;exact dzT_ok (hl _ _ hv) (hl _ _ hu) h5 hst hfa fun v s' d' h' e st' fa'=>k v s' d' W h' e (fun hg=>by cases hg) st' fa'
  refine aD2 h1 hst hfa fun v s' d' h' e1 e2 fa' q=>q hl hst (Below.refl _ _) fun W'' st' hb=>k v s' d' W'' h' e1 (fun _=>⟨⟨[],by rw[e2];rfl⟩,hb⟩) (by rw[S.rs,e2];exact st') (fa'.up hb)
 ·next t x y=>
  refine cG h fun d' h1=>?_
  split at h1
  ·cases gw with
   | true=>exact h1.elim
   | false=>
    simp only[cond_false]at h1;refine aD h1 fun v hv h2=>bT h2 fun c hc h3=>aD h3 fun u hu h4=>bT h4 fun cy hcy h5=>?_
    subst hc hcy;exact dqT_ok (hl _ _ hv) (hl _ _ hu) h5 hst hfa fun v s' d' h' e st' fa'=>k v s' d' W h' e (fun hg=>by cases hg) st' fa'
  refine aD2 h1 hst hfa fun v s' d' h' e1 e2 fa' q=>q hl hst (Below.refl _ _) fun W'' st' hb=>k v s' d' W'' h' e1 (fun _=>⟨⟨[],by rw[e2];rfl⟩,hb⟩) (by rw[S.rs,e2];exact st') (fa'.up hb)
 ·next t t' x=>
  refine cG h fun d' h1=>?_
  split at h1
  ·refine aD h1 fun v hv h2=>bT h2 fun c hc h3=>?_
   subst hc;exact byT_ok (hl _ _ hv) h3 hst hfa fun v s' d' W' h' e1 e2 hb st' fa'=>k v s' d' W' h' e1 (fun _=>⟨⟨[],by rw[e2];rfl⟩,hb⟩) st' fa'
  refine aD2 h1 hst hfa fun v s' d' h' e1 e2 fa' q=>q hl hst (Below.refl _ _) fun W'' st' hb=>k v s' d' W'' h' e1 (fun _=>⟨⟨[],by rw[e2];rfl⟩,hb⟩) (by rw[S.rs,e2];exact st') (fa'.up hb)
 next o h1 h2 h3 h4 h5 h6 h7 h8 h9 h10 h11=>
 refine aD2 h hst hfa fun v s' d' h' e1 e2 fa' q=>q hl hst (Below.refl _ _) fun W'' st' hb=>k v s' d' W'' h' e1 (fun _=>⟨⟨[],by rw[e2];rfl⟩,hb⟩) (by rw[S.rs,e2];exact st') (fa'.up hb)
def putS (d:Option Tmp) (v:SV) (s:S):S:=
 match d with
 | none=>s
 | some t=>⟨(t,v)::s.E,s.O,s.B,s.nx⟩
theorem Den.put {w0:World}{s:S}{f:Nat->Value}{W:World}(h:Den w0 s f W) (d:Option Tmp) (v:SV):Den w0 (putS d v s) (dF f d v.val) W:=by
 cases d with
 | none=>exact h
 | some t=>exact⟨h.fr.put t v,h.st,h.fa⟩
def onB (w r:Bool):Bool:=cond w r (!r)
def grd (n:Nat) (all:List Oper) (s:S) (o:Oper) (d:D P R) (K:Bool->S->D P R->Tr):Tr:=
 match o.guard with
 | none=>K true s d
 | some (j,w)=>opt ((all[j]?).bind (·.dst)) fun dd=>.e0 (Nat.ble (dd+1) n) true<|opt (lku s.E dd) fun v=>match v with
  | .on (.ce (.bo e))=>bl (.bo e) d fun r d=>K (onB w r) ⟨(dd,one (.vl (.bool r)))::s.E,s.O,s.B,s.nx⟩ d
  | .on (.ce c)=>K (match yl c.val with
   | some b=>onB w b
   | none=>false) s d
  | .on (.ag _)=>.no
  | .tu _=>.no
def opsT (P:Program) {A:Type}{R:A->Prop}(n:Nat) (all:List Oper):List Oper->S->D P R->(S->D P R->Tr)->Tr
 | [],s,d,K=>K s d
 | o::os,s,d,K=>prp d s fun s d=>grd n all s o d fun on s d=>match on with
  | true=>eop P false (opd n s) s o.op d fun v s d=>opsT P n all os (putS o.dst v s) d K
  | false=>opsT P n all os (putS o.dst (one (.vl undef)) s) d K
theorem grd_ok {G:Prop}{w0:World}{n:Nat}{all:List Oper}{s:S}{o:Oper}{d:D P R}{K:Bool->S->D P R->Tr}{f:Nat->Value}{W:World}(h:(grd n all s o d K).holds) (den:Den w0 s f W)
  (k:∀on s' d',(K on s' d').holds->Den w0 s' f W->(o.guard=none/\on=true∨∃j w dd,o.guard=some (j,w)/\(all.toArray[j]?).bind (·.dst)=some dd/\dd<n/\(yl (f dd) == some w)=on)->G):G:=by
 unfold grd at h;split at h
 ·next hg=>exact k _ _ _ h den (.inl ⟨hg,rfl⟩)
 next j w hg=>
 refine aD h fun dd hd h=>?_
 obtain⟨hn,h⟩:=h;have hn:=Nat.le_of_ble_eq_true hn;refine aD h fun v hv h=>?_
 have hf:=den.fr dd v hv;have hd':(all.toArray[j]?).bind (·.dst)=some dd:=by simpa using hd
 split at h
 ·next e=>
  refine bR9 h fun r d' hr h=>?_
  have hr:e=r:=by simpa [Sc.val] using hr
  subst hr;refine k _ _ _ h ⟨den.fr.know dd _ hf,den.st,den.fa⟩ (.inr ⟨j,w,dd,hg,hd',hn,?_⟩);rw[hf];show (some e == some w)=_;cases e<;>cases w<;>rfl
 ·next c _=>
  refine k _ _ _ h den (.inr ⟨j,w,dd,hg,hd',hn,?_⟩);rw[hf];show (yl c.val == some w)=_;split
  ·next b hb=>rw[hb];cases b<;>cases w<;>rfl
  next hb=>rw[hb];cases w<;>rfl
 ·exact h.elim
 exact h.elim
theorem aT3 {w0:World}{n:Nat}{all:List Oper}{Q:Exit->Act->World->Prop}{K:S->D P R->Tr}(k:∀s' d' f' W',(K s' d').holds->Den w0 s' f' W'->Q .normal (act n f') W') :
  ∀{l:List Oper}{s:S}{d:D P R}{f:Nat->Value}{W:World},(opsT P n all l s d K).holds->Den w0 s f W->Wl P all.toArray Q l n f W
 | [],s,d,f,W,h,den=>bO (k _ _ _ _ h den)
 | o::os,s,d,f,W,h,den=>by
  refine fF h den fun s1 d1 h1 den1=>grd_ok h1 den1 fun on s2 d2 h2 den2 hg=>?_
  cases on with
  | true=>
   have hs:Stp P n o f W Q (fun v W'=>Wl P all.toArray Q os n (dF f o.dst v) W'):=by
    refine bI6 (d:=o.dst) (ty:=o.type) (pos:=o.pos) (af:=o.after) (g:=o.guard) h2 (bH7 den2.fr) den2.st den2.fa fun v s' d' W' h' e _ st' fa'=>?_
    exact aT3 k h' (Den.put ⟨by rw[e];exact den2.fr,st',fa'⟩ o.dst v)
   rcases hg with⟨hg,_⟩ | ⟨j,w,dd,hg,hd,hn,hy⟩
   ·exact sx hg hs
   exact bW3 hg hd hn (by simpa using hy) hs
  | false=>
   rcases hg with⟨_,hx⟩ | ⟨j,w,dd,hg,hd,hn,hy⟩
   ·cases hx
   exact bG6 hg hd hn hy (aT3 k h2 (den2.put o.dst (one (.vl undef))))
end
end Go.Proofs.YtpdgdnpajmcaeaaGreat
namespace Go.Proofs.YtpdgdnpajmcaeaaGreat
set_option maxRecDepth 100000
set_option maxHeartbeats 2000000
open Go.RowKit Go.Proofs.Tryz List
structure Pv where
 p:(Nat->Value)->Value->Prop
 lk:List Nat
 fr:∀{f f':Nat->Value}{v},(∀t∈lk,f t=f' t)->p f v->p f' v
structure RP where
 p:(Nat->Value)->Res->Prop
 lk:List Nat
 fr:∀{f f':Nat->Value}{r},(∀t∈lk,f t=f' t)->p f r->p f' r
def Pv.is (u:Value):Pv:=⟨fun _ v=>v=u,[],fun _ h=>h⟩
def Pv.any:Pv:=⟨fun _ _=>True,[],fun _ h=>h⟩
def Pv.cp (t:Nat):Pv:=⟨fun f v=>v=f t,[t],fun h e=>by rw[e,h t (by simp)]⟩
def Pv.ex {ι:Type}(g:ι->Value):Pv:=⟨fun _ v=>∃x,v=g x,[],fun _ h=>h⟩
def RP.is (r:Res):RP:=⟨fun _ s=>s=r,[],fun _ h=>h⟩
def RP.of {ι:Type}(ts:List Nat) (e:ι->List Value) (r:ι->Res):RP:=⟨fun f s=>∃x,ts.map f=e x/\s=r x,ts,fun h ⟨x,e1,e2⟩=>⟨x,by rw[<- e1];exact map_congr_left (fun t ht=>(h t ht).symm),e2⟩⟩
abbrev Tb:=List (Option Nat×Option Nat×RP)
def isO (m:Option Nat) (i:Nat):Bool:=match m with | some j=>Nat.beq j i | none=>false
def live (D:Nat->Bool) (m u:Option Nat):Bool:=(match m with | some i=>D i | none=>true) && (match u with | some i=> !D i | none=>true)
def AL (D:Nat->Bool):Tb->(Nat->Value)->List Res->Prop
 | [],_,rs=>rs=[]
 | (m,u,p)::tb,f,rs=>cond (live D m u) (∃r rs2,rs=r::rs2/\p.p f r/\AL D tb f rs2) (AL D tb f rs)
def US (i:Nat):Tb->(Nat->Value)->List Res->Prop
 | [],_,rs=>rs=[]
 | (_,u,p)::tb,f,rs=>cond (isO u i) (∃r rs2,rs=r::rs2/\p.p f r/\US i tb f rs2) (US i tb f rs)
def MK (i:Nat):Tb->(Nat->Value)->List Res->Prop
 | [],_,rs=>rs=[]
 | (m,_,p)::tb,f,rs=>cond (isO m i) (∃r rs2,rs=r::rs2/\p.p f r/\MK i tb f rs2) (MK i tb f rs)
def bF1 (l:List Oper):Nat->Nat->Nat->Bool
 | 0,i,j=>dep l i j
 | k+1,i,j=>dep l i j || (List.range l.length).any (fun m=>dep l i m && bF1 l k m j)
theorem lO {l:List Oper}{D:Nat->Bool}(hD:∀j k,D j=true->dep l j k=true->D k=true):∀(k i j:Nat),(∀m,dep l i m=true->D m=true)->bF1 l k i j=true->D j=true
 | 0,i,j,h,hd=>h j hd
 | k+1,i,j,h,hd=>by
  unfold bF1 at hd;rw[Bool.or_eq_true]at hd;rcases hd with hd | hd
  ·exact h j hd
  ·rw[any_eq_true]at hd;obtain⟨m,_,h2⟩:=hd;rw[Bool.and_eq_true]at h2;exact lO hD k m j (fun q hq=>hD m q (h m h2.1) hq) h2.2
def aS3 (l:List Oper) (i:Nat) (own:Bool) (t:Nat):Bool:=gL l t || (List.range l.length).any (fun j=>((own && Nat.beq j i) || bF1 l 2 i j) && (match aW l j with | some d=>Nat.beq d t | none=>false))
def tbOk (l:List Oper) (tb:Tb):Bool:=
 tb.all (fun e=>(match e.1 with | some i=>Nat.blt i l.length && e.2.2.lk.all (aS3 l i true) | none=>e.2.2.lk.all (gL l)) && (match e.2.1 with | some j=>Nat.blt j l.length && (match e.1 with | some i=>bF1 l 2 j i | none=>true) | none=>true))
def pvOk (l:List Oper) (F:List (Bool×Pv)) (tb:Tb):Bool:=
 (List.range l.length).all (fun i=>((F.getD i (true,Pv.any)).2.lk.all (aS3 l i false)) && (!(F.getD i (true,Pv.any)).1 || tb.all (fun e=> !isO e.1 i && !isO e.2.1 i)))
section
variable {P:Program}{n:Nat}{w0 w1:World}{rc:List Res}{Q:Exit->Act->World->Prop}
def bT1 (w0 w1:World) (rc:List Res) (tb:Tb) (f:Nat->Value) (i:Nat) (o:Oper) (p:Pv) (oth:List Res) (v:Value) (W:World):Prop:=
 p.p f v/\(∃rm,MK i tb (dF f o.dst v) rm/\St w0 W (rm++(rc++oth)))/\Below w1.heap.size w1 W
def StepF (P:Program) (n:Nat) (w0 w1:World) (rc:List Res) (Q:Exit->Act->World->Prop) (tb:Tb) (l:List Oper) (F:List (Bool×Pv)) (f0:Nat->Value) (i:Nat) (o:Oper) (p:Pv):Prop:=
 ∀f W ru oth,US i tb f ru->St w0 W (ru++(rc++oth))->Below w1.heap.size w1 W->(∀j d,bF1 l 2 i j=true->aW l j=some d->(F.getD j (true,Pv.any)).2.p f (f d))->(∀t,kY l i t=true->f t=f0 t) ->
  match o.guard with
  | none=>Stp P n o f W Q (bT1 w0 w1 rc tb f i o p oth)
  | some _=>cond (onR l f o) (Stp P n o f W Q (bT1 w0 w1 rc tb f i o p oth)) (bT1 w0 w1 rc tb f i o p oth undef W)
def StepQ (P:Program) (n:Nat) (w0 w1:World) (rc:List Res) (Q:Exit->Act->World->Prop) (l:List Oper) (F:List (Bool×Pv)) (f0:Nat->Value) (i:Nat) (o:Oper) (p:Pv):Prop:=
 ∀f W,St w0 W rc->Below w1.heap.size w1 W->(∀j d,bF1 l 2 i j=true->aW l j=some d->(F.getD j (true,Pv.any)).2.p f (f d))->(∀t,kY l i t=true->f t=f0 t) ->
  match o.guard with
  | none=>Stp P n o f W Q (fun v W'=>Below W.heap.size W W'/\p.p f v)
  | some _=>cond (onR l f o) (Stp P n o f W Q (fun v W'=>Below W.heap.size W W'/\p.p f v)) (p.p f undef)
def AllF (P:Program) (n:Nat) (w0 w1:World) (rc:List Res) (Q:Exit->Act->World->Prop) (tb:Tb) (l:List Oper) (F:List (Bool×Pv)) (f0:Nat->Value):Nat->List Oper->List (Bool×Pv)->Prop
 | _,[],[]=>True
 | i,o::os,(q,p)::ps=>cond q (StepQ P n w0 w1 rc Q l F f0 i o p) (StepF P n w0 w1 rc Q tb l F f0 i o p)/\AllF P n w0 w1 rc Q tb l F f0 (i+1) os ps
 | _,_,_=>False
theorem AllF.get {tb:Tb}{l:List Oper}{F:List (Bool×Pv)}{f0:Nat->Value}:∀{os:List Oper}{ps:List (Bool×Pv)}{k:Nat},AllF P n w0 w1 rc Q tb l F f0 k os ps->∀i o,os[i]? = some o->∃q p,ps[i]? = some (q,p)/\cond q (StepQ P n w0 w1 rc Q l F f0 (k+i) o p) (StepF P n w0 w1 rc Q tb l F f0 (k+i) o p)
 | o::os,(q,p)::ps,k,h,0,o',hi=>by simp at hi;subst hi;exact⟨q,p,rfl,h.1⟩
 | o::os,(_,_)::ps,k,h,i+1,o',hi=>by
  obtain⟨q,p,hq,hs⟩:=AllF.get h.2 i o' (by simpa using hi);exact⟨q,p,by simpa using hq,by rw[<- Nat.add_assoc,Nat.add_right_comm];exact hs⟩
 | [],_,_,_,i,o',hi=>by simp at hi
 | o::os,[],_,h,_,_,_=>h.elim
structure IF_ (w0 w1:World) (rc:List Res) (tb:Tb) (l:List Oper) (F:List (Bool×Pv)) (f0:Nat->Value) (D:Nat->Bool) (f:Nat->Value) (W:World):Prop where
 res:∃rs,AL D tb f rs/\St w0 W (rs++rc)
 bl:Below w1.heap.size w1 W
 vals:∀j d,j<l.length->D j=true->aW l j=some d->(F.getD j (true,Pv.any)).2.p f (f d)
 keep:∀t,(∀j,j<l.length->D j=true->aW l j≠some t)->f t=f0 t
theorem aJ5 {D:Nat->Bool}{i:Nat}{f:Nat->Value}:∀{tb:Tb}{rs:List Res},(∀e∈tb,isO e.2.1 i=true->live D e.1 e.2.1=true)->AL D tb f rs->∃ru ro,rs.Perm (ru++ro)/\US i tb f ru/\∀(D':Nat->Bool) (f':Nat->Value),(∀j,D' j=cond (Nat.beq j i) true (D j))->D i=false->(∀e∈tb,live D e.1 e.2.1=true->∀r,e.2.2.p f r->e.2.2.p f' r) ->
   ∀rm,MK i tb f' rm->(∀e∈tb,isO e.1 i=true->isO e.2.1 i=false)->(∀e∈tb,isO e.1 i=true->live D' e.1 e.2.1=true)->∃rs',AL D' tb f' rs'/\rs'.Perm (rm++ro)
 | [],rs,_,h=>⟨[],[],by rw[show rs=[] from h];exact List.Perm.refl _,rfl,fun D' f' _ _ _ rm hm _ _=>⟨[],rfl,by rw[show rm=[] from hm];exact List.Perm.refl _⟩⟩
 | (m,u,p)::tb,rs,hu,h=>by
  have hu':∀e∈tb,isO e.2.1 i=true->live D e.1 e.2.1=true:=fun e he=>hu e (mem_cons_of_mem _ he)
  unfold AL at h;cases hl:live D m u with
  | false=>
   rw[hl]at h;simp only[cond_false]at h;have hui:isO u i=false:=by
    cases hb:isO u i with
    | false=>rfl
    | true=>have:=hu _ mem_cons_self hb;rw[hl]at this;cases this
   obtain⟨ru,ro,hp,hus,hk⟩:=aJ5 hu' h;refine⟨ru,ro,hp,by unfold US;rw[hui];exact hus,fun D' f' hD hDi hpf rm hmk hmu hml=>?_⟩;unfold MK at hmk;cases hmi:isO m i with
   | true=>
    rw[hmi]at hmk;simp only[cond_true]at hmk;obtain⟨r,rm2,rfl,hr,hmk⟩:=hmk;obtain⟨rs',ha,hpe⟩:=hk D' f' hD hDi (fun e he=>hpf e (mem_cons_of_mem _ he)) rm2 hmk (fun e he=>hmu e (mem_cons_of_mem _ he)) (fun e he=>hml e (mem_cons_of_mem _ he));refine⟨r::rs',?_,by rw[cons_append];exact hpe.cons r⟩;unfold AL;rw[hml _ mem_cons_self hmi];exact⟨r,rs',rfl,hr,ha⟩
   | false=>
    rw[hmi]at hmk;simp only[cond_false]at hmk;obtain⟨rs',ha,hpe⟩:=hk D' f' hD hDi (fun e he=>hpf e (mem_cons_of_mem _ he)) rm hmk (fun e he=>hmu e (mem_cons_of_mem _ he)) (fun e he=>hml e (mem_cons_of_mem _ he));refine⟨rs',?_,hpe⟩;unfold AL;have:live D' m u=false:=by
     rw[<- hl];unfold live;have e1:∀x,isO (some x) i=false->D' x=D x:=fun x hx=>by rw[hD];have:Nat.beq x i=false:=hx;rw[this];rfl
     cases m with
     | none=>cases u with
      | none=>rfl
      | some y=>simp only[e1 y hui]
     | some x=>cases u with
      | none=>simp only[e1 x hmi]
      | some y=>simp only[e1 x hmi,e1 y hui]
    rw[this];exact ha
  | true=>
   rw[hl]at h;simp only[cond_true]at h;obtain⟨r,rs2,rfl,hr,h⟩:=h;obtain⟨ru,ro,hp,hus,hk⟩:=aJ5 hu' h;have hmi:D i=false->isO m i=false:=fun hDi=>by
    cases m with
    | none=>rfl
    | some x=>
     cases hb:Nat.beq x i with
     | false=>exact hb
     | true=>
      have e:=Nat.eq_of_beq_eq_true hb;subst e;simp[live,hDi]at hl
   cases hui:isO u i with
   | true=>
    refine⟨r::ru,ro,by rw[cons_append];exact hp.cons r,by unfold US;rw[hui];exact⟨r,ru,rfl,hr,hus⟩,fun D' f' hD hDi hpf rm hmk hmu hml=>?_⟩;unfold MK at hmk;rw[hmi hDi]at hmk;obtain⟨rs',ha,hpe⟩:=hk D' f' hD hDi (fun e he=>hpf e (mem_cons_of_mem _ he)) rm hmk (fun e he=>hmu e (mem_cons_of_mem _ he)) (fun e he=>hml e (mem_cons_of_mem _ he));refine⟨rs',?_,hpe⟩;unfold AL;have:live D' m u=false:=by
     cases u with
     | none=>cases hui
     | some y=>
      have:D' y=true:=by rw[hD];have:Nat.beq y i=true:=hui;rw[this];rfl
      unfold live;simp[this]
    rw[this];exact ha
   | false=>
    refine⟨ru,r::ro,(hp.cons r).trans perm_middle.symm,by unfold US;rw[hui];exact hus,fun D' f' hD hDi hpf rm hmk hmu hml=>?_⟩;unfold MK at hmk;have hm0:=hmi hDi;rw[hm0]at hmk;obtain⟨rs',ha,hpe⟩:=hk D' f' hD hDi (fun e he=>hpf e (mem_cons_of_mem _ he)) rm hmk (fun e he=>hmu e (mem_cons_of_mem _ he)) (fun e he=>hml e (mem_cons_of_mem _ he));refine⟨r::rs',?_,(hpe.cons r).trans perm_middle.symm⟩;unfold AL;have:live D' m u=true:=by
     rw[<- hl];unfold live;have e1:∀x,isO (some x) i=false->D' x=D x:=fun x hx=>by rw[hD];have:Nat.beq x i=false:=hx;rw[this];rfl
     cases m with
     | none=>cases u with
      | none=>rfl
      | some y=>simp only[e1 y hui]
     | some x=>cases u with
      | none=>simp only[e1 x hm0]
      | some y=>simp only[e1 x hm0,e1 y hui]
    rw[this];exact⟨r,rs',rfl,hpf _ mem_cons_self hl r hr,ha⟩
theorem keepF {tb:Tb}{l:List Oper}{F:List (Bool×Pv)}{f0:Nat->Value}(ho:OrdOk n l) (htb:tbOk l tb=true) (hpv:pvOk l F tb=true) (hs:AllF P n w0 w1 rc Q tb l F f0 0 l F):KeepI P n Q l (IF_ w0 w1 rc tb l F f0):=by
 constructor;intro i o D f W hol hDi hdep hdown hI;have hiN:i<l.length:=(gsi_.1 hol).1;obtain⟨q,p,hp,hstep⟩:=hs.get i o hol;rw[Nat.zero_add]at hstep;have hpF:F.getD i (true,Pv.any)=(q,p):=by rw[getD_eq_getElem?_getD,hp];rfl
 have hdo:aW l i=o.dst:=by simp[aW,hol]
 rw[tbOk,all_eq_true]at htb;rw[pvOk,all_eq_true]at hpv;obtain⟨rs,hAL,hst⟩:=hI.res;have hdp:∀j d,bF1 l 2 i j=true->aW l j=some d->(F.getD j (true,Pv.any)).2.p f (f d):=fun j d hj hd=>hI.vals j d (by
  unfold aW at hd;cases hq:l[j]? with
  | none=>rw[hq]at hd;cases hd
  | some x=>exact(gsi_.1 hq).1) (lO hdown 2 i j hdep hj) hd
 have hkp:∀t,kY l i t=true->f t=f0 t:=fun t hk=>by
  refine hI.keep t (fun j hjN hj hd=>?_);unfold kY at hk;rw[all_eq_true]at hk;have:=hk j (by simpa using hjN);rw[hd]at this;simp only[eG,Bool.not_true,Bool.or_false,Bool.or_eq_true]at this;rcases this with h | h
  ·rw[Nat.eq_of_beq_eq_true h,hDi]at hj;cases hj
  have:=hdown j i hj h;rw[hDi]at this;cases this
 have hput:∀v t,o.dst≠some t->dF f o.dst v t=f t:=by
  intro v t h;cases hod:o.dst with
  | none=>rfl
  | some d'=>
   simp only[dF,upd];rw[iP (fun e'=>h (by rw[hod,e']))];rfl
 have hslot:∀j own,D j=true∨(own=false/\j=i)->∀t,aS3 l j own t=true->o.dst≠some t:=by
  intro j own hj t ht e;unfold aS3 at ht;rw[Bool.or_eq_true]at ht;rcases ht with ht | ht
  ·exact oH ht i hiN (by rw[hdo];exact e)
  rw[any_eq_true]at ht;obtain⟨k,hkN,h2⟩:=ht;rw[mem_range]at hkN;rw[Bool.and_eq_true]at h2;have hkd:aW l k=some t:=by
   have:=h2.2;split at this
   ·next d hd=>rw[hd,Nat.eq_of_beq_eq_true this]
   cases this
  have hkD:D k=true:=by
   have h3:=h2.1;rw[Bool.or_eq_true,Bool.and_eq_true]at h3;rcases hj with hj | ⟨rfl,rfl⟩
   ·rcases h3 with h3 | h3
    ·rw[Nat.eq_of_beq_eq_true h3.2];exact hj
    exact lO hdown 2 j k (fun m hm=>hdown j m hj hm) h3
   rcases h3 with h3 | h3
   ·cases h3.1
   exact lO hdown 2 j k hdep h3
  have hki:k≠i:=fun e'=>by rw[e',hDi]at hkD;cases hkD
  exact ho.ne k i t hkN hiN hki hkd (by rw[hdo];exact e)
 have hDs:∀j,eR D i j=cond (Nat.beq j i) true (D j):=fun _=>rfl
 have hpc:∀v W',(∃rs',AL (eR D i) tb (dF f o.dst v) rs'/\St w0 W' (rs'++rc))->Below w1.heap.size w1 W'->p.p f v->IF_ w0 w1 rc tb l F f0 (eR D i) (dF f o.dst v) W':=by
  intro v W' hr hb hv;refine⟨hr,hb,?_,?_⟩
  ·intro j d hjN hj hd;by_cases e:j=i
   ·subst e;rw[hpF];rw[hdo]at hd;have e3:dF f o.dst v d=v:=by rw[hd];simp only[dF,upd,eG,cond_true]
    rw[e3];refine p.fr (fun t ht=>?_) hv;have h1:=hpv j (by simpa using hjN);rw[hpF,Bool.and_eq_true,all_eq_true]at h1;exact(hput v t (hslot j false (.inr ⟨rfl,rfl⟩) t (h1.1 t ht))).symm
   have hjD:D j=true:=by rw[hDs,iP e]at hj;exact hj
   have hold:=hI.vals j d hjN hjD hd;rw[hput v d (fun e'=>ho.ne j i d hjN hiN e hd (by rw[hdo];exact e'))];refine(F.getD j (true,Pv.any)).2.fr (fun t ht=>?_) hold;have h1:=hpv j (by simpa using hjN);rw[Bool.and_eq_true,all_eq_true]at h1;exact(hput v t (hslot j false (.inl hjD) t (h1.1 t ht))).symm
  intro t hk;have hne:o.dst≠some t:=by rw[<- hdo];exact hk i hiN (by rw[hDs,eG];rfl)
  rw[hput v t hne];refine hI.keep t (fun j hjN hj=>hk j hjN ?_);rw[hDs];cases Nat.beq j i with
  | true=>rfl
  | false=>exact hj
 have hlv:∀e∈tb,live D e.1 e.2.1=true->∀v r,e.2.2.p f r->e.2.2.p (dF f o.dst v) r:=by
  intro e he hl v r hr;refine e.2.2.fr (fun t ht=>?_) hr;have h1:=htb e he;rw[Bool.and_eq_true]at h1;obtain⟨h1,_⟩:=h1;cases hm:e.1 with
  | none=>
   rw[hm]at h1;simp only[all_eq_true]at h1;exact(hput v t (fun e'=>oH (h1 t ht) i hiN (by rw[hdo];exact e'))).symm
  | some j=>
   rw[hm]at h1 hl;simp only[Bool.and_eq_true,all_eq_true]at h1;unfold live at hl;rw[Bool.and_eq_true]at hl;exact(hput v t (hslot j true (.inl hl.1) t (h1.2 t ht))).symm
 cases q with
 | true=>
  simp only[cond_true]at hstep;have hno:∀e∈tb,isO e.1 i=false/\isO e.2.1 i=false:=by
   have h1:=hpv i (by simpa using hiN);rw[hpF,Bool.and_eq_true]at h1;have h2:=h1.2;simp only[Bool.not_true,Bool.false_or,all_eq_true,Bool.and_eq_true,Bool.not_eq_true']at h2;exact h2
  have hAL2:∀v,AL (eR D i) tb (dF f o.dst v) rs:=by
   intro v;have key:∀(tb:Tb) (rs:List Res),(∀e∈tb,isO e.1 i=false/\isO e.2.1 i=false)->(∀e∈tb,live D e.1 e.2.1=true->∀r,e.2.2.p f r->e.2.2.p (dF f o.dst v) r)->AL D tb f rs->AL (eR D i) tb (dF f o.dst v) rs:=by
    intro tb
    induction tb with
    | nil=>intro rs _ _ h;exact h
    | cons e tb ih=>
     obtain⟨m,u,p⟩:=e;intro rs h1 h2 h;have hm:=(h1 _ mem_cons_self).1;have hu:=(h1 _ mem_cons_self).2;have e1:∀x,isO (some x) i=false->eR D i x=D x:=fun x hx=>by rw[hDs];have:Nat.beq x i=false:=hx;rw[this];rfl
     have hl:live (eR D i) m u=live D m u:=by
      unfold live;cases m with
      | none=>cases u with
       | none=>rfl
       | some y=>simp only[e1 y hu]
      | some x=>cases u with
       | none=>simp only[e1 x hm]
       | some y=>simp only[e1 x hm,e1 y hu]
     unfold AL at h ⊢;rw[hl];cases hlv2:live D m u with
     | true=>
      rw[hlv2]at h;obtain⟨r,rs2,e,hr,h⟩:=h;exact⟨r,rs2,e,h2 _ mem_cons_self hlv2 r hr,ih rs2 (fun x hx=>h1 x (mem_cons_of_mem _ hx)) (fun x hx=>h2 x (mem_cons_of_mem _ hx)) h⟩
     | false=>
      rw[hlv2]at h;exact ih rs (fun x hx=>h1 x (mem_cons_of_mem _ hx)) (fun x hx=>h2 x (mem_cons_of_mem _ hx)) h
   exact key tb rs hno (fun e he hl r hr=>hlv e he hl v r hr) hAL
  have hrc:St w0 W rc:=by have:=hst.sub (sublist_append_right rs rc);exact this
  have h1:=hstep f W hrc hI.bl hdp hkp;have hfin:∀v W',Below W.heap.size W W'/\p.p f v->IF_ w0 w1 rc tb l F f0 (eR D i) (dF f o.dst v) W':=fun v W' h=>hpc v W' ⟨rs,hAL2 v,by simpa using hst.call (St.of_below h.1)⟩ (hI.bl.trans (h.1.mono hI.bl.size)) h.2
  cases hg:o.guard with
  | none=>
   rw[hg]at h1;have:onR l f o=true:=by unfold onR;rw[hg]
   rw[this];exact Stp.mono h1 hfin
  | some jw=>
   rw[hg]at h1;simp only at h1;cases hon:onR l f o with
   | true=>rw[hon]at h1;exact Stp.mono h1 hfin
   | false=>rw[hon]at h1;exact hfin undef W ⟨Below.refl _ _,h1⟩
 | false=>
  simp only[cond_false]at hstep;have hu:∀e∈tb,isO e.2.1 i=true->live D e.1 e.2.1=true:=by
   intro e he hui;have h1:=htb e he;rw[Bool.and_eq_true]at h1;obtain⟨_,h1⟩:=h1;cases hu2:e.2.1 with
   | none=>rw[hu2]at hui;cases hui
   | some y=>
    rw[hu2]at h1 hui;have hyi:y=i:=Nat.eq_of_beq_eq_true hui;subst hyi;rw[Bool.and_eq_true]at h1;unfold live;simp only[hDi,Bool.not_false,Bool.and_true];cases hm:e.1 with
    | none=>rfl
    | some x=>
     rw[hm]at h1;exact lO hdown 2 y x hdep h1.2
  obtain⟨ru,ro,hpe,hus,hk⟩:=aJ5 hu hAL;have hmu:∀e∈tb,isO e.1 i=true->isO e.2.1 i=false:=by
   intro e he hmi;cases hb:isO e.2.1 i with
   | false=>rfl
   | true=>
    have:=hu e he hb;cases hm:e.1 with
    | none=>rw[hm]at hmi;cases hmi
    | some x=>
     rw[hm]at hmi this;have e:=Nat.eq_of_beq_eq_true (show Nat.beq x i=true from hmi);subst e;simp[live,hDi]at this
  have hml:∀e∈tb,isO e.1 i=true->live (eR D i) e.1 e.2.1=true:=by
   intro e he hmi;have hui:=hmu e he hmi;have h1:=htb e he;rw[Bool.and_eq_true]at h1;obtain⟨_,h1⟩:=h1;cases hm:e.1 with
   | none=>rw[hm]at hmi;cases hmi
   | some x=>
    rw[hm]at hmi h1;have hxi:x=i:=Nat.eq_of_beq_eq_true hmi;subst hxi;unfold live;have e1:eR D x x=true:=by rw[hDs,eG];rfl
    simp only[e1,Bool.true_and];cases hu2:e.2.1 with
    | none=>rfl
    | some y=>
     rw[hu2]at h1 hui;simp only[Bool.and_eq_true]at h1;have hyx:Nat.beq y x=false:=hui;show (!eR D x y)=true;rw[hDs,hyx];simp only[cond_false];cases hy:D y with
     | false=>rfl
     | true=>
      exfalso;have:=lO hdown 2 y x (fun m hm=>hdown y m hy hm) h1.2;rw[hDi]at this;cases this
  have hst2:St w0 W (ru++(rc++ro)):=by
   refine hst.perm (List.Perm.trans ?_ (hpe.symm.append_right rc));rw[append_assoc];exact(List.Perm.refl ru).append perm_append_comm
  have h1:=hstep f W ru ro hus hst2 hI.bl hdp hkp;have hfin:∀v W',bT1 w0 w1 rc tb f i o p ro v W'->IF_ w0 w1 rc tb l F f0 (eR D i) (dF f o.dst v) W':=by
   rintro v W' ⟨hv,⟨rm,hmk,hs2⟩,hb⟩;obtain⟨rs',ha,hp2⟩:=hk (eR D i) (dF f o.dst v) hDs hDi (fun e he hl r hr=>hlv e he hl v r hr) rm hmk hmu hml;refine hpc v W' ⟨rs',ha,hs2.perm ?_⟩ hb hv;refine(hp2.append_right rc).trans ?_;rw[append_assoc];exact(List.Perm.refl rm).append perm_append_comm
  cases hg:o.guard with
  | none=>
   rw[hg]at h1;have:onR l f o=true:=by unfold onR;rw[hg]
   rw[this];exact Stp.mono h1 hfin
  | some jw=>
   rw[hg]at h1;simp only at h1;cases hon:onR l f o with
   | true=>rw[hon]at h1;exact Stp.mono h1 hfin
   | false=>rw[hon]at h1;exact hfin undef W h1
theorem qN {id:Nat}{l:List Oper}(k:Nat) (tb:Tb) {W:World}{f0:Nat->Value}(F:List (Bool×Pv)) (hm:P.follows .mixedOrders=true) (ho:sC n (l.take k)=true) (hT:((l.drop k).isEmpty || pJ (l.take k) (l.drop k))=true) (htb:tbOk (l.take k) tb=true) (hpv:pvOk (l.take k) F tb=true)
  {rs0:List Res}(h0:AL (fun _=>false) tb f0 rs0) (hst:St w0 W (rs0++rc)) (hb:Below w1.heap.size w1 W) (hs:AllF P n w0 w1 rc Q tb (l.take k) F f0 0 (l.take k) F)
  (fin:∀f W' rs',AL (fun _=>true) tb f rs'->St w0 W' (rs'++rc)->Below w1.heap.size w1 W'->(∀i d,i<(l.take k).length->aW (l.take k) i=some d->(F.getD i (true,Pv.any)).2.p f (f d))->(∀t,gL (l.take k) t=true->f t=f0 t)->Wl P l.toArray Q (l.drop k) n f W') :
  (Code.region id l.toArray true).wp P Q (act n f0) W:=by
 have hbd:Below W.heap.size W { W with drawn:=W.drawn+1 }:=(Below.refl _ _).drew;refine zA k (IF_ w0 w1 rc tb (l.take k) F f0) hm ho hT ⟨⟨rs0,h0,by simpa using hst.call (St.of_below hbd)⟩,hb.trans (hbd.mono hb.size),fun j d _ h=>(nomatch h),fun _ _=>rfl⟩ (keepF (OrdOk.of ho) htb hpv hs) ?_;intro D f W' hD hI;obtain⟨rs',hAL,hst'⟩:=hI.res;have hAt:AL (fun _=>true) tb f rs':=by
  have key:∀(tb:Tb) (rs:List Res),(∀e∈tb,(∀i,e.1=some i->i<(l.take k).length)/\(∀i,e.2.1=some i->i<(l.take k).length))->AL D tb f rs->AL (fun _=>true) tb f rs:=by
   intro tb
   induction tb with
   | nil=>intro rs _ h;exact h
   | cons e tb ih=>
    obtain⟨m,u,p⟩:=e;intro rs h1 h;have hl:live (fun _=>true) m u=live D m u:=by
     unfold live;have h2:=h1 _ mem_cons_self;cases m with
     | none=>cases u with
      | none=>rfl
      | some y=>simp only[hD y (h2.2 y rfl)]
     | some x=>cases u with
      | none=>simp only[hD x (h2.1 x rfl)]
      | some y=>simp only[hD x (h2.1 x rfl),hD y (h2.2 y rfl)]
    unfold AL at h ⊢;rw[hl];cases hlv2:live D m u with
    | true=>
     rw[hlv2]at h;obtain⟨r,rs2,e,hr,h⟩:=h;exact⟨r,rs2,e,hr,ih rs2 (fun x hx=>h1 x (mem_cons_of_mem _ hx)) h⟩
    | false=>
     rw[hlv2]at h;exact ih rs (fun x hx=>h1 x (mem_cons_of_mem _ hx)) h
  refine key tb rs' ?_ hAL;intro e he;rw[tbOk,all_eq_true]at htb;have h1:=htb e he;rw[Bool.and_eq_true]at h1;refine⟨fun i hi=>?_,fun i hi=>?_⟩
  ·rw[hi]at h1;have:=h1.1;simp only[Bool.and_eq_true]at this;exact mF this.1
  rw[hi]at h1;have:=h1.2;simp only[Bool.and_eq_true]at this;exact mF this.1
 exact fin f W' rs' hAt hst' hI.bl (fun i d hi hd=>hI.vals i d hi (hD i hi) hd) (fun t ht=>hI.keep t (fun i hi _=>oH ht i hi))
theorem mq_ {A P:Prop}(z:A) (h:A->P:=by intro z f W hst hbl hd hf;exact bY (Eq.trans (hf _ (by rfl)) z) brq):P:=h z
theorem fq_ {A B P:Prop}(y:B) (z:A) (h:B->A->P:=by intro y z f W hst hbl hd hf;exact eV y (Eq.trans (hf _ (by rfl)) z) brq):P:=h y z
end
end Go.Proofs.YtpdgdnpajmcaeaaGreat
namespace Go.Proofs.YtpdgdnpajmcaeaaGreat
set_option maxHeartbeats 1000000
set_option maxHeartbeats 2000000
open Go.RowKit Go.Proofs.Tryz List

def cB4 (l:List Oper) (j t:Nat):Bool:=
 match aW l j with
 | some d=>Nat.beq d t
 | none=>false
theorem isDst_ok {l:List Oper}{j t:Nat}(h:cB4 l j t=true):aW l j=some t:=by
 unfold cB4 at h;split at h
 ·next d hd=>rw[hd,Nat.eq_of_beq_eq_true h]
 cases h
def lkD (n:Nat) (l:List Oper) (E0 V:List (Nat×SV)) (i:Nat):Operand->Option SV
 | .tmp t=>cond (Nat.ble (t+1) n) (match (List.range l.length).find? (fun j=>dep l i j && cB4 l j t) with
  | some j=>lku V j
  | none=>cond (kY l i t) (lku E0 t) none) none
 | .const v=>some (one (.vl v))
 | .global _=>none
 | .func g=>some (one (.vl (.func (.func g) #[] #[])))
def isX:Op->Bool
 | .alloc _ | .box _ _ | .buildSlice _ _ _ | .store _ _ _ | .makeSlice _ _ _=>true
 | .call ⟨.value (.func _),_,_⟩=>true
 | .call ⟨.value (.tmp _),_,_⟩=>true
 | .call ⟨.builtin .append,_,_⟩=>true
 | .call ⟨.builtin .copy,_,_⟩=>true
 | .call ⟨.builtin .clear,_,_⟩=>true
 | _=>false
def bZ6 (l:List Oper) (done:List Nat) (p:Op->Bool):Option Nat:=
 (List.range l.length).find? fun i=> !done.contains i && (match l[i]? with
  | some o=>p o.op
  | none=>false) && (List.range l.length).all fun j=> !dep l i j || done.contains j
def yM (l:List Oper):Nat->List Nat->List Nat
 | 0,_=>[]
 | k+1,done=>match bZ6 l done (fun o=> !isX o) with
  | some i=>i::yM l k (i::done)
  | none=>match bZ6 l done (fun _=>true) with
   | some i=>i::yM l k (i::done)
   | none=>[]
def keys {α:Type u}(V:List (Nat×α)):List Nat:=V.map (·.1)
def bV3 (l:List Oper) (j:Nat):List Nat:=(List.range l.length).foldl (fun acc i=>cond (acc.any fun k=>dep l i k) (i::acc) acc) [j]
def bI9 (l:List Oper) (is:List Nat) (i:Nat):Bool:=is.all fun q=>(bV3 l i).contains q
def slJ (l:List Oper) (j:Nat):Bool:=
 match l[j]? with
 | some o=>cB3 o.op
 | none=>false
def pnd (l:List Oper) (done:List Nat) (i:Nat) (g:Bool):List Nat:=cond g [] (done.filter fun j=> !(bV3 l j).contains i && !slJ l j)
section
variable {P:Program}{A:Type}{R:A->Prop}
def grdD (V:List (Nat×SV)) (o:Oper) (d:D P R) (K:Bool->List (Nat×SV)->D P R->Tr):Tr:=
 match o.guard with
 | none=>K true V d
 | some (j,w)=>opt (lku V j) fun v=>match v with
  | .on (.ce (.bo e))=>bl (.bo e) d fun r d=>K (onB w r) ((j,one (.vl (.bool r)))::V) d
  | .on (.ce c)=>K (match yl c.val with
   | some b=>onB w b
   | none=>false) V d
  | .on (.ag _)=>.no
  | .tu _=>.no
def rrT (P:Program) {A:Type}{R:A->Prop}(n:Nat) (l:List Oper) (E0 V:List (Nat×SV)) (s:S) (d:D P R):List Nat->Tr->Tr
 | [],k=>k
 | j::js,k=>opt (l[j]?) fun o=>opt (lku V j) fun x=>.e0 o.guard.isNone true<|qop P (lkD n l E0 V j) s o.op d fun v _ _=>.e0 v.val x.val (rrT P n l E0 V s d js k)
def reK {P:Program}{A:Type}{R:A->Prop}(d:D P R) (s:S) (K:S->D P R->Tr):Tr:=
 match d with
 | .re i r j xs n _ k=>reT i r j xs n s fun s=>K s k
 | d=>K s d
theorem reK_ok {G:Prop}{d:D P R}{s:S}{K:S->D P R->Tr}{w0 W:World}(h:(reK d s K).holds) (st:St w0 W s.rs) (fa:Facts w0 W s.B)
  (k:∀s' d',(K s' d').holds->s'.O=s.O->Facts w0 W s'.B->G):G:=by
 unfold reK at h;split at h
 ·next hn _=>exact bY3 h hn st fa fun s' h _ e2 fa2=>k s' _ h e2 fa2
 exact k _ _ h rfl fa
def drT (P:Program) {A:Type}{R:A->Prop}(n:Nat) (l:List Oper) (E0:List (Nat×SV)):List Nat->List (Nat×SV)->S->D P R->(List (Nat×SV)->S->D P R->Tr)->Tr
 | [],V,s,d,K=>K V s d
 | i::is,V,s,d,K=>opt (l[i]?) fun o=>.e0 (lku V i).isNone true<|grdD V o d fun on V d=>match on with
  | true=>nrm d fun d=>match isX o.op && bI9 l is i with
   | true=>reK d s fun s d=>eop P (bD5 o.op && !bU7 d) (lkD n l E0 V i) s o.op d fun v s d'=>rrT P n l E0 ((i,v)::V) s d' (pnd l (keys V) i (bD5 o.op && !bU7 d)) (drT P n l E0 is ((i,v)::V) s d' K)
   | false=>qop P (lkD n l E0 V i) s o.op d fun v s d=>drT P n l E0 is ((i,v)::V) s d K
  | false=>drT P n l E0 is ((i,one (.vl undef))::V) s d K
def wQ (l:List Oper) (V:List (Nat×SV)):List Nat->List (Nat×SV)
 | []=>[]
 | j::js=>match aW l j,lku V j with
  | some d,some x=>(d,x)::wQ l V js
  | _,_=>wQ l V js
def bR2 (P:Program) {A:Type}{R:A->Prop}(n:Nat) (l:List Oper) (s:S) (d:D P R) (K:S->D P R->Tr):Tr:=
 prp d s fun s d=>.e0 (P.follows .mixedOrders && sC n l) true<|.e0 ((List.range l.length).all fun i=>(yM l l.length []).contains i) true <|
  drT P n l s.E (yM l l.length []) [] s d fun V s' d=>K ⟨wQ l V (List.range l.length)++s.E,s'.O,s'.B,s'.nx⟩ d

def FIa (l:List Oper) (V:List (Nat×SV)) (D:Nat->Bool) (f:Nat->Value):Prop:=∀j x d,lku V j=some x->D j=true->aW l j=some d->f d=x.val
def FIb (l:List Oper) (f0:Nat->Value) (D:Nat->Bool) (f:Nat->Value):Prop:=∀t,(∀j,D j=true->aW l j≠some t)->f t=f0 t
def aJ3 (l:List Oper) (D:Nat->Bool):Prop:=∀j k,D j=true->dep l j k=true->D k=true
theorem aF0 {n:Nat}{l:List Oper}{E0 V:List (Nat×SV)}{i:Nat}{D:Nat->Bool}{f0 f:Nat->Value}(hE:Fr E0 f0) (hi:D i=false) (hd:∀j,dep l i j=true->D j=true) (hc:aJ3 l D) (ha:FIa l V D f) (hb:FIb l f0 D f) (x:Operand) (u:SV) (e:lkD n l E0 V i x=some u):ev n f x=u.val:=by
 cases x with
 | tmp t=>
  simp only[lkD]at e;cases hn:Nat.ble (t+1) n with
  | false=>rw[hn]at e;cases e
  | true=>
   rw[hn]at e;simp only[ev,hn,cond_true]at e ⊢;split at e
   ·next j hj=>
    have:=find?_some hj;simp only[Bool.and_eq_true]at this;exact ha j u t e (hd j this.1) (isDst_ok this.2)
   cases hk:kY l i t with
   | false=>rw[hk]at e;cases e
   | true=>
    rw[hk]at e;rw[hb t fun j hj hdj=>?_]
    ·exact hE t u e
    unfold kY at hk;rw[all_eq_true]at hk;have hjl:j<l.length:=by
     unfold aW at hdj;cases hq:l[j]? with
     | none=>rw[hq]at hdj;cases hdj
     | some o=>exact(gsi_.1 hq).1
    have:=hk j (mem_range.2 hjl);rw[hdj]at this;simp only[eG,Bool.not_true,Bool.or_false,Bool.or_eq_true]at this;rcases this with h | h
    ·rw[Nat.eq_of_beq_eq_true h]at hj;rw[hj]at hi;cases hi
    have:=hc j i hj h;rw[hi]at this;cases this
 | const v=>simp only[lkD,Option.some.injEq]at e;subst e;rfl
 | global g=>cases e
 | func g=>simp only[lkD,Option.some.injEq]at e;subst e;rfl
theorem qD {l:List Oper}{D:Nat->Bool}(hc:aJ3 l D) {i q:Nat}(h:(bV3 l i).contains q=true) (hq:q≠i) (hd:∀m,dep l q m=true->D m=true):D i=true:=by
 have key:∀(r acc:List Nat),(∀q∈acc,(D q=true->D i=true)/\(q=i∨∃m,dep l q m=true/\(D m=true->D i=true)))->∀q∈r.foldl (fun acc i=>cond (acc.any fun k=>dep l i k) (i::acc) acc) acc,(D q=true->D i=true)/\(q=i∨∃m,dep l q m=true/\(D m=true->D i=true)):=by
  intro r
  induction r with
  | nil=>exact fun acc h=>h
  | cons a r ih=>
   intro acc h;refine ih _ ?_;show ∀q∈cond (acc.any fun k=>dep l a k) (a::acc) acc,_;cases ha:acc.any fun k=>dep l a k with
   | false=>exact h
   | true=>
    show ∀q∈a::acc,_;intro q hq;rcases mem_cons.1 hq with rfl | hq
    ·obtain⟨k,hk,hdk⟩:=any_eq_true.1 ha;have:=(h k hk).1;exact⟨fun hD=>this (hc _ _ hD hdk),.inr ⟨k,hdk,this⟩⟩
    exact h q hq
 have:=key (List.range l.length) [i] (fun q hq=>by rw[mem_singleton]at hq;subst hq;exact⟨id,.inl rfl⟩) q (by simpa [bV3] using h);rcases this.2 with rfl | ⟨m,hm,h2⟩
 ·exact absurd rfl hq
 exact h2 (hd m hm)
def Ext (V V2:List (Nat×SV)):Prop:=∀j x,lku V j=some x->∃x',lku V2 j=some x'/\x'.val=x.val
theorem Ext.refl (V:List (Nat×SV)):Ext V V:=fun j x h=>⟨x,h,rfl⟩
theorem Ext.trans {A B C:List (Nat×SV)}(h:Ext A B) (k:Ext B C):Ext A C:=fun j x hx=>by
 obtain⟨x',h1,h2⟩:=h j x hx;obtain⟨x'',h3,h4⟩:=k j x' h1;exact⟨x'',h3,h4.trans h2⟩
theorem Ext.new {V:List (Nat×SV)}{i:Nat}{v:SV}(h:lku V i=none):Ext V ((i,v)::V):=fun j x hx=>by
 refine⟨x,?_,rfl⟩;unfold lku;rw[iP (fun e=>by rw[e,h]at hx;cases hx)];exact hx
theorem Ext.know {V:List (Nat×SV)}{i:Nat}{v v':SV}(h:lku V i=some v) (e:v'.val=v.val):Ext V ((i,v')::V):=fun j x hx=>by
 by_cases hj:j=i
 ·subst hj;rw[h]at hx;cases hx;exact⟨v',by unfold lku;rw[Nat.beq_refl];rfl,e⟩
 ·exact⟨x,by unfold lku;rw[iP hj];exact hx,rfl⟩
theorem FIa.of_ext {l:List Oper}{V V2:List (Nat×SV)}{D:Nat->Bool}{f:Nat->Value}(h:FIa l V2 D f) (e:Ext V V2):FIa l V D f:=fun j x d hx hj hd=>by
 obtain⟨x',h1,h2⟩:=e j x hx;rw[h j x' d h1 hj hd,h2]
def Pn0 (P:Program) (n:Nat) (Q:Exit->Act->World->Prop) (w0:World) (l:List Oper) (f0:Nat->Value) (V:List (Nat×SV)) (s:S) (W:World) (j:Nat):Prop:=
 ∃x o,lku V j=some x/\l[j]? = some o/\∀D f W',D j=false->(∀k,dep l j k=true->D k=true)->aJ3 l D->FIa l V D f->FIb l f0 D f->St w0 W' s.rs->Below W.heap.size W W' ->
  cond (onR l f o) (∀KK:Value->World->Prop,(∀W'',Below W'.heap.size W' W''->KK x.val W'')->Stp P n o f W' Q KK) (x.val=undef)
theorem Pn0.mono {n:Nat}{Q:Exit->Act->World->Prop}{w0:World}{l:List Oper}{f0:Nat->Value}{V V2:List (Nat×SV)}{s s2:S}{W W2:World}{j:Nat}(h:Pn0 P n Q w0 l f0 V s W j) (e:Ext V V2) (hs:∃N,s2.O=N++s.O) (hb:Below W.heap.size W W2):Pn0 P n Q w0 l f0 V2 s2 W2 j:=by
 obtain⟨x,o,h1,h2,h3⟩:=h;obtain⟨x',h4,h5⟩:=e j x h1;refine⟨x',o,h4,h2,fun D f W' a b c d g st b2=>?_⟩;obtain⟨N,hN⟩:=hs;have:=h3 D f W' a b c (d.of_ext e) g (st.sub (by rw[S.rs,S.rs,hN,map_append];exact sublist_append_right _ _)) (hb.trans (b2.mono hb.size));rw[h5];exact this
def Pnd (P:Program) (n:Nat) (Q:Exit->Act->World->Prop) (w0:World) (l:List Oper) (f0:Nat->Value) (V:List (Nat×SV)) (s:S) (W:World) (j:Nat):Prop:=
 Pn0 P n Q w0 l f0 V s W j/\(slJ l j=true->∀s1 W1,Pn0 P n Q w0 l f0 V s1 W1 j)
theorem Pnd.mono {n:Nat}{Q:Exit->Act->World->Prop}{w0:World}{l:List Oper}{f0:Nat->Value}{V V2:List (Nat×SV)}{s s2:S}{W W2:World}{j:Nat}(h:Pnd P n Q w0 l f0 V s W j) (e:Ext V V2) (hs:∃N,s2.O=N++s.O) (hb:Below W.heap.size W W2):Pnd P n Q w0 l f0 V2 s2 W2 j:=
 ⟨h.1.mono e hs hb,fun z s1 W1=>(h.2 z s1 W1).mono e ⟨[],rfl⟩ (Below.refl _ _)⟩
theorem Pnd.any {n:Nat}{Q:Exit->Act->World->Prop}{w0:World}{l:List Oper}{f0:Nat->Value}{V V2:List (Nat×SV)}{s s2:S}{W W2:World}{j:Nat}(h:Pnd P n Q w0 l f0 V s W j) (z:slJ l j=true) (e:Ext V V2):Pnd P n Q w0 l f0 V2 s2 W2 j:=
 ⟨(h.2 z s2 W2).mono e ⟨[],rfl⟩ (Below.refl _ _),fun z s1 W1=>(h.2 z s1 W1).mono e ⟨[],rfl⟩ (Below.refl _ _)⟩
def Stg (P:Program) {A:Type}{R:A->Prop}(n:Nat) (l:List Oper) (E0:List (Nat×SV)) (K:List (Nat×SV)->S->D P R->Tr) (is:List Nat) (V:List (Nat×SV)) (s:S) (d:D P R):Prop:=
 match is with
 | []=>(K V s d).holds
 | i::is=>∃o g,l[i]? = some o/\lku V i=none/\bI9 l is i=true/\(eop P g (lkD n l E0 V i) s o.op d fun v s d=>rrT P n l E0 ((i,v)::V) s d (pnd l (keys V) i g) (drT P n l E0 is ((i,v)::V) s d K)).holds /\
   ∀D f,(∀k,dep l i k=true->D k=true)->FIa l V D f->onR l f o=true
theorem grdD_ok {G:Prop}{n:Nat}{l:List Oper}(ho:OrdOk n l) {V:List (Nat×SV)}{i:Nat}{o:Oper}{d:D P R}{K:Bool->List (Nat×SV)->D P R->Tr}(hi:l[i]? = some o) (h:(grdD V o d K).holds)
  (k:∀on V2 d',(K on V2 d').holds->Ext V V2->(∀j,j∈keys V2↔j∈keys V)->(∀D f,(∀k,dep l i k=true->D k=true)->FIa l V2 D f->onR l f o=on)->G):G:=by
 unfold grdD at h;split at h
 ·next hg=>exact k _ _ _ h (Ext.refl V) (fun _=>Iff.rfl) fun D f _ _=>by unfold onR;rw[hg]
 next j w hg=>
 obtain⟨hdj,dd,hdd⟩:=ho.guard i o j w hi hg;refine aD h fun v hv h=>?_
 split at h
 ·next e=>
  refine bR9 h fun r d' hr h=>?_
  have hr:e=r:=by simpa [Sc.val] using hr
  subst hr;refine k _ _ _ h (Ext.know hv rfl) (fun q=>?_) fun D f hd ha=>?_
  ·simp only[keys,map_cons,mem_cons];exact⟨fun h=>h.elim (fun e=>by rw[e];exact mem_map.2 ⟨_,kI hv,rfl⟩) id,.inr⟩
  have:=ha j _ dd (by unfold lku;rw[Nat.beq_refl];rfl) (hd j hdj) hdd;unfold onR;rw[hg];simp only[hdd];rw[this];show (some e == some w)=_;cases e<;>cases w<;>rfl
 ·next c _=>
  refine k _ _ _ h (Ext.refl V) (fun _=>Iff.rfl) fun D f hd ha=>?_
  have:=ha j _ dd hv (hd j hdj) hdd;unfold onR;rw[hg];simp only[hdd];rw[this];show (yl c.val == some w)=_;split
  ·next b hb=>rw[hb];cases b<;>cases w<;>rfl
  next hb=>rw[hb];cases w<;>rfl
 ·exact h.elim
 exact h.elim
theorem lku_none {α:Type u}{V:List (Nat×α)}{j:Nat}:lku V j=none↔j∉keys V:=by
 induction V with
 | nil=>simp[lku,keys]
 | cons p V ih=>
  obtain⟨i,v⟩:=p;unfold lku;by_cases h:j=i
  ·subst h;rw[Nat.beq_refl];simp[keys]
  rw[iP h];simp only[cond_false,keys,map_cons,mem_cons,not_or];exact ih.trans ⟨fun a=>⟨h,a⟩,fun a=>a.2⟩
theorem bH1 {n:Nat}{l:List Oper}{Q:Exit->Act->World->Prop}{w0 W:World}{E0 V:List (Nat×SV)}{f0:Nat->Value}(hE:Fr E0 f0) {s:S}{d:D P R}(st:St w0 W s.rs) (fa:Facts w0 W s.B) :
  ∀{js:List Nat}{k:Tr},(rrT P n l E0 V s d js k).holds->(∀j∈js,Pnd P n Q w0 l f0 V s W j)/\k.holds
 | [],k,h=>⟨fun j hj=>(by cases hj),h⟩
 | j::js,k,h=>aD h fun o ho h=>aD h fun x hx h=>by
  obtain⟨hg,h⟩:=h;refine aT0 h st fa fun v s3 d3 h3 e3 e4 fa3 q q2=>?_
  obtain⟨hv,h4⟩:=h3;obtain⟨h5,h6⟩:=bH1 hE st fa h4;refine⟨fun j' hj'=>?_,h6⟩;rcases mem_cons.1 hj' with rfl | hj'
  ·have p0:∀{s1:S}{W1:World},QS P (lkD n l E0 V j') o.op w0 W1 s1.rs v->Pn0 P n Q w0 l f0 V s1 W1 j':=fun {s1 W1} q=>?_
   ·exact⟨p0 q,fun z s1 W1=>p0 (q2 (by unfold slJ at z;rw[ho]at z;exact z) _ _ _)⟩
   refine⟨x,o,hx,ho,fun D f W' a b c d' e' st' hb=>?_⟩;have hon:onR l f o=true:=by
    unfold onR;cases hgg:o.guard with
    | none=>rfl
    | some p=>rw[hgg]at hg;cases hg
   rw[hon];intro KK kk;rw[<- hv]at kk;exact q (d:=o.dst) (ty:=o.type) (pos:=o.pos) (af:=o.after) (g:=o.guard) (aF0 hE a b c d' e') st' hb (fun W'' _ hb2=>kk W'' hb2)
  exact h5 j' hj'
theorem cF0 {n:Nat}{l:List Oper}(ho:OrdOk n l) {Q:Exit->Act->World->Prop}{w0:World}{E0:List (Nat×SV)}{f0:Nat->Value}(hE:Fr E0 f0) {K:List (Nat×SV)->S->D P R->Tr}{G:Prop} :
  ∀{is:List Nat}{V:List (Nat×SV)}{s:S}{d:D P R}{W:World},(drT P n l E0 is V s d K).holds->St w0 W s.rs->Facts w0 W s.B ->
   (∀is2 V2 s2 d2,Stg P n l E0 K is2 V2 s2 d2->St w0 W s2.rs->Facts w0 W s2.B->s2.O=s.O->Ext V V2->(∀j,j∈keys V2∨j∈is2↔j∈keys V∨j∈is)->(∀j∈is2,j∈is)->(∀j∈keys V2,j∈keys V∨Pnd P n Q w0 l f0 V2 s2 W j)->G)->G:=by
 intro is
 induction is with
 | nil=>exact fun h st fa k=>k [] _ _ _ h st fa rfl (Ext.refl _) (fun _=>Iff.rfl) (fun _ h=>h) (fun j hj=>.inl hj)
 | cons i is ih=>
  intro V s d W h st fa k;refine aD h fun o hi h=>?_
  obtain⟨hn,h⟩:=h;have hn:lku V i=none:=by simpa using hn
  refine grdD_ok ho hi h fun on V2 d2 h2 e2 hk2 hon=>?_
  have hn2:lku V2 i=none:=lku_none.2 fun hm=>lku_none.1 hn ((hk2 i).1 hm)
  have mem3:∀{v:SV} j,j∈keys ((i,v)::V2)∨j∈is↔j∈keys V∨j∈i::is:=fun {v} j=>by
   simp only[keys,map_cons,mem_cons];have:=hk2 j;simp only[keys]at this;rw[this];constructor
   ·rintro((h | h) | h)
    ·exact .inr (.inl h)
    ·exact .inl h
    exact .inr (.inr h)
   rintro(h | h | h)
   ·exact .inl (.inr h)
   ·exact .inl (.inl h)
   exact .inr h
  have go:∀{v:SV}{s3:S}{d3:D P R},(drT P n l E0 is ((i,v)::V2) s3 d3 K).holds->s3.O=s.O->Facts w0 W s3.B->Pnd P n Q w0 l f0 ((i,v)::V2) s3 W i->G:=fun {v s3 d3} h3 eO fa3 hp=>by
   refine ih h3 (by rw[S.rs,eO];exact st) fa3 fun is4 V4 s4 d4 g1 g2 g3 g4 g5 g6 g7 g8=>k is4 V4 s4 d4 g1 g2 g3 (g4.trans eO) (e2.trans ((Ext.new hn2).trans g5)) (fun j=>(g6 j).trans (mem3 j)) (fun j hj=>mem_cons_of_mem _ (g7 j hj)) fun j hj=>?_
   rcases g8 j hj with h | h
   ·simp only[keys,map_cons,mem_cons]at h;rcases h with rfl | h
    ·exact .inr (hp.mono g5 ⟨[],by rw[g4];rfl⟩ (Below.refl _ _))
    exact .inl ((hk2 j).1 h)
   exact .inr h
  cases on with
  | false=>
   have p0:∀(s1:S) (W1:World),Pn0 P n Q w0 l f0 ((i,one (.vl undef))::V2) s1 W1 i:=fun s1 W1=>⟨_,o,by unfold lku;rw[Nat.beq_refl];rfl,hi,fun D f W' a b c d' e' st' hb=>by
    rw[hon D f b (d'.of_ext (Ext.new hn2))];exact rfl⟩
   exact go h2 rfl fa ⟨p0 _ _,fun _=>p0⟩
  | true=>
   refine cG h2 fun d2 h2=>?_
   cases hx:isX o.op && bI9 l is i with
   | true=>
    rw[hx]at h2;rw[Bool.and_eq_true]at hx;refine reK_ok h2 st fa fun s5 d5 h5 e5 fa5=>(k (i::is) V2 s5 d5 ⟨o,_,hi,hn2,hx.2,h5,fun D f hd ha=>hon D f hd ha⟩ (by rw[S.rs,e5];exact st) fa5 e5 e2 (fun j=>?_) (fun _ h=>h) (fun j hj=>.inl ((hk2 j).1 hj)))
    rw[hk2 j]
   | false=>
    rw[hx]at h2;refine aT0 h2 st fa fun v s3 d3 h3 e3 e4 fa3 q q2=>?_
    have p0:∀{s1:S}{W1:World},QS P (lkD n l E0 V2 i) o.op w0 W1 s1.rs v->Pn0 P n Q w0 l f0 ((i,v)::V2) s1 W1 i:=fun {s1 W1} q=>⟨_,o,by unfold lku;rw[Nat.beq_refl];rfl,hi,fun D f W' a b c d' e' st' hb=>by
     have ha2:=d'.of_ext (Ext.new hn2);rw[hon D f b ha2];intro KK kk;exact q (d:=o.dst) (ty:=o.type) (pos:=o.pos) (af:=o.after) (g:=o.guard) (aF0 hE a b c ha2 e') st' hb (fun W'' _ hb2=>kk W'' hb2)⟩
    exact go h3 e4 fa3 ⟨p0 (by rw[S.rs,e4];exact q),fun z s1 W1=>p0 (q2 (by unfold slJ at z;rw[hi]at z;exact z) _ _ _)⟩
def IDr (P:Program) {A:Type}{R:A->Prop}(n:Nat) (Q:Exit->Act->World->Prop) (w0:World) (l:List Oper) (E0:List (Nat×SV)) (f0:Nat->Value) (K:List (Nat×SV)->S->D P R->Tr) (D:Nat->Bool) (f:Nat->Value) (W:World):Prop:=
 ∃is V s d,Stg P n l E0 K is V s d/\St w0 W s.rs/\Facts w0 W s.B/\FIa l V D f/\FIb l f0 D f/\(∀j,j<l.length->j∈keys V∨j∈is)/\(∀j∈is,D j=false)/\(∀j,D j=true->j∈keys V)/\∀j∈keys V,D j=false->Pnd P n Q w0 l f0 V s W j
theorem keepDr {n:Nat}{l:List Oper}(ho:OrdOk n l) {Q:Exit->Act->World->Prop}{w0:World}{E0:List (Nat×SV)}{f0:Nat->Value}(hE:Fr E0 f0) {K:List (Nat×SV)->S->D P R->Tr}:KeepI P n Q l (IDr P n Q w0 l E0 f0 K):=by
 refine⟨fun i o D f W hi hDi hd hc ⟨is,V,s,d,hs,st,fa,ha,hb,hcov,hnd,hkd,hp⟩=>?_⟩;have hil:i<l.length:=(gsi_.1 hi).1;have hc:aJ3 l D:=hc;have setD_t:∀j,eR D i j=true->j=i∨D j=true:=fun j h=>by
  unfold eR at h;by_cases hj:j=i
  ·exact .inl hj
  rw[iP hj]at h;exact .inr h
 have setD_f:∀j,j≠i->eR D i j=D j:=fun j hj=>by unfold eR;rw[iP hj];rfl
 have frame:∀{V2:List (Nat×SV)}{x:SV},Ext V V2->(∀j,D j=true->j∈keys V)->lku V2 i=some x->FIa l V2 (eR D i) (dF f o.dst x.val)/\FIb l f0 (eR D i) (dF f o.dst x.val):=fun {V2 x} hV2 hk hx=>by
  have hdo:aW l i=o.dst:=by unfold aW;rw[hi];rfl
  constructor
  ·intro j u t hu hj ht;rcases setD_t j hj with rfl | hj
   ·rw[hx]at hu;cases hu;rw[hdo]at ht;rw[ht];show upd f t x.val t=x.val;unfold upd;rw[Nat.beq_refl];rfl
   have hji:j≠i:=fun e=>by rw[e,hDi]at hj;cases hj
   obtain⟨u0,h0,e0⟩:∃u0,lku V j=some u0/\u.val=u0.val:=by
    cases hq:lku V j with
    | none=>exact absurd (hk j hj) (lku_none.1 hq)
    | some u0=>
     obtain⟨u1,h1,h2⟩:=hV2 j u0 hq;rw[hu]at h1;cases h1;exact⟨u0,rfl,h2⟩
   have hf:=ha j u0 t h0 hj ht;rw[e0,<- hf];cases hod:o.dst with
   | none=>rfl
   | some t'=>
    show upd f t' x.val t=f t;unfold upd;have hjl:j<l.length:=by
     unfold aW at ht;cases hq:l[j]? with
     | none=>rw[hq]at ht;cases ht
     | some o=>exact(gsi_.1 hq).1
    rw[iP fun e=>ho.ne j i t hjl hil hji ht (by rw[hdo,hod,e])];rfl
  intro t ht;have h1:f t=f0 t:=hb t fun j hj=>ht j (by
   by_cases hji:j=i
   ·rw[hji,hDi]at hj;cases hj
   rw[setD_f j hji];exact hj)
  have h2:aW l i≠some t:=ht i (by unfold eR;rw[Nat.beq_refl];rfl);rw[hdo]at h2;rw[<- h1];cases hod:o.dst with
  | none=>rfl
  | some t'=>
   show upd f t' x.val t=f t;unfold upd;rw[iP fun e=>h2 (by rw[hod,e])];rfl
 rcases hcov i hil with hik | his
 ·-- it has been read
  obtain⟨⟨x,o',hx,ho',hstep⟩,_⟩:=hp i hik hDi;rw[hi]at ho';cases ho';have hq:=hstep D f W hDi hd hc ha hb st (Below.refl _ _);have next:∀W'',Below W.heap.size W W''->IDr P n Q w0 l E0 f0 K (eR D i) (dF f o.dst x.val) W'':=fun W'' hb2=>by
   obtain⟨fa1,fb1⟩:=frame (Ext.refl V) hkd hx;have st2:St w0 W'' s.rs:=by simpa using st.call (St.of_below hb2)
   refine⟨is,V,s,d,hs,st2,fa.up hb2,fa1,fb1,hcov,fun j hj=>?_,fun j hj=>?_,fun j hj hDj=>?_⟩
   ·rw[setD_f j fun e=>?_]
    ·exact hnd j hj
    subst e
    match is,hs,hj with
    | i0::is',⟨o0,g0,h1,h2,h3,h4,h5⟩,hj=>
     rcases mem_cons.1 hj with e | hj
     ·subst e;exact lku_none.1 h2 hik
     unfold bI9 at h3;rw[all_eq_true]at h3;by_cases e:j=i0
     ·subst e;exact lku_none.1 h2 hik
     have:=qD hc (h3 j hj) e hd;rw[hnd i0 (by simp)]at this;cases this
   ·rcases setD_t j hj with rfl | hj
    ·exact hik
    exact hkd j hj
   have hji:j≠i:=fun e=>by rw[e]at hDj;unfold eR at hDj;rw[Nat.beq_refl]at hDj;cases hDj
   rw[setD_f j hji]at hDj;exact(hp j hj hDj).mono (Ext.refl V) ⟨[],rfl⟩ hb2
  cases hon:onR l f o with
  | true=>
   rw[hon]at hq;exact hq _ fun W'' hb2=>next W'' hb2
  | false=>
   rw[hon]at hq;have hq:x.val=undef:=hq;have:=next W (Below.refl _ _);rw[hq]at this;exact this
 match is,hs,his,hcov,hnd with
 | i0::is',⟨o0,g0,h1,h2,h3,h4,h5⟩,his,hcov,hnd=>
  unfold bI9 at h3;rw[all_eq_true]at h3;have hii:i=i0:=by
   rcases mem_cons.1 his with e | hm
   ·exact e
   apply Classical.byContradiction;intro e;have:=qD hc (h3 i hm) e hd;rw[hnd i0 (by simp)]at this;cases this
  subst hii;rw[hi]at h1;cases h1;rw[h5 D f hd ha];refine bI6 (d:=o.dst) (ty:=o.type) (pos:=o.pos) (af:=o.after) (g:=o.guard) h4 (aF0 hE hDi hd hc ha hb) st fa fun v s1 d1 W1 h6 e6 g6 st1 fa1=>?_
  obtain⟨hrr,h6⟩:=bH1 (Q:=Q) hE st1 fa1 h6;refine cF0 ho hE (Q:=Q) h6 st1 fa1 fun is2 V2 s2 d2 k1 k2 k3 k4 k5 k6 k7 k8=>?_
  obtain⟨x,hx,ex⟩:=k5 i v (by unfold lku;rw[Nat.beq_refl];rfl);have hext:Ext V V2:=(Ext.new h2).trans k5;obtain⟨fa2,fb2⟩:=frame hext hkd hx;rw[ex]at fa2 fb2;refine⟨is2,V2,s2,d2,k1,k2,k3,fa2,fb2,fun j hj=>?_,fun j hj=>?_,fun j hj=>?_,fun j hj hDj=>?_⟩
  ·refine(k6 j).2 ?_;rcases hcov j hj with h | h
   ·exact .inl (by simp only[keys,map_cons,mem_cons];exact .inr h)
   rcases mem_cons.1 h with e | h
   ·exact .inl (by simp only[keys,map_cons,mem_cons];exact .inl e)
   exact .inr h
  ·have hj':=k7 j hj;by_cases e:j=i
   ·subst e;have:=(k6 j).1 (.inr hj);exfalso
    match is2,k1,hj with
    | i2::is3,⟨o2,g2,q1,q2,q3,q4,q5⟩,hj=>
     have hjk:j∈keys V2:=Classical.byContradiction fun h=>by
      rw[lku_none.2 h]at hx;cases hx
     rcases mem_cons.1 hj with e | hj
     ·subst e;exact lku_none.1 q2 hjk
     unfold bI9 at q3;rw[all_eq_true]at q3;by_cases e:j=i2
     ·subst e;exact lku_none.1 q2 hjk
     have hb2:=qD hc (q3 j hj) e hd;rw[hnd i2 (mem_cons_of_mem _ (k7 i2 (by simp)))]at hb2;cases hb2
   rw[setD_f j e];exact hnd j (mem_cons_of_mem _ hj')
  ·have hjv:j∈keys ((i,v)::V):=by
    simp only[keys,map_cons,mem_cons];rcases setD_t j hj with e | hj
    ·exact .inl e
    exact .inr (hkd j hj)
   apply Classical.byContradiction;intro hno;cases hq:lku ((i,v)::V) j with
   | none=>exact lku_none.1 hq hjv
   | some u=>
    obtain⟨u',hu',_⟩:=k5 j u hq;rw[lku_none.2 hno]at hu';cases hu'
  rcases k8 j hj with h | h
  ·have hji:j≠i:=fun e=>by rw[e]at hDj;unfold eR at hDj;rw[Nat.beq_refl]at hDj;cases hDj
   rw[setD_f j hji]at hDj;simp only[keys,map_cons,mem_cons]at h;rcases h with e | h
   ·exact absurd e hji
   cases hg:g0 with
   | true=>
    obtain⟨⟨N,hN⟩,hb1⟩:=g6 hg;exact(hp j h hDj).mono hext ⟨N,by rw[k4,hN]⟩ hb1
   | false=>
    by_cases hcj:(bV3 l j).contains i=true
    ·have:=qD hc hcj (fun e=>hji e.symm) hd;rw[hDj]at this;cases this
    by_cases hsl:slJ l j=true
    ·exact(hp j h hDj).any hsl hext
    refine(hrr j ?_).mono k5 ⟨[],by rw[k4];rfl⟩ (Below.refl _ _);rw[hg];show j∈(keys V).filter _;rw[mem_filter,Bool.and_eq_true];exact⟨h,by simpa using hcj,by simpa using hsl⟩
  exact h
theorem tD {l:List Oper}{V E0:List (Nat×SV)}{t:Nat}{x:SV}:∀{js:List Nat},(∀j∈js,j∈keys V)->lku (wQ l V js++E0) t=some x->(∃j,lku V j=some x/\aW l j=some t)∨(lku E0 t=some x/\∀j∈js,aW l j≠some t)
 | [],_,h=>.inr ⟨h,fun j hj=>by cases hj⟩
 | a::js,hc,h=>by
  have ih:=tD (l:=l) (E0:=E0) (t:=t) (x:=x) (js:=js) fun j hj=>hc j (mem_cons_of_mem _ hj)
  cases hda:aW l a with
  | none=>
   have e:wQ l V (a::js)=wQ l V js:=by simp[wQ,hda]
   rw[e]at h;rcases ih h with h | ⟨h1,h2⟩
   ·exact .inl h
   refine .inr ⟨h1,fun j hj=>?_⟩;rcases mem_cons.1 hj with rfl | hj
   ·rw[hda];exact fun e=>by cases e
   exact h2 j hj
  | some d=>
   cases hv:lku V a with
   | none=>exact absurd (hc a (by simp)) (lku_none.1 hv)
   | some v=>
    have e:wQ l V (a::js)=(d,v)::wQ l V js:=by simp[wQ,hda,hv]
    rw[e,cons_append]at h;unfold lku at h;by_cases htd:t=d
    ·subst htd;rw[Nat.beq_refl]at h;simp only[cond_true,Option.some.injEq]at h;subst h;exact .inl ⟨a,hv,hda⟩
    rw[iP htd]at h;rcases ih h with h | ⟨h1,h2⟩
    ·exact .inl h
    refine .inr ⟨h1,fun j hj=>?_⟩;rcases mem_cons.1 hj with rfl | hj
    ·rw[hda];exact fun e=>by cases e;exact htd rfl
    exact h2 j hj
theorem drawT_ok {w0 W:World}{n id:Nat}{l:List Oper}{s:S}{d:D P R}{K:S->D P R->Tr}{f:Nat->Value}{Q:Exit->Act->World->Prop}(h:(bR2 P n l s d K).holds) (den:Den w0 s f W) (k:∀s' d' f' W',(K s' d').holds->Den w0 s' f' W'->Q .normal (act n f') W'):(Code.region id l.toArray true).wp P Q (act n f) W:=by
 refine fF h den fun s1 d1 h1 den1=>?_
 obtain⟨h2,h3,h4⟩:=h1;rw[Bool.and_eq_true]at h2;rw[all_eq_true]at h3;have ho:=OrdOk.of h2.2
 let K':List (Nat×SV)->S->D P R->Tr:=fun V s' d=>K ⟨wQ l V (List.range l.length)++s1.E,s'.O,s'.B,s'.nx⟩ d
 have hb0:Below W.heap.size W { W with drawn:=W.drawn+1 }:=(Below.refl _ _).drew;refine zA l.length (IDr P n Q w0 l s1.E f K') h2.1 (by rw[take_length];exact h2.2) (by rw[drop_length];rfl) ?_ (by rw[take_length];exact keepDr ho den1.fr) ?_
 ·have st0:St w0 { W with drawn:=W.drawn+1 } s1.rs:=by simpa using den1.st.call (St.of_below hb0)
  refine cF0 ho den1.fr (Q:=Q) (K:=K') h4 st0 (den1.fa.up hb0) fun is2 V2 s2 d2 k1 k2 k3 k4 k5 k6 k7 k8=>(⟨is2,V2,s2,d2,k1,k2,k3,fun j x d _ hD _=>(by cases hD),fun t _=>rfl,fun j hj=>(k6 j).2 (.inr (by simpa using h3 j (mem_range.2 hj))),fun _ _=>rfl,fun j hD=>(by cases hD),fun j hj _=>?_⟩)
  rcases k8 j hj with h | h
  ·cases h
  exact h
 intro D g W' hD ⟨is,V,s2,d2,hs,st,fa,ha,hb,hcov,hnd,hkd,hp⟩;rw[take_length]at hD;rw[drop_length]
 match is,hs,hcov,hnd with
 | i0::is',⟨o0,g0,q1,_⟩,hcov,hnd=>
  have:=hD i0 (gsi_.1 q1).1;rw[hnd i0 (by simp)]at this;cases this
 | [],hs,hcov,hnd=>
  have hs:(K' V s2 d2).holds:=hs;refine bO (k _ _ _ _ hs ⟨?_,st,fa⟩);have hc2:∀j∈List.range l.length,j∈keys V:=fun j hj=>(hcov j (mem_range.1 hj)).elim (fun h=>h) (fun h=>by cases h)
  intro t x hx;rcases tD hc2 hx with⟨j,h5,h6⟩ | ⟨h5,h6⟩
  ·refine ha j x t h5 (hD j ?_) h6;unfold aW at h6;cases hq:l[j]? with
   | none=>rw[hq]at h6;cases h6
   | some o=>exact(gsi_.1 hq).1
  rw[hb t fun j hDj hj=>h6 j ?_ hj]
  ·exact den1.fr t x h5
  unfold aW at hj;cases hq:l[j]? with
  | none=>rw[hq]at hj;cases hj
  | some o=>exact mem_range.2 (gsi_.1 hq).1
end
end Go.Proofs.YtpdgdnpajmcaeaaGreat
namespace Go.Proofs.YtpdgdnpajmcaeaaGreat
set_option maxHeartbeats 1000000
set_option maxHeartbeats 2000000
open Go.RowKit Go.Proofs.Tryz List
def aH4 (l:List Oper):List Nat->Bool
 | []=>true
 | i::is=>(match l[i]? with
  | some o=> !isX o.op || bI9 l is i
  | none=>true) && aH4 l is
def bV1 (l:List Oper) (done:List Nat) (i:Nat):Bool:=(List.range l.length).all fun j=> !dep l i j || done.contains j
def isQ (l:List Oper) (i:Nat):Bool:=
 match l[i]? with
 | some o=> !isX o.op
 | none=>false
def bO2 (l:List Oper) (is done:List Nat):Option Nat:=is.find? fun i=>bV1 l done i && isQ l i
def wo (is:List Nat) (i:Nat):List Nat:=is.filter fun j=> !Nat.beq j i
theorem mem_wo {is:List Nat}{i j:Nat}:j∈wo is i↔j∈is/\j≠i:=by
 unfold wo;rw[mem_filter];by_cases h:j=i
 ·subst h;simp[Nat.beq_refl]
 simp[h,iP h]
def brA (f:Nat->Tr):List Nat->Tr
 | []=>.ok
 | i::is=>.an (f i) (brA f is)
theorem bJ0 {f:Nat->Tr}:∀{is:List Nat},(brA f is).holds->∀i∈is,(f i).holds
 | [],_,i,hi=>by cases hi
 | a::is,h,i,hi=>by
  rcases mem_cons.1 hi with rfl | hi
  ·exact h.1
  ·exact bJ0 h.2 i hi
section
variable {P:Program}{A:Type}{R:A->Prop}
def pmA:D P R->Nat->D P R
 | .pm f,i=>f i
 | d,_=>d
def brT (P:Program) {A:Type}{R:A->Prop}(n:Nat) (l:List Oper) (E0:List (Nat×SV)) (base:Nat) (K:List (Nat×SV)->S->D P R->Tr):Nat->List Nat->List (Nat×SV)->S->D P R->Tr
 | 0,_,_,_,_=>.no
 | m+1,is,V,s,d=>match bO2 l is (keys V) with
  | some i=>opt (l[i]?) fun o=>.e0 o.guard.isNone true<|qop P (lkD n l E0 V i) s o.op d fun v s d=>brT P n l E0 base K m (wo is i) ((i,v)::V) s d
  | none=>match is with
   | []=>K V ⟨s.E,s.O,s.B,base+20*l.length⟩ d
   | _::_=>brA (fun i=>opt (l[i]?) fun o=>.e0 o.guard.isNone true<|.e0 (lku V i).isNone true<|nrm (pmA d i) fun d=>eop P (bD5 o.op && !bU7 d) (lkD n l E0 V i) ⟨s.E,s.O,s.B,base+20*i⟩ o.op d fun v s d'=>
     rrT P n l E0 ((i,v)::V) s d' (pnd l ((keys V).filter (isQ l)) i (bD5 o.op && !bU7 d)) (brT P n l E0 base K m (wo is i) ((i,v)::V) s d')) (is.filter (bV1 l (keys V)))
def bR3 (P:Program) {A:Type}{R:A->Prop}(n:Nat) (l:List Oper) (s:S) (d:D P R) (K:S->D P R->Tr):Tr:=
 prp d s fun s d=>.e0 (P.follows .mixedOrders && sC n l) true <|
  brT P n l s.E s.nx (fun V s' d=>K ⟨wQ l V (List.range l.length)++s.E,s'.O,s'.B,s'.nx⟩ d) (l.length+1) (List.range l.length) [] s d
theorem bA5 {l:List Oper}{f:Nat->Value}{o:Oper}(h:o.guard.isNone=true):onR l f o=true:=by
 unfold onR;cases hg:o.guard with
 | none=>rfl
 | some p=>rw[hg]at h;cases h
theorem bS5 {n:Nat}{l:List Oper}{Q:Exit->Act->World->Prop}{w0:World}{E0:List (Nat×SV)}{f0:Nat->Value}(hE:Fr E0 f0) {base:Nat}{K:List (Nat×SV)->S->D P R->Tr}{G:Prop} :
  ∀{m:Nat}{is:List Nat}{V:List (Nat×SV)}{s:S}{d:D P R}{W:World},(brT P n l E0 base K m is V s d).holds->St w0 W s.rs->Facts w0 W s.B->(∀j∈is,j∉keys V) ->
   (∀m2 is2 V2 s2 d2,(brT P n l E0 base K m2 is2 V2 s2 d2).holds->bO2 l is2 (keys V2)=none->St w0 W s2.rs->Facts w0 W s2.B->s2.O=s.O->Ext V V2->(∀j,j∈keys V2∨j∈is2↔j∈keys V∨j∈is)->(∀j∈is2,j∉keys V2)->(∀j∈is2,j∈is)->(∀j∈keys V2,j∈keys V∨isQ l j=true/\Pnd P n Q w0 l f0 V2 s2 W j)->G)->G:=by
 intro m
 induction m with
 | zero=>exact fun h _ _ _ _=>h.elim
 | succ m ih=>
  intro is V s d W h st fa hd k;cases hq:bO2 l is (keys V) with
  | none=>exact k (m+1) is V s d h hq st fa rfl (Ext.refl V) (fun _=>Iff.rfl) hd (fun _ h=>h) (fun j hj=>.inl hj)
  | some i=>
   have h':=h;unfold brT at h;rw[hq]at h;refine aD h fun o hi h=>?_
   obtain⟨hg,h⟩:=h;have his:i∈is:=mem_of_find?_eq_some hq;have hn:lku V i=none:=lku_none.2 (hd i his);refine aT0 h st fa fun v s3 d3 h3 e3 e4 fa3 q q2=>?_
   have mem3:∀j,j∈keys ((i,v)::V)∨j∈wo is i↔j∈keys V∨j∈is:=fun j=>by
    simp only[keys,map_cons,mem_cons,mem_wo];constructor
    ·rintro((e | h) | ⟨h,_⟩)
     ·exact .inr (e▸his)
     ·exact .inl h
     exact .inr h
    rintro(h | h)
    ·exact .inl (.inr h)
    by_cases e:j=i
    ·exact .inl (.inl e)
    exact .inr ⟨h,e⟩
   have hd3:∀j∈wo is i,j∉keys ((i,v)::V):=fun j hj hm=>by
    obtain⟨h1,h2⟩:=mem_wo.1 hj;simp only[keys,map_cons,mem_cons]at hm;rcases hm with e | hm
    ·exact h2 e
    exact hd j h1 hm
   refine ih h3 (by rw[S.rs,e4];exact st) fa3 hd3 fun m4 is4 V4 s4 d4 g1 g2 g3 g4 g5 g6 g7 g8 g9 g10=>k m4 is4 V4 s4 d4 g1 g2 g3 g4 (g5.trans e4) ((Ext.new hn).trans g6) (fun j=>(g7 j).trans (mem3 j)) g8 (fun j hj=>(mem_wo.1 (g9 j hj)).1) fun j hj=>?_
   rcases g10 j hj with h | h
   ·simp only[keys,map_cons,mem_cons]at h;rcases h with rfl | h
    ·have hqq:isQ l j=true:=by
      have:=find?_some hq;simp only[Bool.and_eq_true]at this;exact this.2
     have p0:∀{s1:S}{W1:World},QS P (lkD n l E0 V j) o.op w0 W1 s1.rs v->Pn0 P n Q w0 l f0 ((j,v)::V) s1 W1 j:=fun {s1 W1} q=>⟨v,o,by unfold lku;rw[Nat.beq_refl];rfl,hi,fun D f W' a b c d' e' st' hb=>by
      have ha2:=d'.of_ext (Ext.new hn);rw[bA5 hg];intro KK kk;exact q (d:=o.dst) (ty:=o.type) (pos:=o.pos) (af:=o.after) (g:=o.guard) (aF0 hE a b c ha2 e') st' hb (fun W'' _ hb2=>kk W'' hb2)⟩
     exact .inr ⟨hqq,Pnd.mono (V:=(j,v)::V) (s:=s3) (W:=W) ⟨p0 (by rw[S.rs,e4];exact q),fun z s1 W1=>p0 (q2 (by unfold slJ at z;rw[hi]at z;exact z) _ _ _)⟩ g6 ⟨[],by rw[g5];rfl⟩ (Below.refl _ _)⟩
    exact .inl h
   exact .inr h
def IBr (P:Program) {A:Type}{R:A->Prop}(n:Nat) (Q:Exit->Act->World->Prop) (w0:World) (l:List Oper) (E0:List (Nat×SV)) (f0:Nat->Value) (base:Nat) (K:List (Nat×SV)->S->D P R->Tr) (D:Nat->Bool) (f:Nat->Value) (W:World):Prop:=
 ∃m is V s d,(brT P n l E0 base K m is V s d).holds/\bO2 l is (keys V)=none/\St w0 W s.rs/\Facts w0 W s.B/\FIa l V D f/\FIb l f0 D f/\(∀j,j<l.length->j∈keys V∨j∈is)/\(∀j∈is,j∉keys V)/\(∀j∈is,D j=false)/\(∀j,D j=true->j∈keys V)/\∀j∈keys V,D j=false->isQ l j=true/\Pnd P n Q w0 l f0 V s W j
theorem keepBr {n:Nat}{l:List Oper}(ho:OrdOk n l) {Q:Exit->Act->World->Prop}{w0:World}{E0:List (Nat×SV)}{f0:Nat->Value}(hE:Fr E0 f0) {base:Nat}{K:List (Nat×SV)->S->D P R->Tr}:KeepI P n Q l (IBr P n Q w0 l E0 f0 base K):=by
 refine⟨fun i o D f W hi hDi hd hc ⟨m,is,V,s,d,hs,hnq,st,fa,ha,hb,hcov,hdj,hnd,hkd,hp⟩=>?_⟩;have hil:i<l.length:=(gsi_.1 hi).1;have hc:aJ3 l D:=hc;have setD_t:∀j,eR D i j=true->j=i∨D j=true:=fun j h=>by
  unfold eR at h;by_cases hj:j=i
  ·exact .inl hj
  rw[iP hj]at h;exact .inr h
 have setD_f:∀j,j≠i->eR D i j=D j:=fun j hj=>by unfold eR;rw[iP hj];rfl
 have frame:∀{V2:List (Nat×SV)}{x:SV},Ext V V2->(∀j,D j=true->j∈keys V)->lku V2 i=some x->FIa l V2 (eR D i) (dF f o.dst x.val)/\FIb l f0 (eR D i) (dF f o.dst x.val):=fun {V2 x} hV2 hk hx=>by
  have hdo:aW l i=o.dst:=by unfold aW;rw[hi];rfl
  constructor
  ·intro j u t hu hj ht;rcases setD_t j hj with rfl | hj
   ·rw[hx]at hu;cases hu;rw[hdo]at ht;rw[ht];show upd f t x.val t=x.val;unfold upd;rw[Nat.beq_refl];rfl
   have hji:j≠i:=fun e=>by rw[e,hDi]at hj;cases hj
   obtain⟨u0,h0,e0⟩:∃u0,lku V j=some u0/\u.val=u0.val:=by
    cases hq:lku V j with
    | none=>exact absurd (hk j hj) (lku_none.1 hq)
    | some u0=>
     obtain⟨u1,h1,h2⟩:=hV2 j u0 hq;rw[hu]at h1;cases h1;exact⟨u0,rfl,h2⟩
   have hf:=ha j u0 t h0 hj ht;rw[e0,<- hf];cases hod:o.dst with
   | none=>rfl
   | some t'=>
    show upd f t' x.val t=f t;unfold upd;have hjl:j<l.length:=by
     unfold aW at ht;cases hq:l[j]? with
     | none=>rw[hq]at ht;cases ht
     | some o=>exact(gsi_.1 hq).1
    rw[iP fun e=>ho.ne j i t hjl hil hji ht (by rw[hdo,hod,e])];rfl
  intro t ht;have h1:f t=f0 t:=hb t fun j hj=>ht j (by
   by_cases hji:j=i
   ·rw[hji,hDi]at hj;cases hj
   rw[setD_f j hji];exact hj)
  have h2:aW l i≠some t:=ht i (by unfold eR;rw[Nat.beq_refl];rfl);rw[hdo]at h2;rw[<- h1];cases hod:o.dst with
  | none=>rfl
  | some t'=>
   show upd f t' x.val t=f t;unfold upd;rw[iP fun e=>h2 (by rw[hod,e])];rfl
 rcases hcov i hil with hik | his
 ·obtain⟨hqi,⟨x,o',hx,ho',hstep⟩,_⟩:=hp i hik hDi;rw[hi]at ho';cases ho';have hq:=hstep D f W hDi hd hc ha hb st (Below.refl _ _);have next:∀W'',Below W.heap.size W W''->IBr P n Q w0 l E0 f0 base K (eR D i) (dF f o.dst x.val) W'':=fun W'' hb2=>by
   obtain⟨fa1,fb1⟩:=frame (Ext.refl V) hkd hx;have st2:St w0 W'' s.rs:=by simpa using st.call (St.of_below hb2)
   refine⟨m,is,V,s,d,hs,hnq,st2,fa.up hb2,fa1,fb1,hcov,hdj,fun j hj=>?_,fun j hj=>?_,fun j hj hDj=>?_⟩
   ·rw[setD_f j fun e=>hdj j hj (e▸hik)];exact hnd j hj
   ·rcases setD_t j hj with rfl | hj
    ·exact hik
    exact hkd j hj
   have hji:j≠i:=fun e=>by rw[e]at hDj;unfold eR at hDj;rw[Nat.beq_refl]at hDj;cases hDj
   rw[setD_f j hji]at hDj;exact⟨(hp j hj hDj).1,(hp j hj hDj).2.mono (Ext.refl V) ⟨[],rfl⟩ hb2⟩
  cases hon:onR l f o with
  | true=>
   rw[hon]at hq;exact hq _ fun W'' hb2=>next W'' hb2
  | false=>
   rw[hon]at hq;have hq:x.val=undef:=hq;have:=next W (Below.refl _ _);rw[hq]at this;exact this
 have hen:bV1 l (keys V) i=true:=by
  unfold bV1;rw[all_eq_true];intro j _;cases hdp:dep l i j with
  | false=>rfl
  | true=>simpa using hkd j (hd j hdp)
 cases m with
 | zero=>exact hs.elim
 | succ m=>
  unfold brT at hs;rw[hnq]at hs
  match is,hs,his,hcov,hdj,hnd with
  | [],_,his,_,_,_=>cases his
  | i0::is0,hs,his,hcov,hdj,hnd=>
   have h1:=bJ0 hs i (mem_filter.2 ⟨his,hen⟩);refine aD h1 fun o1 ho1 h2=>?_
   rw[hi]at ho1;cases ho1;obtain⟨hg,hn,h3⟩:=h2;have hn:lku V i=none:=by simpa using hn
   rw[bA5 hg];refine cG h3 fun d' h4=>(bI6 (s:=⟨s.E,s.O,s.B,base+20*i⟩) (d:=o.dst) (ty:=o.type) (pos:=o.pos) (af:=o.after) (g:=o.guard) h4 (aF0 hE hDi hd hc ha hb) st fa fun v s1 d1 W1 h6 e6 g6 st1 fa1=>?_)
   obtain⟨hrr,h6⟩:=bH1 (Q:=Q) hE st1 fa1 h6;have hd3:∀j∈wo (i0::is0) i,j∉keys ((i,v)::V):=fun j hj hm=>by
    obtain⟨h1,h2⟩:=mem_wo.1 hj;simp only[keys,map_cons,mem_cons]at hm;rcases hm with e | hm
    ·exact h2 e
    exact hdj j h1 hm
   refine bS5 hE (Q:=Q) h6 st1 fa1 hd3 fun m2 is2 V2 s2 d2 k1 k2 k3 k4 k5 k6 k7 k8 k9 k10=>?_
   obtain⟨x,hx,ex⟩:=k6 i v (by unfold lku;rw[Nat.beq_refl];rfl);have hext:Ext V V2:=(Ext.new hn).trans k6;obtain⟨fa2,fb2⟩:=frame hext hkd hx;rw[ex]at fa2 fb2;refine⟨m2,is2,V2,s2,d2,k1,k2,k3,k4,fa2,fb2,fun j hj=>?_,k8,fun j hj=>?_,fun j hj=>?_,fun j hj hDj=>?_⟩
   ·refine(k7 j).2 ?_;rcases hcov j hj with h | h
    ·exact .inl (by simp only[keys,map_cons,mem_cons];exact .inr h)
    by_cases e:j=i
    ·exact .inl (by simp only[keys,map_cons,mem_cons];exact .inl e)
    exact .inr (mem_wo.2 ⟨h,e⟩)
   ·obtain⟨h1,h2⟩:=mem_wo.1 (k9 j hj);rw[setD_f j h2];exact hnd j h1
   ·have hjv:j∈keys ((i,v)::V):=by
     simp only[keys,map_cons,mem_cons];rcases setD_t j hj with e | hj
     ·exact .inl e
     exact .inr (hkd j hj)
    apply Classical.byContradiction;intro hno;cases hq:lku ((i,v)::V) j with
    | none=>exact lku_none.1 hq hjv
    | some u=>
     obtain⟨u',hu',_⟩:=k6 j u hq;rw[lku_none.2 hno]at hu';cases hu'
   rcases k10 j hj with h | h
   ·have hji:j≠i:=fun e=>by rw[e]at hDj;unfold eR at hDj;rw[Nat.beq_refl]at hDj;cases hDj
    rw[setD_f j hji]at hDj;simp only[keys,map_cons,mem_cons]at h;rcases h with e | h
    ·exact absurd e hji
    cases hgg:(bD5 o.op && !bU7 d') with
    | true=>
     obtain⟨⟨N,hN⟩,hb1⟩:=g6 hgg;exact⟨(hp j h hDj).1,(hp j h hDj).2.mono hext ⟨N,by rw[k5,hN]⟩ hb1⟩
    | false=>
     by_cases hcj:(bV3 l j).contains i=true
     ·have:=qD hc hcj (fun e=>hji e.symm) hd;rw[hDj]at this;cases this
     by_cases hsl:slJ l j=true
     ·exact⟨(hp j h hDj).1,(hp j h hDj).2.any hsl hext⟩
     refine⟨(hp j h hDj).1,(hrr j ?_).mono k6 ⟨[],by rw[k5];rfl⟩ (Below.refl _ _)⟩;rw[hgg];show j∈((keys V).filter (isQ l)).filter _;rw[mem_filter,mem_filter,Bool.and_eq_true];exact⟨⟨h,(hp j h hDj).1⟩,by simpa using hcj,by simpa using hsl⟩
   exact h
theorem drawB_ok {w0 W:World}{n id:Nat}{l:List Oper}{s:S}{d:D P R}{K:S->D P R->Tr}{f:Nat->Value}{Q:Exit->Act->World->Prop}(h:(bR3 P n l s d K).holds) (den:Den w0 s f W) (k:∀s' d' f' W',(K s' d').holds->Den w0 s' f' W'->Q .normal (act n f') W'):(Code.region id l.toArray true).wp P Q (act n f) W:=by
 refine fF h den fun s1 d1 h1 den1=>?_
 obtain⟨h2,h4⟩:=h1;rw[Bool.and_eq_true]at h2;have ho:=OrdOk.of h2.2
 let K':List (Nat×SV)->S->D P R->Tr:=fun V s' d=>K ⟨wQ l V (List.range l.length)++s1.E,s'.O,s'.B,s'.nx⟩ d
 have hb0:Below W.heap.size W { W with drawn:=W.drawn+1 }:=(Below.refl _ _).drew;refine zA l.length (IBr P n Q w0 l s1.E f s1.nx K') h2.1 (by rw[take_length];exact h2.2) (by rw[drop_length];rfl) ?_ (by rw[take_length];exact keepBr ho den1.fr) ?_
 ·have st0:St w0 { W with drawn:=W.drawn+1 } s1.rs:=by simpa using den1.st.call (St.of_below hb0)
  refine bS5 den1.fr (Q:=Q) (K:=K') h4 st0 (den1.fa.up hb0) (fun j _ h=>by cases h) fun m2 is2 V2 s2 d2 k1 k2 k3 k4 k5 k6 k7 k8 k9 k10=>?_
  refine⟨m2,is2,V2,s2,d2,k1,k2,k3,k4,fun j x d _ hD _=>(by cases hD),fun t _=>rfl,fun j hj=>(k7 j).2 (.inr (mem_range.2 hj)),k8,fun _ _=>rfl,fun j hD=>(by cases hD),fun j hj _=>?_⟩;rcases k10 j hj with h | h
  ·cases h
  exact h
 intro D g W' hD ⟨m,is,V,s2,d2,hs,hnq,st,fa,ha,hb,hcov,hdj,hnd,hkd,hp⟩;rw[take_length]at hD;rw[drop_length];cases m with
 | zero=>exact hs.elim
 | succ m=>
  unfold brT at hs;rw[hnq]at hs
  match is,hs,hcov,hnd with
  | i0::is',hs,hcov,hnd=>
   exfalso;have hi0:=hnd i0 (by simp);by_cases hlt:i0<l.length
   ·rw[hD i0 hlt]at hi0;cases hi0
   have hen:bV1 l (keys V) i0=true:=by
    unfold bV1;rw[all_eq_true];intro j _;have:dep l i0 j=false:=by
     unfold dep;rw[getElem?_eq_none aA];rfl
    rw[this];rfl
   have h1:=bJ0 hs i0 (mem_filter.2 ⟨by simp,hen⟩);rw[getElem?_eq_none aA]at h1;exact h1.elim
  | [],hs,hcov,hnd=>
   have hs:(K' V ⟨s2.E,s2.O,s2.B,s1.nx+20*l.length⟩ d2).holds:=hs;refine bO (k _ _ _ _ hs ⟨?_,st,fa⟩);have hc2:∀j∈List.range l.length,j∈keys V:=fun j hj=>(hcov j (mem_range.1 hj)).elim (fun h=>h) (fun h=>by cases h)
   intro t x hx;rcases tD hc2 hx with⟨j,h5,h6⟩ | ⟨h5,h6⟩
   ·refine ha j x t h5 (hD j ?_) h6;unfold aW at h6;cases hq:l[j]? with
    | none=>rw[hq]at h6;cases h6
    | some o=>exact(gsi_.1 hq).1
   rw[hb t fun j hDj hj=>h6 j ?_ hj]
   ·exact den1.fr t x h5
   unfold aW at hj;cases hq:l[j]? with
   | none=>rw[hq]at hj;cases hj
   | some o=>exact mem_range.2 (gsi_.1 hq).1
end
end Go.Proofs.YtpdgdnpajmcaeaaGreat
namespace Go.Proofs.YtpdgdnpajmcaeaaGreat
set_option maxHeartbeats 1000000
set_option maxHeartbeats 2000000
open Go.RowKit Go.Proofs.Tryz List

def hdOf (O:List (Nat×Ob)) (B:List (Nat×Bool×Bo)) (j:Nat):Hd:=
 match lku O j with
 | some (.own _ h _ _)=>h
 | some (.row _ _ h _ _)=>h
 | some (.rs _ h _ _ _ _ _ _ _)=>h
 | some (.rz _ _ h _ _ _ _ _)=>h
 | _=>match lku B j with
  | some (_,.sl _ h _ _)=>h
  | _=>⟨none,0,0⟩
def ptOf (O:List (Nat×Ob)) (B:List (Nat×Bool×Bo)) (j o:Nat):Sc:=
 match lku O j with
 | some (.bx b pre _ _ _)=>.pt j b pre.length o
 | _=>match lku B j with
  | some (_,.rg b k _)=>.pt j b k o
  | some (_,.el _ _ _ b k _)=>.pt j b k o
  | _=>.vl undef
def tcS (O:List (Nat×Ob)) (B:List (Nat×Bool×Bo)):Tc->Sc
 | .v x=>.vl x
 | .b e=>.bo e
 | .p j o=>ptOf O B j o
 | .r j=>.rf j (hdOf O B j)
def tvS (O:List (Nat×Ob)) (B:List (Nat×Bool×Bo)):Tv->SV
 | .c x=>one (tcS O B x)
 | .a l=>.on (.ag (l.map (tcS O B)))
def pick {α:Type u}:List Nat->List (Nat×α)->List (Nat×α)
 | [],_=>[]
 | j::js,O=>match lku O j with
  | some o=>(j,o)::pick js O
  | none=>pick js O
def aX3 (O:List (Nat×Ob)) (G:Nat->Hd×List Nat):List (Nat×To)->List (Nat×Ob)
 | []=>[]
 | (j,.own i xs)::l=>(j,.own i (G j).1 xs (G j).2)::aX3 O G l
 | (j,.row i e xs)::l=>(j,.row i e (G j).1 xs (G j).2)::aX3 O G l
 | (_,.bx _)::l=>aX3 O G l
 | (j,.oh i xs)::l=>(j,.own i (hdOf O [] j) xs (G j).2)::aX3 O G l
def toBx (s:S) (O1:List (Nat×Ob)):List (Nat×To)->List (Nat×Ob)
 | []=>[]
 | (j,.bx cs)::l=>match lku s.O j with
  | some (.bx b pre _ post t)=>(j,.bx b pre (cs.map (tcS O1 s.B)) post t)::toBx s O1 l
  | _=>toBx s O1 l
 | _::l=>toBx s O1 l
def rO:Code->List Nat
 | .region _ ops _=>ops.toList.filterMap (·.dst)
 | .seq a b=>rO a++rO b
 | .cond _ a b=>rO a++rO b
 | .block _ c=>rO c
 | .loop c=>rO c
 | _=>[]
def reC (OT:List (Nat×Ob)):Sc->Sc
 | .rf j h=>cond (OT.any fun q=>Nat.beq j q.1) (.rf j (hdOf OT [] j)) (.rf j h)
 | c=>c
def isR (OT:List (Nat×Ob)):Sc->Bool
 | .rf j _=>OT.any fun q=>Nat.beq j q.1
 | _=>false
def reV (OT:List (Nat×Ob)):SV->Option SV
 | .on (.ce c)=>some (.on (.ce (reC OT c)))
 | .on (.ag l)=>cond (l.any (isR OT)) none (some (.on (.ag l)))
 | .tu _=>none
def reO (OT:List (Nat×Ob)):Ob->Ob
 | .bx b pre cs post t=>.bx b pre (cs.map (reC OT)) post t
 | o=>o
def bP6 (OT:List (Nat×Ob)):List (Nat×SV)->List Nat->List (Nat×SV)
 | [],_=>[]
 | (t,v)::E,l=>cond (l.any fun q=>Nat.beq t q) (bP6 OT E l) (match reV OT v with
  | some v=>(t,v)::bP6 OT E (t::l)
  | none=>bP6 OT E (t::l))
def pickE (OT:List (Nat×Ob)) (av ks:List Nat) (E:List (Nat×SV)):List (Nat×SV):=
 match ks with
 | k::ks=>cond (Nat.beq k 777777) (bP6 OT E (ks++av)) (pick (k::ks) E)
 | ks=>pick ks E
def pickO (OT:List (Nat×Ob)) (TO:List (Nat×To)) (ko:List Nat) (O:List (Nat×Ob)):List (Nat×Ob):=
 match ko with
 | [k]=>cond (Nat.beq k 777777) ((O.filter fun p=> !(TO.any fun q=>Nat.beq p.1 q.1)).map fun p=>(p.1,reO OT p.2)) (pick [k] O)
 | ko=>pick ko O
def pickB (kb:List Nat) (B:List (Nat×Bool×Bo)):List (Nat×Bool×Bo):=
 match kb with
 | [k]=>cond (Nat.beq k 777777) (lasting B) (pick [999999,k] B)
 | kb=>pick (999999::kb) B
def ist (av:List Nat) (s:S) (ks ko kb:List Nat) (TE:List (Nat×Tv)) (TO:List (Nat×To)) (G:Nat->Hd×List Nat):S:=
 let OT:=aX3 s.O G TO
 let O1:=OT++pickO OT TO ko s.O
 let O2:=toBx s O1 TO++O1
 ⟨TE.map (fun p=>(p.1,tvS O2 s.B p.2))++pickE OT av ks s.E,O2,pickB kb s.B,s.nx⟩
def sgm (sg:List (Nat×Nat)) (j:Nat):Nat:=(lku sg j).getD j
def ghs (O:List (Nat×Ob)) (sg:List (Nat×Nat)) (j:Nat):Hd×List Nat:=
 match lku O (sgm sg j) with
 | some (.own _ h _ fp)=>(h,fp)
 | some (.row _ _ h _ fe)=>(h,fe)
 | _=>(⟨none,0,0⟩,[])
def fitE (E:List (Nat×SV)):List (Nat×SV)->Tr->Tr
 | [],k=>k
 | (t,x)::l,k=>match lku E t with
  | some y=>.e0 y.val x.val (fitE E l k)
  | none=>.no
def fitB (B:List (Nat×Bool×Bo)):List (Nat×Bool×Bo)->Tr->Tr
 | [],k=>k
 | (j,l,b)::r,k=>match lku B j with
  | some (l',b')=>.e1 b' b (.e0 (l' || !l) true (fitB B r k))
  | none=>.no
def fitO (sg:List (Nat×Nat)):List (Nat×Ob)->List (Nat×Ob)->Tr->Tr
 | _,[],k=>k
 | O,(j,ob)::r,k=>match lku O (sgm sg j) with
  | some ob'=>.e0 ob'.res ob.res (fitO sg (bB O (sgm sg j)) r k)
  | none=>.no
def fit (s T:S) (sg:List (Nat×Nat)) (k:Tr):Tr:=fitE s.E T.E (fitB s.B T.B (fitO sg s.O T.O k))
theorem bQ6 {E:List (Nat×SV)}{f:Nat->Value}(hf:Fr E f):∀{T:List (Nat×SV)}{k:Tr},(fitE E T k).holds->Fr T f/\k.holds
 | [],k,h=>⟨fun t x hx=>(by cases hx),h⟩
 | (t,x)::l,k,h=>by
  unfold fitE at h;split at h
  ·next y hy=>
   obtain⟨h1,h2⟩:=h;obtain⟨h3,h4⟩:=bQ6 hf h2;exact⟨h3.know t x ((hf t y hy).trans h1),h4⟩
  ·exact h.elim
theorem bQ7 {w0 W:World}{B:List (Nat×Bool×Bo)}(hb:Below w0.heap.size w0 W) (fa:Facts w0 W B):∀{T:List (Nat×Bool×Bo)}{k:Tr},(fitB B T k).holds->Facts w0 W T/\k.holds
 | [],k,h=>⟨fun e he=>(by cases he),h⟩
 | (j,l,b)::r,k,h=>by
  unfold fitB at h;split at h
  ·next l' b' hj=>
   obtain⟨rfl,h1,h2⟩:=h;obtain⟨h3,h4⟩:=bQ7 hb fa h2;refine⟨fun e he=>?_,h4⟩;rcases mem_cons.1 he with rfl | he
   ·have:=fa _ (kI hj);cases l' with
    | true=>
     cases l with
     | true=>exact this
     | false=>exact Bo.up hb this
    | false=>
     cases l with
     | true=>cases h1
     | false=>exact this
   ·exact h3 e he
  ·exact h.elim
theorem bQ5 {w0 W:World}{sg:List (Nat×Nat)}:∀{T O:List (Nat×Ob)}{k:Tr}{rs:List Res},(fitO sg O T k).holds->St w0 W (Or O++rs)->St w0 W (Or T++rs)/\k.holds
 | [],O,k,rs,h,st=>⟨st.sub (sublist_append_right _ _),h⟩
 | (j,ob)::r,O,k,rs,h,st=>by
  unfold fitO at h;split at h
  ·next ob' hj=>
   obtain⟨h1,h2⟩:=h;have st2:St w0 W (Or (bB O (sgm sg j))++(ob'.res::rs)):=(st.take hj).perm perm_middle;rw[h1]at st2;obtain⟨h3,h4⟩:=bQ5 h2 st2;exact⟨h3.perm (perm_middle (a:=ob.res) (l₁:=Or r) (l₂:=rs)).symm,h4⟩
  ·exact h.elim
theorem bI5 {w0 W:World}{s T:S}{sg:List (Nat×Nat)}{k:Tr}{f:Nat->Value}(h:(fit s T sg k).holds) (den:Den w0 s f W):Den w0 T f W/\k.holds:=by
 obtain⟨h1,h⟩:=bQ6 den.fr h;obtain⟨h2,h⟩:=bQ7 den.st.below den.fa h;have st:St w0 W (Or s.O++[]):=by simpa [Or,S.rs] using den.st
 obtain⟨h3,h⟩:=bQ5 h st;exact⟨⟨h1,by simpa [Or,S.rs] using h3,h2⟩,h⟩
section
variable {P:Program}{A:Type}{R:A->Prop}
def unT (K:Exit->S->D P R->Tr) (c:(Exit->S->D P R->Tr)->S->D P R->Tr):Nat->S->D P R->Tr
 | 0,_,_=>.no
 | m+1,s,d=>c (fun e s' d'=>match e with
  | .normal=>unT K c m s' d'
  | e=>K e s' d') s d
def lpC {Γ:Type}(K:Exit->S->D P R->Tr) (c:(Exit->S->D P R->Tr)->S->D P R->Tr) (av:List Nat) (s:S) (J:Γ->Prop) (m:Γ->Nat) (ks ko kb:List Nat) (TE:Γ->List (Nat×Tv)) (TO:Γ->List (Nat×To)) (g:Γ) (sg:List (Nat×Nat)) (k:∀g,J g->Tok J m (m g)->D P R):Tr:=
   .an (fit s (ist av s ks ko kb (TE g) (TO g) (ghs s.O sg)) sg .ok) <|
    .fn fun g:Γ=>.fp (J g) fun hJ=>.fn fun G:Nat->Hd×List Nat=>c (fun e s' d'=>match e with
     | .normal=>prp d' s' fun s' d'=>match d' with
      | .nx (J:=J') (m:=m') (c:=c') _ g' _ _ sg'=>.e1 (⟨J',m',c'⟩:Lsp) ⟨J,m,m g⟩<|.fp ((⟨J',m',c'⟩:Lsp)=⟨J,m,m g⟩) fun he=>
        fit s' (ist av s ks ko kb (TE (cast (congrArg Lsp.Γ he) g')) (TO (cast (congrArg Lsp.Γ he) g')) (ghs s'.O sg')) sg' .ok
      | _=>.no
     | e=>K e s' d') (ist av s ks ko kb (TE g) (TO g) G) (k g hJ ⟨⟩)
def jnT {Δ:Type}(av:List Nat) (s:S) (Je:Δ->Prop) (ks ko kb:List Nat) (TE:Δ->List (Nat×Tv)) (TO:Δ->List (Nat×To)) (s':S) (d':D P R):Tr:=
 prp d' s' fun s' d'=>match d' with
  | .xt Je' g' _ sg'=>.e1 (⟨Je'⟩:Jsp) ⟨Je⟩<|.fp ((⟨Je'⟩:Jsp)=⟨Je⟩) fun he=>fit s' (ist av s ks ko kb (TE (cast (congrArg Jsp.Γ he) g')) (TO (cast (congrArg Jsp.Γ he) g')) (ghs s'.O sg')) sg' .ok
  | _=>.no
theorem cA9 {Δ:Type}{av:List Nat}{w0 W:World}{s:S}{Je:Δ->Prop}{ks ko kb:List Nat}{TE:Δ->List (Nat×Tv)}{TO:Δ->List (Nat×To)}{s':S}{d':D P R}{f:Nat->Value}(h:(jnT av s Je ks ko kb TE TO s' d').holds) (den:Den w0 s' f W) :
  ∃(g:Δ) (G:Nat->Hd×List Nat),Je g/\Den w0 (ist av s ks ko kb (TE g) (TO g) G) f W:=by
 refine fF h den fun s4 d4 h4 den4=>?_
 split at h4
 ·next Δ' Je' g' hJ' sg'=>
  obtain⟨he,h5⟩:=h4;have h6:=h5 he;cases he;obtain⟨den5,_⟩:=bI5 h6 den4;exact⟨g',_,hJ',den5⟩
 exact h4.elim
def jnK {Δ:Type}(K:Exit->S->D P R->Tr) (av:List Nat) (s:S) (ex:Nat) (Je:Δ->Prop) (ks ko kb:List Nat) (TE:Δ->List (Nat×Tv)) (TO:Δ->List (Nat×To)):Exit->S->D P R->Tr
 | .exit i,s',d'=>cond (Nat.beq i ex) (jnT av s Je ks ko kb TE TO s' d') (K (.exit i) s' d')
 | e,s',d'=>K e s' d'
def jcK {Δ:Type}(K:Exit->S->D P R->Tr) (av:List Nat) (s:S) (Je:Δ->Prop) (ks ko kb:List Nat) (TE:Δ->List (Nat×Tv)) (TO:Δ->List (Nat×To)):Exit->S->D P R->Tr
 | .normal,s',d'=>jnT av s Je ks ko kb TE TO s' d'
 | e,s',d'=>K e s' d'
def lpT (K:Exit->S->D P R->Tr) (c:(Exit->S->D P R->Tr)->S->D P R->Tr) (av:List Nat) (s:S) (d:D P R):Tr:=
 prp d s fun s d=>match d with
  | .lp J m ks ko kb TE TO g _ sg k=>lpC K c av s J m ks ko kb TE TO g sg k
  | .lx J m ks ko kb TE TO g _ sg k (Δ:=Δ) Je ex ks2 ko2 kb2 TE2 TO2 k2=>.an (lpC (jnK K av s ex Je ks2 ko2 kb2 TE2 TO2) c av s J m ks ko kb TE TO g sg k) <|
    .fn fun g:Δ=>.fp (Je g) fun hJ=>.fn fun G:Nat->Hd×List Nat=>K (.exit ex) (ist av s ks2 ko2 kb2 (TE2 g) (TO2 g) G) (k2 g hJ)
  | .ul m k=>unT K c m s k
  | _=>.no
def knw (c:Operand) (r:Bool) (s:S):S:=
 match c with
 | .tmp t=>⟨(t,one (.vl (.bool r)))::s.E,s.O,s.B,s.nx⟩
 | _=>s
def isHr {P:Program}{A:Type}{R:A->Prop}:D P R->Bool
 | .hr ..=>true
 | _=>false
def hrT (P:Program) {A:Type}{R:A->Prop}(n:Nat) (ops:Array Oper) (dr:Bool) (s:S) (d:D P R) (K:S->D P R->Tr):Tr:=
 match d with
 | .hr (n:=n') (ops:=ops') (dr:=dr') h k=>.e0 n' n<|.e0 ops' ops<|.e0 dr' dr<|h.T s fun s=>K s k
 | _=>.no
theorem hrT_ok {P:Program}{A:Type}{R:A->Prop}{w0 W:World}{n:Nat}{ops:Array Oper}{dr:Bool}{s:S}{d:D P R}{K:S->D P R->Tr}{f:Nat->Value}{id:Nat}{Q:Exit->Act->World->Prop}(h:(hrT P n ops dr s d K).holds) (den:Den w0 s f W)
  (k:∀s' d' f' W',(K s' d').holds->Den w0 s' f' W'->Q .normal (act n f') W'):(Code.region id ops dr).wp P Q (act n f) W:=by
 unfold hrT at h;split at h
 ·next n' ops' dr' hh kk=>
  obtain⟨rfl,rfl,rfl,h⟩:=h;exact hh.ok h den fun s' f' W' h' den'=>k s' kk f' W' h' den'
 exact h.elim
def chk (P:Program) {A:Type}{R:A->Prop}(n:Nat):Code->(Exit->S->D P R->Tr)->S->D P R->Tr
 | .skip,K=>K .normal
 | .region _ ops dr,K=>fun s d=>cond (isHr d) (hrT P n ops dr s d fun s d=>K .normal s d)<|cond dr (cond (aH4 ops.toList (yM ops.toList ops.toList.length [])) (bR2 P n ops.toList s d fun s d=>K .normal s d) (bR3 P n ops.toList s d fun s d=>K .normal s d)) (opsT P n ops.toList ops.toList s d fun s d=>K .normal s d)
 | .seq a b,K=>chk P n a fun e s d=>match e with
  | .normal=>chk P n b K s d
  | e=>K e s d
 | .cond c a b,K=>fun s d=>prp d s fun s d=>match d with
  | .jc (Δ:=Δ) Je ks2 ko2 kb2 TE2 TO2 k k2=>.an (prp k s fun s0 d=>opt (opd n s0 c) fun v=>asC v fun x=>bl x d fun r d=>match r with
    | true=>chk P n a (jcK K (rO a++rO b) s Je ks2 ko2 kb2 TE2 TO2) (knw c true s0) d
    | false=>chk P n b (jcK K (rO a++rO b) s Je ks2 ko2 kb2 TE2 TO2) (knw c false s0) d) <|
    .fn fun g:Δ=>.fp (Je g) fun hJ=>.fn fun G:Nat->Hd×List Nat=>K .normal (ist (rO a++rO b) s ks2 ko2 kb2 (TE2 g) (TO2 g) G) (k2 g hJ)
  | d=>opt (opd n s c) fun v=>asC v fun x=>bl x d fun r d=>match r with
   | true=>chk P n a K (knw c true s) d
   | false=>chk P n b K (knw c false s) d
 | .block id c,K=>chk P n c fun e s d=>match e with
  | .exit i=>cond (Nat.beq i id) (K .normal s d) (K (.exit i) s d)
  | e=>K e s d
 | .loop c,K=>lpT K (chk P n c) (rO c)
 | .exit id,K=>K (.exit id)
 | .ret,K=>K .ret
 | _,_=>fun _ _=>.no
theorem tG {w0:World}{n:Nat}:∀(c:Code) {K:Exit->S->D P R->Tr}{s:S}{d:D P R}{f:Nat->Value}{W:World}{Q:Exit->Act->World->Prop},(chk P n c K s d).holds->Den w0 s f W ->
  (∀e s' d' f' W',(K e s' d').holds->Den w0 s' f' W'->Q e (act n f') W')->c.wp P Q (act n f) W:=by
 intro c
 induction c with
 | skip=>exact fun h den k=>wp_skip (k _ _ _ _ _ h den)
 | region id ops dr=>
  intro K s d f W Q h den k;cases hhr:isHr d with
  | true=>
   have h:(cond (isHr d) (hrT P n ops dr s d fun s d=>K .normal s d) _).holds:=h;rw[hhr]at h;have:=hrT_ok (id:=id) (Q:=Q) h den (fun s' d' f' W' h den=>k .normal s' d' f' W' h den);simpa using this
  | false=>
  have h:(cond (isHr d) _ (cond dr (cond (aH4 ops.toList (yM ops.toList ops.toList.length [])) (bR2 P n ops.toList s d fun s d=>K .normal s d) (bR3 P n ops.toList s d fun s d=>K .normal s d)) (opsT P n ops.toList ops.toList s d fun s d=>K .normal s d))).holds:=h;rw[hhr]at h;cases dr with
  | true=>
   have h:(cond (aH4 ops.toList (yM ops.toList ops.toList.length [])) (bR2 P n ops.toList s d fun s d=>K .normal s d) (bR3 P n ops.toList s d fun s d=>K .normal s d)).holds:=h;cases hc:aH4 ops.toList (yM ops.toList ops.toList.length []) with
   | true=>
    rw[hc]at h;have:=drawT_ok (id:=id) h den (fun s' d' f' W' h den=>k .normal s' d' f' W' h den);simpa using this
   | false=>
    rw[hc]at h;have:=drawB_ok (id:=id) h den (fun s' d' f' W' h den=>k .normal s' d' f' W' h den);simpa using this
  | false=>
   have:=aS (id:=id) (aT3 (fun s' d' f' W' h den=>k .normal s' d' f' W' h den) h den);simpa using this
 | seq a b iha ihb=>
  intro K s d f W Q h den k;refine wp_seq (iha h den fun e s' d' f' W' h' den'=>?_);cases e with
  | normal=>exact ihb h' den' k
  | exit id=>exact k _ _ _ _ _ h' den'
  | goto l=>exact k _ _ _ _ _ h' den'
  | ret=>exact k _ _ _ _ _ h' den'
  | panic ch=>exact k _ _ _ _ _ h' den'
  | outgrown=>exact k _ _ _ _ _ h' den'
 | cond c a b iha ihb=>
  intro K s d f W Q h den k;have step:∀{K':Exit->S->D P R->Tr}{s1:S}{d1:D P R},(opt (opd n s1 c) fun v=>asC v fun x=>bl x d1 fun r d=>match r with
    | true=>chk P n a K' (knw c true s1) d
    | false=>chk P n b K' (knw c false s1) d).holds->Den w0 s1 f W->(∀e s' d' f' W',(K' e s' d').holds->Den w0 s' f' W'->Q e (act n f') W')->(Code.cond c a b).wp P Q (act n f) W:=by
   intro K' s1 d1 h1 den1 k';refine aD h1 fun v hv h2=>bT h2 fun x hx h3=>bR9 h3 fun r d2 hr h4=>?_
   subst hx;have hc:=(bH7 den1.fr c _ hv).trans hr;have hk:Den w0 (knw c r s1) f W:=by
    clear h4 h3 h2 h1 h;cases c with
    | tmp t=>
     refine⟨den1.fr.know t _ ?_,den1.st,den1.fa⟩;have hv':lku s1.E t=some (one x):=by
      simp only[opd]at hv;cases hb:Nat.ble (t+1) n with
      | true=>rw[hb]at hv;exact hv
      | false=>rw[hb]at hv;cases hv
     exact(den1.fr t _ hv').trans hr
    | const v=>exact den1
    | global g=>exact den1
    | func g=>exact den1
   cases r with
   | true=>exact bK8 hc (fun _=>iha h4 hk k') (fun h=>by cases h)
   | false=>exact bK8 hc (fun h=>by cases h) (fun _=>ihb h4 hk k')
  refine fF h den fun s1 d1 h1 den1=>?_
  split at h1
  ·next Δ Je ks2 ko2 kb2 TE2 TO2 kk k2=>
   obtain⟨h2,h3⟩:=h1;refine fF h2 den1 fun s0 d0 h4 den0=>step h4 den0 fun e s' d' f' W' h' den'=>?_
   cases e with
   | normal=>
    obtain⟨g,G,hJ,den5⟩:=cA9 h' den';exact k _ _ _ _ _ (h3 g hJ G) den5
   | exit i=>exact k _ _ _ _ _ h' den'
   | goto l=>exact k _ _ _ _ _ h' den'
   | ret=>exact k _ _ _ _ _ h' den'
   | panic ch=>exact k _ _ _ _ _ h' den'
   | outgrown=>exact k _ _ _ _ _ h' den'
  exact step h1 den1 k
 | block id c ih=>
  intro K s d f W Q h den k;refine wp_block (ih h den fun e s' d' f' W' h' den'=>?_);cases e with
  | exit i=>
   show if i=id then Q .normal _ _ else Q (.exit i) _ _
   have h':(cond (Nat.beq i id) (K .normal s' d') (K (.exit i) s' d')).holds:=h';by_cases hi:i=id
   ·rw[if_pos hi];subst hi;rw[Nat.beq_refl]at h';exact k _ _ _ _ _ h' den'
   rw[if_neg hi];rw[iP hi]at h';exact k _ _ _ _ _ h' den'
  | normal=>exact k _ _ _ _ _ h' den'
  | goto l=>exact k _ _ _ _ _ h' den'
  | ret=>exact k _ _ _ _ _ h' den'
  | panic ch=>exact k _ _ _ _ _ h' den'
  | outgrown=>exact k _ _ _ _ _ h' den'
 | loop c ih=>
  intro K s0 d0 f0 W0 Q h den k;have step:∀{Γ:Type}{K':Exit->S->D P R->Tr}{s:S}{J:Γ->Prop}{m:Γ->Nat}{ks ko kb:List Nat}{TE:Γ->List (Nat×Tv)}{TO:Γ->List (Nat×To)}{g0:Γ}{sg:List (Nat×Nat)}{kk:∀g,J g->Tok J m (m g)->D P R},J g0 ->
    (lpC K' (chk P n c) (rO c) s J m ks ko kb TE TO g0 sg kk).holds->Den w0 s f0 W0->(∀e s' d' f' W',e ≠ .normal->(K' e s' d').holds->Den w0 s' f' W'->Q e (act n f') W')->(Code.loop c).wp P Q (act n f0) W0:=by
   intro Γ K' s J m ks ko kb TE TO g0 sg kk hJ0 h1 den1 k';obtain⟨h2,h3⟩:=h1;obtain⟨den2,_⟩:=bI5 h2 den1;refine yZ (fun mm f W=>∃(g:Γ) (G:Nat->Hd×List Nat),J g/\m g=mm/\Den w0 (ist (rO c) s ks ko kb (TE g) (TO g) G) f W) (m g0) ⟨g0,_,hJ0,rfl,den2⟩ ?_;rintro mm f W ⟨g,G,hJ,rfl,den3⟩;refine ih (h3 g hJ G) den3 fun e s' d' f' W' h' den'=>?_
   cases e with
   | normal=>
    refine fF h' den' fun s4 d4 h4 den4=>?_
    split at h4
    ·next Γ' J' m' c' t' g' hJ' hm' sg'=>
     obtain⟨he,h5⟩:=h4;have h6:=h5 he;cases he;obtain⟨den5,_⟩:=bI5 h6 den4;exact⟨f',m g',hm',rfl,g',_,hJ',rfl,den5⟩
    exact h4.elim
   | exit i=>exact k' _ _ _ _ _ (fun h=>by cases h) h' den'
   | goto l=>exact k' _ _ _ _ _ (fun h=>by cases h) h' den'
   | ret=>exact k' _ _ _ _ _ (fun h=>by cases h) h' den'
   | panic ch=>exact k' _ _ _ _ _ (fun h=>by cases h) h' den'
   | outgrown=>exact k' _ _ _ _ _ (fun h=>by cases h) h' den'
  refine fF h den fun s d h1 den1=>?_
  split at h1
  ·next hJ0 _ _=>exact step hJ0 h1 den1 fun e s' d' f' W' _ h' den'=>k _ _ _ _ _ h' den'
  ·next Γ J m ks ko kb TE TO g0 hJ0 sg kk Δ Je ex ks2 ko2 kb2 TE2 TO2 k2=>
   obtain⟨h2,h3⟩:=h1;refine step hJ0 h2 den1 fun e s' d' f' W' hne h' den'=>?_
   cases e with
   | normal=>exact absurd rfl hne
   | exit i=>
    have h':(cond (Nat.beq i ex) (jnT (rO c) s Je ks2 ko2 kb2 TE2 TO2 s' d') (K (.exit i) s' d')).holds:=h';by_cases hi:i=ex
    ·subst hi;rw[Nat.beq_refl]at h';obtain⟨g,G,hJ,den5⟩:=cA9 h' den';exact k _ _ _ _ _ (h3 g hJ G) den5
    rw[iP hi]at h';exact k _ _ _ _ _ h' den'
   | goto l=>exact k _ _ _ _ _ h' den'
   | ret=>exact k _ _ _ _ _ h' den'
   | panic ch=>exact k _ _ _ _ _ h' den'
   | outgrown=>exact k _ _ _ _ _ h' den'
  ·next m0 kk=>
   refine yZ (fun mm f W=>∃(s:S) (d:D P R),(unT K (chk P n c) mm s d).holds/\Den w0 s f W) m0 ⟨s,kk,h1,den1⟩ ?_;rintro mm f W ⟨s2,d2,h2,den2⟩;cases mm with
   | zero=>exact h2.elim
   | succ mm=>
    refine ih h2 den2 fun e s' d' f' W' h' den'=>?_
    cases e with
    | normal=>exact⟨f',mm,Nat.lt_succ_self _,rfl,s',d',h',den'⟩
    | exit i=>exact k _ _ _ _ _ h' den'
    | goto l=>exact k _ _ _ _ _ h' den'
    | ret=>exact k _ _ _ _ _ h' den'
    | panic ch=>exact k _ _ _ _ _ h' den'
    | outgrown=>exact k _ _ _ _ _ h' den'
  exact h1.elim
 | exit id=>exact fun h den k=>wp_exit (k _ _ _ _ _ h den)
 | ret=>exact fun h den k=>wp_ret (k _ _ _ _ _ h den)
 | _=>intros;exact(by assumption:Tr.no.holds).elim
end
end Go.Proofs.YtpdgdnpajmcaeaaGreat
namespace Go.Proofs.YtpdgdnpajmcaeaaGreat
set_option maxHeartbeats 1000000
set_option maxHeartbeats 2000000
open Go.RowKit Go.Proofs.Tryz List
section
variable {P:Program}{A:Type}{R:A->Prop}
def wT:List Par->Nat->S->(S->Tr)->Tr
 | [],_,s,K=>K s
 | .v x::ps,t,s,K=>wT ps (t+1) ⟨(t,one (sc x))::s.E,s.O,s.B,s.nx⟩ K
 | .b e::ps,t,s,K=>wT ps (t+1) ⟨(t,one (.bo e))::s.E,s.O,s.B,s.nx⟩ K
 | .st i x::ps,t,s,K=>sX true (i.lv x) s fun cs s=>wT ps (t+1) ⟨(t,.on (.ag cs))::s.E,s.O,s.B,s.nx⟩ K
 | .ag l::ps,t,s,K=>wT ps (t+1) ⟨(t,.on (.ag (l.map sc)))::s.E,s.O,s.B,s.nx⟩ K
 | .sl i xs::ps,t,s,K=>.fn fun g:Hd×List Nat=>wT ps (t+1) ⟨(t,one (.rf s.nx g.1))::s.E,s.O,(s.nx,true,.sl i g.1 xs g.2)::s.B,s.nx+1⟩ K
theorem wY {w:World}:∀{ls:List Lf}{cs:List Value}{fp:List Nat},cW w cs ls fp->lns ls
 | [],_,_,_=>trivial
 | .v x::ls,[],_,h=>h.elim
 | .s _ _ _::ls,[],_,h=>h.elim
 | .v x::ls,c::cs,fp,h=>wY (ls:=ls) h.2
 | .s _ _ ys::ls,c::cs,fp,h=>by
  obtain⟨f1,f2,h1,h2,_⟩:=h;exact⟨h1.len_le,wY h2⟩
theorem gY {G:Prop}{w W:World}{f:Nat->Value}:∀{ps:List Par}{us:List Value}{t:Nat}{s:S}{K:S->Tr},(wT ps t s K).holds->Pars w us ps->(∀k v,us[k]? = some v->f (t+k)=v)->Den w s f W ->
  (∀s',(K s').holds->Den w s' f W->gin ps->s'.O=s.O->G)->G
 | [],[],t,s,K,h,hp,hu,den,k=>k s h den trivial rfl
 | [],_::_,t,s,K,h,hp,hu,den,k=>hp.elim
 | p::ps,[],t,s,K,h,hp,hu,den,k=>by cases p<;>exact hp.elim
 | p::ps,u::us,t,s,K,h,hp,hu,den,k=>by
  have h0:f t=u:=hu 0 u rfl;have hu':∀k v,us[k]? = some v->f (t+1+k)=v:=fun k v hk=>by
   rw[Nat.add_assoc,Nat.add_comm 1 k];exact hu (k+1) v (by simpa using hk)
  cases p with
  | v x=>
   obtain⟨rfl,hp⟩:=hp;exact gY (t:=t+1) (us:=us) h hp hu' ⟨den.fr.know t (one (sc u)) (h0.trans (kW u).symm),den.st,den.fa⟩ k
  | b e=>
   obtain⟨rfl,hp⟩:=hp;exact gY (t:=t+1) (us:=us) h hp hu' ⟨den.fr.know t (one (.bo e)) h0,den.st,den.fa⟩ k
  | ag l=>
   obtain⟨rfl,hp⟩:=hp;refine gY (t:=t+1) (us:=us) h hp hu' ⟨den.fr.know t (.on (.ag (l.map sc))) (h0.trans ?_),den.st,den.fa⟩ k;show Value.agg l.toArray = .agg ((l.map sc).map Sc.val).toArray;rw[map_map,show Sc.val ∘ sc=id from funext kW,map_id]
  | st i x=>
   obtain⟨⟨cs,fp,rfl,hc⟩,hp⟩:=hp;obtain⟨hg,hc⟩:=i.out hc;refine lN (l:=true) (w0:=w) (W:=W) h hc den.fa fun scs s1 h1 e1 e2 e3 fa'=>(gY (t:=t+1) (us:=us) h1 hp hu' ⟨?_,by rw[S.rs,e3];exact den.st,fa'⟩ fun s' h' den' hg' eO=>k s' h' den' ⟨⟨hg,wY hc⟩,hg'⟩ (eO.trans e3))
   refine Fr.know (by rw[e2];exact den.fr) t _ (h0.trans ?_);show Value.agg cs.toArray = .agg (scs.map Sc.val).toArray;rw[e1]
  | sl i xs=>
   obtain⟨⟨fp,hs⟩,hp⟩:=hp;obtain⟨hd,rfl,hn⟩:=hs.hd;refine gY (t:=t+1) (us:=us) (h (hd,fp)) hp hu' ⟨den.fr.know t _ h0,den.st,fun e he=>?_⟩ fun s' h' den' hg' eO=>k s' h' den' ⟨hs.len_le,hg'⟩ eO
   rcases mem_cons.1 he with rfl | he
   ·exact hs
   ·exact den.fa e he
theorem bQ9 {G:Prop}{w:World}{f:Nat->Value}{ps:List Par}{us:List Value}{t:Nat}{s:S}{K:S->Tr}(h:(wT ps t s K).holds) (hp:Pars w us ps) (hu:∀k v,us[k]? = some v->f (t+k)=v) (den:Den w s f w) (k:∀s',(K s').holds->Den w s' f w->gin ps->G):G:=gY h hp hu den fun s' a b c _=>k s' a b c
def rgd:List Rk->Prop
 | []=>True
 | .own i x::ks=>i.good x/\rgd ks
 | _::ks=>rgd ks
def resT (P:Program) (n:Nat) (s:S) (r:ResultVar) (K:TV->Tr):Tr:=
 match r with
 | .tmp t=>opt (opd n s (.tmp t)) fun v=>match v with
  | .on v=>K v
  | _=>.no
 | .cell a t=>opt (opd n s (.tmp a)) fun v=>asC v fun c=>ldT P s t c fun v=>match v with
  | .on v=>K v
  | _=>.no
def bH2 (tmps:Array Value):ResultVar->Sem Value
 | .tmp t=>pure (tmps.getD t undef)
 | .cell a t=>do loadVar t (<- asAddr (tmps.getD a undef))
theorem ldT_run {G:Prop}{w0 W:World}{s:S}{t:TypeId}{c:Sc}{K:SV->Tr}(h:(ldT P s t c K).holds) (st:St w0 W s.rs) (fa:Facts w0 W s.B) (k:∀v a,c.val = .pointer (some a)->(loadVar t a).run P W = .ok v.val W->(K v).holds->G):G:=by
 unfold ldT at h;split at h
 ·next j b0 k0 o=>
  refine aD h fun r hr h=>?_
  obtain⟨b,kk,cs⟩:=r;obtain⟨h1,h2,h⟩:=h;simp only at h1 h2;subst h1 h2;have hrg:=aS9 hr st fa;refine aD h fun z hz h=>?_
  cases z with
  | none=>
   refine aD h fun v hvv h=>k _ _ rfl ?_ h
   have:=aF3 (P:=P) (cs:=[v.val]) (o:=k0+o) (b:=b0) (W:=W) hz (by
    intro q u hj;cases q with
    | zero=>
     simp at hj;subst hj;exact hrg o _ (by rw[getElem?_map];simp only at hvv;rw[hvv];rfl)
    | succ j=>simp at hj) rfl
   simp[Instr.loadAt,Instr.sureAddr,Sem.run_bind]at this;exact this
  | some z=>
   obtain⟨h1,h⟩:=h;simp only at h1;refine k _ _ rfl ?_ h;have h5:=sU (i:=o) (z:=z) hrg;have:=aF3 (P:=P) (cs:=((cs.drop o).take z).map Sc.val) (o:=k0+o) (b:=b0) (W:=W) hz (by simpa [map_take,map_drop] using h5) (by simpa using h1);simp only[Instr.loadAt,Instr.sureAddr,Sem.run_bind,Sem.run_pure,Result.andThen_ok]at this;exact this
 exact h.elim
theorem resT_ok {G:Prop}{w0 W:World}{n:Nat}{s:S}{r:ResultVar}{K:TV->Tr}{f:Nat->Value}(h:(resT P n s r K).holds) (den:Den w0 s f W) (k:∀v,(bH2 (act n f).tmps r).run P W = .ok v.val W->(K v).holds->G):G:=by
 have hg:∀t v,opd n s (.tmp t)=some v->(act n f).tmps.getD t undef=v.val:=fun t v hv=>by
  rw[aV8];exact bH7 den.fr (.tmp t) v hv
 cases r with
 | tmp t=>
  refine aD h fun v hv h=>?_
  split at h
  ·next v=>
   refine k v ?_ h;simp only[bH2,hg t _ hv];rfl
  exact h.elim
 | cell a t=>
  refine aD h fun v hv h'=>bT h' fun c hc h=>?_
  subst hc;refine ldT_run h den.st den.fa fun v ad e hl h=>?_
  split at h
  ·next v=>
   refine k v ?_ h;simp only[bH2,hg a _ hv];have:(SV.on (TV.ce c)).val = .pointer (some ad):=e;rw[this];simp[asAddr,Sem.run_bind];exact hl
  exact h.elim
def aZ1 (P:Program) (n:Nat) (s:S):List ResultVar->(List TV->Tr)->Tr
 | [],K=>K []
 | r::rs,K=>resT P n s r fun v=>aZ1 P n s rs fun vs=>K (v::vs)
theorem oA {G:Prop}{w0 W:World}{n:Nat}{s:S}{f:Nat->Value}(den:Den w0 s f W):∀{rs:List ResultVar}{K:List TV->Tr},(aZ1 P n s rs K).holds->(∀vs,(rs.mapM (bH2 (act n f).tmps)).run P W = .ok (vs.map TV.val) W->(K vs).holds->G)->G
 | [],K,h,k=>k [] rfl h
 | r::rs,K,h,k=>resT_ok h den fun v hv h=>oA den (K:=fun vs=>K (v::vs)) h fun vs hvs h=>k (v::vs) (by
   simp[mapM_cons,Sem.run_bind,hv,hvs]) h
theorem iL {fn:Func}{tmps:Array Value}{vs:List Value}{W:World}(h:(fn.results.toList.mapM (bH2 tmps)).run P W = .ok vs W):(results fn tmps).run P W = .ok (uE vs) W:=by
 have e:results fn tmps=(do let vs <- fn.results.mapM (bH2 tmps);pure (if h:vs.size=1 then vs[0] else .tuple vs)):=by
  unfold results;congr 1
 rw[e,Array.mapM_eq_mapM_toList,Sem.run_bind];have h2:(List.toArray <$> fn.results.toList.mapM (bH2 tmps)).run P W = .ok vs.toArray W:=by
  rw[map_eq_pure_bind,Sem.run_bind,h];rfl
 rw[h2];show Result.ok _ W=_;congr 1
 match vs with
 | []=>rfl
 | [v]=>rfl
 | _::_::_=>rfl
def rkT:List TV->List Rk->List (Nat×Ob)->(List (Nat×Ob)->Tr)->Tr
 | [],[],O,K=>K O
 | .ce c::ts,.v x::ks,O,K=>.e0 c.val x (rkT ts ks O K)
 | .ag cs::ts,.own i x::ks,O,K=>iI O cs (i.lv x) fun O'=>rkT ts ks O' K
 | .ce c::ts,.sl i xs::ks,O,K=>iI O [c] [.s _ i xs] fun O'=>rkT ts ks O' K
 | .ce c::ts,.rw i e xs::ks,O,K=>ctk O [c] [.r i e xs] fun O'=>rkT ts ks O' K
 | .ag cs::ts,.cl ls::ks,O,K=>ctk O cs ls fun O'=>rkT ts ks O' K
 | _,_,_,_=>.no
theorem aS8 {w0 W:World}:∀{ts:List TV}{ks:List Rk}{O:List (Nat×Ob)}{K:List (Nat×Ob)->Tr}{rs:List Res},(rkT ts ks O K).holds->rgd ks->St w0 W (Or O++rs)->∃r O',(K O').holds/\Rks (ts.map TV.val) ks r/\St w0 W (Or O'++(r++rs)):=by
 intro ts
 induction ts with
 | nil=>
  intro ks O K rs h hg st;cases ks with
  | nil=>exact⟨[],O,h,rfl,st⟩
  | cons=>exact h.elim
 | cons t ts ih=>
  intro ks O K rs h hg st;cases ks with
  | nil=>cases t<;>exact h.elim
  | cons kk ks=>
   have mid:∀{O':List (Nat×Ob)}{r:List Res}{x:Res},St w0 W (Or O'++(r++(x::rs)))->St w0 W (Or O'++((x::r)++rs)):=fun {O' r x} h=>h.perm ((perm_middle (a:=x) (l₁:=r) (l₂:=rs)).symm.append_left (Or O'))
   cases t with
   | ce c=>
    cases kk with
    | v x=>
     obtain⟨h1,h2⟩:=h;obtain⟨r,O',hK,h3,h4⟩:=ih h2 hg st;exact⟨r,O',hK,⟨[],r,⟨h1,rfl⟩,h3,rfl⟩,h4⟩
    | own i x=>exact h.elim
    | cl ls=>exact h.elim
    | rw i e xs=>
     obtain⟨r1,O',h',hl,st1⟩:=wW h st;obtain⟨fe,r2,rfl,hl2⟩:=hl;have hl2:r2=[]:=hl2;subst hl2;obtain⟨r,O2,hK,h3,h4⟩:=ih h' hg st1;exact⟨Res.row e c.val xs fe::r,O2,hK,⟨[_],r,⟨fe,rfl⟩,h3,rfl⟩,mid h4⟩
    | sl i xs=>
     refine dO h st fun O' fp h' st'=>?_
     obtain⟨f1,f2,st2⟩:=St.s_pc st';have st3:=st2.d0;obtain⟨r,O2,hK,h3,h4⟩:=ih h' hg (rs:=Res.own c.val xs f1::rs) (st3.perm perm_middle);exact⟨Res.own c.val xs f1::r,O2,hK,⟨[_],r,⟨f1,rfl⟩,h3,rfl⟩,mid h4⟩
   | ag cs=>
    cases kk with
    | v x=>exact h.elim
    | sl i xs=>exact h.elim
    | rw i e xs=>exact h.elim
    | cl ls=>
     obtain⟨r1,O',h',hl,st1⟩:=wW h st;obtain⟨r,O2,hK,h3,h4⟩:=ih h' hg st1;refine⟨r1++r,O2,hK,⟨r1,r,⟨_,rfl,hl⟩,h3,rfl⟩,?_⟩;refine h4.perm (List.Perm.append_left (Or O2) ?_);rw[append_assoc,<- append_assoc r r1 rs,<- append_assoc r1 r rs];exact(perm_append_comm (l₁:=r1) (l₂:=r)).append_right rs
    | own i x=>
     refine dO h st fun O' fp h' st'=>?_
     have st2:=St.pc_cs i st' hg.1;obtain⟨r,O2,hK,h3,h4⟩:=ih h' hg.2 (rs := @Res.cs _ i.toShape (cs.map Sc.val) x fp::rs) (st2.perm perm_middle);exact⟨_::r,O2,hK,⟨[_],r,⟨_,fp,rfl,rfl⟩,h3,rfl⟩,mid h4⟩
def bU4 {P:Program}{A:Type}{R:A->Prop}:D P R->D P R
 | .wt _ k=>k
 | d=>d
def retT (P:Program) {A:Type}{R:A->Prop}(rk:A->List Rk) (n:Nat) (rs:List ResultVar) (s:S) (d:D P R):Tr:=
 prp d s fun s d=>prp (bU4 d) s fun s d=>match d with
  | .rt a _=>aZ1 P n s rs fun ts=>rkT ts (rk a) s.O fun _=>.ok
  | _=>.no
def grB:Option Gr->List (Nat×Bool×Bo)
 | none=>[]
 | some g=>[(999999,true,.gr g)]
theorem grB_ok {G:Option Gr}{w:World}(h:Gin G w):Facts w w (grB G):=by
 cases G with
 | none=>intro e he;cases he
 | some g=>
  intro e he;simp only[grB,mem_singleton]at he;subst he;exact h
def vcT (P:Program) (fn:Func) (G:Option Gr) (ps:List Par) {A:Type}{R:A->Prop}(rk:A->List Rk) (d:gin ps->D P (fun a=>R a/\rgd (rk a))):Tr:=
 .e0 (Nat.ble ps.length fn.ntmps) true<|match fn.body with
  | some c=>wT ps 0 ⟨[],[],grB G,0⟩ fun s=>.fp (gin ps) fun hg=>chk P fn.ntmps c (fun e s d=>match e with
   | .ret=>retT P rk fn.ntmps fn.results.toList s d
   | .normal=>retT P rk fn.ntmps fn.results.toList s d
   | _=>.no) s (d hg)
  | none=>.no
theorem Pars.len {w:World}:∀{us:List Value}{ps:List Par},Pars w us ps->us.length=ps.length
 | [],[],_=>rfl
 | [],p::_,h=>by cases p<;>exact h.elim
 | _::_,[],h=>h.elim
 | u::us,p::ps,h=>by
  cases p<;>exact congrArg (· + 1) (Pars.len h.2)
theorem vcg {F:FuncId}{fn:Func}{ps:List Par}{rk:A->List Rk}(G:Option Gr) (hf:P.funcs[F]? = some fn) (d:gin ps->D P (fun a=>R a/\rgd (rk a))) (h:(vcT P fn G ps rk d).side true=(vcT P fn G ps rk d).side false):Cg P F G ps R rk:=by
 have h:=Tr.of_side h;obtain⟨h1,h⟩:=h;refine⟨fun w us hG hp=>?_⟩;split at h
 ·next c hb=>
  have hl:us.length<=fn.ntmps:=by rw[hp.len];exact Nat.le_of_ble_eq_true h1
  refine enter us hf hb rfl hl ?_;refine bQ9 (t:=0) h hp (f:=fun t=>us.getD t undef) (fun k v hk=>by
   show us.getD (0+k) undef=v;rw[Nat.zero_add,getD_eq_getElem?_getD,hk];rfl) ⟨fun t x hx=>(by cases hx),St.start w,grB_ok hG⟩ fun s' h' den' hg=>?_
  have hret:∀{s:S}{d:D P (fun a=>R a/\rgd (rk a))}{f:Nat->Value}{W:World},(retT P rk fn.ntmps fn.results.toList s d).holds->Den w s f W->∃v,(results fn (act fn.ntmps f).tmps).run P W = .ok v W/\∃a vs rs,R a/\Ending.returned v = .returned (uE vs)/\Rks vs (rk a) rs/\St w W rs:=by
   intro s d f W h den;refine fF h den fun s0_ d0_ h0_ den0_=>fF h0_ den0_ fun s1 d1 h1 den1=>?_
   split at h1
   ·next a ha=>
    refine oA den1 h1 fun ts hts h2=>?_
    have st:St w W (Or s1.O++[]):=by simpa [Or,S.rs] using den1.st
    obtain⟨r,O',_,h3,h4⟩:=aS8 h2 ha.2 st;exact⟨_,iL hts,a,_,r,ha.1,rfl,h3,h4.sub (by rw[append_nil];exact sublist_append_right _ _)⟩
   exact h1.elim
  refine tG c (h' hg) den' fun e s2 d2 f2 W2 h2 den2=>?_
  cases e with
  | ret=>exact⟨rfl,hret h2 den2⟩
  | normal=>exact⟨rfl,hret h2 den2⟩
  | exit i=>exact h2.elim
  | goto l=>exact h2.elim
  | panic ch=>exact h2.elim
  | outgrown=>exact h2.elim
 exact h.elim
theorem vc {F:FuncId}{fn:Func}{ps:List Par}{rk:A->List Rk}(hf:P.funcs[F]? = some fn) (d:gin ps->D P (fun a=>R a/\rgd (rk a))) (h:(vcT P fn none ps rk d).side true=(vcT P fn none ps rk d).side false):Ct P F ps R rk:=vcg none hf d h
def cB9:List SV->Nat->List (Nat×SV)
 | [],_=>[]
 | u::us,t=>(t,u)::cB9 us (t+1)
theorem bQ2 {f:Nat->Value}:∀{us:List SV}{t:Nat},(∀k v,(us.map SV.val)[k]? = some v->f (t+k)=v)->Fr (cB9 us t) f
 | [],t,_=>fun t x hx=>by cases hx
 | u::us,t,h=>by
  refine Fr.know (bQ2 (us:=us) (t:=t+1) fun k v hk=>?_) t u (h 0 _ rfl);rw[Nat.add_assoc,Nat.add_comm 1 k];exact h (k+1) v (by simpa using hk)
def retI (P:Program) {A:Type}{R:A->Prop}(n:Nat) (rs:List ResultVar) (K:A->SV->S->Tr) (s:S) (d:D P R):Tr:=
 prp d s fun s d=>prp (bU4 d) s fun s d=>match d with
  | .rt a _=>aZ1 P n s rs fun ts=>K a (aA1 ts) s
  | _=>.no
def inlT (P:Program) (fn:Func) {A:Type}{R:A->Prop}(d:D P R) (s:S) (us:List SV) (K:A->SV->S->Tr):Tr:=
 .e0 (Nat.ble us.length fn.ntmps) true<|match fn.body with
  | some c=>chk P fn.ntmps c (fun e s d=>match e with
   | .ret=>retI P fn.ntmps fn.results.toList K s d
   | .normal=>retI P fn.ntmps fn.results.toList K s d
   | _=>.no) ⟨cB9 us 0,s.O,s.B,s.nx⟩ d
  | none=>.no
theorem inlT_ok {F:FuncId}{fn:Func}(hf:P.funcs[F]? = some fn) (d:D P R) {w0 W:World}{s:S}{us:List SV}{K:A->SV->S->Tr}(h:(inlT P fn d s us K).holds) (st:St w0 W s.rs) (fa:Facts w0 W s.B) :
  Calls P F (us.map SV.val).toArray W fun e W'=>∃a v s',R a/\(K a v s').holds/\e = .returned v.val/\St w0 W' s'.rs/\Facts w0 W' s'.B:=by
 obtain⟨h1,h⟩:=h;split at h
 ·next c hb=>
  have hl:(us.map SV.val).length<=fn.ntmps:=by rw[length_map];exact Nat.le_of_ble_eq_true h1
  refine enter (us.map SV.val) hf hb rfl hl ?_;have hret:∀{s:S}{d:D P R}{f:Nat->Value}{W:World},(retI P fn.ntmps fn.results.toList K s d).holds->Den w0 s f W->∃v,(results fn (act fn.ntmps f).tmps).run P W = .ok v W/\∃a u s',R a/\(K a u s').holds/\Ending.returned v = .returned u.val/\St w0 W s'.rs/\Facts w0 W s'.B:=by
   intro s d f W h den;refine fF h den fun s0_ d0_ h0_ den0_=>fF h0_ den0_ fun s1 d1 h1 den1=>?_
   split at h1
   ·next a ha=>
    refine oA den1 h1 fun ts hts h2=>?_
    exact⟨_,iL hts,a,aA1 ts,s1,ha,h2,by rw[iW],den1.st,den1.fa⟩
   exact h1.elim
  refine tG (w0:=w0) c h ⟨bQ2 (f:=fun t=>(us.map SV.val).getD t undef) fun k v hk=>?_,st,fa⟩ fun e s2 d2 f2 W2 h2 den2=>?_
  ·show (us.map SV.val).getD (0+k) undef=v;rw[Nat.zero_add,getD_eq_getElem?_getD,hk];rfl
  cases e with
  | ret=>exact⟨rfl,hret h2 den2⟩
  | normal=>exact⟨rfl,hret h2 den2⟩
  | exit i=>exact h2.elim
  | goto l=>exact h2.elim
  | panic ch=>exact h2.elim
  | outgrown=>exact h2.elim
 exact h.elim
def inl {F:FuncId}{fn:Func}(hf:P.funcs[F]? = some fn) (d:D P R):Inc P F R:=⟨inlT P fn d,inlT_ok hf d⟩
def Res.all (rs:List Res):Res where
 fp:=rs.flatMap Res.fp
 holds:=fun W=>∀r∈rs,r.holds W
 loc:=fun hs hb h r hr=>r.loc hs (fun b hm=>hb b (mem_flatMap.2 ⟨r,hr,hm⟩)) (h r hr)
 wr:=fun h b hb=>by
  obtain⟨r,hr,hm⟩:=mem_flatMap.1 hb;exact r.wr (h r hr) b hm
theorem St.all_in {w W:World}{a rs:List Res}(h:St w W (a++rs)):St w W (a++[Res.all rs]):=by
 refine⟨h.below,by simpa [Res.all] using h.nodup,fun r hr b hb=>?_,fun r hr=>?_⟩
 ·rcases mem_append.1 hr with hr | hr
  ·exact h.fresh r (mem_append_left _ hr) b hb
  simp only[mem_singleton]at hr;subst hr;obtain⟨q,hq,hm⟩:=mem_flatMap.1 (show b∈rs.flatMap Res.fp from hb);exact h.fresh q (mem_append_right _ hq) b hm
 rcases mem_append.1 hr with hr | hr
 ·exact h.holds r (mem_append_left _ hr)
 simp only[mem_singleton]at hr;subst hr;exact fun q hq=>h.holds q (mem_append_right _ hq)
theorem St.all_out {w W:World}{a rs:List Res}(h:St w W (a++[Res.all rs])):St w W (a++rs):=by
 refine⟨h.below,by simpa [Res.all] using h.nodup,fun r hr b hb=>?_,fun r hr=>?_⟩
 ·rcases mem_append.1 hr with hr | hr
  ·exact h.fresh r (mem_append_left _ hr) b hb
  exact h.fresh (Res.all rs) (by simp) b (mem_flatMap.2 ⟨r,hr,hb⟩)
 rcases mem_append.1 hr with hr | hr
 ·exact h.holds r (mem_append_left _ hr)
 exact h.holds (Res.all rs) (by simp) r hr
def aV4:Nat:=1000000
def retM (P:Program) {A:Type}{R:A->Prop}{α:Type}(i:Dsh α) (y:A->α) (rk:A->List Rk) (n:Nat) (rs:List ResultVar) (b:Nat) (t:TypeId) (pre post:List Value) (r:Res) (s:S) (d:D P R):Tr:=
 prp d s fun s d=>prp (bU4 d) s fun s d=>match d with
  | .rt a _=>match lku s.O 0 with
   | some (.bx b' pre' cs post' t')=>.e0 b' b<|.e0 pre' pre<|.e0 post' post<|.e0 t' t<|iI (bB s.O 0) cs (i.lv (y a)) fun O'=>
     aZ1 P n s rs fun ts=>rkT ts (rk a) O' fun O2=>match lku O2 aV4 with
      | some (.raw r')=>.e0 r' r .ok
      | _=>.no
   | _=>.no
  | _=>.no
def vcmT (P:Program) (fn:Func) (ps:List Par) {α:Type}(i:Dsh α) (x:α) {A:Type}{R:A->Prop}(y:A->α) (rk:A->List Rk) (d:gin ps->lns (i.lv x)->D P (fun a=>R a/\rgd (rk a))):Tr:=
 .e0 (Nat.ble (ps.length+1) fn.ntmps) true<|match fn.body with
  | some c=>.fn fun G:(Nat×TypeId)×(List Value×List Value×Res)=>yI (i.lv x) ⟨[],[(aV4,.raw G.2.2.2)],[],1⟩ fun scs s=>
    wT ps 1 ⟨[(0,one (.pt 0 G.1.1 G.2.1.length 0))],(0,.bx G.1.1 G.2.1 scs G.2.2.1 G.1.2)::s.O,s.B,s.nx⟩ fun s=>.fp (gin ps) fun hg=>.fp (lns (i.lv x)) fun hn=>chk P fn.ntmps c (fun e s d=>match e with
     | .ret=>retM P i y rk fn.ntmps fn.results.toList G.1.1 G.1.2 G.2.1 G.2.2.1 G.2.2.2 s d
     | .normal=>retM P i y rk fn.ntmps fn.results.toList G.1.1 G.1.2 G.2.1 G.2.2.1 G.2.2.2 s d
     | _=>.no) s (d hg hn)
  | none=>.no
theorem vcm {F:FuncId}{fn:Func}{ps:List Par}{α:Type}{i:Dsh α}{x:α}{y:A->α}{rk:A->List Rk}(hf:P.funcs[F]? = some fn) (d:gin ps->lns (i.lv x)->D P (fun a=>R a/\rgd (rk a))) (h:(vcmT P fn ps i x y rk d).side true=(vcmT P fn ps i x y rk d).side false):Cm P F ps i x R y rk:=by
 have h:=Tr.of_side h;obtain⟨h1,h⟩:=h;refine⟨fun w W0 b pre post t cs fp us rs st hp=>?_⟩;split at h
 ·next c hb=>
  have hl:us.length+1<=fn.ntmps:=by rw[hp.len];exact Nat.le_of_ble_eq_true h1
  refine enter (Value.pointer (some ⟨b,pre.length,none⟩)::us) hf hb rfl hl ?_;have st1:St w W0 (Res.pc cs (i.lv x) fp::([Res.bx b (pre++cs++post) t]++[Res.all rs])):=by
   have:=St.all_in (a:=[Res.bx b (pre++cs++post) t,Res.pc cs (i.lv x) fp]) st;exact this.swap
  refine mA (s:=⟨[],[(aV4,.raw (Res.all rs))],[],1⟩) (rs:=[Res.bx b (pre++cs++post) t]) (h ((b,t),(pre,post,Res.all rs))) st1 fun scs s1 h2 e1 e2 e3 _ st2 hn=>?_
  have st3:St w W0 (S.rs ⟨[(0,one (.pt 0 b pre.length 0))],(0,.bx b pre scs post t)::s1.O,s1.B,s1.nx⟩):=by
   have:St w W0 (Res.bx b (pre++cs++post) t::s1.rs):=st2;rw[<- e1]at this;exact this
  have hret:∀{s:S}{d:D P (fun a=>R a/\rgd (rk a))}{f:Nat->Value}{W:World},(retM P i y rk fn.ntmps fn.results.toList b t pre post (Res.all rs) s d).holds->Den w s f W->∃v,(results fn (act fn.ntmps f).tmps).run P W = .ok v W/\∃a vs cs' fp' rr,R a/\Ending.returned v = .returned (uE vs)/\Rks vs (rk a) rr/\St w W (Res.bx b (pre++cs'++post) t::Res.pc cs' (i.lv (y a)) fp'::(rr++rs)):=by
   intro s d f W h den;refine fF h den fun s0_ d0_ h0_ den0_=>fF h0_ den0_ fun s1 d1 h1 den1=>?_
   split at h1
   ·next a ha=>
    split at h1
    ·next b' pre' cs' post' t' hj=>
     obtain⟨rfl,rfl,rfl,rfl,g2⟩:=h1;have st:St w W (Or s1.O++[]):=by simpa [Or,S.rs] using den1.st
     have g1:St w W (Or (bB s1.O 0)++[Res.bx b' (pre'++cs'.map Sc.val++post') t']):=by
      have:=st.take hj;rw[append_nil]at this;exact this.perm (perm_append_comm (l₁:=Or (bB s1.O 0)) (l₂:=[_]))
     refine dO g2 g1 fun O' fp' h3 st2=>(oA den1 h3 fun ts hts h4=>?_)
     have st3:St w W (Or O'++[Res.pc (cs'.map Sc.val) (i.lv (y a)) fp',Res.bx b' (pre'++cs'.map Sc.val++post') t']):=st2.perm (perm_middle (a:=Res.pc (cs'.map Sc.val) (i.lv (y a)) fp') (l₁:=Or O') (l₂:=[_]));obtain⟨rr,O2,hK,h5,st4⟩:=aS8 h4 ha.2 st3;split at hK
     ·next r' hr=>
      obtain⟨rfl,_⟩:=hK;have st5:=st4.take hr;have st6:St w W ((Res.bx b' (pre'++cs'.map Sc.val++post') t'::Res.pc (cs'.map Sc.val) (i.lv (y a)) fp'::rr)++[Res.all rs]):=by
       have st7:St w W (Res.all rs::(rr++[Res.pc (cs'.map Sc.val) (i.lv (y a)) fp',Res.bx b' (pre'++cs'.map Sc.val++post') t'])):=st5.sub (List.Sublist.cons_cons _ (sublist_append_right _ _));refine st7.perm ((perm_append_comm (l₂:=[Res.all rs])).trans (List.Perm.cons _ ((List.Perm.swap _ _ _).trans ?_)));exact perm_append_comm (l₁:=[Res.pc (cs'.map Sc.val) (i.lv (y a)) fp',Res.bx b' (pre'++cs'.map Sc.val++post') t']) (l₂:=rr)
      have st8:=St.all_out st6;exact⟨_,iL hts,a,_,cs'.map Sc.val,fp',rr,ha.1,rfl,h5,st8⟩
     exact hK.elim
    exact h1.elim
   exact h1.elim
  refine gY (t:=1) h2 hp (f:=fun t=>(Value.pointer (some ⟨b,pre.length,none⟩)::us).getD t undef) (fun k v hk=>by
   show (Value.pointer (some ⟨b,pre.length,none⟩)::us).getD (1+k) undef=v;rw[Nat.add_comm,getD_eq_getElem?_getD,getElem?_cons_succ,hk];rfl) (W:=W0) ⟨?_,st3,by rw[e3];intro e he;cases he⟩ fun s' h' den' hg _=>?_
  ·refine Fr.know (E:=[]) (fun t x hx=>by cases hx) 0 _ rfl
  refine tG c (h' hg hn) den' fun e s2 d2 f2 W2 h2 den2=>?_
  cases e with
  | ret=>exact⟨rfl,hret h2 den2⟩
  | normal=>exact⟨rfl,hret h2 den2⟩
  | exit i=>exact h2.elim
  | goto l=>exact h2.elim
  | panic ch=>exact h2.elim
  | outgrown=>exact h2.elim
 exact h.elim
def retV (P:Program) {A:Type}{R:A->Prop}(y:A->Cur) (rk:A->List Rk) (n:Nat) (rs:List ResultVar) (b:Nat) (t:TypeId) (hd:Hd) (r:Res) (s:S) (d:D P R):Tr:=
 prp d s fun s d=>prp (bU4 d) s fun s d=>match d with
  | .rt a _=>match lku s.O 0 with
   | some (.bx b' pre' cs post' t')=>.e0 b' b<|.e0 pre' []<|.e0 post' []<|.e0 t' t<|.e0 (cs.map Sc.val) [hd.val,I (y a).i,I (y a).h] <|
     aZ1 P n s rs fun ts=>rkT ts (rk a) (bB s.O 0) fun O2=>match lku O2 aV4 with
      | some (.raw r')=>.e0 r' r .ok
      | _=>.no
   | _=>.no
  | _=>.no
def vcvT (P:Program) (fn:Func) (i:Shape UInt8) (code:List UInt8) (ps:List Par) (c:Cur) {A:Type}{R:A->Prop}(y:A->Cur) (rk:A->List Rk) (d:gin ps->D P (fun a=>R a/\rgd (rk a))):Tr:=
 .e0 (Nat.ble (ps.length+1) fn.ntmps) true<|match fn.body with
  | some cd=>.fn fun G:(Nat×TypeId)×(Hd×List Nat×Res)=>
    wT ps 1 ⟨[(0,one (.pt 0 G.1.1 0 0))],[(0,.bx G.1.1 [] [.rf 1 G.2.1,.vl (I c.i),.vl (I c.h)] [] G.1.2),(aV4,.raw G.2.2.2)],[(1,true,.sl i G.2.1 code G.2.2.1)],2⟩ fun s=>.fp (gin ps) fun hg=>chk P fn.ntmps cd (fun e s d=>match e with
     | .ret=>retV P y rk fn.ntmps fn.results.toList G.1.1 G.1.2 G.2.1 G.2.2.2 s d
     | .normal=>retV P y rk fn.ntmps fn.results.toList G.1.1 G.1.2 G.2.1 G.2.2.2 s d
     | _=>.no) s (d hg)
  | none=>.no
theorem vcv {F:FuncId}{fn:Func}{i:Shape UInt8}{code:List UInt8}{ps:List Par}{c:Cur}{y:A->Cur}{rk:A->List Rk}(hf:P.funcs[F]? = some fn) (d:gin ps->D P (fun a=>R a/\rgd (rk a))) (h:(vcvT P fn i code ps c y rk d).side true=(vcvT P fn i code ps c y rk d).side false):Cv P F i code ps c R y rk:=by
 have h:=Tr.of_side h;obtain⟨h1,h⟩:=h;refine⟨fun w W0 b t hd fp us rs hsl st hp=>?_⟩;split at h
 ·next cd hb=>
  have hl:us.length+1<=fn.ntmps:=by rw[hp.len];exact Nat.le_of_ble_eq_true h1
  refine enter (pt_ b::us) hf hb rfl hl ?_;have st1:St w W0 ([Res.bx b [hd.val,I c.i,I c.h] t]++[Res.all rs]):=St.all_in (a:=[Res.bx b [hd.val,I c.i,I c.h] t]) st;have h2:=h ((b,t),(hd,fp,Res.all rs));have hret:∀{s:S}{d:D P (fun a=>R a/\rgd (rk a))}{f:Nat->Value}{W:World},(retV P y rk fn.ntmps fn.results.toList b t hd (Res.all rs) s d).holds->Den w s f W->∃v,(results fn (act fn.ntmps f).tmps).run P W = .ok v W/\∃a vs rr,R a/\Ending.returned v = .returned (uE vs)/\Rks vs (rk a) rr/\St w W (Res.bx b [hd.val,I (y a).i,I (y a).h] t::(rr++rs)):=by
   intro s d f W h den;refine fF h den fun s0_ d0_ h0_ den0_=>fF h0_ den0_ fun s1 d1 h1 den1=>?_
   split at h1
   ·next a ha=>
    split at h1
    ·next b' pre' cs' post' t' hj=>
     obtain⟨rfl,rfl,rfl,rfl,hcs,h3⟩:=h1;have st:St w W (Or s1.O++[]):=by simpa [Or,S.rs] using den1.st
     have st2:St w W (Or (bB s1.O 0)++[Res.bx b' [hd.val,I (y a).i,I (y a).h] t']):=by
      have:=st.take hj;rw[append_nil]at this;have:St w W (Res.bx b' ([]++cs'.map Sc.val++[]) t'::Or (bB s1.O 0)):=this;rw[append_nil,nil_append,hcs]at this;exact this.perm (perm_append_comm (l₁:=Or (bB s1.O 0)) (l₂:=[_]))
     refine oA den1 h3 fun ts hts h4=>?_
     obtain⟨rr,O2,hK,h5,st4⟩:=aS8 h4 ha.2 st2;split at hK
     ·next r' hr=>
      obtain⟨rfl,_⟩:=hK;have st5:=st4.take hr;have st7:St w W (Res.all rs::(rr++[Res.bx b' [hd.val,I (y a).i,I (y a).h] t'])):=st5.sub (List.Sublist.cons_cons _ (sublist_append_right _ _));have st6:St w W ((Res.bx b' [hd.val,I (y a).i,I (y a).h] t'::rr)++[Res.all rs]):=by
       refine st7.perm ((perm_append_comm (l₂:=[Res.all rs])).trans (List.Perm.cons _ ?_));exact perm_append_comm (l₁:=[Res.bx b' [hd.val,I (y a).i,I (y a).h] t']) (l₂:=rr)
      have st8:=St.all_out st6;exact⟨_,iL hts,a,_,rr,ha.1,rfl,h5,st8⟩
     exact hK.elim
    exact h1.elim
   exact h1.elim
  refine gY (t:=1) h2 hp (f:=fun t=>(pt_ b::us).getD t undef) (fun k v hk=>by
   show (pt_ b::us).getD (1+k) undef=v;rw[Nat.add_comm,getD_eq_getElem?_getD,getElem?_cons_succ,hk];rfl) (W:=W0) ⟨?_,?_,?_⟩ fun s' h' den' hg _=>?_
  ·refine Fr.know (E:=[]) (fun t x hx=>by cases hx) 0 _ rfl
  ·exact st1
  ·intro e he;rw[mem_singleton]at he;subst he;exact hsl
  refine tG cd (h' hg) den' fun e s2 d2 f2 W2 h2 den2=>?_
  cases e with
  | ret=>exact⟨rfl,hret h2 den2⟩
  | normal=>exact⟨rfl,hret h2 den2⟩
  | exit i=>exact h2.elim
  | goto l=>exact h2.elim
  | panic ch=>exact h2.elim
  | outgrown=>exact h2.elim
 exact h.elim
def bU9:List Pw->Prop
 | []=>True
 | .bw p::ps=>gin [p]/\bU9 ps
 | .ow i x::ps=>lns (i.lv x)/\bU9 ps
def entW:List Pw->Nat->S->(S->Tr)->Tr
 | [],_,s,K=>K s
 | .bw p::ps,t,s,K=>wT [p] t s fun s=>entW ps (t+1) s K
 | .ow i x::ps,t,s,K=>yI (i.lv x) s fun cs s=>entW ps (t+1) ⟨(t,.on (.ag cs))::s.E,s.O,s.B,s.nx⟩ K
theorem aU7 {G:Prop}{w W:World}{f:Nat->Value}:∀{ps:List Pw}{us:List Value}{t:Nat}{s:S}{r:List Res}{K:S->Tr},(entW ps t s K).holds->PwAt w us ps r->(∀k v,us[k]? = some v->f (t+k)=v)->Fr s.E f->Facts w W s.B->St w W (r++s.rs) ->
  (∀s',(K s').holds->Den w s' f W->bU9 ps->G)->G
 | [],[],t,s,r,K,h,hp,hu,fr,fa,st,k=>by
  have hp:r=[]:=hp;subst hp;exact k s h ⟨fr,st,fa⟩ trivial
 | [],_::_,t,s,r,K,h,hp,hu,fr,fa,st,k=>hp.elim
 | p::ps,[],t,s,r,K,h,hp,hu,fr,fa,st,k=>by cases p<;>exact hp.elim
 | p::ps,u::us,t,s,r,K,h,hp,hu,fr,fa,st,k=>by
  have h0:f t=u:=hu 0 u rfl;have hu':∀k v,us[k]? = some v->f (t+1+k)=v:=fun k v hk=>by
   rw[Nat.add_assoc,Nat.add_comm 1 k];exact hu (k+1) v (by simpa using hk)
  cases p with
  | bw p=>
   refine gY (us:=[u]) (K:=fun s=>entW ps (t+1) s K) h ⟨hp.1,trivial⟩ (fun k v hk=>?_) ⟨fr,st.sub (sublist_append_right _ _),fa⟩ fun s' h' den' hg eO=>?_
   ·cases k with
    | zero=>simp only[getElem?_cons_zero,Option.some.injEq]at hk;rw[<- hk];exact h0
    | succ k=>simp at hk
   ·exact aU7 (t:=t+1) h' hp.2 hu' den'.fr den'.fa (by rw[S.rs,eO];exact st) fun s2 h2 den2 hg2=>k s2 h2 den2 ⟨hg,hg2⟩
  | ow i x=>
   obtain⟨cs,fp,r2,rfl,rfl,hp⟩:=hp;refine mA (rs:=r2) h st fun scs s' h' e1 e2 e3 _ st' hl=>(aU7 (t:=t+1) (s:=⟨(t,.on (.ag scs))::s'.E,s'.O,s'.B,s'.nx⟩) h' hp hu' ?_ (by rw[e3];exact fa) st' fun s2 h2 den2 hg2=>k s2 h2 den2 ⟨hl,hg2⟩)
   refine Fr.know (by rw[e2];exact fr) t _ (h0.trans ?_);show Value.agg cs.toArray = .agg (scs.map Sc.val).toArray;rw[e1]
def retO (P:Program) {A:Type}{R:A->Prop}(rk:A->List Rk) (n:Nat) (rs:List ResultVar) (r:Res) (s:S) (d:D P R):Tr:=
 prp d s fun s d=>prp (bU4 d) s fun s d=>match d with
  | .rt a _=>aZ1 P n s rs fun ts=>rkT ts (rk a) s.O fun O2=>match lku O2 aV4 with
   | some (.raw r')=>.e0 r' r .ok
   | _=>.no
  | _=>.no
theorem zH {w W:World}{rk:A->List Rk}{fn:Func}{rs:List Res}{s:S}{d:D P (fun a=>R a/\rgd (rk a))}{f:Nat->Value}(h:(retO P rk fn.ntmps fn.results.toList (Res.all rs) s d).holds) (den:Den w s f W) :
  ∃v,(results fn (act fn.ntmps f).tmps).run P W = .ok v W/\∃a vs rr,R a/\Ending.returned v = .returned (uE vs)/\Rks vs (rk a) rr/\St w W (rr++rs):=by
 refine fF h den fun s0_ d0_ h0_ den0_=>fF h0_ den0_ fun s1 d1 h1 den1=>?_
 split at h1
 ·next a ha=>
  refine oA den1 h1 fun ts hts h4=>?_
  have st3:St w W (Or s1.O++[]):=by simpa [Or,S.rs] using den1.st
  obtain⟨rr,O2,hK,h5,st4⟩:=aS8 h4 ha.2 st3;split at hK
  ·next r' hr=>
   obtain⟨rfl,_⟩:=hK;have st5:=st4.take hr;have st6:St w W (rr++[Res.all rs]):=by
    have st7:St w W (Res.all rs::(rr++[])):=st5.sub (List.Sublist.cons_cons _ (sublist_append_right _ _));rw[append_nil]at st7;exact st7.perm (perm_append_comm (l₁:=rr) (l₂:=[Res.all rs]))
   exact⟨_,iL hts,a,_,rr,ha.1,rfl,h5,St.all_out st6⟩
  exact hK.elim
 exact h1.elim
def vcoT (P:Program) (fn:Func) (ow:List Lr) (ag:Bool) (ps:List Par) {A:Type}{R:A->Prop}(rk:A->List Rk) (d:gin ps->lrs ow->D P (fun a=>R a/\rgd (rk a))):Tr:=
 .e0 (Nat.ble (ps.length+1) fn.ntmps) true<|match fn.body with
  | some c=>.fn fun r:Res=>crb ow ⟨[],[(aV4,.raw r)],[],0⟩ fun scs s=>
    wT ps 1 ⟨[(0,cond ag (.on (.ag scs)) (one (scs.headD (.vl undef))))],s.O,s.B,s.nx⟩ fun s=>.fp (gin ps) fun hg=>.fp (lrs ow) fun hn=>chk P fn.ntmps c (fun e s d=>match e with
     | .ret=>retO P rk fn.ntmps fn.results.toList r s d
     | .normal=>retO P rk fn.ntmps fn.results.toList r s d
     | _=>.no) s (d hg hn)
  | none=>.no
theorem vco {F:FuncId}{fn:Func}{ow:List Lr}{ag:Bool}{ps:List Par}{rk:A->List Rk}(hf:P.funcs[F]? = some fn) (d:gin ps->lrs ow->D P (fun a=>R a/\rgd (rk a))) (h:(vcoT P fn ow ag ps rk d).side true=(vcoT P fn ow ag ps rk d).side false):Co P F ow ag ps R rk:=by
 have h:=Tr.of_side h;obtain⟨h1,h⟩:=h;refine⟨fun w W0 cs r us rs hlv st hp=>?_⟩;split at h
 ·next c hb=>
  have hl:us.length+1<=fn.ntmps:=by rw[hp.len];exact Nat.le_of_ble_eq_true h1
  refine enter (cond ag (.agg cs.toArray) (cs.headD undef)::us) hf hb rfl hl ?_;have st1:St w W0 (r++([]++S.rs ⟨[],[(aV4,.raw (Res.all rs))],[],0⟩)):=St.all_in (a:=r) st;refine aH3 (rs:=[]) (h (Res.all rs)) hlv st1 fun scs s1 h2 e1 e2 e3 _ st2 hn=>?_
  refine gY (t:=1) h2 hp (f:=fun t=>(cond ag (.agg cs.toArray) (cs.headD undef)::us).getD t undef) (fun k v hk=>by
   show (cond ag (.agg cs.toArray) (cs.headD undef)::us).getD (1+k) undef=v;rw[Nat.add_comm,getD_eq_getElem?_getD,getElem?_cons_succ,hk];rfl) (W:=W0) ⟨?_,st2,by rw[e3];intro e he;cases he⟩ fun s' h' den' hg _=>?_
  ·refine Fr.know (E:=[]) (fun t x hx=>by cases hx) 0 _ ?_;show cond ag (.agg cs.toArray) (cs.headD undef)=_;cases ag with
   | true=>rw[<- e1];rfl
   | false=>
    rw[<- e1];cases scs with
    | nil=>rfl
    | cons a l=>rfl
  refine tG c (h' hg hn) den' fun e s2 d2 f2 W2 h2 den2=>?_
  cases e with
  | ret=>exact⟨rfl,zH h2 den2⟩
  | normal=>exact⟨rfl,zH h2 den2⟩
  | exit i=>exact h2.elim
  | goto l=>exact h2.elim
  | panic ch=>exact h2.elim
  | outgrown=>exact h2.elim
 exact h.elim
def vcwT (P:Program) (fn:Func) (ps:List Pw) {A:Type}{R:A->Prop}(rk:A->List Rk) (d:bU9 ps->D P (fun a=>R a/\rgd (rk a))):Tr:=
 .e0 (Nat.ble ps.length fn.ntmps) true<|match fn.body with
  | some c=>.fn fun r:Res=>entW ps 0 ⟨[],[(aV4,.raw r)],[],0⟩ fun s=>.fp (bU9 ps) fun hg=>chk P fn.ntmps c (fun e s d=>match e with
    | .ret=>retO P rk fn.ntmps fn.results.toList r s d
    | .normal=>retO P rk fn.ntmps fn.results.toList r s d
    | _=>.no) s (d hg)
  | none=>.no
theorem PwAt.len {w:World}:∀{us:List Value}{ps:List Pw}{r:List Res},PwAt w us ps r->us.length=ps.length
 | [],[],_,_=>rfl
 | [],p::_,_,h=>by cases p<;>exact h.elim
 | _::_,[],_,h=>h.elim
 | u::us,.bw p::ps,_,h=>congrArg (· + 1) (PwAt.len h.2)
 | u::us,.ow i x::ps,_,h=>by
  obtain⟨_,_,r2,_,_,h⟩:=h;exact congrArg (· + 1) (PwAt.len h)
theorem vcw {F:FuncId}{fn:Func}{ps:List Pw}{rk:A->List Rk}(hf:P.funcs[F]? = some fn) (d:bU9 ps->D P (fun a=>R a/\rgd (rk a))) (h:(vcwT P fn ps rk d).side true=(vcwT P fn ps rk d).side false):Cw P F ps R rk:=by
 have h:=Tr.of_side h;obtain⟨h1,h⟩:=h;refine⟨fun w W0 us r rs hp st=>?_⟩;split at h
 ·next c hb=>
  have hl:us.length<=fn.ntmps:=by rw[hp.len];exact Nat.le_of_ble_eq_true h1
  refine enter us hf hb rfl hl ?_;refine aU7 (t:=0) (r:=r) (W:=W0) (h (Res.all rs)) hp (f:=fun t=>us.getD t undef) (fun k v hk=>by
   show us.getD (0+k) undef=v;rw[Nat.zero_add,getD_eq_getElem?_getD,hk];rfl) (fun t x hx=>(by cases hx)) (fun e he=>by cases he) (St.all_in (a:=r) st) fun s' h' den' hg=>?_
  refine tG c (h' hg) den' fun e s2 d2 f2 W2 h2 den2=>?_
  cases e with
  | ret=>exact⟨rfl,zH h2 den2⟩
  | normal=>exact⟨rfl,zH h2 den2⟩
  | exit i=>exact h2.elim
  | goto l=>exact h2.elim
  | panic ch=>exact h2.elim
  | outgrown=>exact h2.elim
 exact h.elim
def retB (P:Program) {A:Type}{R:A->Prop}{α:Type}(i:Dsh α) (x:α) (n:Nat) (rs:List ResultVar) (s:S) (d:D P R):Tr:=
 prp d s fun s d=>prp (bU4 d) s fun s d=>match d with
  | .rt _ _=>aZ1 P n s rs fun ts=>match ts with
   | [.ag cs]=>xB ⟨[],[],lasting s.B,0⟩ cs (i.lv x) .ok
   | _=>.no
  | _=>.no
def vcbT (P:Program) (fn:Func) (ps:List Par) {α:Type}(i:Dsh α) (x:α) (d:gin ps->D P (fun _:Unit=>i.good x)):Tr:=
 .e0 (Nat.ble ps.length fn.ntmps) true<|match fn.body with
  | some c=>wT ps 0 ⟨[],[],[],0⟩ fun s=>.fp (gin ps) fun hg=>chk P fn.ntmps c (fun e s d=>match e with
   | .ret=>retB P i x fn.ntmps fn.results.toList s d
   | .normal=>retB P i x fn.ntmps fn.results.toList s d
   | _=>.no) s (d hg)
  | none=>.no
theorem vcb {F:FuncId}{fn:Func}{ps:List Par}{α:Type}{i:Dsh α}{x:α}(hf:P.funcs[F]? = some fn) (d:gin ps->D P (fun _:Unit=>i.good x)) (h:(vcbT P fn ps i x d).side true=(vcbT P fn ps i x d).side false):Cb P F ps i x:=by
 have h:=Tr.of_side h;obtain⟨h1,h⟩:=h;refine⟨fun w us hp=>?_⟩;split at h
 ·next c hb=>
  have hl:us.length<=fn.ntmps:=by rw[hp.len];exact Nat.le_of_ble_eq_true h1
  refine enter us hf hb rfl hl ?_;refine bQ9 (t:=0) h hp (f:=fun t=>us.getD t undef) (fun k v hk=>by
   show us.getD (0+k) undef=v;rw[Nat.zero_add,getD_eq_getElem?_getD,hk];rfl) ⟨fun t x hx=>(by cases hx),St.start w,fun e he=>by cases he⟩ fun s' h' den' hg=>?_
  have hret:∀{s:S}{d:D P (fun _:Unit=>i.good x)}{f:Nat->Value}{W:World},(retB P i x fn.ntmps fn.results.toList s d).holds->Den w s f W->∃v,(results fn (act fn.ntmps f).tmps).run P W = .ok v W/\∃cs fp,i.C w cs x fp/\Ending.returned v = .returned (.agg cs.toArray)/\St w W []:=by
   intro s d f W h den;refine fF h den fun s0_ d0_ h0_ den0_=>fF h0_ den0_ fun s1 d1 h1 den1=>?_
   split at h1
   ·next a ha=>
    refine oA den1 h1 fun ts hts h2=>?_
    split at h2
    ·next cs=>
     obtain⟨⟨fp,hc⟩,_⟩:=nU (s:=⟨[],[],lasting s1.B,0⟩) (w0:=w) (W:=w) (St.start w) den1.fa.base h2;exact⟨_,iL hts,cs.map Sc.val,fp,i.inn ha hc,rfl,den1.st.bare⟩
    exact h2.elim
   exact h1.elim
  refine tG c (h' hg) den' fun e s2 d2 f2 W2 h2 den2=>?_
  cases e with
  | ret=>exact⟨rfl,hret h2 den2⟩
  | normal=>exact⟨rfl,hret h2 den2⟩
  | exit i=>exact h2.elim
  | goto l=>exact h2.elim
  | panic ch=>exact h2.elim
  | outgrown=>exact h2.elim
 exact h.elim
end
end Go.Proofs.YtpdgdnpajmcaeaaGreat
