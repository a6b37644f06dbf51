/-
  Calls that are handed a pointer to what is one's own; elements that are lent. Theory alone.
  Whole regions, whole bodies. Theory alone.
  A region that draws its order, some operations of which take what is the call's own, and make it: each is shown once, whatever else has come.
  A region that draws its order, read: what only reads may be done whenever; what makes memory, calls or writes has all else ahead of it or behind it. Theory alone.
  A region that draws its order, all orders of what writes being read one by one: for regions in which nothing bars the rest. Theory alone.
  Whole bodies; what a function is handed, and what it hands back. Theory alone.
  A function's contract, of what is told of its walk. Theory alone.
  How data stand, cell by cell.
  What is told of a walk, in short. Theory alone.
  Bytes of strings, parts of strings, bytes compared, as hooks. Theory alone.
  What the walks of the helpers share.
  The laws' copies, told to the reader.
  The laws' measures, told to the reader.
-/
import Derived.Test.YtanpcpoogkdlaaaGreatQ01
import Derived.Test.YtanpcpoogkdlaaaGreatQ02
universe u
namespace Go.Proofs.YtanpcpoogkdlaaaGreat
set_option linter.unusedSimpArgs false
set_option linter.unusedVariables false
set_option maxHeartbeats 1000000
set_option maxHeartbeats 2000000
open Go.RowKit Go.Proofs.Tryz List
section
variable {P:Program} {A:Type} {R:A→Prop}
theorem split3 (cs:List Sc) (o m:Nat):cs=cs.take o++((cs.drop o).take m++cs.drop (o+m)):=by
 rw[← drop_drop,take_append_drop,take_append_drop]
def cmT (s:S) (lk:Operand→Option SV) (F:FuncId) (xs:List Operand) (d:D P R) (K:SV→S→D P R→Tr):Tr:=
 nrm d fun d=>match d with
  | .cm (ps:=ps) (i:=i) (x:=x) (R':=R') (y:=y) (rk:=rk) F' (fn:=fn) _ _ _ k => .e0 F F' <| .e0 ((fn.name == "runtime.NumGoroutine") || fn.body.isNone) false<|opt (lkv lk xs) fun us=>match us with
   | .on (.ce (.pt j b q o))::us=>match lku s.O j with
    | some (.bx b' pre cs post t) => .e0 b b' <| .e0 q pre.length <| .e0 (Nat.ble (o+(i.lv x).length) cs.length) true <|
      iJ (bZ s.O j) ((cs.drop o).take (i.lv x).length) (i.lv x) fun O'=>jZ ⟨[],[],lasting s.B,0⟩ us ps <|
      .fn fun a => .fp (R' a) fun ha=>wH (i.lv (y a)) ⟨s.E,O',lasting s.B,s.nx⟩ fun scs s2 => .fp (lns (i.lv (y a))) fun hn=>rkb (rk a) ⟨s2.E,(j,.bx b' pre (cs.take o++(scs++cs.drop (o+(i.lv x).length))) post t)::s2.O,s2.B,s2.nx⟩ fun ts s3 => .fp (gds (rk a)) fun hg=>K (aD4 ts) s3 (k a ha hn hg)
    | _ => .no
   | _ => .no
  | _ => .no
theorem Facts.base {w0 W:World}:∀ {B:List (Nat×Bool×Bo)},Facts w0 W B→Facts w0 w0 (Go.Proofs.YtanpcpoogkdlaaaGreat.lasting B):=fun h=>h.lasting
theorem cmT_ok {w0 W:World} {s:S} {lk:Operand→Option SV} {F:FuncId} {xs:List Operand} {ats:Array TypeId} {dd:D P R} {K:SV→S→D P R→Tr} {n:Nat} {f:Nat→Value} {Q:Exit→Act→World→Prop} {KK:Value→World→Prop} {d:Option Tmp} {ty:TypeId} {pos:String} {af:Array Go.Edge} {g:Option (Nat×Bool)}
  (hl:∀ x u,lk x=some u→ev n f x=u.val) (h:(cmT s lk F xs dd K).holds) (st:St w0 W s.rs) (fa:Facts w0 W s.B) (k:∀ v s' d' W',(K v s' d').holds→s'.E=s.E→St w0 W' s'.rs→Facts w0 W' s'.B→KK v.val W'):Stp P n ⟨d,.call { callee := .value (.func F),args:=xs.toArray,argTypes:=ats },ty,pos,af,g⟩ f W Q KK:=by
 unfold cmT at h
 refine cO h fun d' h1 => ?_
 clear h
 split at h1
 ·next ps α i x A' R' y rk F' fn hf hct hg kk=>
  obtain ⟨rfl,ho,h1⟩:=h1
  refine aH h1 fun us hus h2 => ?_
  clear h1
  split at h2
  ·next j b q o us'=>
   split at h2
   ·next b' pre cs post t hj=>
    obtain ⟨rfl,rfl,hle,h3⟩:=h2
    have st1:St w0 W (Or s.O++[]):=by simpa [Or,S.rs] using st
    have st2:=st1.take hj
    have st3:St w0 W (Or (bZ s.O j)++[Res.bx b (pre++cs.map Sc.val++post) t]):=by
     have:St w0 W (Res.bx b (pre++cs.map Sc.val++post) t::(Or (bZ s.O j)++[])):=st2
     rw[append_nil] at this
     exact this.perm perm_append_comm
    refine dU h3 st3 fun O' fp h4 st4 => ?_
    obtain ⟨hp,h5⟩:=fW (s:=⟨[],[],lasting s.B,0⟩) (w0:=w0) (W:=w0) (St.start w0) fa.base h4 hg
    have hlen:((cs.drop o).take (i.lv x).length).length=(i.lv x).length:=by
     have:=Nat.le_of_ble_eq_true hle
     rw[length_take,length_drop];omega
    have hto:(cs.take o).length=o:=by
     have:=Nat.le_of_ble_eq_true hle
     rw[length_take];omega
    have e1:pre++cs.map Sc.val++post=(pre++(cs.take o).map Sc.val)++((cs.drop o).take (i.lv x).length).map Sc.val++((cs.drop (o+(i.lv x).length)).map Sc.val++post):=by
     conv=>lhs;rw[split3 cs o (i.lv x).length]
     simp[map_append,append_assoc]
    have e2:(pre++(cs.take o).map Sc.val).length=pre.length+o:=by rw[length_append,length_map,hto]
    have st5:St w0 W (Res.bx b ((pre++(cs.take o).map Sc.val)++((cs.drop o).take (i.lv x).length).map Sc.val++((cs.drop (o+(i.lv x).length)).map Sc.val++post)) t::Res.pc (((cs.drop o).take (i.lv x).length).map Sc.val) (i.lv x) fp::Or O'):=by
     rw[← e1]
     refine st4.perm ((perm_append_comm (l₁:=[Res.bx b (pre++cs.map Sc.val++post) t]) (l₂:=Res.pc (((cs.drop o).take (i.lv x).length).map Sc.val) (i.lv x) fp::Or O')).trans ?_)
     exact List.Perm.refl _
    have hc:=hct.run w0 W b _ _ t _ fp (us'.map SV.val) _ st5 hp
    rw[e2] at hc
    refine gM hf ho (iS hl hus) (hc.mono ?_)
    rintro e W' ⟨a,vs,cs',fp',rr,ha,rfl,hr,st6⟩
    have h6:=h5 a ha
    have st7:St w0 W' (Res.pc cs' (i.lv (y a)) fp'::((Res.bx b ((pre++(cs.take o).map Sc.val)++cs'++((cs.drop (o+(i.lv x).length)).map Sc.val++post)) t::rr)++Or O')):=st6.swap
    refine lO (s:=⟨s.E,O',lasting s.B,s.nx⟩) h6 st7 fun scs s2 h7 e3 e4 e5 _ st8 hn => ?_
    have h8:=h7 hn
    have e9:(pre++(cs.take o).map Sc.val)++cs'++((cs.drop (o+(i.lv x).length)).map Sc.val++post)=pre++(cs.take o++(scs++cs.drop (o+(i.lv x).length))).map Sc.val++post:=by
     rw[← e3];simp[map_append,append_assoc]
    have st9:St w0 W' (rr++S.rs ⟨s2.E,(j,.bx b pre (cs.take o++(scs++cs.drop (o+(i.lv x).length))) post t)::s2.O,s2.B,s2.nx⟩):=by
     rw[e9] at st8
     exact st8.perm (perm_middle (a:=(Ob.bx b pre (cs.take o++(scs++cs.drop (o+(i.lv x).length))) post t).res) (l₁:=rr) (l₂:=s2.rs))
    refine kH h8 hr st9 fun ts s3 h9 e6 e7 e8 _ st10 hgd => ?_
    have fa3:Facts w0 W' s3.B:=by
     rw[e8]
     show Facts w0 W' s2.B
     rw[e5]
     exact fa.lasting
    exact ⟨_,rfl,by rw[← e6,← jU];exact k _ s3 _ W' (h9 hgd) (e7.trans e4) st10 fa3⟩
   exact h2.elim
  exact h2.elim
 exact h1.elim
def ctk:List (Nat×Ob)→List Sc→List Lr→(List (Nat×Ob)→Tr)→Tr
 | O,[],[],K=>K O
 | O,c::cs,.v x::ls,K => .e0 c.val x (ctk O cs ls K)
 | O,c::cs,.o i xs::ls,K=>iJ O [c] [.s _ i xs] fun O'=>ctk O' cs ls K
 | O,c::cs,.r i e xs::ls,K=>match c with
  | .rf j h=>match lku O j with
   | some (.row i' e' h' xs' _) => .e0 e' e <| .e0 h h' <| .e1 (⟨i',xs'⟩:Dat) ⟨i,xs⟩ (ctk (bZ O j) cs ls K)
   | _ => .no
  | _ => .no
 | _,_,_,_ => .no
theorem uU {w0 W:World}:∀ {cs:List Sc} {ls:List Lr} {O:List (Nat×Ob)} {K:List (Nat×Ob)→Tr} {rs:List Res},(ctk O cs ls K).holds→St w0 W (Or O++rs)→∃ r O',(K O').holds∧LvR (cs.map Sc.val) ls r∧St w0 W (Or O'++(r++rs))
 | [],[],O,K,rs,h,st=>⟨[],O,h,rfl,st⟩
 | [],.v _::_,O,K,rs,h,st=>h.elim
 | [],.o _ _::_,O,K,rs,h,st=>h.elim
 | [],.r _ _ _::_,O,K,rs,h,st=>h.elim
 | _::_,[],O,K,rs,h,st=>h.elim
 | c::cs,.v x::ls,O,K,rs,h,st=>by
  obtain ⟨h1,h2⟩:=h
  obtain ⟨r,O',hK,h3,h4⟩:=uU h2 st
  exact ⟨r,O',hK,⟨h1,h3⟩,h4⟩
 | c::cs,.o i xs::ls,O,K,rs,h,st=>by
  refine dU h st fun O' fp h' st' => ?_
  obtain ⟨f1,f2,st2⟩:=St.s_pc st'
  obtain ⟨r,O2,hK,h3,h4⟩:=uU h' (rs:=Res.own c.val xs f1::rs) (st2.d0.perm perm_middle)
  refine ⟨Res.own c.val xs f1::r,O2,hK,⟨f1,r,rfl,h3⟩,?_⟩
  exact h4.perm ((perm_middle (a:=Res.own c.val xs f1) (l₁:=r) (l₂:=rs)).symm.append_left (Or O2))
 | c::cs,.r i e xs::ls,O,K,rs,h,st=>by
  unfold ctk at h
  split at h
  ·next j hd=>
   split at h
   ·next i' e' h' xs' fe hj=>
    obtain ⟨rfl,rfl,h4,h5⟩:=h
    simp only[Dat.mk.injEq] at h4
    obtain ⟨rfl,h6,h7⟩:=h4
    obtain ⟨rfl,rfl⟩:=And.intro (eq_of_heq h6) (eq_of_heq h7)
    obtain ⟨r,O2,hK,h3,h8⟩:=uU h5 (rs:=Res.row e' hd.val xs' fe::rs) ((st.take hj).perm perm_middle)
    refine ⟨Res.row e' hd.val xs' fe::r,O2,hK,⟨fe,r,rfl,h3⟩,?_⟩
    exact h8.perm ((perm_middle (a:=Res.row e' hd.val xs' fe) (l₁:=r) (l₂:=rs)).symm.append_left (Or O2))
   ·exact h.elim
  ·exact h.elim
def coT (s:S) (lk:Operand→Option SV) (F:FuncId) (xs:List Operand) (d:D P R) (K:SV→S→D P R→Tr):Tr:=
 nrm d fun d=>match d with
  | .co (ps:=ps) (ow:=ow) (ag:=ag) (R':=R') (rk:=rk) F' (fn:=fn) _ _ _ k => .e0 F F' <| .e0 ((fn.name == "runtime.NumGoroutine") || fn.body.isNone) false<|opt (lkv lk xs) fun us=>match ag,us with
   | true,.on (.ag l)::us=>ctk s.O l ow fun O'=>jZ ⟨[],[],lasting s.B,0⟩ us ps <| .fn fun a => .fp (R' a) fun ha=>rkb (rk a) ⟨s.E,O',lasting s.B,s.nx⟩ fun ts s3 => .fp (gds (rk a)) fun hg=>K (aD4 ts) s3 (k a ha hg)
   | false,.on (.ce c)::us=>ctk s.O [c] ow fun O'=>jZ ⟨[],[],lasting s.B,0⟩ us ps <| .fn fun a => .fp (R' a) fun ha=>rkb (rk a) ⟨s.E,O',lasting s.B,s.nx⟩ fun ts s3 => .fp (gds (rk a)) fun hg=>K (aD4 ts) s3 (k a ha hg)
   | _,_ => .no
  | _ => .no
theorem coT_ok {w0 W:World} {s:S} {lk:Operand→Option SV} {F:FuncId} {xs:List Operand} {ats:Array TypeId} {dd:D P R} {K:SV→S→D P R→Tr} {n:Nat} {f:Nat→Value} {Q:Exit→Act→World→Prop} {KK:Value→World→Prop} {d:Option Tmp} {ty:TypeId} {pos:String} {af:Array Go.Edge} {g:Option (Nat×Bool)}
  (hl:∀ x u,lk x=some u→ev n f x=u.val) (h:(coT s lk F xs dd K).holds) (st:St w0 W s.rs) (fa:Facts w0 W s.B) (k:∀ v s' d' W',(K v s' d').holds→s'.E=s.E→St w0 W' s'.rs→Facts w0 W' s'.B→KK v.val W'):Stp P n ⟨d,.call { callee := .value (.func F),args:=xs.toArray,argTypes:=ats },ty,pos,af,g⟩ f W Q KK:=by
 unfold coT at h
 refine cO h fun d' h1 => ?_
 clear h
 split at h1
 ·next ps ow ag A' R' rk F' fn hf hct hg kk=>
  obtain ⟨rfl,ho,h1⟩:=h1
  refine aH h1 fun us hus h2 => ?_
  clear h1
  have key:∀ {l:List Sc} {us':List SV} (hv:us.map SV.val=cond ag (.agg (l.map Sc.val).toArray) ((l.map Sc.val).headD undef)::us'.map SV.val) (h3:(ctk s.O l ow fun O'=>jZ ⟨[],[],lasting s.B,0⟩ us' ps <| .fn fun a => .fp (R' a) fun ha=>rkb (rk a) ⟨s.E,O',lasting s.B,s.nx⟩ fun ts s3 => .fp (gds (rk a)) fun hg=>K (aD4 ts) s3 (kk a ha hg)).holds),Stp P n ⟨d,.call { callee := .value (.func F),args:=xs.toArray,argTypes:=ats },ty,pos,af,g⟩ f W Q KK:=by
   intro l us' hv h3
   have st1:St w0 W (Or s.O++[]):=by simpa [Or,S.rs] using st
   obtain ⟨r,O',h4,hlv,st2⟩:=uU h3 st1
   obtain ⟨hp,h5⟩:=fW (s:=⟨[],[],lasting s.B,0⟩) (w0:=w0) (W:=w0) (St.start w0) fa.base h4 hg
   have st3:St w0 W (r++Or O'):=by
    rw[append_nil] at st2
    exact st2.perm perm_append_comm
   have hc:=hct.run w0 W _ r (us'.map SV.val) (Or O') hlv st3 hp
   rw[← hv] at hc
   refine gM hf ho (iS hl hus) (hc.mono ?_)
   rintro e W' ⟨a,vs,rr,ha,rfl,hr,st4⟩
   refine kH (s:=⟨s.E,O',lasting s.B,s.nx⟩) (h5 a ha) hr st4 fun ts s3 h9 e6 e7 e8 _ st10 hgd => ?_
   have fa3:Facts w0 W' s3.B:=by
    rw[e8]
    exact fa.lasting
   exact ⟨_,rfl,by rw[← e6,← jU];exact k _ s3 _ W' (h9 hgd) e7 st10 fa3⟩
  split at h2
  ·exact key rfl h2
  ·exact key rfl h2
  exact h2.elim
 exact h1.elim
def pwT (B:List (Nat×Bool×Bo)):List (Nat×Ob)→List SV→List Pw→(List (Nat×Ob)→Tr)→Tr
 | O,[],[],K=>K O
 | O,u::us,.bw p::ps,K=>jZ ⟨[],[],lasting B,0⟩ [u] [p] (pwT B O us ps K)
 | O,.on (.ag l)::us,.ow i x::ps,K=>iJ O l (i.lv x) fun O'=>pwT B O' us ps K
 | _,_,_,_ => .no
theorem pwT_ok {w0 W:World} {B:List (Nat×Bool×Bo)} (fa:Facts w0 W B):∀ {us:List SV} {ps:List Pw} {O:List (Nat×Ob)} {K:List (Nat×Ob)→Tr} {rs:List Res},(pwT B O us ps K).holds→gpw ps→St w0 W (Or O++rs)→∃ r O',(K O').holds∧PwAt w0 (us.map SV.val) ps r∧St w0 W (Or O'++(r++rs)):=by
 intro us
 induction us with
 | nil=>
  intro ps O K rs h hg st
  cases ps with
  | nil=>exact ⟨[],O,h,rfl,st⟩
  | cons p ps=>cases p <;> exact h.elim
 | cons u us ih=>
  intro ps O K rs h hg st
  cases ps with
  | nil=>exact h.elim
  | cons p ps=>
   cases p with
   | bw p=>
    have h:(jZ ⟨[],[],lasting B,0⟩ [u] [p] (pwT B O us ps K)).holds:=h
    obtain ⟨hp,h2⟩:=fW (s:=⟨[],[],lasting B,0⟩) (w0:=w0) (W:=w0) (St.start w0) fa.base h hg.1
    obtain ⟨r,O',hK,h3,h4⟩:=ih h2 hg.2 st
    exact ⟨r,O',hK,⟨hp.1,h3⟩,h4⟩
   | @ow α i x=>
    match u,h with
    | .on (.ag l),h=>
     have h:(iJ O l (i.lv x) fun O'=>pwT B O' us ps K).holds:=h
     refine dU h st fun O' fp h' st' => ?_
     obtain ⟨r,O2,hK,h3,h4⟩:=ih (rs:=Res.pc (l.map Sc.val) (i.lv x) fp::rs) h' hg (st'.perm perm_middle)
     refine ⟨Res.pc (l.map Sc.val) (i.lv x) fp::r,O2,hK,⟨_,fp,r,rfl,rfl,h3⟩,?_⟩
     exact h4.perm (((perm_middle (a:=Res.pc (l.map Sc.val) (i.lv x) fp) (l₁:=r) (l₂:=rs)).symm).append_left (Or O2))
def cwT (s:S) (lk:Operand→Option SV) (F:FuncId) (xs:List Operand) (d:D P R) (K:SV→S→D P R→Tr):Tr:=
 nrm d fun d=>match d with
  | .cw (ps:=ps) (R':=R') (rk:=rk) F' (fn:=fn) _ _ _ k => .e0 F F' <| .e0 ((fn.name == "runtime.NumGoroutine") || fn.body.isNone) false<|opt (lkv lk xs) fun us=>
    pwT s.B s.O us ps fun O' => .fn fun a => .fp (R' a) fun ha=>rkb (rk a) ⟨s.E,O',lasting s.B,s.nx⟩ fun ts s3 => .fp (gds (rk a)) fun hg=>K (aD4 ts) s3 (k a ha hg)
  | _ => .no
theorem cwT_ok {w0 W:World} {s:S} {lk:Operand→Option SV} {F:FuncId} {xs:List Operand} {ats:Array TypeId} {dd:D P R} {K:SV→S→D P R→Tr} {n:Nat} {f:Nat→Value} {Q:Exit→Act→World→Prop} {KK:Value→World→Prop} {d:Option Tmp} {ty:TypeId} {pos:String} {af:Array Go.Edge} {g:Option (Nat×Bool)}
  (hl:∀ x u,lk x=some u→ev n f x=u.val) (h:(cwT s lk F xs dd K).holds) (st:St w0 W s.rs) (fa:Facts w0 W s.B) (k:∀ v s' d' W',(K v s' d').holds→s'.E=s.E→St w0 W' s'.rs→Facts w0 W' s'.B→KK v.val W'):Stp P n ⟨d,.call { callee := .value (.func F),args:=xs.toArray,argTypes:=ats },ty,pos,af,g⟩ f W Q KK:=by
 unfold cwT at h
 refine cO h fun d' h1 => ?_
 clear h
 split at h1
 ·next ps A' R' rk F' fn hf hct hg kk=>
  obtain ⟨rfl,ho,h1⟩:=h1
  refine aH h1 fun us hus h2 => ?_
  clear h1
  have st1:St w0 W (Or s.O++[]):=by simpa [Or,S.rs] using st
  obtain ⟨r,O',h4,hlv,st2⟩:=pwT_ok fa h2 hg st1
  have st3:St w0 W (r++Or O'):=by
   rw[append_nil] at st2
   exact st2.perm perm_append_comm
  refine gM hf ho (iS hl hus) ((hct.run w0 W (us.map SV.val) r (Or O') hlv st3).mono ?_)
  rintro e W' ⟨a,vs,rr,ha,rfl,hr,st4⟩
  refine kH (s:=⟨s.E,O',lasting s.B,s.nx⟩) (h4 a ha) hr st4 fun ts s3 h9 e6 e7 e8 _ st10 hgd => ?_
  have fa3:Facts w0 W' s3.B:=by
   rw[e8]
   exact fa.lasting
  exact ⟨_,rfl,by rw[← e6,← jU];exact k _ s3 _ W' (h9 hgd) e7 st10 fa3⟩
 exact h1.elim
/-! ### Elements that are lent -/
theorem St.lendG {α:Type} (i:Dsh α) (hp:Nat.ble 1 i.size=true) {w0 W:World} {rs:List Res} {v:Value} {xs:List α} {fp:List Nat} (h:St w0 W (@Res.own (List α) (@instShapeList α i.toShape) _ v xs fp::rs)) {n:Nat} {x:α} (hi:xs[n]? = some x) :
  ∃ b e pre cs post fi fr,i.good x∧St w0 W (Res.pc cs (i.lv x) fi::(Res.bx b (pre++cs++post) e :: @Res.rest α i.toShape v b pre post xs n fr::rs)):=by
 obtain ⟨b,e,pre,cs,post,fi,fr,_,hc,st⟩:=St.lendx (Nat.le_of_ble_eq_true hp) h hi
 obtain ⟨st2,hg⟩:=St.cs_pc i st.f1
 exact ⟨b,e,pre,cs,post,fi,fr,hg,st2⟩
theorem St.giveG {α:Type} (i:Dsh α) {w0 W:World} {rs:List Res} {v:Value} {xs:List α} {b n:Nat} {e:TypeId} {pre cs post:List Value} {y:α} {fi fr:List Nat} (hg:i.good y)
  (h:St w0 W (Res.pc cs (i.lv y) fi::(Res.bx b (pre++cs++post) e :: @Res.rest α i.toShape v b pre post xs n fr::rs))):∃ fp,St w0 W (@Res.own (List α) (@instShapeList α i.toShape) _ v (xs.set n y) fp::rs):=
 St.give (St.pc_cs i h hg).swap
def leT {α:Type} (i:Dsh α) (j:Nat) (xs:List α) (n:Nat) (x:α) (s:S) (K:i.good x→S→Tr):Tr:=
 match lku s.O j with
 | some (.own i' h xs' _) => .e1 (⟨i',xs'⟩:Dat) ⟨i.toShape,xs⟩ <| .e0 (Nat.ble 1 i.size) true <| .fn fun G:(Nat×TypeId×List Value)×(List Value×List Nat)=>
   wH (i.lv x) ⟨s.E,(j,.rs i.toShape h G.1.1 G.1.2.2 G.2.1 xs n G.2.2 s.nx)::bZ s.O j,s.B,s.nx+1⟩ fun scs s2 => .fp (i.good x) fun hg=>K hg ⟨s2.E,(s.nx,.bx G.1.1 G.1.2.2 scs G.2.1 G.1.2.1)::s2.O,s2.B,s2.nx⟩
 | _ => .no
theorem leT_ok {G:Prop} {α:Type} {i:Dsh α} {j:Nat} {xs:List α} {n:Nat} {x:α} (hx:xs[n]? = some x) {s:S} {K:i.good x→S→Tr} {w0 W:World} {f:Nat→Value} (h:(leT i j xs n x s K).holds) (den:Den w0 s f W)
  (k:∀ hg s',(K hg s').holds→Den w0 s' f W→G):G:=by
 unfold leT at h
 split at h
 ·next i' h' xs' fp hj=>
  obtain ⟨h1,h2,h3⟩:=h
  simp only[Dat.mk.injEq] at h1
  obtain ⟨rfl,h5,h6⟩:=h1
  obtain ⟨rfl,rfl⟩:=And.intro (eq_of_heq h5) (eq_of_heq h6)
  have st1:St w0 W (Or s.O++[]):=by simpa [Or,S.rs] using den.st
  obtain ⟨b,e,pre,cs,post,fi,fr,hg,st2⟩:=St.lendG i h2 (st1.take hj) hx
  rw[append_nil] at st2
  refine lO (rs:=[Res.bx b (pre++cs++post) e]) (h3 ((b,e,pre),(post,fr))) st2 fun scs s2 h4 e1 e2 e3 _ st3 hn=>k hg _ (h4 hg) ⟨by rw[e2];exact den.fr,?_,by rw[e3];exact den.fa⟩
  rw[← e1] at st3
  exact st3
 exact h.elim
def giT {α:Type} (i:Dsh α) (j:Nat) (xs:List α) (y:α) (s:S) (K:S→Tr):Tr:=
 match lku s.O j with
 | some (.rs i' h b pre post xs' n _ r) => .e1 (⟨i',xs'⟩:Dat) ⟨i.toShape,xs⟩<|match lku (bZ s.O j) r with
  | some (.bx b' pre' cs post' _) => .e0 b' b <| .e0 pre' pre <| .e0 post' post<|iJ (bZ (bZ s.O j) r) cs (i.lv y) fun O' => .fn fun fp:List Nat=>K ⟨s.E,(j,.own i.toShape h (xs.set n y) fp)::O',s.B,s.nx⟩
  | _ => .no
 | _ => .no
theorem giT_ok {G:Prop} {α:Type} {i:Dsh α} {j:Nat} {xs:List α} {y:α} (hy:i.good y) {s:S} {K:S→Tr} {w0 W:World} {f:Nat→Value} (h:(giT i j xs y s K).holds) (den:Den w0 s f W)
  (k:∀ s',(K s').holds→Den w0 s' f W→G):G:=by
 unfold giT at h
 split at h
 ·next i' h' b pre post xs' n fr r hj=>
  obtain ⟨h1,h2⟩:=h
  simp only[Dat.mk.injEq] at h1
  obtain ⟨rfl,h5,h6⟩:=h1
  obtain ⟨rfl,rfl⟩:=And.intro (eq_of_heq h5) (eq_of_heq h6)
  split at h2
  ·next b' pre' cs post' t hr=>
   obtain ⟨rfl,rfl,rfl,h3⟩:=h2
   have st1:St w0 W (Or s.O++[]):=by simpa [Or,S.rs] using den.st
   have st2:=st1.take hj
   have st3:St w0 W (Or (bZ s.O j)++[@Res.rest _ i.toShape h'.val b' pre' post' xs' n fr]):=by
    refine st2.perm ?_
    rw[append_nil]
    exact perm_append_comm (l₁:=Or (bZ s.O j)) (l₂:=[_])
   have st4:=st3.take hr
   have st5:St w0 W (Or (bZ (bZ s.O j) r)++[Res.bx b' (pre'++cs.map Sc.val++post') t,@Res.rest _ i.toShape h'.val b' pre' post' xs' n fr]):=
    st4.perm (perm_middle (a:=Res.bx b' (pre'++cs.map Sc.val++post') t))
   refine dU h3 st5 fun O' fp h4 st6 => ?_
   have st7:St w0 W (Res.pc (cs.map Sc.val) (i.lv y) fp::(Res.bx b' (pre'++cs.map Sc.val++post') t :: @Res.rest _ i.toShape h'.val b' pre' post' xs' n fr::Or O')):=
    st6.perm ((perm_append_comm (l₁:=[Res.bx b' (pre'++cs.map Sc.val++post') t,@Res.rest _ i.toShape h'.val b' pre' post' xs' n fr]) (l₂:=Or O')).cons _)
   obtain ⟨fp2,st8⟩:=St.giveG i hy st7
   exact k _ (h4 fp2) ⟨den.fr,st8,den.fa⟩
  exact h2.elim
 exact h.elim
end
end Go.Proofs.YtanpcpoogkdlaaaGreat
namespace Go.Proofs.YtanpcpoogkdlaaaGreat
set_option linter.unusedSimpArgs false
set_option linter.unusedVariables false
set_option maxHeartbeats 1000000
set_option maxHeartbeats 2000000
open Go.RowKit Go.Proofs.Tryz List

section
variable {P:Program} {A:Type} {R:A→Prop}
def opd (n:Nat) (s:S):Operand→Option SV
 | .tmp t=>cond (Nat.ble (t+1) n) (lku s.E t) none
 | .const v=>some (one (.vl v))
 | .global _=>none
 | .func g=>some (one (.vl (.func (.func g) #[] #[])))
theorem aW5 {n:Nat} {s:S} {f:Nat→Value} (h:Fr s.E f) (x:Operand) (u:SV) (e:opd n s x=some u):ev n f x=u.val:=by
 cases x with
 | tmp t=>
  simp only[opd] at e
  cases hb:Nat.ble (t+1) n with
  | true=>rw[hb] at e;simp only[ev,hb,cond_true];exact h t u e
  | false=>rw[hb] at e;cases e
 | const v=>simp only[opd,Option.some.injEq] at e;subst e;rfl
 | global g=>cases e
 | func g=>simp only[opd,Option.some.injEq] at e;subst e;rfl
def reT {α:Type} (i:Shape α) (r j:Nat) (xs:List α) (n:Nat) (s:S) (K:S→Tr):Tr:=
 match lku s.B (r+2000000),sQ s j with
 | some (_,.dv h2 h1 a sz),some (l,h',d) => .e0 h1 ⟨h'.ao,n,h'.cap⟩ <| .e0 a 0 <| .e0 sz i.size <| .e1 d ⟨i,xs⟩ <| .fn fun fp:List Nat=>K ⟨s.E,s.O,(r,l,.sl i h2 (xs.take n) fp)::s.B,s.nx⟩
 | _,_ => .no
theorem bL5 {G:Prop} {α:Type} {i:Shape α} {r j:Nat} {xs:List α} {n:Nat} {s:S} {K:S→Tr} {w0 W:World} (h:(reT i r j xs n s K).holds) (hn:n≤xs.length) (st:St w0 W s.rs) (fa:Facts w0 W s.B)
  (k:∀ s',(K s').holds→s'.E=s.E→s'.O=s.O→Facts w0 W s'.B→G):G:=by
 unfold reT at h
 split at h
 ·next l0 h2 h1 a sz l h' d hB hS=>
  obtain ⟨rfl,rfl,rfl,rfl,h3⟩:=h
  have hdv:=fa _ (kV hB)
  have hdv:h2.val=sliced h'.ao 0 n h'.cap i.size:=by
   cases l0 <;> exact hdv
  obtain ⟨fp,hs⟩:=kU hS st fa
  obtain ⟨u,g,hs',hu,_⟩:=slq_h hs hn
  refine k _ (h3 g) rfl rfl fun e he => ?_
  rcases mem_cons.1 he with rfl | he
  ·show Sl _ h2.val _ _
   rw[hdv,← hu _ _ _ rfl]
   exact hs'
  exact fa e he
 exact h.elim
def prp:D P R→S→(S→D P R→Tr)→Tr
 | .ex (p:=p) _ k,s,K => .fn fun x => .fp (p x) fun hx=>prp (k x hx) s K
 | .oc (p:=p) (q:=q) _ a b,s,K => .an (.fp p fun h=>prp (a h) s K) (.fp q fun h=>prp (b h) s K)
 | .ab _,_,_ => .ok
 | .rw i j xs ys _ k,s,K=>match lku s.O j with
  | some (.own i' h xs' fp) => .e1 (⟨i',xs'⟩:Dat) ⟨i,xs⟩ (prp k ⟨s.E,(j,.own i h ys fp)::bZ s.O j,s.B,s.nx⟩ K)
  | some (.row i' e h xs' fe) => .e1 (⟨i',xs'⟩:Dat) ⟨i,xs⟩ (prp k ⟨s.E,(j,.row i e h ys fe)::bZ s.O j,s.B,s.nx⟩ K)
  | _ => .no
 | .rv t x (y:=y) _ k,s,K=>match lku s.E t with
  | some v => .e0 v.val y (prp k ⟨(t,one (.vl x))::s.E,s.O,s.B,s.nx⟩ K)
  | none => .no
 | .rd i r j xs n _ k,s,K=>match lku s.B (r+2000000),sQ s j with
  | some (_,.dv h2 h1 a sz),some (l,h',d) => .e0 h' h1 <| .e0 a n <| .e0 sz i.size <| .e1 d ⟨i,xs⟩ <| .fn fun fp:List Nat=>prp k ⟨s.E,s.O,(r,l,.sl i h2 (xs.drop n) fp)::s.B,s.nx⟩ K
  | _,_ => .no
 | .re i r j xs n _ k,s,K=>reT i r j xs n s fun s=>prp k s K
 | .li i t ys hne hl hg k,s,K=>match lku s.E t with
  | some (.on (.ce (.lt j b n)))=>match lku s.O j with
   | some (.bx b' pre cs post _) => .e0 b b' <| .e0 pre [] <| .e0 post [] <| .e0 n ys.length<|iJ (bZ s.O j) cs (lvs i ys) fun O' => .fn fun fp:List Nat=>
     prp k ⟨(t,one (.rf j ⟨some ⟨b,0,none⟩,ys.length,ys.length⟩))::s.E,(j,.own i.toShape ⟨some ⟨b,0,none⟩,ys.length,ys.length⟩ ys (b::fp))::O',s.B,s.nx⟩ K
   | _ => .no
  | _=>K s (.li i t ys hne hl hg k)
 | .lr i hp t ys hl hg k,s,K=>match lku s.E t with
  | some (.on (.ce (.lt j b n)))=>match lku s.O j with
   | some (.bx b' pre cs post te) => .e0 b b' <| .e0 pre [] <| .e0 post [] <| .e0 n ys.length<|iJ (bZ s.O j) cs (lvs i ys) fun O' => 
     prp k ⟨(t,one (.rf j ⟨some ⟨b,0,none⟩,ys.length,ys.length⟩))::s.E,(j,.row i.toShape te ⟨some ⟨b,0,none⟩,ys.length,ys.length⟩ ys [])::O',s.B,s.nx⟩ K
   | _ => .no
  | _=>K s (.lr i hp t ys hl hg k)
 | .lj i r o ys hne hl hg k,s,K=>match lku s.O r with
  | some (.bx b0 pre0 cs0 post0 t0)=>match cs0[o]? with
   | some (.lt j b n)=>match lku (bZ s.O r) j with
    | some (.bx b' pre cs post _) => .e0 b b' <| .e0 pre [] <| .e0 post [] <| .e0 n ys.length<|iJ (bZ (bZ s.O r) j) cs (lvs i ys) fun O' => .fn fun fp:List Nat=>
      prp k ⟨s.E,(j,.own i.toShape ⟨some ⟨b,0,none⟩,ys.length,ys.length⟩ ys (b::fp))::(r,.bx b0 pre0 (cs0.set o (.rf j ⟨some ⟨b,0,none⟩,ys.length,ys.length⟩)) post0 t0)::O',s.B,s.nx⟩ K
    | _ => .no
   | _ => .no
  | _ => .no
 | .sh j k,s,K=>match lku s.O j with
  | some (.row i _ h xs _) => .fn fun fp:List Nat=>prp k ⟨s.E,(j,.own i h xs fp)::bZ s.O j,s.B,s.nx⟩ K
  | _ => .no
 | .r0 i e k,s,K=>prp k ⟨s.E,(s.nx,.row i e ⟨none,0,0⟩ [] [])::s.O,s.B,s.nx+1⟩ K
 | .rn i e t k,s,K=>match lku s.E t with
  | some (.on (.ce (.vl (.slice none 0 0))))=>prp k ⟨(t,one (.rf s.nx ⟨none,0,0⟩))::s.E,(s.nx,.row i e ⟨none,0,0⟩ [] [])::s.O,s.B,s.nx+1⟩ K
  | _=>K s (.rn i e t k)
 | .le i j xs n x hx k,s,K=>match lku s.O j with
  | some _=>leT i j xs n x s fun hg s=>prp (k hg) s K
  | none=>K s (.le i j xs n x hx k)
 | .gi i j xs y _ k,s,K=>giT i j xs y s fun s=>prp k s K
 | .wt t k,s,K=>match lku s.E t with
  | some _=>prp k s K
  | none=>K s (.wt t k)
 | .hx j k,s,K=>match sQ s j with
  | some (_,h,_)=>prp (k h) s K
  | none => .no
 | .w1 k,s,K=>K s k
 | .zr j k,s,K=>match lku s.O j with
  | some (.rz i e h xs fe _ z fz)=>prp k ⟨s.E,(j,.row i.toShape e h (xs++[z]) (fe++fz))::bZ s.O j,s.B,s.nx⟩ K
  | _ => .no
 | .lq t j k,s,K=>match lku s.E t with
  | some (.on (.ce (.pt m b1 k1 o)))=>match lku s.B m,lku s.O j with
   | some (_,.el h z n b k0 _),some (.rs i h' b' pre _ _ n' _ r) => .e0 h h' <| .e0 n n' <| .e0 z i.size <| .e0 b1 b <| .e0 k1 k0<|prp k ⟨(t,one (.pt r b' pre.length o))::s.E,s.O,s.B,s.nx⟩ K
   | _,_ => .no
  | _ => .no
 | .rc t c j k,s,K=>match lku s.E t,sQ s j with
  | some (.on (.ag cs)),some (_,h,_)=>match cs[c]? with
   | some x => .e0 x.val h.val (prp k ⟨(t,.on (.ag (cs.set c (.rf j h))))::s.E,s.O,s.B,s.nx⟩ K)
   | none => .no
  | _,_ => .no
 | .rb r c j k,s,K=>match lku s.O r,sQ s j with
  | some (.bx b pre cs post t),some (_,h,_)=>match cs[c]? with
   | some x => .e0 x.val h.val (prp k ⟨s.E,(r,.bx b pre (cs.set c (.rf j h)) post t)::bZ s.O r,s.B,s.nx⟩ K)
   | none => .no
  | _,_ => .no
 | d,s,K=>K s d
theorem wC {cs:List Sc} {c:Nat} {x y:Sc} (hx:cs[c]? = some x) (e:x.val=y.val):(cs.set c y).map Sc.val=cs.map Sc.val:=by
 obtain ⟨hlt,ho⟩:=gsi_.1 hx
 have hs:cs.map Sc.val=(cs.map Sc.val).set c ((cs.map Sc.val)[c]'(by simpa using hlt)):=(set_getElem_self _).symm
 rw[hs,map_set]
 congr 1
 rw[getElem_map,ho,e]
theorem fN {G:Prop} {w0:World} {f:Nat→Value} {W:World}:∀ {d:D P R} {s:S} {K:S→D P R→Tr},(prp d s K).holds→Den w0 s f W→(∀ s' d',(K s' d').holds→Den w0 s' f W→G)→G:=by
 intro d
 induction d with
 | ex h k ih=>
  intro s K hh den kk
  obtain ⟨x,hx⟩:=h
  exact ih x hx (hh x hx) den kk
 | oc h a b iha ihb=>
  intro s K hh den kk
  rcases h with h | h
  ·exact iha h (hh.1 h) den kk
  exact ihb h (hh.2 h) den kk
 | ab h=>exact fun _ _ _=>h.elim
 | rw i j xs ys he k ih=>
  intro s K hh den kk
  subst he
  unfold prp at hh
  split at hh
  ·next i' h xs' fp hj=>
   obtain ⟨h4,hh⟩:=hh
   simp only[Dat.mk.injEq] at h4
   obtain ⟨rfl,h5,h6⟩:=h4
   obtain ⟨rfl,rfl⟩:=And.intro (eq_of_heq h5) (eq_of_heq h6)
   refine ih hh ⟨den.fr,?_,den.fa⟩ kk
   have:=St.take (rs:=[]) (by simpa [Or,S.rs] using den.st) hj
   simpa [Or,S.rs] using this
  ·next i' te h xs' fp hj=>
   obtain ⟨h4,hh⟩:=hh
   simp only[Dat.mk.injEq] at h4
   obtain ⟨rfl,h5,h6⟩:=h4
   obtain ⟨rfl,rfl⟩:=And.intro (eq_of_heq h5) (eq_of_heq h6)
   refine ih hh ⟨den.fr,?_,den.fa⟩ kk
   have:=St.take (rs:=[]) (by simpa [Or,S.rs] using den.st) hj
   simpa [Or,S.rs] using this
  exact hh.elim
 | rv t x he k ih=>
  intro s K hh den kk
  subst he
  unfold prp at hh
  split at hh
  ·next v hv=>
   obtain ⟨h1,hh⟩:=hh
   exact ih hh ⟨den.fr.know t _ ((den.fr t v hv).trans h1),den.st,den.fa⟩ kk
  exact hh.elim
 | rd i r j xs n hn k ih=>
  intro s K hh den kk
  unfold prp at hh
  split at hh
  ·next l0 h2 h1 a sz l h' d hB hS=>
   obtain ⟨rfl,rfl,rfl,rfl,h3⟩:=hh
   have hdv:=den.fa _ (kV hB)
   have hdv:h2.val=sliced h'.ao a h'.n h'.cap i.size:=by
    cases l0 <;> exact hdv
   obtain ⟨fp,hs⟩:=kU hS den.st den.fa
   obtain ⟨g,hs',_⟩:=bK4 hs hn
   refine ih (h3 g) ⟨den.fr,den.st,fun e he => ?_⟩ kk
   rcases mem_cons.1 he with rfl | he
   ·show Sl _ h2.val _ _
    rw[hdv]
    exact hs'
   exact den.fa e he
  exact hh.elim
 | re i r j xs n hn k ih=>
  intro s K hh den kk
  unfold prp at hh
  exact bL5 hh hn den.st den.fa fun s' h e1 e2 fa=>ih h ⟨by rw[e1];exact den.fr,by rw[S.rs,e2];exact den.st,fa⟩ kk
 | li i t ys hne hl hg k ih=>
  intro s K hh den kk
  unfold prp at hh
  split at hh
  ·next j b n hE=>
   split at hh
   ·next b' pre cs post t' hj=>
    obtain ⟨rfl,rfl,rfl,rfl,h3⟩:=hh
    have st1:St w0 W (Or s.O++[]):=by simpa [Or,S.rs] using den.st
    have st2:=st1.take hj
    have st3:St w0 W (Or (bZ s.O j)++[Res.bx b (cs.map Sc.val) t']):=by
     have h4:St w0 W (Res.bx b ([]++cs.map Sc.val++[]) t'::(Or (bZ s.O j)++[])):=st2
     rw[append_nil,append_nil,nil_append] at h4
     exact h4.perm (perm_append_comm (l₁:=Or (bZ s.O j)) (l₂:=[_]))
    refine dU h3 st3 fun O' fp h5 st4 => ?_
    have st5:St w0 W (Res.bx b (cs.map Sc.val) t'::Res.pc (cs.map Sc.val) (lvs i ys) fp::Or O'):=by
     refine st4.perm ((List.Perm.swap _ _ _).trans ?_)
     exact (perm_append_comm (l₁:=[Res.bx b (cs.map Sc.val) t']) (l₂:=Or O')).cons _
    have st6:=St.lit i hne (Nat.le_trans hl eS) hg st5
    refine ih (h5 fp) ⟨?_,st6,den.fa⟩ kk
    have e:=den.fr t _ hE
    exact den.fr.know t _ e
   exact hh.elim
  exact kk _ _ hh den
 | lr i hp t ys hl hg k ih=>
  intro s K hh den kk
  unfold prp at hh
  split at hh
  ·next j b n hE=>
   split at hh
   ·next b' pre cs post t' hj=>
    obtain ⟨rfl,rfl,rfl,rfl,h3⟩:=hh
    have st1:St w0 W (Or s.O++[]):=by simpa [Or,S.rs] using den.st
    have st2:=st1.take hj
    have st3:St w0 W (Or (bZ s.O j)++[Res.bx b (cs.map Sc.val) t']):=by
     have h4:St w0 W (Res.bx b ([]++cs.map Sc.val++[]) t'::(Or (bZ s.O j)++[])):=st2
     rw[append_nil,append_nil,nil_append] at h4
     exact h4.perm (perm_append_comm (l₁:=Or (bZ s.O j)) (l₂:=[_]))
    refine dU h3 st3 fun O' fp h5 st4 => ?_
    have st5:St w0 W (Res.bx b (cs.map Sc.val) t'::Res.pc (cs.map Sc.val) (lvs i ys) fp::Or O'):=by
     refine st4.perm ((List.Perm.swap _ _ _).trans ?_)
     exact (perm_append_comm (l₁:=[Res.bx b (cs.map Sc.val) t']) (l₂:=Or O')).cons _
    have st6:=St.litrow i hp hl hg st5
    refine ih h5 ⟨?_,st6,den.fa⟩ kk
    have e:=den.fr t _ hE
    exact den.fr.know t _ e
   exact hh.elim
  exact kk _ _ hh den
 | lj i r o ys hne hl hg k ih=>
  intro s K hh den kk
  unfold prp at hh
  split at hh
  ·next b0 pre0 cs0 post0 t0 hr=>
   split at hh
   ·next j b n ho=>
    split at hh
    ·next b' pre cs post t' hj=>
     obtain ⟨rfl,rfl,rfl,rfl,h3⟩:=hh
     have st1:St w0 W (Or s.O++[]):=by simpa [Or,S.rs] using den.st
     have st2:=st1.take hr
     have st3:St w0 W (Or (bZ s.O r)++[(Ob.bx b0 pre0 cs0 post0 t0).res]):=by
      rw[append_nil] at st2
      exact st2.perm (perm_append_comm (l₁:=Or (bZ s.O r)) (l₂:=[_]))
     have st4:=st3.take hj
     have st5:St w0 W (Or (bZ (bZ s.O r) j)++[Res.bx b (cs.map Sc.val) t',(Ob.bx b0 pre0 cs0 post0 t0).res]):=by
      have h4:St w0 W (Res.bx b ([]++cs.map Sc.val++[]) t'::(Or (bZ (bZ s.O r) j)++[(Ob.bx b0 pre0 cs0 post0 t0).res])):=st4
      rw[append_nil,nil_append] at h4
      exact h4.perm (perm_middle (a:=Res.bx b (cs.map Sc.val) t') (l₁:=Or (bZ (bZ s.O r) j)) (l₂:=[(Ob.bx b0 pre0 cs0 post0 t0).res]))
     refine dU h3 st5 fun O' fp h5 st6 => ?_
     have st7:St w0 W (Res.bx b (cs.map Sc.val) t'::Res.pc (cs.map Sc.val) (lvs i ys) fp::((Ob.bx b0 pre0 cs0 post0 t0).res::Or O')):=by
      refine st6.perm ((List.Perm.swap _ _ _).trans ?_)
      exact (perm_append_comm (l₁:=[Res.bx b (cs.map Sc.val) t',(Ob.bx b0 pre0 cs0 post0 t0).res]) (l₂:=Or O')).cons _
     have st8:=St.lit i hne (Nat.le_trans hl eS) hg st7
     have e:(Ob.bx b0 pre0 cs0 post0 t0).res=(Ob.bx b0 pre0 (cs0.set o (.rf j ⟨some ⟨b,0,none⟩,ys.length,ys.length⟩)) post0 t0).res:=by
      simp only[Ob.res]
      congr 2
      obtain ⟨hlt,ho⟩:=gsi_.1 ho
      have hs:cs0.map Sc.val=(cs0.map Sc.val).set o ((cs0.map Sc.val)[o]'(by simpa using hlt)):=(set_getElem_self _).symm
      rw[hs,map_set]
      congr 1
      rw[getElem_map,ho]
      rfl
     rw[e] at st8
     exact ih (h5 fp) ⟨den.fr,st8,den.fa⟩ kk
    exact hh.elim
   exact hh.elim
  exact hh.elim
 | sh j k ih=>
  intro s K hh den kk
  unfold prp at hh
  split at hh
  ·next i e h xs fe hj=>
   obtain ⟨fp,st1⟩:=St.shut (St.take (rs:=[]) (by simpa [Or,S.rs] using den.st) hj)
   refine ih (hh fp) ⟨den.fr,?_,den.fa⟩ kk
   rw[append_nil] at st1
   exact st1
  exact hh.elim
 | r0 i e k ih=>
  intro s K hh den kk
  exact ih hh ⟨den.fr,den.st.row_nil e,den.fa⟩ kk
 | rn i e t k ih=>
  intro s K hh den kk
  unfold prp at hh
  split at hh
  ·next hv=>
   have e1:=den.fr t _ hv
   exact ih hh ⟨den.fr.know t (one (.rf s.nx ⟨none,0,0⟩)) e1,den.st.row_nil e,den.fa⟩ kk
  exact kk _ _ hh den
 | le i j xs n x hx k ih=>
  intro s K hh den kk
  unfold prp at hh
  split at hh
  ·exact leT_ok hx hh den fun hg s' h' den'=>ih hg h' den' kk
  exact kk _ _ hh den
 | wt t k ih=>
  intro s K hh den kk
  unfold prp at hh
  split at hh
  ·exact ih hh den kk
  exact kk _ _ hh den
 | gi i j xs y hy k ih=>
  intro s K hh den kk
  exact giT_ok hy hh den fun s' h' den'=>ih h' den' kk
 | w1 k ih=>exact fun hh den kk=>kk _ _ hh den
 | zr j k ih=>
  intro s K hh den kk
  unfold prp at hh
  split at hh
  ·next i e h xs fe cs z fz hj=>
   have st2:=St.take (rs:=[]) (by simpa [Or,S.rs] using den.st) hj
   rw[append_nil] at st2
   exact ih hh ⟨den.fr,St.zrow st2,den.fa⟩ kk
  exact hh.elim
 | lq t j k ih=>
  intro s K hh den kk
  unfold prp at hh
  split at hh
  ·next m b1 k1 o hE=>
   split at hh
   ·next l h z n b k0 cs α i h' b' pre post xs n' fr r hB hO=>
    obtain ⟨rfl,rfl,rfl,rfl,rfl,h1⟩:=hh
    have hpa:PA h.val _ n b1 k1:=(den.fa.now den.st.below hB).1
    obtain ⟨off,cap,f1,f2,p0,c1,c2,q0,e1,e2,e3,e4,e5,e6,e7,e8,e9,e10⟩:=(den.st.holds _ (nT hO)).1
    obtain ⟨off',n2,cap',e11,e12,e13⟩:=hpa
    rw[e1] at e11
    simp only[Value.slice.injEq,Option.some.injEq,Addr.mk.injEq] at e11
    have hl:=e8.len
    rw[length_take,Nat.min_eq_left aA] at hl
    refine ih h1 ⟨den.fr.know t _ ((den.fr t _ hE).trans ?_),den.st,den.fa⟩ kk
    show Value.pointer (some ⟨b1,k1+o,none⟩)=Value.pointer (some ⟨b',pre.length+o,none⟩)
    rw[e5,length_append,e6,hl,e13,e11.1.1,e11.1.2.1]
   exact hh.elim
  exact hh.elim
 | hx j k ih=>
  intro s K hh den kk
  unfold prp at hh
  split at hh
  ·exact ih _ hh den kk
  exact hh.elim
 | rc t c j k ih=>
  intro s K hh den kk
  unfold prp at hh
  split at hh
  ·next cs l h d hE hj=>
   split at hh
   ·next x hx=>
    obtain ⟨e,hh⟩:=hh
    refine ih hh ⟨den.fr.know t _ ((den.fr t _ hE).trans ?_),den.st,den.fa⟩ kk
    show Value.agg _=Value.agg _
    rw[wC hx (y := .rf j h) e]
   exact hh.elim
  exact hh.elim
 | rb r c j k ih=>
  intro s K hh den kk
  unfold prp at hh
  split at hh
  ·next b pre cs post t l h d hO hj=>
   split at hh
   ·next x hx=>
    obtain ⟨e,hh⟩:=hh
    have st2:=St.take (rs:=[]) (by simpa [Or,S.rs] using den.st) hO
    rw[append_nil] at st2
    have e2:(Ob.bx b pre cs post t).res=(Ob.bx b pre (cs.set c (.rf j h)) post t).res:=by
     show Res.bx b (pre++cs.map Sc.val++post) t=Res.bx b (pre++(cs.set c (.rf j h)).map Sc.val++post) t
     rw[wC hx (y := .rf j h) e]
    rw[e2] at st2
    exact ih hh ⟨den.fr,st2,den.fa⟩ kk
   exact hh.elim
  exact hh.elim
 | _=>exact fun hh den kk=>kk _ _ hh den
def isDq:D P R→Bool
 | .dq .. => true
 | _=>false
def isBy:D P R→Bool
 | .by_ .. => true
 | _=>false
def isBs:D P R→Bool
 | .bs .. => true
 | _=>false
def isCo:D P R→Bool
 | .co .. => true
 | _=>false
def isCw:D P R→Bool
 | .cw .. => true
 | _=>false
def isIv:D P R→Bool
 | .iv .. => true
 | _=>false
def bH9:D P R→Bool
 | .cm .. => true
 | .iv .. => true
 | .co .. => true
 | .cw .. => true
 | _=>false
def eop (P:Program) {A:Type} {R:A→Prop} (g:Bool) (lk:Operand→Option SV) (s:S) (o:Op) (d:D P R) (K:SV→S→D P R→Tr):Tr:=
 match o with
 | .alloc t=>alT P s t fun v s=>K v s d
 | .box t x=>opt (lk x) fun v=>bxT s t v fun v s=>K v s d
 | .buildSlice t len ps=>opt (lkp lk ps.toList) fun vs=>nrm d fun d=>match isLo d with
  | true=>loT P s t len vs d K
  | false=>bsT P s t len vs d K
 | .store t x y=>opt (lk x) fun v=>asC v fun c=>opt (lk y) fun u=>cond g .no (stT P s t c u fun s'=>K (one (.vl undef)) s' d)
 | .call ⟨.builtin .append,xs,ts⟩=>match xs.toList,ts.toList with
  | [x,y],[t,t']=>nrm d fun d=>match isBs d with
   | true=>opt (lk x) fun v=>asC v fun c=>opt (lk y) fun u=>asC u fun cy=>cond g .no (abT P s t t' c cy d K)
   | false => .e0 t' t<|opt (lk x) fun v=>asC v fun c=>opt (lk y) fun u=>asC u fun cy=>cond g .no (apT P s t c cy d K)
  | _,_ => .no
 | .makeSlice t x y=>opt (lk x) fun v=>asC v fun c=>opt (lk y) fun u=>asC u fun cy=>nrm d fun d=>mkN P s t c cy d K
 | .call ⟨.value (.func F),xs,_⟩=>nrm d fun d=>match bH9 d with
  | true=>cond g .no (cond (isCw d) (cwT s lk F xs.toList d K) (cond (isCo d) (coT s lk F xs.toList d K) (cond (isIv d) (ivT s F (lkv lk xs.toList) d K) (cmT s lk F xs.toList d K))))
  | false=>clT s lk F xs.toList d K
 | .call ⟨.value (.tmp t),xs,_⟩=>cond g .no (cfT s lk t xs.toList d K)
 | .call ⟨.builtin .clear,xs,ts⟩=>match xs.toList,ts.toList with
  | [x],[t]=>opt (lk x) fun v=>asC v fun c=>cond g .no (czT P s t c d K)
  | _,_ => .no
 | .slice t x none (some y) none=>nrm d fun d=>match isDz d with
  | true=>cond g .no (opt (lk x) fun v=>asC v fun c=>opt (lk y) fun u=>asC u fun cy=>dzT P s t c cy d K)
  | false=>qop P lk s (.slice t x none (some y) none) d K
 | .slice t x (some y) none none=>nrm d fun d=>match isDq d with
  | true=>cond g .no (opt (lk x) fun v=>asC v fun c=>opt (lk y) fun u=>asC u fun cy=>dqT P s t c cy d K)
  | false=>qop P lk s (.slice t x (some y) none none) d K
 | .convert t t' x=>nrm d fun d=>match isBy d with
  | true=>opt (lk x) fun v=>asC v fun c=>byT P s t t' c d K
  | false=>qop P lk s (.convert t t' x) d K
 | o=>qop P lk s o d K
def aT0:Op→Bool
 | .alloc _ | .box _ _ | .buildSlice _ _ _ | .makeSlice _ _ _=>true
 | .call ⟨.value (.func _),_,_⟩=>true
 | _=>false
theorem aX1 {w0:World} {gw:Bool} {s:S} {lk:Operand→Option SV} {o:Op} {dd:D P R} {K:SV→S→D P R→Tr} {n:Nat} {f:Nat→Value} {W:World} {Q:Exit→Act→World→Prop} {KK:Value→World→Prop} {d:Option Tmp} {ty:TypeId} {pos:String} {af:Array Go.Edge} {g:Option (Nat×Bool)}
  (h:(eop P gw lk s o dd K).holds) (hl:∀ x u,lk x=some u→ev n f x=u.val) (hst:St w0 W s.rs) (hfa:Facts w0 W s.B) (k:∀ v s' d' W',(K v s' d').holds→s'.E=s.E→(gw=true→(∃ N,s'.O=N++s.O)∧Below W.heap.size W W')→St w0 W' s'.rs→Facts w0 W' s'.B→KK v.val W'):Stp P n ⟨d,o,ty,pos,af,g⟩ f W Q KK:=by
 unfold eop at h
 split at h
 ·exact alT_ok h hst hfa fun v s' W' h' e g1 g2 st' fa'=>k v s' _ W' h' e (fun _=>⟨g1,g2⟩) st' fa'
 ·exact aH h fun v hv h=>bxT_ok (hl _ _ hv) h hst hfa fun v s' W' h' e g1 g2 st' fa'=>k v s' _ W' h' e (fun _=>⟨g1,g2⟩) st' fa'
 ·refine aH h fun vs hvs h=>cO h fun d' h => ?_
  split at h
  ·have:=loT_ok (d:=d) (ty:=ty) (pos:=pos) (af:=af) (g:=g) (Q:=Q) (KK:=KK) (aM8 hl hvs) h hst hfa fun v s' d' W' h' e g1 g2 st' fa'=>k v s' d' W' h' e (fun _=>⟨g1,g2⟩) st' fa'
   simpa using this
  have:=bsT_ok (d:=d) (ty:=ty) (pos:=pos) (af:=af) (g:=g) (Q:=Q) (KK:=KK) (aM8 hl hvs) h hst hfa fun v s' d' W' h' e g1 g2 st' fa'=>k v s' d' W' h' e (fun _=>⟨g1,g2⟩) st' fa'
  simpa using this
 ·refine aH h fun v hv h'=>bU h' fun c hc h=>aH h fun u hu h => ?_
  subst hc
  cases gw with
  | true=>exact h.elim
  | false=>
   simp only[cond_false] at h
   exact stT_ok (hl _ _ hv) (hl _ _ hu) h hst hfa fun s' W' h' e st' fa'=>k (one (.vl undef)) s' _ W' h' e (fun hg=>by cases hg) st' fa'
 ·next xs ts=>
  split at h
  ·next x y t t' e1 e2=>
   have e1:xs = #[x,y]:=by rw[← Array.toArray_toList (xs:=xs),e1]
   have e2:ts = #[t,t']:=by rw[← Array.toArray_toList (xs:=ts),e2]
   subst e1 e2
   refine cO h fun d' h => ?_
   split at h
   ·refine aH h fun v hv h'=>bU h' fun c hc h=>aH h fun u hu h''=>bU h'' fun cy hcy h => ?_
    subst hc hcy
    cases gw with
    | true=>exact h.elim
    | false=>
     simp only[cond_false] at h
     exact abT_ok (hl _ _ hv) (hl _ _ hu) h hst hfa fun v s' d' W' h' e st' fa'=>k v s' d' W' h' e (fun hg=>by cases hg) st' fa'
   obtain ⟨rfl,h⟩:=h
   refine aH h fun v hv h'=>bU h' fun c hc h=>aH h fun u hu h''=>bU h'' fun cy hcy h => ?_
   subst hc hcy
   cases gw with
   | true=>exact h.elim
   | false=>
    simp only[cond_false] at h
    exact apT_ok (hl _ _ hv) (hl _ _ hu) h hst hfa fun v s' d' W' h' e st' fa'=>k v s' d' W' h' e (fun hg=>by cases hg) st' fa'
  exact h.elim
 ·refine aH h fun v hv h'=>bU h' fun c hc h=>aH h fun u hu h''=>bU h'' fun cy hcy h => ?_
  subst hc hcy
  refine cO h fun d' h => ?_
  exact mkN_ok (hl _ _ hv) (hl _ _ hu) h hst hfa fun v s' d' W' h' e g1 g2 st' fa'=>k v s' d' W' h' e (fun _=>⟨g1,g2⟩) st' fa'
 ·next F xs ts=>
  refine cO h fun d' h1 => ?_
  split at h1
  ·cases gw with
   | true=>exact h1.elim
   | false=>
    simp only[cond_false] at h1
    cases hcw:isCw d' with
    | true=>
     rw[hcw] at h1
     have:=cwT_ok (ats:=ts) (d:=d) (ty:=ty) (pos:=pos) (af:=af) (g:=g) (Q:=Q) (KK:=KK) hl h1 hst hfa fun v s' d' W' h' e st' fa'=>k v s' d' W' h' e (fun hg=>by cases hg) st' fa'
     simpa using this
    | false=>
    rw[hcw] at h1
    simp only[cond_false] at h1
    cases hco:isCo d' with
    | true=>
     rw[hco] at h1
     have:=coT_ok (ats:=ts) (d:=d) (ty:=ty) (pos:=pos) (af:=af) (g:=g) (Q:=Q) (KK:=KK) hl h1 hst hfa fun v s' d' W' h' e st' fa'=>k v s' d' W' h' e (fun hg=>by cases hg) st' fa'
     simpa using this
    | false=>
    rw[hco] at h1
    simp only[cond_false] at h1
    cases hiv:isIv d' with
    | true=>
     rw[hiv] at h1
     refine bO0 h1 hst hfa (fun v s' d' W' h' e st' fa'=>k v s' d' W' h' e (fun hg=>by cases hg) st' fa') fun hf ho hus hc => ?_
     have:=gM (P:=P) (n:=n) (f:=f) (W:=W) (Q:=Q) (K:=KK) (d:=d) (ty:=ty) (pos:=pos) (af:=af) (g:=g) (ats:=ts) hf ho (iS hl hus) hc
     simpa using this
    | false=>
    rw[hiv] at h1
    have:=cmT_ok (ats:=ts) (d:=d) (ty:=ty) (pos:=pos) (af:=af) (g:=g) (Q:=Q) (KK:=KK) hl h1 hst hfa fun v s' d' W' h' e st' fa'=>k v s' d' W' h' e (fun hg=>by cases hg) st' fa'
    simpa using this
  have:=clT_ok (ats:=ts) (d:=d) (ty:=ty) (pos:=pos) (af:=af) (g:=g) (Q:=Q) (KK:=KK) hl h1 hst hfa fun v s' d' W' h' e g1 g2 st' fa'=>k v s' d' W' h' e (fun _=>⟨g1,g2⟩) st' fa'
  simpa using this
 ·next t xs ts=>
  cases gw with
  | true=>exact h.elim
  | false=>
   simp only[cond_false] at h
   have:=cfT_ok (ats:=ts) (d:=d) (ty:=ty) (pos:=pos) (af:=af) (g:=g) (Q:=Q) (KK:=KK) hl h hst hfa fun v s' d' W' h' e st' fa'=>k v s' d' W' h' e (fun hg=>by cases hg) st' fa'
   simpa using this
 ·next xs ts=>
  split at h
  ·next x t e1 e2=>
   have e1:xs = #[x]:=by rw[← Array.toArray_toList (xs:=xs),e1]
   have e2:ts = #[t]:=by rw[← Array.toArray_toList (xs:=ts),e2]
   subst e1 e2
   refine aH h fun v hv h'=>bU h' fun c hc h => ?_
   subst hc
   cases gw with
   | true=>exact h.elim
   | false=>
    simp only[cond_false] at h
    exact czT_ok (hl _ _ hv) h hst hfa fun v s' d' W' h' e st' fa'=>k v s' d' W' h' e (fun hg=>by cases hg) st' fa'
  exact h.elim
 ·next t x y=>
  refine cO h fun d' h1 => ?_
  split at h1
  ·cases gw with
   | true=>exact h1.elim
   | false=>
    simp only[cond_false] at h1
    refine aH h1 fun v hv h2=>bU h2 fun c hc h3=>aH h3 fun u hu h4=>bU h4 fun cy hcy h5 => ?_
    subst hc hcy
    exact dzT_ok (hl _ _ hv) (hl _ _ hu) h5 hst hfa fun v s' d' h' e st' fa'=>k v s' d' W h' e (fun hg=>by cases hg) st' fa'
  refine yR h1 hst hfa fun v s' d' h' e1 e2 fa' q=>q hl hst (Below.refl _ _) fun W'' st' hb=>k v s' d' W'' h' e1 (fun _=>⟨⟨[],by rw[e2];rfl⟩,hb⟩) (by rw[S.rs,e2];exact st') (fa'.up hb)
 ·next t x y=>
  refine cO h fun d' h1 => ?_
  split at h1
  ·cases gw with
   | true=>exact h1.elim
   | false=>
    simp only[cond_false] at h1
    refine aH h1 fun v hv h2=>bU h2 fun c hc h3=>aH h3 fun u hu h4=>bU h4 fun cy hcy h5 => ?_
    subst hc hcy
    exact dqT_ok (hl _ _ hv) (hl _ _ hu) h5 hst hfa fun v s' d' h' e st' fa'=>k v s' d' W h' e (fun hg=>by cases hg) st' fa'
  refine yR h1 hst hfa fun v s' d' h' e1 e2 fa' q=>q hl hst (Below.refl _ _) fun W'' st' hb=>k v s' d' W'' h' e1 (fun _=>⟨⟨[],by rw[e2];rfl⟩,hb⟩) (by rw[S.rs,e2];exact st') (fa'.up hb)
 ·next t t' x=>
  refine cO h fun d' h1 => ?_
  split at h1
  ·refine aH h1 fun v hv h2=>bU h2 fun c hc h3 => ?_
   subst hc
   exact byT_ok (hl _ _ hv) h3 hst hfa fun v s' d' W' h' e1 e2 hb st' fa'=>k v s' d' W' h' e1 (fun _=>⟨⟨[],by rw[e2];rfl⟩,hb⟩) st' fa'
  refine yR h1 hst hfa fun v s' d' h' e1 e2 fa' q=>q hl hst (Below.refl _ _) fun W'' st' hb=>k v s' d' W'' h' e1 (fun _=>⟨⟨[],by rw[e2];rfl⟩,hb⟩) (by rw[S.rs,e2];exact st') (fa'.up hb)
 next o h1 h2 h3 h4 h5 h6 h7 h8 h9 h10 h11=>
 refine yR h hst hfa fun v s' d' h' e1 e2 fa' q=>q hl hst (Below.refl _ _) fun W'' st' hb=>k v s' d' W'' h' e1 (fun _=>⟨⟨[],by rw[e2];rfl⟩,hb⟩) (by rw[S.rs,e2];exact st') (fa'.up hb)
/-! ### A region's list -/
def putS (d:Option Tmp) (v:SV) (s:S):S:=
 match d with
 | none=>s
 | some t=>⟨(t,v)::s.E,s.O,s.B,s.nx⟩
theorem Den.put {w0:World} {s:S} {f:Nat→Value} {W:World} (h:Den w0 s f W) (d:Option Tmp) (v:SV):Den w0 (putS d v s) (dE f d v.val) W:=by
 cases d with
 | none=>exact h
 | some t=>exact ⟨h.fr.put t v,h.st,h.fa⟩
def onB (w r:Bool):Bool:=cond w r (!r)
def grd (n:Nat) (all:List Oper) (s:S) (o:Oper) (d:D P R) (K:Bool→S→D P R→Tr):Tr:=
 match o.guard with
 | none=>K true s d
 | some (j,w)=>opt ((all[j]?).bind (·.dst)) fun dd => .e0 (Nat.ble (dd+1) n) true<|opt (lku s.E dd) fun v=>match v with
  | .on (.ce (.bo e))=>bl (.bo e) d fun r d=>K (onB w r) ⟨(dd,one (.vl (.bool r)))::s.E,s.O,s.B,s.nx⟩ d
  | .on (.ce c)=>K (match yl c.val with
   | some b=>onB w b
   | none=>false) s d
  | .on (.ag _) => .no
  | .tu _ => .no
def opsT (P:Program) {A:Type} {R:A→Prop} (n:Nat) (all:List Oper):List Oper→S→D P R→(S→D P R→Tr)→Tr
 | [],s,d,K=>K s d
 | o::os,s,d,K=>prp d s fun s d=>grd n all s o d fun on s d=>match on with
  | true=>eop P false (opd n s) s o.op d fun v s d=>opsT P n all os (putS o.dst v s) d K
  | false=>opsT P n all os (putS o.dst (one (.vl undef)) s) d K
theorem grd_ok {G:Prop} {w0:World} {n:Nat} {all:List Oper} {s:S} {o:Oper} {d:D P R} {K:Bool→S→D P R→Tr} {f:Nat→Value} {W:World} (h:(grd n all s o d K).holds) (den:Den w0 s f W)
  (k:∀ on s' d',(K on s' d').holds→Den w0 s' f W→(o.guard=none∧on=true∨∃ j w dd,o.guard=some (j,w)∧(all.toArray[j]?).bind (·.dst)=some dd∧dd<n∧(yl (f dd) == some w)=on)→G):G:=by
 unfold grd at h
 split at h
 ·next hg=>exact k _ _ _ h den (.inl ⟨hg,rfl⟩)
 next j w hg=>
 refine aH h fun dd hd h => ?_
 obtain ⟨hn,h⟩:=h
 have hn:=Nat.le_of_ble_eq_true hn
 refine aH h fun v hv h => ?_
 have hf:=den.fr dd v hv
 have hd':(all.toArray[j]?).bind (·.dst)=some dd:=by simpa using hd
 split at h
 ·next e=>
  refine bF2 h fun r d' hr h => ?_
  have hr:e=r:=by simpa [Sc.val] using hr
  subst hr
  refine k _ _ _ h ⟨den.fr.know dd _ hf,den.st,den.fa⟩ (.inr ⟨j,w,dd,hg,hd',hn,?_⟩)
  rw[hf]
  show (some e == some w)=_
  cases e <;> cases w <;> rfl
 ·next c _=>
  refine k _ _ _ h den (.inr ⟨j,w,dd,hg,hd',hn,?_⟩)
  rw[hf]
  show (yl c.val == some w)=_
  split
  ·next b hb=>rw[hb];cases b <;> cases w <;> rfl
  next hb=>rw[hb];cases w <;> rfl
 ·exact h.elim
 exact h.elim
theorem aM2 {w0:World} {n:Nat} {all:List Oper} {Q:Exit→Act→World→Prop} {K:S→D P R→Tr} (k:∀ s' d' f' W',(K s' d').holds→Den w0 s' f' W'→Q .normal (act n f') W') :
  ∀ {l:List Oper} {s:S} {d:D P R} {f:Nat→Value} {W:World},(opsT P n all l s d K).holds→Den w0 s f W→Wl P all.toArray Q l n f W
 | [],s,d,f,W,h,den=>aI (k _ _ _ _ h den)
 | o::os,s,d,f,W,h,den=>by
  refine fN h den fun s1 d1 h1 den1=>grd_ok h1 den1 fun on s2 d2 h2 den2 hg => ?_
  cases on with
  | true=>
   have hs:Stp P n o f W Q (fun v W'=>Wl P all.toArray Q os n (dE f o.dst v) W'):=by
    refine aX1 (d:=o.dst) (ty:=o.type) (pos:=o.pos) (af:=o.after) (g:=o.guard) h2 (aW5 den2.fr) den2.st den2.fa fun v s' d' W' h' e _ st' fa' => ?_
    exact aM2 k h' (Den.put ⟨by rw[e];exact den2.fr,st',fa'⟩ o.dst v)
   rcases hg with ⟨hg,_⟩ | ⟨j,w,dd,hg,hd,hn,hy⟩
   ·exact sx hg hs
   exact bJ4 hg hd hn (by simpa using hy) hs
  | false=>
   rcases hg with ⟨_,hx⟩ | ⟨j,w,dd,hg,hd,hn,hy⟩
   ·cases hx
   exact aV5 hg hd hn hy (aM2 k h2 (den2.put o.dst (one (.vl undef))))
end
end Go.Proofs.YtanpcpoogkdlaaaGreat
namespace Go.Proofs.YtanpcpoogkdlaaaGreat
set_option linter.unusedSimpArgs false
set_option linter.unusedVariables false
set_option maxRecDepth 100000
set_option maxHeartbeats 2000000
open Go.RowKit Go.Proofs.Tryz List
structure Pv where
 p:(Nat→Value)→Value→Prop
 lk:List Nat
 fr:∀ {f f':Nat→Value} {v},(∀ t∈lk,f t=f' t)→p f v→p f' v
structure RP where
 p:(Nat→Value)→Res→Prop
 lk:List Nat
 fr:∀ {f f':Nat→Value} {r},(∀ t∈lk,f t=f' t)→p f r→p f' r
def Pv.is (u:Value):Pv:=⟨fun _ v=>v=u,[],fun _ h=>h⟩
def Pv.any:Pv:=⟨fun _ _=>True,[],fun _ h=>h⟩
def Pv.cp (t:Nat):Pv:=⟨fun f v=>v=f t,[t],fun h e=>by rw[e,h t (by simp)]⟩
def Pv.ex {ι:Type} (g:ι→Value):Pv:=⟨fun _ v=>∃ x,v=g x,[],fun _ h=>h⟩
def RP.is (r:Res):RP:=⟨fun _ s=>s=r,[],fun _ h=>h⟩
def RP.of {ι:Type} (ts:List Nat) (e:ι→List Value) (r:ι→Res):RP:=⟨fun f s=>∃ x,ts.map f=e x∧s=r x,ts,fun h ⟨x,e1,e2⟩=>⟨x,by rw[← e1];exact map_congr_left (fun t ht=>(h t ht).symm),e2⟩⟩
abbrev Tb:=List (Option Nat×Option Nat×RP)
def isO (m:Option Nat) (i:Nat):Bool:=match m with | some j=>Nat.beq j i | none=>false
def live (D:Nat→Bool) (m u:Option Nat):Bool:=(match m with | some i=>D i | none=>true) && (match u with | some i => !D i | none=>true)
def AL (D:Nat→Bool):Tb→(Nat→Value)→List Res→Prop
 | [],_,rs=>rs=[]
 | (m,u,p)::tb,f,rs=>cond (live D m u) (∃ r rs2,rs=r::rs2∧p.p f r∧AL D tb f rs2) (AL D tb f rs)
def US (i:Nat):Tb→(Nat→Value)→List Res→Prop
 | [],_,rs=>rs=[]
 | (_,u,p)::tb,f,rs=>cond (isO u i) (∃ r rs2,rs=r::rs2∧p.p f r∧US i tb f rs2) (US i tb f rs)
def MK (i:Nat):Tb→(Nat→Value)→List Res→Prop
 | [],_,rs=>rs=[]
 | (m,_,p)::tb,f,rs=>cond (isO m i) (∃ r rs2,rs=r::rs2∧p.p f r∧MK i tb f rs2) (MK i tb f rs)
def aU3 (l:List Oper):Nat→Nat→Nat→Bool
 | 0,i,j=>dep l i j
 | k+1,i,j=>dep l i j || (List.range l.length).any (fun m=>dep l i m && aU3 l k m j)
theorem lB {l:List Oper} {D:Nat→Bool} (hD:∀ j k,D j=true→dep l j k=true→D k=true):∀ (k i j:Nat),(∀ m,dep l i m=true→D m=true)→aU3 l k i j=true→D j=true
 | 0,i,j,h,hd=>h j hd
 | k+1,i,j,h,hd=>by
  unfold aU3 at hd
  rw[Bool.or_eq_true] at hd
  rcases hd with hd | hd
  ·exact h j hd
  ·rw[any_eq_true] at hd
   obtain ⟨m,_,h2⟩:=hd
   rw[Bool.and_eq_true] at h2
   exact lB hD k m j (fun q hq=>hD m q (h m h2.1) hq) h2.2
def aL0 (l:List Oper) (i:Nat) (own:Bool) (t:Nat):Bool:=kW l t || (List.range l.length).any (fun j=>((own && Nat.beq j i) || aU3 l 2 i j) && (match aW l j with | some d=>Nat.beq d t | none=>false))
def tbOk (l:List Oper) (tb:Tb):Bool:=
 tb.all (fun e=>(match e.1 with | some i=>Nat.blt i l.length && e.2.2.lk.all (aL0 l i true) | none=>e.2.2.lk.all (kW l)) && (match e.2.1 with | some j=>Nat.blt j l.length && (match e.1 with | some i=>aU3 l 2 j i | none=>true) | none=>true))
def pvOk (l:List Oper) (F:List (Bool×Pv)) (tb:Tb):Bool:=
 (List.range l.length).all (fun i=>((F.getD i (true,Pv.any)).2.lk.all (aL0 l i false)) && (!(F.getD i (true,Pv.any)).1 || tb.all (fun e => !isO e.1 i && !isO e.2.1 i)))
section
variable {P:Program} {n:Nat} {w0 w1:World} {rc:List Res} {Q:Exit→Act→World→Prop}
def bG4 (w0 w1:World) (rc:List Res) (tb:Tb) (f:Nat→Value) (i:Nat) (o:Oper) (p:Pv) (oth:List Res) (v:Value) (W:World):Prop:=
 p.p f v∧(∃ rm,MK i tb (dE f o.dst v) rm∧St w0 W (rm++(rc++oth)))∧Below w1.heap.size w1 W
def StepF (P:Program) (n:Nat) (w0 w1:World) (rc:List Res) (Q:Exit→Act→World→Prop) (tb:Tb) (l:List Oper) (F:List (Bool×Pv)) (f0:Nat→Value) (i:Nat) (o:Oper) (p:Pv):Prop:=
 ∀ f W ru oth,US i tb f ru→St w0 W (ru++(rc++oth))→Below w1.heap.size w1 W→(∀ j d,aU3 l 2 i j=true→aW l j=some d→(F.getD j (true,Pv.any)).2.p f (f d))→(∀ t,kJ l i t=true→f t=f0 t) →
  match o.guard with
  | none=>Stp P n o f W Q (bG4 w0 w1 rc tb f i o p oth)
  | some _=>cond (onR l f o) (Stp P n o f W Q (bG4 w0 w1 rc tb f i o p oth)) (bG4 w0 w1 rc tb f i o p oth undef W)
def StepQ (P:Program) (n:Nat) (w0 w1:World) (rc:List Res) (Q:Exit→Act→World→Prop) (l:List Oper) (F:List (Bool×Pv)) (f0:Nat→Value) (i:Nat) (o:Oper) (p:Pv):Prop:=
 ∀ f W,St w0 W rc→Below w1.heap.size w1 W→(∀ j d,aU3 l 2 i j=true→aW l j=some d→(F.getD j (true,Pv.any)).2.p f (f d))→(∀ t,kJ l i t=true→f t=f0 t) →
  match o.guard with
  | none=>Stp P n o f W Q (fun v W'=>Below W.heap.size W W'∧p.p f v)
  | some _=>cond (onR l f o) (Stp P n o f W Q (fun v W'=>Below W.heap.size W W'∧p.p f v)) (p.p f undef)
def AllF (P:Program) (n:Nat) (w0 w1:World) (rc:List Res) (Q:Exit→Act→World→Prop) (tb:Tb) (l:List Oper) (F:List (Bool×Pv)) (f0:Nat→Value):Nat→List Oper→List (Bool×Pv)→Prop
 | _,[],[]=>True
 | i,o::os,(q,p)::ps=>cond q (StepQ P n w0 w1 rc Q l F f0 i o p) (StepF P n w0 w1 rc Q tb l F f0 i o p)∧AllF P n w0 w1 rc Q tb l F f0 (i+1) os ps
 | _,_,_=>False
theorem AllF.get {tb:Tb} {l:List Oper} {F:List (Bool×Pv)} {f0:Nat→Value}:∀ {os:List Oper} {ps:List (Bool×Pv)} {k:Nat},AllF P n w0 w1 rc Q tb l F f0 k os ps→∀ i o,os[i]? = some o→∃ q p,ps[i]? = some (q,p)∧cond q (StepQ P n w0 w1 rc Q l F f0 (k+i) o p) (StepF P n w0 w1 rc Q tb l F f0 (k+i) o p)
 | o::os,(q,p)::ps,k,h,0,o',hi=>by simp at hi;subst hi;exact ⟨q,p,rfl,h.1⟩
 | o::os,(_,_)::ps,k,h,i+1,o',hi=>by
  obtain ⟨q,p,hq,hs⟩:=AllF.get h.2 i o' (by simpa using hi)
  exact ⟨q,p,by simpa using hq,by rw[← Nat.add_assoc,Nat.add_right_comm];exact hs⟩
 | [],_,_,_,i,o',hi=>by simp at hi
 | o::os,[],_,h,_,_,_=>h.elim
structure IF_ (w0 w1:World) (rc:List Res) (tb:Tb) (l:List Oper) (F:List (Bool×Pv)) (f0:Nat→Value) (D:Nat→Bool) (f:Nat→Value) (W:World):Prop where
 res:∃ rs,AL D tb f rs∧St w0 W (rs++rc)
 bl:Below w1.heap.size w1 W
 vals:∀ j d,j<l.length→D j=true→aW l j=some d→(F.getD j (true,Pv.any)).2.p f (f d)
 keep:∀ t,(∀ j,j<l.length→D j=true→aW l j≠some t)→f t=f0 t
theorem aD3 {D:Nat→Bool} {i:Nat} {f:Nat→Value}:∀ {tb:Tb} {rs:List Res},(∀ e∈tb,isO e.2.1 i=true→live D e.1 e.2.1=true)→AL D tb f rs→∃ ru ro,rs.Perm (ru++ro)∧US i tb f ru∧∀ (D':Nat→Bool) (f':Nat→Value),(∀ j,D' j=cond (Nat.beq j i) true (D j))→D i=false→(∀ e∈tb,live D e.1 e.2.1=true→∀ r,e.2.2.p f r→e.2.2.p f' r) →
   ∀ rm,MK i tb f' rm→(∀ e∈tb,isO e.1 i=true→isO e.2.1 i=false)→(∀ e∈tb,isO e.1 i=true→live D' e.1 e.2.1=true)→∃ rs',AL D' tb f' rs'∧rs'.Perm (rm++ro)
 | [],rs,_,h=>⟨[],[],by rw[show rs=[] from h];exact List.Perm.refl _,rfl,fun D' f' _ _ _ rm hm _ _=>⟨[],rfl,by rw[show rm=[] from hm];exact List.Perm.refl _⟩⟩
 | (m,u,p)::tb,rs,hu,h=>by
  have hu':∀ e∈tb,isO e.2.1 i=true→live D e.1 e.2.1=true:=fun e he=>hu e (mem_cons_of_mem _ he)
  unfold AL at h
  cases hl:live D m u with
  | false=>
   rw[hl] at h
   simp only[cond_false] at h
   have hui:isO u i=false:=by
    cases hb:isO u i with
    | false=>rfl
    | true=>have:=hu _ mem_cons_self hb;rw[hl] at this;cases this
   obtain ⟨ru,ro,hp,hus,hk⟩:=aD3 hu' h
   refine ⟨ru,ro,hp,by unfold US;rw[hui];exact hus,fun D' f' hD hDi hpf rm hmk hmu hml => ?_⟩
   unfold MK at hmk
   cases hmi:isO m i with
   | true=>
    rw[hmi] at hmk
    simp only[cond_true] at hmk
    obtain ⟨r,rm2,rfl,hr,hmk⟩:=hmk
    obtain ⟨rs',ha,hpe⟩:=hk D' f' hD hDi (fun e he=>hpf e (mem_cons_of_mem _ he)) rm2 hmk (fun e he=>hmu e (mem_cons_of_mem _ he)) (fun e he=>hml e (mem_cons_of_mem _ he))
    refine ⟨r::rs',?_,by rw[cons_append];exact hpe.cons r⟩
    unfold AL
    rw[hml _ mem_cons_self hmi]
    exact ⟨r,rs',rfl,hr,ha⟩
   | false=>
    rw[hmi] at hmk
    simp only[cond_false] at hmk
    obtain ⟨rs',ha,hpe⟩:=hk D' f' hD hDi (fun e he=>hpf e (mem_cons_of_mem _ he)) rm hmk (fun e he=>hmu e (mem_cons_of_mem _ he)) (fun e he=>hml e (mem_cons_of_mem _ he))
    refine ⟨rs',?_,hpe⟩
    unfold AL
    have:live D' m u=false:=by
     rw[← hl]
     unfold live
     have e1:∀ x,isO (some x) i=false→D' x=D x:=fun x hx=>by rw[hD];have:Nat.beq x i=false:=hx;rw[this];rfl
     cases m with
     | none=>cases u with
      | none=>rfl
      | some y=>simp only[e1 y hui]
     | some x=>cases u with
      | none=>simp only[e1 x hmi]
      | some y=>simp only[e1 x hmi,e1 y hui]
    rw[this];exact ha
  | true=>
   rw[hl] at h
   simp only[cond_true] at h
   obtain ⟨r,rs2,rfl,hr,h⟩:=h
   obtain ⟨ru,ro,hp,hus,hk⟩:=aD3 hu' h
   have hmi:D i=false→isO m i=false:=fun hDi=>by
    cases m with
    | none=>rfl
    | some x=>
     cases hb:Nat.beq x i with
     | false=>exact hb
     | true=>
      have e:=Nat.eq_of_beq_eq_true hb
      subst e
      simp[live,hDi] at hl
   cases hui:isO u i with
   | true=>
    refine ⟨r::ru,ro,by rw[cons_append];exact hp.cons r,by unfold US;rw[hui];exact ⟨r,ru,rfl,hr,hus⟩,fun D' f' hD hDi hpf rm hmk hmu hml => ?_⟩
    unfold MK at hmk
    rw[hmi hDi] at hmk
    obtain ⟨rs',ha,hpe⟩:=hk D' f' hD hDi (fun e he=>hpf e (mem_cons_of_mem _ he)) rm hmk (fun e he=>hmu e (mem_cons_of_mem _ he)) (fun e he=>hml e (mem_cons_of_mem _ he))
    refine ⟨rs',?_,hpe⟩
    unfold AL
    have:live D' m u=false:=by
     cases u with
     | none=>cases hui
     | some y=>
      have:D' y=true:=by rw[hD];have:Nat.beq y i=true:=hui;rw[this];rfl
      unfold live
      simp[this]
    rw[this];exact ha
   | false=>
    refine ⟨ru,r::ro,(hp.cons r).trans perm_middle.symm,by unfold US;rw[hui];exact hus,fun D' f' hD hDi hpf rm hmk hmu hml => ?_⟩
    unfold MK at hmk
    have hm0:=hmi hDi
    rw[hm0] at hmk
    obtain ⟨rs',ha,hpe⟩:=hk D' f' hD hDi (fun e he=>hpf e (mem_cons_of_mem _ he)) rm hmk (fun e he=>hmu e (mem_cons_of_mem _ he)) (fun e he=>hml e (mem_cons_of_mem _ he))
    refine ⟨r::rs',?_,(hpe.cons r).trans perm_middle.symm⟩
    unfold AL
    have:live D' m u=true:=by
     rw[← hl]
     unfold live
     have e1:∀ x,isO (some x) i=false→D' x=D x:=fun x hx=>by rw[hD];have:Nat.beq x i=false:=hx;rw[this];rfl
     cases m with
     | none=>cases u with
      | none=>rfl
      | some y=>simp only[e1 y hui]
     | some x=>cases u with
      | none=>simp only[e1 x hm0]
      | some y=>simp only[e1 x hm0,e1 y hui]
    rw[this]
    exact ⟨r,rs',rfl,hpf _ mem_cons_self hl r hr,ha⟩
theorem keepF {tb:Tb} {l:List Oper} {F:List (Bool×Pv)} {f0:Nat→Value} (ho:OrdOk n l) (htb:tbOk l tb=true) (hpv:pvOk l F tb=true) (hs:AllF P n w0 w1 rc Q tb l F f0 0 l F):KeepI P n Q l (IF_ w0 w1 rc tb l F f0):=by
 constructor
 intro i o D f W hol hDi hdep hdown hI
 have hiN:i<l.length:=(gsi_.1 hol).1
 obtain ⟨q,p,hp,hstep⟩:=hs.get i o hol
 rw[Nat.zero_add] at hstep
 have hpF:F.getD i (true,Pv.any)=(q,p):=by rw[getD_eq_getElem?_getD,hp];rfl
 have hdo:aW l i=o.dst:=by simp[aW,hol]
 rw[tbOk,all_eq_true] at htb
 rw[pvOk,all_eq_true] at hpv
 obtain ⟨rs,hAL,hst⟩:=hI.res
 have hdp:∀ j d,aU3 l 2 i j=true→aW l j=some d→(F.getD j (true,Pv.any)).2.p f (f d):=fun j d hj hd=>hI.vals j d (by
  unfold aW at hd
  cases hq:l[j]? with
  | none=>rw[hq] at hd;cases hd
  | some x=>exact (gsi_.1 hq).1) (lB hdown 2 i j hdep hj) hd
 have hkp:∀ t,kJ l i t=true→f t=f0 t:=fun t hk=>by
  refine hI.keep t (fun j hjN hj hd => ?_)
  unfold kJ at hk
  rw[all_eq_true] at hk
  have:=hk j (by simpa using hjN)
  rw[hd] at this
  simp only[eF,Bool.not_true,Bool.or_false,Bool.or_eq_true] at this
  rcases this with h | h
  ·rw[Nat.eq_of_beq_eq_true h,hDi] at hj;cases hj
  have:=hdown j i hj h
  rw[hDi] at this;cases this
 have hput:∀ v t,o.dst≠some t→dE f o.dst v t=f t:=by
  intro v t h
  cases hod:o.dst with
  | none=>rfl
  | some d'=>
   simp only[dE,upd]
   rw[hX (fun e'=>h (by rw[hod,e']))];rfl
 -- slots that are looked at are not this one's
 have hslot:∀ j own,D j=true∨(own=false∧j=i)→∀ t,aL0 l j own t=true→o.dst≠some t:=by
  intro j own hj t ht e
  unfold aL0 at ht
  rw[Bool.or_eq_true] at ht
  rcases ht with ht | ht
  ·exact nV ht i hiN (by rw[hdo];exact e)
  rw[any_eq_true] at ht
  obtain ⟨k,hkN,h2⟩:=ht
  rw[mem_range] at hkN
  rw[Bool.and_eq_true] at h2
  have hkd:aW l k=some t:=by
   have:=h2.2
   split at this
   ·next d hd=>rw[hd,Nat.eq_of_beq_eq_true this]
   cases this
  have hkD:D k=true:=by
   have h3:=h2.1
   rw[Bool.or_eq_true,Bool.and_eq_true] at h3
   rcases hj with hj | ⟨rfl,rfl⟩
   ·rcases h3 with h3 | h3
    ·rw[Nat.eq_of_beq_eq_true h3.2];exact hj
    exact lB hdown 2 j k (fun m hm=>hdown j m hj hm) h3
   rcases h3 with h3 | h3
   ·cases h3.1
   exact lB hdown 2 j k hdep h3
  have hki:k≠i:=fun e'=>by rw[e',hDi] at hkD;cases hkD
  exact ho.ne k i t hkN hiN hki hkd (by rw[hdo];exact e)
 have hDs:∀ j,eN D i j=cond (Nat.beq j i) true (D j):=fun _=>rfl
 have hpc:∀ v W',(∃ rs',AL (eN D i) tb (dE f o.dst v) rs'∧St w0 W' (rs'++rc))→Below w1.heap.size w1 W'→p.p f v→IF_ w0 w1 rc tb l F f0 (eN D i) (dE f o.dst v) W':=by
  intro v W' hr hb hv
  refine ⟨hr,hb,?_,?_⟩
  ·intro j d hjN hj hd
   by_cases e:j=i
   ·subst e
    rw[hpF]
    rw[hdo] at hd
    have e3:dE f o.dst v d=v:=by rw[hd];simp only[dE,upd,eF,cond_true]
    rw[e3]
    refine p.fr (fun t ht => ?_) hv
    have h1:=hpv j (by simpa using hjN)
    rw[hpF,Bool.and_eq_true,all_eq_true] at h1
    exact (hput v t (hslot j false (.inr ⟨rfl,rfl⟩) t (h1.1 t ht))).symm
   have hjD:D j=true:=by rw[hDs,hX e] at hj;exact hj
   have hold:=hI.vals j d hjN hjD hd
   rw[hput v d (fun e'=>ho.ne j i d hjN hiN e hd (by rw[hdo];exact e'))]
   refine (F.getD j (true,Pv.any)).2.fr (fun t ht => ?_) hold
   have h1:=hpv j (by simpa using hjN)
   rw[Bool.and_eq_true,all_eq_true] at h1
   exact (hput v t (hslot j false (.inl hjD) t (h1.1 t ht))).symm
  intro t hk
  have hne:o.dst≠some t:=by rw[← hdo];exact hk i hiN (by rw[hDs,eF];rfl)
  rw[hput v t hne]
  refine hI.keep t (fun j hjN hj=>hk j hjN ?_)
  rw[hDs]
  cases Nat.beq j i with
  | true=>rfl
  | false=>exact hj
 have hlv:∀ e∈tb,live D e.1 e.2.1=true→∀ v r,e.2.2.p f r→e.2.2.p (dE f o.dst v) r:=by
  intro e he hl v r hr
  refine e.2.2.fr (fun t ht => ?_) hr
  have h1:=htb e he
  rw[Bool.and_eq_true] at h1
  obtain ⟨h1,_⟩:=h1
  cases hm:e.1 with
  | none=>
   rw[hm] at h1
   simp only[all_eq_true] at h1
   exact (hput v t (fun e'=>nV (h1 t ht) i hiN (by rw[hdo];exact e'))).symm
  | some j=>
   rw[hm] at h1 hl
   simp only[Bool.and_eq_true,all_eq_true] at h1
   unfold live at hl
   rw[Bool.and_eq_true] at hl
   exact (hput v t (hslot j true (.inl hl.1) t (h1.2 t ht))).symm
 cases q with
 | true=>
  simp only[cond_true] at hstep
  have hno:∀ e∈tb,isO e.1 i=false∧isO e.2.1 i=false:=by
   have h1:=hpv i (by simpa using hiN)
   rw[hpF,Bool.and_eq_true] at h1
   have h2:=h1.2
   simp only[Bool.not_true,Bool.false_or,all_eq_true,Bool.and_eq_true,Bool.not_eq_true'] at h2
   exact h2
  have hAL2:∀ v,AL (eN D i) tb (dE f o.dst v) rs:=by
   intro v
   have key:∀ (tb:Tb) (rs:List Res),(∀ e∈tb,isO e.1 i=false∧isO e.2.1 i=false)→(∀ e∈tb,live D e.1 e.2.1=true→∀ r,e.2.2.p f r→e.2.2.p (dE f o.dst v) r)→AL D tb f rs→AL (eN D i) tb (dE f o.dst v) rs:=by
    intro tb
    induction tb with
    | nil=>intro rs _ _ h;exact h
    | cons e tb ih=>
     obtain ⟨m,u,p⟩:=e
     intro rs h1 h2 h
     have hm:=(h1 _ mem_cons_self).1
     have hu:=(h1 _ mem_cons_self).2
     have e1:∀ x,isO (some x) i=false→eN D i x=D x:=fun x hx=>by rw[hDs];have:Nat.beq x i=false:=hx;rw[this];rfl
     have hl:live (eN D i) m u=live D m u:=by
      unfold live
      cases m with
      | none=>cases u with
       | none=>rfl
       | some y=>simp only[e1 y hu]
      | some x=>cases u with
       | none=>simp only[e1 x hm]
       | some y=>simp only[e1 x hm,e1 y hu]
     unfold AL at h ⊢
     rw[hl]
     cases hlv2:live D m u with
     | true=>
      rw[hlv2] at h
      obtain ⟨r,rs2,e,hr,h⟩:=h
      exact ⟨r,rs2,e,h2 _ mem_cons_self hlv2 r hr,ih rs2 (fun x hx=>h1 x (mem_cons_of_mem _ hx)) (fun x hx=>h2 x (mem_cons_of_mem _ hx)) h⟩
     | false=>
      rw[hlv2] at h
      exact ih rs (fun x hx=>h1 x (mem_cons_of_mem _ hx)) (fun x hx=>h2 x (mem_cons_of_mem _ hx)) h
   exact key tb rs hno (fun e he hl r hr=>hlv e he hl v r hr) hAL
  have hrc:St w0 W rc:=by have:=hst.sub (sublist_append_right rs rc);exact this
  have h1:=hstep f W hrc hI.bl hdp hkp
  have hfin:∀ v W',Below W.heap.size W W'∧p.p f v→IF_ w0 w1 rc tb l F f0 (eN D i) (dE f o.dst v) W':=fun v W' h=>hpc v W' ⟨rs,hAL2 v,by simpa using hst.call (St.of_below h.1)⟩ (hI.bl.trans (h.1.mono hI.bl.size)) h.2
  cases hg:o.guard with
  | none=>
   rw[hg] at h1
   have:onR l f o=true:=by unfold onR;rw[hg]
   rw[this]
   exact Stp.mono h1 hfin
  | some jw=>
   rw[hg] at h1
   simp only at h1
   cases hon:onR l f o with
   | true=>rw[hon] at h1;exact Stp.mono h1 hfin
   | false=>rw[hon] at h1;exact hfin undef W ⟨Below.refl _ _,h1⟩
 | false=>
  simp only[cond_false] at hstep
  have hu:∀ e∈tb,isO e.2.1 i=true→live D e.1 e.2.1=true:=by
   intro e he hui
   have h1:=htb e he
   rw[Bool.and_eq_true] at h1
   obtain ⟨_,h1⟩:=h1
   cases hu2:e.2.1 with
   | none=>rw[hu2] at hui;cases hui
   | some y=>
    rw[hu2] at h1 hui
    have hyi:y=i:=Nat.eq_of_beq_eq_true hui
    subst hyi
    rw[Bool.and_eq_true] at h1
    unfold live
    simp only[hDi,Bool.not_false,Bool.and_true]
    cases hm:e.1 with
    | none=>rfl
    | some x=>
     rw[hm] at h1
     exact lB hdown 2 y x hdep h1.2
  obtain ⟨ru,ro,hpe,hus,hk⟩:=aD3 hu hAL
  have hmu:∀ e∈tb,isO e.1 i=true→isO e.2.1 i=false:=by
   intro e he hmi
   cases hb:isO e.2.1 i with
   | false=>rfl
   | true=>
    have:=hu e he hb
    cases hm:e.1 with
    | none=>rw[hm] at hmi;cases hmi
    | some x=>
     rw[hm] at hmi this
     have e:=Nat.eq_of_beq_eq_true (show Nat.beq x i=true from hmi)
     subst e
     simp[live,hDi] at this
  have hml:∀ e∈tb,isO e.1 i=true→live (eN D i) e.1 e.2.1=true:=by
   intro e he hmi
   have hui:=hmu e he hmi
   have h1:=htb e he
   rw[Bool.and_eq_true] at h1
   obtain ⟨_,h1⟩:=h1
   cases hm:e.1 with
   | none=>rw[hm] at hmi;cases hmi
   | some x=>
    rw[hm] at hmi h1
    have hxi:x=i:=Nat.eq_of_beq_eq_true hmi
    subst hxi
    unfold live
    have e1:eN D x x=true:=by rw[hDs,eF];rfl
    simp only[e1,Bool.true_and]
    cases hu2:e.2.1 with
    | none=>rfl
    | some y=>
     rw[hu2] at h1 hui
     simp only[Bool.and_eq_true] at h1
     have hyx:Nat.beq y x=false:=hui
     show (!eN D x y)=true
     rw[hDs,hyx]
     simp only[cond_false]
     cases hy:D y with
     | false=>rfl
     | true=>
      exfalso
      have:=lB hdown 2 y x (fun m hm=>hdown y m hy hm) h1.2
      rw[hDi] at this;cases this
  have hst2:St w0 W (ru++(rc++ro)):=by
   refine hst.perm (List.Perm.trans ?_ (hpe.symm.append_right rc))
   rw[append_assoc]
   exact (List.Perm.refl ru).append perm_append_comm
  have h1:=hstep f W ru ro hus hst2 hI.bl hdp hkp
  have hfin:∀ v W',bG4 w0 w1 rc tb f i o p ro v W'→IF_ w0 w1 rc tb l F f0 (eN D i) (dE f o.dst v) W':=by
   rintro v W' ⟨hv,⟨rm,hmk,hs2⟩,hb⟩
   obtain ⟨rs',ha,hp2⟩:=hk (eN D i) (dE f o.dst v) hDs hDi (fun e he hl r hr=>hlv e he hl v r hr) rm hmk hmu hml
   refine hpc v W' ⟨rs',ha,hs2.perm ?_⟩ hb hv
   refine (hp2.append_right rc).trans ?_
   rw[append_assoc]
   exact (List.Perm.refl rm).append perm_append_comm
  cases hg:o.guard with
  | none=>
   rw[hg] at h1
   have:onR l f o=true:=by unfold onR;rw[hg]
   rw[this]
   exact Stp.mono h1 hfin
  | some jw=>
   rw[hg] at h1
   simp only at h1
   cases hon:onR l f o with
   | true=>rw[hon] at h1;exact Stp.mono h1 hfin
   | false=>rw[hon] at h1;exact hfin undef W h1
theorem nI {id:Nat} {l:List Oper} (k:Nat) (tb:Tb) {W:World} {f0:Nat→Value} (F:List (Bool×Pv)) (hm:P.follows .mixedOrders=true) (ho:qX n (l.take k)=true) (hT:((l.drop k).isEmpty || oU (l.take k) (l.drop k))=true) (htb:tbOk (l.take k) tb=true) (hpv:pvOk (l.take k) F tb=true)
  {rs0:List Res} (h0:AL (fun _=>false) tb f0 rs0) (hst:St w0 W (rs0++rc)) (hb:Below w1.heap.size w1 W) (hs:AllF P n w0 w1 rc Q tb (l.take k) F f0 0 (l.take k) F)
  (fin:∀ f W' rs',AL (fun _=>true) tb f rs'→St w0 W' (rs'++rc)→Below w1.heap.size w1 W'→(∀ i d,i<(l.take k).length→aW (l.take k) i=some d→(F.getD i (true,Pv.any)).2.p f (f d))→(∀ t,kW (l.take k) t=true→f t=f0 t)→Wl P l.toArray Q (l.drop k) n f W') :
  (Code.region id l.toArray true).wp P Q (act n f0) W:=by
 have hbd:Below W.heap.size W { W with drawn:=W.drawn+1 }:=(Below.refl _ _).drew
 refine wQ k (IF_ w0 w1 rc tb (l.take k) F f0) hm ho hT ⟨⟨rs0,h0,by simpa using hst.call (St.of_below hbd)⟩,hb.trans (hbd.mono hb.size),fun j d _ h=>(nomatch h),fun _ _=>rfl⟩ (keepF (OrdOk.of ho) htb hpv hs) ?_
 intro D f W' hD hI
 obtain ⟨rs',hAL,hst'⟩:=hI.res
 have hAt:AL (fun _=>true) tb f rs':=by
  have key:∀ (tb:Tb) (rs:List Res),(∀ e∈tb,(∀ i,e.1=some i→i<(l.take k).length)∧(∀ i,e.2.1=some i→i<(l.take k).length))→AL D tb f rs→AL (fun _=>true) tb f rs:=by
   intro tb
   induction tb with
   | nil=>intro rs _ h;exact h
   | cons e tb ih=>
    obtain ⟨m,u,p⟩:=e
    intro rs h1 h
    have hl:live (fun _=>true) m u=live D m u:=by
     unfold live
     have h2:=h1 _ mem_cons_self
     cases m with
     | none=>cases u with
      | none=>rfl
      | some y=>simp only[hD y (h2.2 y rfl)]
     | some x=>cases u with
      | none=>simp only[hD x (h2.1 x rfl)]
      | some y=>simp only[hD x (h2.1 x rfl),hD y (h2.2 y rfl)]
    unfold AL at h ⊢
    rw[hl]
    cases hlv2:live D m u with
    | true=>
     rw[hlv2] at h
     obtain ⟨r,rs2,e,hr,h⟩:=h
     exact ⟨r,rs2,e,hr,ih rs2 (fun x hx=>h1 x (mem_cons_of_mem _ hx)) h⟩
    | false=>
     rw[hlv2] at h
     exact ih rs (fun x hx=>h1 x (mem_cons_of_mem _ hx)) h
  refine key tb rs' ?_ hAL
  intro e he
  rw[tbOk,all_eq_true] at htb
  have h1:=htb e he
  rw[Bool.and_eq_true] at h1
  refine ⟨fun i hi => ?_,fun i hi => ?_⟩
  ·rw[hi] at h1;have:=h1.1;simp only[Bool.and_eq_true] at this;exact lR this.1
  rw[hi] at h1;have:=h1.2;simp only[Bool.and_eq_true] at this;exact lR this.1
 exact fin f W' rs' hAt hst' hI.bl (fun i d hi hd=>hI.vals i d hi (hD i hi) hd) (fun t ht=>hI.keep t (fun i hi _=>nV ht i hi))
theorem mq_ {A P:Prop} (z:A) (h:A→P:=by intro z f W hst hbl hd hf;exact bX (Eq.trans (hf _ (by rfl)) z) brq):P:=h z
theorem fq_ {A B P:Prop} (y:B) (z:A) (h:B→A→P:=by intro y z f W hst hbl hd hf;exact fL y (Eq.trans (hf _ (by rfl)) z) brq):P:=h y z
end
end Go.Proofs.YtanpcpoogkdlaaaGreat
namespace Go.Proofs.YtanpcpoogkdlaaaGreat
set_option linter.unusedSimpArgs false
set_option linter.unusedVariables false
set_option maxHeartbeats 1000000
set_option maxHeartbeats 2000000
open Go.RowKit Go.Proofs.Tryz List

def bO3 (l:List Oper) (j t:Nat):Bool:=
 match aW l j with
 | some d=>Nat.beq d t
 | none=>false
theorem isDst_ok {l:List Oper} {j t:Nat} (h:bO3 l j t=true):aW l j=some t:=by
 unfold bO3 at h
 split at h
 ·next d hd=>rw[hd,Nat.eq_of_beq_eq_true h]
 cases h
def lkD (n:Nat) (l:List Oper) (E0 V:List (Nat×SV)) (i:Nat):Operand→Option SV
 | .tmp t=>cond (Nat.ble (t+1) n) (match (List.range l.length).find? (fun j=>dep l i j && bO3 l j t) with
  | some j=>lku V j
  | none=>cond (kJ l i t) (lku E0 t) none) none
 | .const v=>some (one (.vl v))
 | .global _=>none
 | .func g=>some (one (.vl (.func (.func g) #[] #[])))
def isX:Op→Bool
 | .alloc _ | .box _ _ | .buildSlice _ _ _ | .store _ _ _ | .makeSlice _ _ _=>true
 | .call ⟨.value (.func _),_,_⟩=>true
 | .call ⟨.value (.tmp _),_,_⟩=>true
 | .call ⟨.builtin .append,_,_⟩=>true
 | .call ⟨.builtin .copy,_,_⟩=>true
 | .call ⟨.builtin .clear,_,_⟩=>true
 | _=>false
def bN0 (l:List Oper) (done:List Nat) (p:Op→Bool):Option Nat:=
 (List.range l.length).find? fun i => !done.contains i && (match l[i]? with
  | some o=>p o.op
  | none=>false) && (List.range l.length).all fun j => !dep l i j || done.contains j
def aB9 (l:List Oper):Nat→List Nat→List Nat
 | 0,_=>[]
 | k+1,done=>match bN0 l done (fun o => !isX o) with
  | some i=>i::aB9 l k (i::done)
  | none=>match bN0 l done (fun _=>true) with
   | some i=>i::aB9 l k (i::done)
   | none=>[]
def cK {α:Type u} (V:List (Nat×α)):List Nat:=V.map (·.1)
def bI4 (l:List Oper) (j:Nat):List Nat:=(List.range l.length).foldl (fun acc i=>cond (acc.any fun k=>dep l i k) (i::acc) acc) [j]
def aX2 (l:List Oper) (is:List Nat) (i:Nat):Bool:=is.all fun q=>(bI4 l i).contains q
def slJ (l:List Oper) (j:Nat):Bool:=
 match l[j]? with
 | some o=>bO2 o.op
 | none=>false
def pnd (l:List Oper) (done:List Nat) (i:Nat) (g:Bool):List Nat:=cond g [] (done.filter fun j => !(bI4 l j).contains i && !slJ l j)
section
variable {P:Program} {A:Type} {R:A→Prop}
def grdD (V:List (Nat×SV)) (o:Oper) (d:D P R) (K:Bool→List (Nat×SV)→D P R→Tr):Tr:=
 match o.guard with
 | none=>K true V d
 | some (j,w)=>opt (lku V j) fun v=>match v with
  | .on (.ce (.bo e))=>bl (.bo e) d fun r d=>K (onB w r) ((j,one (.vl (.bool r)))::V) d
  | .on (.ce c)=>K (match yl c.val with
   | some b=>onB w b
   | none=>false) V d
  | .on (.ag _) => .no
  | .tu _ => .no
def rrT (P:Program) {A:Type} {R:A→Prop} (n:Nat) (l:List Oper) (E0 V:List (Nat×SV)) (s:S) (d:D P R):List Nat→Tr→Tr
 | [],k=>k
 | j::js,k=>opt (l[j]?) fun o=>opt (lku V j) fun x => .e0 o.guard.isNone true<|qop P (lkD n l E0 V j) s o.op d fun v _ _ => .e0 v.val x.val (rrT P n l E0 V s d js k)
def reK {P:Program} {A:Type} {R:A→Prop} (d:D P R) (s:S) (K:S→D P R→Tr):Tr:=
 match d with
 | .re i r j xs n _ k=>reT i r j xs n s fun s=>K s k
 | d=>K s d
theorem reK_ok {G:Prop} {d:D P R} {s:S} {K:S→D P R→Tr} {w0 W:World} (h:(reK d s K).holds) (st:St w0 W s.rs) (fa:Facts w0 W s.B)
  (k:∀ s' d',(K s' d').holds→s'.O=s.O→Facts w0 W s'.B→G):G:=by
 unfold reK at h
 split at h
 ·next hn _=>exact bL5 h hn st fa fun s' h _ e2 fa2=>k s' _ h e2 fa2
 exact k _ _ h rfl fa
def drT (P:Program) {A:Type} {R:A→Prop} (n:Nat) (l:List Oper) (E0:List (Nat×SV)):List Nat→List (Nat×SV)→S→D P R→(List (Nat×SV)→S→D P R→Tr)→Tr
 | [],V,s,d,K=>K V s d
 | i::is,V,s,d,K=>opt (l[i]?) fun o => .e0 (lku V i).isNone true<|grdD V o d fun on V d=>match on with
  | true=>nrm d fun d=>match isX o.op && aX2 l is i with
   | true=>reK d s fun s d=>eop P (aT0 o.op && !bH9 d) (lkD n l E0 V i) s o.op d fun v s d'=>rrT P n l E0 ((i,v)::V) s d' (pnd l (cK V) i (aT0 o.op && !bH9 d)) (drT P n l E0 is ((i,v)::V) s d' K)
   | false=>qop P (lkD n l E0 V i) s o.op d fun v s d=>drT P n l E0 is ((i,v)::V) s d K
  | false=>drT P n l E0 is ((i,one (.vl undef))::V) s d K
def uP (l:List Oper) (V:List (Nat×SV)):List Nat→List (Nat×SV)
 | []=>[]
 | j::js=>match aW l j,lku V j with
  | some d,some x=>(d,x)::uP l V js
  | _,_=>uP l V js
def bP7 (P:Program) {A:Type} {R:A→Prop} (n:Nat) (l:List Oper) (s:S) (d:D P R) (K:S→D P R→Tr):Tr:=
 prp d s fun s d => .e0 (P.follows .mixedOrders && qX n l) true <| .e0 ((List.range l.length).all fun i=>(aB9 l l.length []).contains i) true <|
  drT P n l s.E (aB9 l l.length []) [] s d fun V s' d=>K ⟨uP l V (List.range l.length)++s.E,s'.O,s'.B,s'.nx⟩ d

/-! ### It is so -/
def FIa (l:List Oper) (V:List (Nat×SV)) (D:Nat→Bool) (f:Nat→Value):Prop:=∀ j x d,lku V j=some x→D j=true→aW l j=some d→f d=x.val
def FIb (l:List Oper) (f0:Nat→Value) (D:Nat→Bool) (f:Nat→Value):Prop:=∀ t,(∀ j,D j=true→aW l j≠some t)→f t=f0 t
def aD1 (l:List Oper) (D:Nat→Bool):Prop:=∀ j k,D j=true→dep l j k=true→D k=true
theorem zM {n:Nat} {l:List Oper} {E0 V:List (Nat×SV)} {i:Nat} {D:Nat→Bool} {f0 f:Nat→Value} (hE:Fr E0 f0) (hi:D i=false) (hd:∀ j,dep l i j=true→D j=true) (hc:aD1 l D) (ha:FIa l V D f) (hb:FIb l f0 D f) (x:Operand) (u:SV) (e:lkD n l E0 V i x=some u):ev n f x=u.val:=by
 cases x with
 | tmp t=>
  simp only[lkD] at e
  cases hn:Nat.ble (t+1) n with
  | false=>rw[hn] at e;cases e
  | true=>
   rw[hn] at e
   simp only[ev,hn,cond_true] at e ⊢
   split at e
   ·next j hj=>
    have:=find?_some hj
    simp only[Bool.and_eq_true] at this
    exact ha j u t e (hd j this.1) (isDst_ok this.2)
   cases hk:kJ l i t with
   | false=>rw[hk] at e;cases e
   | true=>
    rw[hk] at e
    rw[hb t fun j hj hdj => ?_]
    ·exact hE t u e
    unfold kJ at hk
    rw[all_eq_true] at hk
    have hjl:j<l.length:=by
     unfold aW at hdj
     cases hq:l[j]? with
     | none=>rw[hq] at hdj;cases hdj
     | some o=>exact (gsi_.1 hq).1
    have:=hk j (mem_range.2 hjl)
    rw[hdj] at this
    simp only[eF,Bool.not_true,Bool.or_false,Bool.or_eq_true] at this
    rcases this with h | h
    ·rw[Nat.eq_of_beq_eq_true h] at hj;rw[hj] at hi;cases hi
    have:=hc j i hj h;rw[hi] at this;cases this
 | const v=>simp only[lkD,Option.some.injEq] at e;subst e;rfl
 | global g=>cases e
 | func g=>simp only[lkD,Option.some.injEq] at e;subst e;rfl
theorem pL {l:List Oper} {D:Nat→Bool} (hc:aD1 l D) {i q:Nat} (h:(bI4 l i).contains q=true) (hq:q≠i) (hd:∀ m,dep l q m=true→D m=true):D i=true:=by
 have key:∀ (r acc:List Nat),(∀ q∈acc,(D q=true→D i=true)∧(q=i∨∃ m,dep l q m=true∧(D m=true→D i=true)))→∀ q∈r.foldl (fun acc i=>cond (acc.any fun k=>dep l i k) (i::acc) acc) acc,(D q=true→D i=true)∧(q=i∨∃ m,dep l q m=true∧(D m=true→D i=true)):=by
  intro r
  induction r with
  | nil=>exact fun acc h=>h
  | cons a r ih=>
   intro acc h
   refine ih _ ?_
   show ∀ q∈cond (acc.any fun k=>dep l a k) (a::acc) acc,_
   cases ha:acc.any fun k=>dep l a k with
   | false=>exact h
   | true=>
    show ∀ q∈a::acc,_
    intro q hq
    rcases mem_cons.1 hq with rfl | hq
    ·obtain ⟨k,hk,hdk⟩:=any_eq_true.1 ha
     have:=(h k hk).1
     exact ⟨fun hD=>this (hc _ _ hD hdk),.inr ⟨k,hdk,this⟩⟩
    exact h q hq
 have:=key (List.range l.length) [i] (fun q hq=>by rw[mem_singleton] at hq;subst hq;exact ⟨id,.inl rfl⟩) q (by simpa [bI4] using h)
 rcases this.2 with rfl | ⟨m,hm,h2⟩
 ·exact absurd rfl hq
 exact h2 (hd m hm)
def Ext (V V2:List (Nat×SV)):Prop:=∀ j x,lku V j=some x→∃ x',lku V2 j=some x'∧x'.val=x.val
theorem Ext.refl (V:List (Nat×SV)):Ext V V:=fun j x h=>⟨x,h,rfl⟩
theorem Ext.trans {A B C:List (Nat×SV)} (h:Ext A B) (k:Ext B C):Ext A C:=fun j x hx=>by
 obtain ⟨x',h1,h2⟩:=h j x hx
 obtain ⟨x'',h3,h4⟩:=k j x' h1
 exact ⟨x'',h3,h4.trans h2⟩
theorem Ext.new {V:List (Nat×SV)} {i:Nat} {v:SV} (h:lku V i=none):Ext V ((i,v)::V):=fun j x hx=>by
 refine ⟨x,?_,rfl⟩
 unfold lku
 rw[hX (fun e=>by rw[e,h] at hx;cases hx)]
 exact hx
theorem Ext.know {V:List (Nat×SV)} {i:Nat} {v v':SV} (h:lku V i=some v) (e:v'.val=v.val):Ext V ((i,v')::V):=fun j x hx=>by
 by_cases hj:j=i
 ·subst hj
  rw[h] at hx;cases hx
  exact ⟨v',by unfold lku;rw[Nat.beq_refl];rfl,e⟩
 ·exact ⟨x,by unfold lku;rw[hX hj];exact hx,rfl⟩
theorem FIa.of_ext {l:List Oper} {V V2:List (Nat×SV)} {D:Nat→Bool} {f:Nat→Value} (h:FIa l V2 D f) (e:Ext V V2):FIa l V D f:=fun j x d hx hj hd=>by
 obtain ⟨x',h1,h2⟩:=e j x hx
 rw[h j x' d h1 hj hd,h2]
def Pn0 (P:Program) (n:Nat) (Q:Exit→Act→World→Prop) (w0:World) (l:List Oper) (f0:Nat→Value) (V:List (Nat×SV)) (s:S) (W:World) (j:Nat):Prop:=
 ∃ x o,lku V j=some x∧l[j]? = some o∧∀ D f W',D j=false→(∀ k,dep l j k=true→D k=true)→aD1 l D→FIa l V D f→FIb l f0 D f→St w0 W' s.rs→Below W.heap.size W W' →
  cond (onR l f o) (∀ KK:Value→World→Prop,(∀ W'',Below W'.heap.size W' W''→KK x.val W'')→Stp P n o f W' Q KK) (x.val=undef)
theorem Pn0.mono {n:Nat} {Q:Exit→Act→World→Prop} {w0:World} {l:List Oper} {f0:Nat→Value} {V V2:List (Nat×SV)} {s s2:S} {W W2:World} {j:Nat} (h:Pn0 P n Q w0 l f0 V s W j) (e:Ext V V2) (hs:∃ N,s2.O=N++s.O) (hb:Below W.heap.size W W2):Pn0 P n Q w0 l f0 V2 s2 W2 j:=by
 obtain ⟨x,o,h1,h2,h3⟩:=h
 obtain ⟨x',h4,h5⟩:=e j x h1
 refine ⟨x',o,h4,h2,fun D f W' a b c d g st b2 => ?_⟩
 obtain ⟨N,hN⟩:=hs
 have:=h3 D f W' a b c (d.of_ext e) g (st.sub (by rw[S.rs,S.rs,hN,map_append];exact sublist_append_right _ _)) (hb.trans (b2.mono hb.size))
 rw[h5]
 exact this
def Pnd (P:Program) (n:Nat) (Q:Exit→Act→World→Prop) (w0:World) (l:List Oper) (f0:Nat→Value) (V:List (Nat×SV)) (s:S) (W:World) (j:Nat):Prop:=
 Pn0 P n Q w0 l f0 V s W j∧(slJ l j=true→∀ s1 W1,Pn0 P n Q w0 l f0 V s1 W1 j)
theorem Pnd.mono {n:Nat} {Q:Exit→Act→World→Prop} {w0:World} {l:List Oper} {f0:Nat→Value} {V V2:List (Nat×SV)} {s s2:S} {W W2:World} {j:Nat} (h:Pnd P n Q w0 l f0 V s W j) (e:Ext V V2) (hs:∃ N,s2.O=N++s.O) (hb:Below W.heap.size W W2):Pnd P n Q w0 l f0 V2 s2 W2 j:=
 ⟨h.1.mono e hs hb,fun z s1 W1=>(h.2 z s1 W1).mono e ⟨[],rfl⟩ (Below.refl _ _)⟩
theorem Pnd.any {n:Nat} {Q:Exit→Act→World→Prop} {w0:World} {l:List Oper} {f0:Nat→Value} {V V2:List (Nat×SV)} {s s2:S} {W W2:World} {j:Nat} (h:Pnd P n Q w0 l f0 V s W j) (z:slJ l j=true) (e:Ext V V2):Pnd P n Q w0 l f0 V2 s2 W2 j:=
 ⟨(h.2 z s2 W2).mono e ⟨[],rfl⟩ (Below.refl _ _),fun z s1 W1=>(h.2 z s1 W1).mono e ⟨[],rfl⟩ (Below.refl _ _)⟩
def Stg (P:Program) {A:Type} {R:A→Prop} (n:Nat) (l:List Oper) (E0:List (Nat×SV)) (K:List (Nat×SV)→S→D P R→Tr) (is:List Nat) (V:List (Nat×SV)) (s:S) (d:D P R):Prop:=
 match is with
 | []=>(K V s d).holds
 | i::is=>∃ o g,l[i]? = some o∧lku V i=none∧aX2 l is i=true∧(eop P g (lkD n l E0 V i) s o.op d fun v s d=>rrT P n l E0 ((i,v)::V) s d (pnd l (cK V) i g) (drT P n l E0 is ((i,v)::V) s d K)).holds ∧
   ∀ D f,(∀ k,dep l i k=true→D k=true)→FIa l V D f→onR l f o=true
theorem grdD_ok {G:Prop} {n:Nat} {l:List Oper} (ho:OrdOk n l) {V:List (Nat×SV)} {i:Nat} {o:Oper} {d:D P R} {K:Bool→List (Nat×SV)→D P R→Tr} (hi:l[i]? = some o) (h:(grdD V o d K).holds)
  (k:∀ on V2 d',(K on V2 d').holds→Ext V V2→(∀ j,j∈cK V2↔j∈cK V)→(∀ D f,(∀ k,dep l i k=true→D k=true)→FIa l V2 D f→onR l f o=on)→G):G:=by
 unfold grdD at h
 split at h
 ·next hg=>exact k _ _ _ h (Ext.refl V) (fun _=>Iff.rfl) fun D f _ _=>by unfold onR;rw[hg]
 next j w hg=>
 obtain ⟨hdj,dd,hdd⟩:=ho.guard i o j w hi hg
 refine aH h fun v hv h => ?_
 split at h
 ·next e=>
  refine bF2 h fun r d' hr h => ?_
  have hr:e=r:=by simpa [Sc.val] using hr
  subst hr
  refine k _ _ _ h (Ext.know hv rfl) (fun q => ?_) fun D f hd ha => ?_
  ·simp only[cK,map_cons,mem_cons]
   exact ⟨fun h=>h.elim (fun e=>by rw[e];exact mem_map.2 ⟨_,kV hv,rfl⟩) id,.inr⟩
  have:=ha j _ dd (by unfold lku;rw[Nat.beq_refl];rfl) (hd j hdj) hdd
  unfold onR
  rw[hg]
  simp only[hdd]
  rw[this]
  show (some e == some w)=_
  cases e <;> cases w <;> rfl
 ·next c _=>
  refine k _ _ _ h (Ext.refl V) (fun _=>Iff.rfl) fun D f hd ha => ?_
  have:=ha j _ dd hv (hd j hdj) hdd
  unfold onR
  rw[hg]
  simp only[hdd]
  rw[this]
  show (yl c.val == some w)=_
  split
  ·next b hb=>rw[hb];cases b <;> cases w <;> rfl
  next hb=>rw[hb];cases w <;> rfl
 ·exact h.elim
 exact h.elim
theorem lku_none {α:Type u} {V:List (Nat×α)} {j:Nat}:lku V j=none↔j∉cK V:=by
 induction V with
 | nil=>simp[lku,cK]
 | cons p V ih=>
  obtain ⟨i,v⟩:=p
  unfold lku
  by_cases h:j=i
  ·subst h;rw[Nat.beq_refl];simp[cK]
  rw[hX h]
  simp only[cond_false,cK,map_cons,mem_cons,not_or]
  exact ih.trans ⟨fun a=>⟨h,a⟩,fun a=>a.2⟩
theorem aV8 {n:Nat} {l:List Oper} {Q:Exit→Act→World→Prop} {w0 W:World} {E0 V:List (Nat×SV)} {f0:Nat→Value} (hE:Fr E0 f0) {s:S} {d:D P R} (st:St w0 W s.rs) (fa:Facts w0 W s.B) :
  ∀ {js:List Nat} {k:Tr},(rrT P n l E0 V s d js k).holds→(∀ j∈js,Pnd P n Q w0 l f0 V s W j)∧k.holds
 | [],k,h=>⟨fun j hj=>(by cases hj),h⟩
 | j::js,k,h=>aH h fun o ho h=>aH h fun x hx h=>by
  obtain ⟨hg,h⟩:=h
  refine aL9 h st fa fun v s3 d3 h3 e3 e4 fa3 q q2 => ?_
  obtain ⟨hv,h4⟩:=h3
  obtain ⟨h5,h6⟩:=aV8 hE st fa h4
  refine ⟨fun j' hj' => ?_,h6⟩
  rcases mem_cons.1 hj' with rfl | hj'
  ·have p0:∀ {s1:S} {W1:World},QS P (lkD n l E0 V j') o.op w0 W1 s1.rs v→Pn0 P n Q w0 l f0 V s1 W1 j':=fun {s1 W1} q => ?_
   ·exact ⟨p0 q,fun z s1 W1=>p0 (q2 (by unfold slJ at z;rw[ho] at z;exact z) _ _ _)⟩
   refine ⟨x,o,hx,ho,fun D f W' a b c d' e' st' hb => ?_⟩
   have hon:onR l f o=true:=by
    unfold onR
    cases hgg:o.guard with
    | none=>rfl
    | some p=>rw[hgg] at hg;cases hg
   rw[hon]
   intro KK kk
   rw[← hv] at kk
   exact q (d:=o.dst) (ty:=o.type) (pos:=o.pos) (af:=o.after) (g:=o.guard) (zM hE a b c d' e') st' hb (fun W'' _ hb2=>kk W'' hb2)
  exact h5 j' hj'
theorem bR7 {n:Nat} {l:List Oper} (ho:OrdOk n l) {Q:Exit→Act→World→Prop} {w0:World} {E0:List (Nat×SV)} {f0:Nat→Value} (hE:Fr E0 f0) {K:List (Nat×SV)→S→D P R→Tr} {G:Prop} :
  ∀ {is:List Nat} {V:List (Nat×SV)} {s:S} {d:D P R} {W:World},(drT P n l E0 is V s d K).holds→St w0 W s.rs→Facts w0 W s.B →
   (∀ is2 V2 s2 d2,Stg P n l E0 K is2 V2 s2 d2→St w0 W s2.rs→Facts w0 W s2.B→s2.O=s.O→Ext V V2→(∀ j,j∈cK V2∨j∈is2↔j∈cK V∨j∈is)→(∀ j∈is2,j∈is)→(∀ j∈cK V2,j∈cK V∨Pnd P n Q w0 l f0 V2 s2 W j)→G)→G:=by
 intro is
 induction is with
 | nil=>exact fun h st fa k=>k [] _ _ _ h st fa rfl (Ext.refl _) (fun _=>Iff.rfl) (fun _ h=>h) (fun j hj => .inl hj)
 | cons i is ih=>
  intro V s d W h st fa k
  refine aH h fun o hi h => ?_
  obtain ⟨hn,h⟩:=h
  have hn:lku V i=none:=by simpa using hn
  refine grdD_ok ho hi h fun on V2 d2 h2 e2 hk2 hon => ?_
  have hn2:lku V2 i=none:=lku_none.2 fun hm=>lku_none.1 hn ((hk2 i).1 hm)
  have mem3:∀ {v:SV} j,j∈cK ((i,v)::V2)∨j∈is↔j∈cK V∨j∈i::is:=fun {v} j=>by
   simp only[cK,map_cons,mem_cons]
   have:=hk2 j
   simp only[cK] at this
   rw[this]
   constructor
   ·rintro ((h | h) | h)
    ·exact .inr (.inl h)
    ·exact .inl h
    exact .inr (.inr h)
   rintro (h | h | h)
   ·exact .inl (.inr h)
   ·exact .inl (.inl h)
   exact .inr h
  -- a step of what only reads, or is not done at all
  have go:∀ {v:SV} {s3:S} {d3:D P R},(drT P n l E0 is ((i,v)::V2) s3 d3 K).holds→s3.O=s.O→Facts w0 W s3.B→Pnd P n Q w0 l f0 ((i,v)::V2) s3 W i→G:=fun {v s3 d3} h3 eO fa3 hp=>by
   refine ih h3 (by rw[S.rs,eO];exact st) fa3 fun is4 V4 s4 d4 g1 g2 g3 g4 g5 g6 g7 g8=>k is4 V4 s4 d4 g1 g2 g3 (g4.trans eO) (e2.trans ((Ext.new hn2).trans g5)) (fun j=>(g6 j).trans (mem3 j)) (fun j hj=>mem_cons_of_mem _ (g7 j hj)) fun j hj => ?_
   rcases g8 j hj with h | h
   ·simp only[cK,map_cons,mem_cons] at h
    rcases h with rfl | h
    ·exact .inr (hp.mono g5 ⟨[],by rw[g4];rfl⟩ (Below.refl _ _))
    exact .inl ((hk2 j).1 h)
   exact .inr h
  cases on with
  | false=>
   have p0:∀ (s1:S) (W1:World),Pn0 P n Q w0 l f0 ((i,one (.vl undef))::V2) s1 W1 i:=fun s1 W1=>⟨_,o,by unfold lku;rw[Nat.beq_refl];rfl,hi,fun D f W' a b c d' e' st' hb=>by
    rw[hon D f b (d'.of_ext (Ext.new hn2))]
    exact rfl⟩
   exact go h2 rfl fa ⟨p0 _ _,fun _=>p0⟩
  | true=>
   refine cO h2 fun d2 h2 => ?_
   cases hx:isX o.op && aX2 l is i with
   | true=>
    rw[hx] at h2
    rw[Bool.and_eq_true] at hx
    refine reK_ok h2 st fa fun s5 d5 h5 e5 fa5=>(k (i::is) V2 s5 d5 ⟨o,_,hi,hn2,hx.2,h5,fun D f hd ha=>hon D f hd ha⟩ (by rw[S.rs,e5];exact st) fa5 e5 e2 (fun j => ?_) (fun _ h=>h) (fun j hj => .inl ((hk2 j).1 hj)))
    rw[hk2 j]
   | false=>
    rw[hx] at h2
    refine aL9 h2 st fa fun v s3 d3 h3 e3 e4 fa3 q q2 => ?_
    have p0:∀ {s1:S} {W1:World},QS P (lkD n l E0 V2 i) o.op w0 W1 s1.rs v→Pn0 P n Q w0 l f0 ((i,v)::V2) s1 W1 i:=fun {s1 W1} q=>⟨_,o,by unfold lku;rw[Nat.beq_refl];rfl,hi,fun D f W' a b c d' e' st' hb=>by
     have ha2:=d'.of_ext (Ext.new hn2)
     rw[hon D f b ha2]
     intro KK kk
     exact q (d:=o.dst) (ty:=o.type) (pos:=o.pos) (af:=o.after) (g:=o.guard) (zM hE a b c ha2 e') st' hb (fun W'' _ hb2=>kk W'' hb2)⟩
    exact go h3 e4 fa3 ⟨p0 (by rw[S.rs,e4];exact q),fun z s1 W1=>p0 (q2 (by unfold slJ at z;rw[hi] at z;exact z) _ _ _)⟩
def IDr (P:Program) {A:Type} {R:A→Prop} (n:Nat) (Q:Exit→Act→World→Prop) (w0:World) (l:List Oper) (E0:List (Nat×SV)) (f0:Nat→Value) (K:List (Nat×SV)→S→D P R→Tr) (D:Nat→Bool) (f:Nat→Value) (W:World):Prop:=
 ∃ is V s d,Stg P n l E0 K is V s d∧St w0 W s.rs∧Facts w0 W s.B∧FIa l V D f∧FIb l f0 D f∧(∀ j,j<l.length→j∈cK V∨j∈is)∧(∀ j∈is,D j=false)∧(∀ j,D j=true→j∈cK V)∧∀ j∈cK V,D j=false→Pnd P n Q w0 l f0 V s W j
theorem keepDr {n:Nat} {l:List Oper} (ho:OrdOk n l) {Q:Exit→Act→World→Prop} {w0:World} {E0:List (Nat×SV)} {f0:Nat→Value} (hE:Fr E0 f0) {K:List (Nat×SV)→S→D P R→Tr}:KeepI P n Q l (IDr P n Q w0 l E0 f0 K):=by
 refine ⟨fun i o D f W hi hDi hd hc ⟨is,V,s,d,hs,st,fa,ha,hb,hcov,hnd,hkd,hp⟩ => ?_⟩
 have hil:i<l.length:=(gsi_.1 hi).1
 have hc:aD1 l D:=hc
 have setD_t:∀ j,eN D i j=true→j=i∨D j=true:=fun j h=>by
  unfold eN at h
  by_cases hj:j=i
  ·exact .inl hj
  rw[hX hj] at h;exact .inr h
 have setD_f:∀ j,j≠i→eN D i j=D j:=fun j hj=>by unfold eN;rw[hX hj];rfl
 -- the frame behind it
 have frame:∀ {V2:List (Nat×SV)} {x:SV},Ext V V2→(∀ j,D j=true→j∈cK V)→lku V2 i=some x→FIa l V2 (eN D i) (dE f o.dst x.val)∧FIb l f0 (eN D i) (dE f o.dst x.val):=fun {V2 x} hV2 hk hx=>by
  have hdo:aW l i=o.dst:=by unfold aW;rw[hi];rfl
  constructor
  ·intro j u t hu hj ht
   rcases setD_t j hj with rfl | hj
   ·rw[hx] at hu
    cases hu
    rw[hdo] at ht
    rw[ht]
    show upd f t x.val t=x.val
    unfold upd;rw[Nat.beq_refl];rfl
   have hji:j≠i:=fun e=>by rw[e,hDi] at hj;cases hj
   obtain ⟨u0,h0,e0⟩:∃ u0,lku V j=some u0∧u.val=u0.val:=by
    cases hq:lku V j with
    | none=>exact absurd (hk j hj) (lku_none.1 hq)
    | some u0=>
     obtain ⟨u1,h1,h2⟩:=hV2 j u0 hq
     rw[hu] at h1;cases h1
     exact ⟨u0,rfl,h2⟩
   have hf:=ha j u0 t h0 hj ht
   rw[e0,← hf]
   cases hod:o.dst with
   | none=>rfl
   | some t'=>
    show upd f t' x.val t=f t
    unfold upd
    have hjl:j<l.length:=by
     unfold aW at ht
     cases hq:l[j]? with
     | none=>rw[hq] at ht;cases ht
     | some o=>exact (gsi_.1 hq).1
    rw[hX fun e=>ho.ne j i t hjl hil hji ht (by rw[hdo,hod,e])]
    rfl
  intro t ht
  have h1:f t=f0 t:=hb t fun j hj=>ht j (by
   by_cases hji:j=i
   ·rw[hji,hDi] at hj;cases hj
   rw[setD_f j hji];exact hj)
  have h2:aW l i≠some t:=ht i (by unfold eN;rw[Nat.beq_refl];rfl)
  rw[hdo] at h2
  rw[← h1]
  cases hod:o.dst with
  | none=>rfl
  | some t'=>
   show upd f t' x.val t=f t
   unfold upd
   rw[hX fun e=>h2 (by rw[hod,e])]
   rfl
 rcases hcov i hil with hik | his
 ·-- it has been read
  obtain ⟨⟨x,o',hx,ho',hstep⟩,_⟩:=hp i hik hDi
  rw[hi] at ho'
  cases ho'
  have hq:=hstep D f W hDi hd hc ha hb st (Below.refl _ _)
  have next:∀ W'',Below W.heap.size W W''→IDr P n Q w0 l E0 f0 K (eN D i) (dE f o.dst x.val) W'':=fun W'' hb2=>by
   obtain ⟨fa1,fb1⟩:=frame (Ext.refl V) hkd hx
   have st2:St w0 W'' s.rs:=by simpa using st.call (St.of_below hb2)
   refine ⟨is,V,s,d,hs,st2,fa.up hb2,fa1,fb1,hcov,fun j hj => ?_,fun j hj => ?_,fun j hj hDj => ?_⟩
   ·rw[setD_f j fun e => ?_]
    ·exact hnd j hj
    subst e
    match is,hs,hj with
    | i0::is',⟨o0,g0,h1,h2,h3,h4,h5⟩,hj=>
     rcases mem_cons.1 hj with e | hj
     ·subst e;exact lku_none.1 h2 hik
     unfold aX2 at h3
     rw[all_eq_true] at h3
     by_cases e:j=i0
     ·subst e;exact lku_none.1 h2 hik
     have:=pL hc (h3 j hj) e hd
     rw[hnd i0 (by simp)] at this;cases this
   ·rcases setD_t j hj with rfl | hj
    ·exact hik
    exact hkd j hj
   have hji:j≠i:=fun e=>by rw[e] at hDj;unfold eN at hDj;rw[Nat.beq_refl] at hDj;cases hDj
   rw[setD_f j hji] at hDj
   exact (hp j hj hDj).mono (Ext.refl V) ⟨[],rfl⟩ hb2
  cases hon:onR l f o with
  | true=>
   rw[hon] at hq
   exact hq _ fun W'' hb2=>next W'' hb2
  | false=>
   rw[hon] at hq
   have hq:x.val=undef:=hq
   have:=next W (Below.refl _ _)
   rw[hq] at this
   exact this
 -- it is the one that is barred
 match is,hs,his,hcov,hnd with
 | i0::is',⟨o0,g0,h1,h2,h3,h4,h5⟩,his,hcov,hnd=>
  unfold aX2 at h3
  rw[all_eq_true] at h3
  have hii:i=i0:=by
   rcases mem_cons.1 his with e | hm
   ·exact e
   apply Classical.byContradiction
   intro e
   have:=pL hc (h3 i hm) e hd
   rw[hnd i0 (by simp)] at this;cases this
  subst hii
  rw[hi] at h1
  cases h1
  rw[h5 D f hd ha]
  refine aX1 (d:=o.dst) (ty:=o.type) (pos:=o.pos) (af:=o.after) (g:=o.guard) h4 (zM hE hDi hd hc ha hb) st fa fun v s1 d1 W1 h6 e6 g6 st1 fa1 => ?_
  obtain ⟨hrr,h6⟩:=aV8 (Q:=Q) hE st1 fa1 h6
  refine bR7 ho hE (Q:=Q) h6 st1 fa1 fun is2 V2 s2 d2 k1 k2 k3 k4 k5 k6 k7 k8 => ?_
  obtain ⟨x,hx,ex⟩:=k5 i v (by unfold lku;rw[Nat.beq_refl];rfl)
  have hext:Ext V V2:=(Ext.new h2).trans k5
  obtain ⟨fa2,fb2⟩:=frame hext hkd hx
  rw[ex] at fa2 fb2
  refine ⟨is2,V2,s2,d2,k1,k2,k3,fa2,fb2,fun j hj => ?_,fun j hj => ?_,fun j hj => ?_,fun j hj hDj => ?_⟩
  ·refine (k6 j).2 ?_
   rcases hcov j hj with h | h
   ·exact .inl (by simp only[cK,map_cons,mem_cons];exact .inr h)
   rcases mem_cons.1 h with e | h
   ·exact .inl (by simp only[cK,map_cons,mem_cons];exact .inl e)
   exact .inr h
  ·have hj':=k7 j hj
   by_cases e:j=i
   ·subst e
    have:=(k6 j).1 (.inr hj)
    -- it stands among those that are read
    exfalso
    match is2,k1,hj with
    | i2::is3,⟨o2,g2,q1,q2,q3,q4,q5⟩,hj=>
     have hjk:j∈cK V2:=Classical.byContradiction fun h=>by
      rw[lku_none.2 h] at hx;cases hx
     rcases mem_cons.1 hj with e | hj
     ·subst e;exact lku_none.1 q2 hjk
     unfold aX2 at q3
     rw[all_eq_true] at q3
     by_cases e:j=i2
     ·subst e;exact lku_none.1 q2 hjk
     have hb2:=pL hc (q3 j hj) e hd
     rw[hnd i2 (mem_cons_of_mem _ (k7 i2 (by simp)))] at hb2;cases hb2
   rw[setD_f j e]
   exact hnd j (mem_cons_of_mem _ hj')
  ·have hjv:j∈cK ((i,v)::V):=by
    simp only[cK,map_cons,mem_cons]
    rcases setD_t j hj with e | hj
    ·exact .inl e
    exact .inr (hkd j hj)
   apply Classical.byContradiction
   intro hno
   cases hq:lku ((i,v)::V) j with
   | none=>exact lku_none.1 hq hjv
   | some u=>
    obtain ⟨u',hu',_⟩:=k5 j u hq
    rw[lku_none.2 hno] at hu';cases hu'
  rcases k8 j hj with h | h
  ·have hji:j≠i:=fun e=>by rw[e] at hDj;unfold eN at hDj;rw[Nat.beq_refl] at hDj;cases hDj
   rw[setD_f j hji] at hDj
   simp only[cK,map_cons,mem_cons] at h
   rcases h with e | h
   ·exact absurd e hji
   cases hg:g0 with
   | true=>
    obtain ⟨⟨N,hN⟩,hb1⟩:=g6 hg
    exact (hp j h hDj).mono hext ⟨N,by rw[k4,hN]⟩ hb1
   | false=>
    by_cases hcj:(bI4 l j).contains i=true
    ·have:=pL hc hcj (fun e=>hji e.symm) hd
     rw[hDj] at this;cases this
    by_cases hsl:slJ l j=true
    ·exact (hp j h hDj).any hsl hext
    refine (hrr j ?_).mono k5 ⟨[],by rw[k4];rfl⟩ (Below.refl _ _)
    rw[hg]
    show j∈(cK V).filter _
    rw[mem_filter,Bool.and_eq_true]
    exact ⟨h,by simpa using hcj,by simpa using hsl⟩
  exact h
theorem rY {l:List Oper} {V E0:List (Nat×SV)} {t:Nat} {x:SV}:∀ {js:List Nat},(∀ j∈js,j∈cK V)→lku (uP l V js++E0) t=some x→(∃ j,lku V j=some x∧aW l j=some t)∨(lku E0 t=some x∧∀ j∈js,aW l j≠some t)
 | [],_,h => .inr ⟨h,fun j hj=>by cases hj⟩
 | a::js,hc,h=>by
  have ih:=rY (l:=l) (E0:=E0) (t:=t) (x:=x) (js:=js) fun j hj=>hc j (mem_cons_of_mem _ hj)
  cases hda:aW l a with
  | none=>
   have e:uP l V (a::js)=uP l V js:=by simp[uP,hda]
   rw[e] at h
   rcases ih h with h | ⟨h1,h2⟩
   ·exact .inl h
   refine .inr ⟨h1,fun j hj => ?_⟩
   rcases mem_cons.1 hj with rfl | hj
   ·rw[hda];exact fun e=>by cases e
   exact h2 j hj
  | some d=>
   cases hv:lku V a with
   | none=>exact absurd (hc a (by simp)) (lku_none.1 hv)
   | some v=>
    have e:uP l V (a::js)=(d,v)::uP l V js:=by simp[uP,hda,hv]
    rw[e,cons_append] at h
    unfold lku at h
    by_cases htd:t=d
    ·subst htd
     rw[Nat.beq_refl] at h
     simp only[cond_true,Option.some.injEq] at h
     subst h
     exact .inl ⟨a,hv,hda⟩
    rw[hX htd] at h
    rcases ih h with h | ⟨h1,h2⟩
    ·exact .inl h
    refine .inr ⟨h1,fun j hj => ?_⟩
    rcases mem_cons.1 hj with rfl | hj
    ·rw[hda];exact fun e=>by cases e;exact htd rfl
    exact h2 j hj
theorem drawT_ok {w0 W:World} {n id:Nat} {l:List Oper} {s:S} {d:D P R} {K:S→D P R→Tr} {f:Nat→Value} {Q:Exit→Act→World→Prop} (h:(bP7 P n l s d K).holds) (den:Den w0 s f W) (k:∀ s' d' f' W',(K s' d').holds→Den w0 s' f' W'→Q .normal (act n f') W'):(Code.region id l.toArray true).wp P Q (act n f) W:=by
 refine fN h den fun s1 d1 h1 den1 => ?_
 obtain ⟨h2,h3,h4⟩:=h1
 rw[Bool.and_eq_true] at h2
 rw[all_eq_true] at h3
 have ho:=OrdOk.of h2.2
 let K':List (Nat×SV)→S→D P R→Tr:=fun V s' d=>K ⟨uP l V (List.range l.length)++s1.E,s'.O,s'.B,s'.nx⟩ d
 have hb0:Below W.heap.size W { W with drawn:=W.drawn+1 }:=(Below.refl _ _).drew
 refine wQ l.length (IDr P n Q w0 l s1.E f K') h2.1 (by rw[take_length];exact h2.2) (by rw[drop_length];rfl) ?_ (by rw[take_length];exact keepDr ho den1.fr) ?_
 ·have st0:St w0 { W with drawn:=W.drawn+1 } s1.rs:=by simpa using den1.st.call (St.of_below hb0)
  refine bR7 ho den1.fr (Q:=Q) (K:=K') h4 st0 (den1.fa.up hb0) fun is2 V2 s2 d2 k1 k2 k3 k4 k5 k6 k7 k8=>(⟨is2,V2,s2,d2,k1,k2,k3,fun j x d _ hD _=>(by cases hD),fun t _=>rfl,fun j hj=>(k6 j).2 (.inr (by simpa using h3 j (mem_range.2 hj))),fun _ _=>rfl,fun j hD=>(by cases hD),fun j hj _ => ?_⟩)
  rcases k8 j hj with h | h
  ·cases h
  exact h
 intro D g W' hD ⟨is,V,s2,d2,hs,st,fa,ha,hb,hcov,hnd,hkd,hp⟩
 rw[take_length] at hD
 rw[drop_length]
 match is,hs,hcov,hnd with
 | i0::is',⟨o0,g0,q1,_⟩,hcov,hnd=>
  have:=hD i0 (gsi_.1 q1).1
  rw[hnd i0 (by simp)] at this;cases this
 | [],hs,hcov,hnd=>
  have hs:(K' V s2 d2).holds:=hs
  refine aI (k _ _ _ _ hs ⟨?_,st,fa⟩)
  have hc2:∀ j∈List.range l.length,j∈cK V:=fun j hj=>(hcov j (mem_range.1 hj)).elim (fun h=>h) (fun h=>by cases h)
  intro t x hx
  rcases rY hc2 hx with ⟨j,h5,h6⟩ | ⟨h5,h6⟩
  ·refine ha j x t h5 (hD j ?_) h6
   unfold aW at h6
   cases hq:l[j]? with
   | none=>rw[hq] at h6;cases h6
   | some o=>exact (gsi_.1 hq).1
  rw[hb t fun j hDj hj=>h6 j ?_ hj]
  ·exact den1.fr t x h5
  unfold aW at hj
  cases hq:l[j]? with
  | none=>rw[hq] at hj;cases hj
  | some o=>exact mem_range.2 (gsi_.1 hq).1
end
end Go.Proofs.YtanpcpoogkdlaaaGreat
namespace Go.Proofs.YtanpcpoogkdlaaaGreat
set_option linter.unusedSimpArgs false
set_option linter.unusedVariables false
set_option maxHeartbeats 1000000
set_option maxHeartbeats 2000000
open Go.RowKit Go.Proofs.Tryz List
def aO0 (l:List Oper):List Nat→Bool
 | []=>true
 | i::is=>(match l[i]? with
  | some o => !isX o.op || aX2 l is i
  | none=>true) && aO0 l is
def bI3 (l:List Oper) (done:List Nat) (i:Nat):Bool:=(List.range l.length).all fun j => !dep l i j || done.contains j
def isQ (l:List Oper) (i:Nat):Bool:=
 match l[i]? with
 | some o => !isX o.op
 | none=>false
def bB7 (l:List Oper) (is done:List Nat):Option Nat:=is.find? fun i=>bI3 l done i && isQ l i
def wo (is:List Nat) (i:Nat):List Nat:=is.filter fun j => !Nat.beq j i
theorem mem_wo {is:List Nat} {i j:Nat}:j∈wo is i↔j∈is∧j≠i:=by
 unfold wo
 rw[mem_filter]
 by_cases h:j=i
 ·subst h;simp[Nat.beq_refl]
 simp[h,hX h]
def brA (f:Nat→Tr):List Nat→Tr
 | [] => .ok
 | i::is => .an (f i) (brA f is)
theorem aX3 {f:Nat→Tr}:∀ {is:List Nat},(brA f is).holds→∀ i∈is,(f i).holds
 | [],_,i,hi=>by cases hi
 | a::is,h,i,hi=>by
  rcases mem_cons.1 hi with rfl | hi
  ·exact h.1
  ·exact aX3 h.2 i hi
section
variable {P:Program} {A:Type} {R:A→Prop}
def pmA:D P R→Nat→D P R
 | .pm f,i=>f i
 | d,_=>d
def brT (P:Program) {A:Type} {R:A→Prop} (n:Nat) (l:List Oper) (E0:List (Nat×SV)) (base:Nat) (K:List (Nat×SV)→S→D P R→Tr):Nat→List Nat→List (Nat×SV)→S→D P R→Tr
 | 0,_,_,_,_ => .no
 | m+1,is,V,s,d=>match bB7 l is (cK V) with
  | some i=>opt (l[i]?) fun o => .e0 o.guard.isNone true<|qop P (lkD n l E0 V i) s o.op d fun v s d=>brT P n l E0 base K m (wo is i) ((i,v)::V) s d
  | none=>match is with
   | []=>K V ⟨s.E,s.O,s.B,base+20*l.length⟩ d
   | _::_=>brA (fun i=>opt (l[i]?) fun o => .e0 o.guard.isNone true <| .e0 (lku V i).isNone true<|nrm (pmA d i) fun d=>eop P (aT0 o.op && !bH9 d) (lkD n l E0 V i) ⟨s.E,s.O,s.B,base+20*i⟩ o.op d fun v s d'=>
     rrT P n l E0 ((i,v)::V) s d' (pnd l ((cK V).filter (isQ l)) i (aT0 o.op && !bH9 d)) (brT P n l E0 base K m (wo is i) ((i,v)::V) s d')) (is.filter (bI3 l (cK V)))
def bP8 (P:Program) {A:Type} {R:A→Prop} (n:Nat) (l:List Oper) (s:S) (d:D P R) (K:S→D P R→Tr):Tr:=
 prp d s fun s d => .e0 (P.follows .mixedOrders && qX n l) true <|
  brT P n l s.E s.nx (fun V s' d=>K ⟨uP l V (List.range l.length)++s.E,s'.O,s'.B,s'.nx⟩ d) (l.length+1) (List.range l.length) [] s d
theorem aR3 {l:List Oper} {f:Nat→Value} {o:Oper} (h:o.guard.isNone=true):onR l f o=true:=by
 unfold onR
 cases hg:o.guard with
 | none=>rfl
 | some p=>rw[hg] at h;cases h
theorem bF7 {n:Nat} {l:List Oper} {Q:Exit→Act→World→Prop} {w0:World} {E0:List (Nat×SV)} {f0:Nat→Value} (hE:Fr E0 f0) {base:Nat} {K:List (Nat×SV)→S→D P R→Tr} {G:Prop} :
  ∀ {m:Nat} {is:List Nat} {V:List (Nat×SV)} {s:S} {d:D P R} {W:World},(brT P n l E0 base K m is V s d).holds→St w0 W s.rs→Facts w0 W s.B→(∀ j∈is,j∉cK V) →
   (∀ m2 is2 V2 s2 d2,(brT P n l E0 base K m2 is2 V2 s2 d2).holds→bB7 l is2 (cK V2)=none→St w0 W s2.rs→Facts w0 W s2.B→s2.O=s.O→Ext V V2→(∀ j,j∈cK V2∨j∈is2↔j∈cK V∨j∈is)→(∀ j∈is2,j∉cK V2)→(∀ j∈is2,j∈is)→(∀ j∈cK V2,j∈cK V∨isQ l j=true∧Pnd P n Q w0 l f0 V2 s2 W j)→G)→G:=by
 intro m
 induction m with
 | zero=>exact fun h _ _ _ _=>h.elim
 | succ m ih=>
  intro is V s d W h st fa hd k
  cases hq:bB7 l is (cK V) with
  | none=>exact k (m+1) is V s d h hq st fa rfl (Ext.refl V) (fun _=>Iff.rfl) hd (fun _ h=>h) (fun j hj => .inl hj)
  | some i=>
   have h':=h
   unfold brT at h
   rw[hq] at h
   refine aH h fun o hi h => ?_
   obtain ⟨hg,h⟩:=h
   have his:i∈is:=mem_of_find?_eq_some hq
   have hn:lku V i=none:=lku_none.2 (hd i his)
   refine aL9 h st fa fun v s3 d3 h3 e3 e4 fa3 q q2 => ?_
   have mem3:∀ j,j∈cK ((i,v)::V)∨j∈wo is i↔j∈cK V∨j∈is:=fun j=>by
    simp only[cK,map_cons,mem_cons,mem_wo]
    constructor
    ·rintro ((e | h) | ⟨h,_⟩)
     ·exact .inr (e▸his)
     ·exact .inl h
     exact .inr h
    rintro (h | h)
    ·exact .inl (.inr h)
    by_cases e:j=i
    ·exact .inl (.inl e)
    exact .inr ⟨h,e⟩
   have hd3:∀ j∈wo is i,j∉cK ((i,v)::V):=fun j hj hm=>by
    obtain ⟨h1,h2⟩:=mem_wo.1 hj
    simp only[cK,map_cons,mem_cons] at hm
    rcases hm with e | hm
    ·exact h2 e
    exact hd j h1 hm
   refine ih h3 (by rw[S.rs,e4];exact st) fa3 hd3 fun m4 is4 V4 s4 d4 g1 g2 g3 g4 g5 g6 g7 g8 g9 g10=>k m4 is4 V4 s4 d4 g1 g2 g3 g4 (g5.trans e4) ((Ext.new hn).trans g6) (fun j=>(g7 j).trans (mem3 j)) g8 (fun j hj=>(mem_wo.1 (g9 j hj)).1) fun j hj => ?_
   rcases g10 j hj with h | h
   ·simp only[cK,map_cons,mem_cons] at h
    rcases h with rfl | h
    ·have hqq:isQ l j=true:=by
      have:=find?_some hq
      simp only[Bool.and_eq_true] at this
      exact this.2
     have p0:∀ {s1:S} {W1:World},QS P (lkD n l E0 V j) o.op w0 W1 s1.rs v→Pn0 P n Q w0 l f0 ((j,v)::V) s1 W1 j:=fun {s1 W1} q=>⟨v,o,by unfold lku;rw[Nat.beq_refl];rfl,hi,fun D f W' a b c d' e' st' hb=>by
      have ha2:=d'.of_ext (Ext.new hn)
      rw[aR3 hg]
      intro KK kk
      exact q (d:=o.dst) (ty:=o.type) (pos:=o.pos) (af:=o.after) (g:=o.guard) (zM hE a b c ha2 e') st' hb (fun W'' _ hb2=>kk W'' hb2)⟩
     exact .inr ⟨hqq,Pnd.mono (V:=(j,v)::V) (s:=s3) (W:=W) ⟨p0 (by rw[S.rs,e4];exact q),fun z s1 W1=>p0 (q2 (by unfold slJ at z;rw[hi] at z;exact z) _ _ _)⟩ g6 ⟨[],by rw[g5];rfl⟩ (Below.refl _ _)⟩
    exact .inl h
   exact .inr h
def IBr (P:Program) {A:Type} {R:A→Prop} (n:Nat) (Q:Exit→Act→World→Prop) (w0:World) (l:List Oper) (E0:List (Nat×SV)) (f0:Nat→Value) (base:Nat) (K:List (Nat×SV)→S→D P R→Tr) (D:Nat→Bool) (f:Nat→Value) (W:World):Prop:=
 ∃ m is V s d,(brT P n l E0 base K m is V s d).holds∧bB7 l is (cK V)=none∧St w0 W s.rs∧Facts w0 W s.B∧FIa l V D f∧FIb l f0 D f∧(∀ j,j<l.length→j∈cK V∨j∈is)∧(∀ j∈is,j∉cK V)∧(∀ j∈is,D j=false)∧(∀ j,D j=true→j∈cK V)∧∀ j∈cK V,D j=false→isQ l j=true∧Pnd P n Q w0 l f0 V s W j
theorem keepBr {n:Nat} {l:List Oper} (ho:OrdOk n l) {Q:Exit→Act→World→Prop} {w0:World} {E0:List (Nat×SV)} {f0:Nat→Value} (hE:Fr E0 f0) {base:Nat} {K:List (Nat×SV)→S→D P R→Tr}:KeepI P n Q l (IBr P n Q w0 l E0 f0 base K):=by
 refine ⟨fun i o D f W hi hDi hd hc ⟨m,is,V,s,d,hs,hnq,st,fa,ha,hb,hcov,hdj,hnd,hkd,hp⟩ => ?_⟩
 have hil:i<l.length:=(gsi_.1 hi).1
 have hc:aD1 l D:=hc
 have setD_t:∀ j,eN D i j=true→j=i∨D j=true:=fun j h=>by
  unfold eN at h
  by_cases hj:j=i
  ·exact .inl hj
  rw[hX hj] at h;exact .inr h
 have setD_f:∀ j,j≠i→eN D i j=D j:=fun j hj=>by unfold eN;rw[hX hj];rfl
 have frame:∀ {V2:List (Nat×SV)} {x:SV},Ext V V2→(∀ j,D j=true→j∈cK V)→lku V2 i=some x→FIa l V2 (eN D i) (dE f o.dst x.val)∧FIb l f0 (eN D i) (dE f o.dst x.val):=fun {V2 x} hV2 hk hx=>by
  have hdo:aW l i=o.dst:=by unfold aW;rw[hi];rfl
  constructor
  ·intro j u t hu hj ht
   rcases setD_t j hj with rfl | hj
   ·rw[hx] at hu
    cases hu
    rw[hdo] at ht
    rw[ht]
    show upd f t x.val t=x.val
    unfold upd;rw[Nat.beq_refl];rfl
   have hji:j≠i:=fun e=>by rw[e,hDi] at hj;cases hj
   obtain ⟨u0,h0,e0⟩:∃ u0,lku V j=some u0∧u.val=u0.val:=by
    cases hq:lku V j with
    | none=>exact absurd (hk j hj) (lku_none.1 hq)
    | some u0=>
     obtain ⟨u1,h1,h2⟩:=hV2 j u0 hq
     rw[hu] at h1;cases h1
     exact ⟨u0,rfl,h2⟩
   have hf:=ha j u0 t h0 hj ht
   rw[e0,← hf]
   cases hod:o.dst with
   | none=>rfl
   | some t'=>
    show upd f t' x.val t=f t
    unfold upd
    have hjl:j<l.length:=by
     unfold aW at ht
     cases hq:l[j]? with
     | none=>rw[hq] at ht;cases ht
     | some o=>exact (gsi_.1 hq).1
    rw[hX fun e=>ho.ne j i t hjl hil hji ht (by rw[hdo,hod,e])]
    rfl
  intro t ht
  have h1:f t=f0 t:=hb t fun j hj=>ht j (by
   by_cases hji:j=i
   ·rw[hji,hDi] at hj;cases hj
   rw[setD_f j hji];exact hj)
  have h2:aW l i≠some t:=ht i (by unfold eN;rw[Nat.beq_refl];rfl)
  rw[hdo] at h2
  rw[← h1]
  cases hod:o.dst with
  | none=>rfl
  | some t'=>
   show upd f t' x.val t=f t
   unfold upd
   rw[hX fun e=>h2 (by rw[hod,e])]
   rfl
 rcases hcov i hil with hik | his
 ·obtain ⟨hqi,⟨x,o',hx,ho',hstep⟩,_⟩:=hp i hik hDi
  rw[hi] at ho'
  cases ho'
  have hq:=hstep D f W hDi hd hc ha hb st (Below.refl _ _)
  have next:∀ W'',Below W.heap.size W W''→IBr P n Q w0 l E0 f0 base K (eN D i) (dE f o.dst x.val) W'':=fun W'' hb2=>by
   obtain ⟨fa1,fb1⟩:=frame (Ext.refl V) hkd hx
   have st2:St w0 W'' s.rs:=by simpa using st.call (St.of_below hb2)
   refine ⟨m,is,V,s,d,hs,hnq,st2,fa.up hb2,fa1,fb1,hcov,hdj,fun j hj => ?_,fun j hj => ?_,fun j hj hDj => ?_⟩
   ·rw[setD_f j fun e=>hdj j hj (e▸hik)]
    exact hnd j hj
   ·rcases setD_t j hj with rfl | hj
    ·exact hik
    exact hkd j hj
   have hji:j≠i:=fun e=>by rw[e] at hDj;unfold eN at hDj;rw[Nat.beq_refl] at hDj;cases hDj
   rw[setD_f j hji] at hDj
   exact ⟨(hp j hj hDj).1,(hp j hj hDj).2.mono (Ext.refl V) ⟨[],rfl⟩ hb2⟩
  cases hon:onR l f o with
  | true=>
   rw[hon] at hq
   exact hq _ fun W'' hb2=>next W'' hb2
  | false=>
   rw[hon] at hq
   have hq:x.val=undef:=hq
   have:=next W (Below.refl _ _)
   rw[hq] at this
   exact this
 -- one of those that are barred by none
 have hen:bI3 l (cK V) i=true:=by
  unfold bI3
  rw[all_eq_true]
  intro j _
  cases hdp:dep l i j with
  | false=>rfl
  | true=>simpa using hkd j (hd j hdp)
 cases m with
 | zero=>exact hs.elim
 | succ m=>
  unfold brT at hs
  rw[hnq] at hs
  match is,hs,his,hcov,hdj,hnd with
  | [],_,his,_,_,_=>cases his
  | i0::is0,hs,his,hcov,hdj,hnd=>
   have h1:=aX3 hs i (mem_filter.2 ⟨his,hen⟩)
   refine aH h1 fun o1 ho1 h2 => ?_
   rw[hi] at ho1
   cases ho1
   obtain ⟨hg,hn,h3⟩:=h2
   have hn:lku V i=none:=by simpa using hn
   rw[aR3 hg]
   refine cO h3 fun d' h4=>(aX1 (s:=⟨s.E,s.O,s.B,base+20*i⟩) (d:=o.dst) (ty:=o.type) (pos:=o.pos) (af:=o.after) (g:=o.guard) h4 (zM hE hDi hd hc ha hb) st fa fun v s1 d1 W1 h6 e6 g6 st1 fa1 => ?_)
   obtain ⟨hrr,h6⟩:=aV8 (Q:=Q) hE st1 fa1 h6
   have hd3:∀ j∈wo (i0::is0) i,j∉cK ((i,v)::V):=fun j hj hm=>by
    obtain ⟨h1,h2⟩:=mem_wo.1 hj
    simp only[cK,map_cons,mem_cons] at hm
    rcases hm with e | hm
    ·exact h2 e
    exact hdj j h1 hm
   refine bF7 hE (Q:=Q) h6 st1 fa1 hd3 fun m2 is2 V2 s2 d2 k1 k2 k3 k4 k5 k6 k7 k8 k9 k10 => ?_
   obtain ⟨x,hx,ex⟩:=k6 i v (by unfold lku;rw[Nat.beq_refl];rfl)
   have hext:Ext V V2:=(Ext.new hn).trans k6
   obtain ⟨fa2,fb2⟩:=frame hext hkd hx
   rw[ex] at fa2 fb2
   refine ⟨m2,is2,V2,s2,d2,k1,k2,k3,k4,fa2,fb2,fun j hj => ?_,k8,fun j hj => ?_,fun j hj => ?_,fun j hj hDj => ?_⟩
   ·refine (k7 j).2 ?_
    rcases hcov j hj with h | h
    ·exact .inl (by simp only[cK,map_cons,mem_cons];exact .inr h)
    by_cases e:j=i
    ·exact .inl (by simp only[cK,map_cons,mem_cons];exact .inl e)
    exact .inr (mem_wo.2 ⟨h,e⟩)
   ·obtain ⟨h1,h2⟩:=mem_wo.1 (k9 j hj)
    rw[setD_f j h2]
    exact hnd j h1
   ·have hjv:j∈cK ((i,v)::V):=by
     simp only[cK,map_cons,mem_cons]
     rcases setD_t j hj with e | hj
     ·exact .inl e
     exact .inr (hkd j hj)
    apply Classical.byContradiction
    intro hno
    cases hq:lku ((i,v)::V) j with
    | none=>exact lku_none.1 hq hjv
    | some u=>
     obtain ⟨u',hu',_⟩:=k6 j u hq
     rw[lku_none.2 hno] at hu';cases hu'
   rcases k10 j hj with h | h
   ·have hji:j≠i:=fun e=>by rw[e] at hDj;unfold eN at hDj;rw[Nat.beq_refl] at hDj;cases hDj
    rw[setD_f j hji] at hDj
    simp only[cK,map_cons,mem_cons] at h
    rcases h with e | h
    ·exact absurd e hji
    cases hgg:(aT0 o.op && !bH9 d') with
    | true=>
     obtain ⟨⟨N,hN⟩,hb1⟩:=g6 hgg
     exact ⟨(hp j h hDj).1,(hp j h hDj).2.mono hext ⟨N,by rw[k5,hN]⟩ hb1⟩
    | false=>
     by_cases hcj:(bI4 l j).contains i=true
     ·have:=pL hc hcj (fun e=>hji e.symm) hd
      rw[hDj] at this;cases this
     by_cases hsl:slJ l j=true
     ·exact ⟨(hp j h hDj).1,(hp j h hDj).2.any hsl hext⟩
     refine ⟨(hp j h hDj).1,(hrr j ?_).mono k6 ⟨[],by rw[k5];rfl⟩ (Below.refl _ _)⟩
     rw[hgg]
     show j∈((cK V).filter (isQ l)).filter _
     rw[mem_filter,mem_filter,Bool.and_eq_true]
     exact ⟨⟨h,(hp j h hDj).1⟩,by simpa using hcj,by simpa using hsl⟩
   exact h
theorem drawB_ok {w0 W:World} {n id:Nat} {l:List Oper} {s:S} {d:D P R} {K:S→D P R→Tr} {f:Nat→Value} {Q:Exit→Act→World→Prop} (h:(bP8 P n l s d K).holds) (den:Den w0 s f W) (k:∀ s' d' f' W',(K s' d').holds→Den w0 s' f' W'→Q .normal (act n f') W'):(Code.region id l.toArray true).wp P Q (act n f) W:=by
 refine fN h den fun s1 d1 h1 den1 => ?_
 obtain ⟨h2,h4⟩:=h1
 rw[Bool.and_eq_true] at h2
 have ho:=OrdOk.of h2.2
 let K':List (Nat×SV)→S→D P R→Tr:=fun V s' d=>K ⟨uP l V (List.range l.length)++s1.E,s'.O,s'.B,s'.nx⟩ d
 have hb0:Below W.heap.size W { W with drawn:=W.drawn+1 }:=(Below.refl _ _).drew
 refine wQ l.length (IBr P n Q w0 l s1.E f s1.nx K') h2.1 (by rw[take_length];exact h2.2) (by rw[drop_length];rfl) ?_ (by rw[take_length];exact keepBr ho den1.fr) ?_
 ·have st0:St w0 { W with drawn:=W.drawn+1 } s1.rs:=by simpa using den1.st.call (St.of_below hb0)
  refine bF7 den1.fr (Q:=Q) (K:=K') h4 st0 (den1.fa.up hb0) (fun j _ h=>by cases h) fun m2 is2 V2 s2 d2 k1 k2 k3 k4 k5 k6 k7 k8 k9 k10 => ?_
  refine ⟨m2,is2,V2,s2,d2,k1,k2,k3,k4,fun j x d _ hD _=>(by cases hD),fun t _=>rfl,fun j hj=>(k7 j).2 (.inr (mem_range.2 hj)),k8,fun _ _=>rfl,fun j hD=>(by cases hD),fun j hj _ => ?_⟩
  rcases k10 j hj with h | h
  ·cases h
  exact h
 intro D g W' hD ⟨m,is,V,s2,d2,hs,hnq,st,fa,ha,hb,hcov,hdj,hnd,hkd,hp⟩
 rw[take_length] at hD
 rw[drop_length]
 cases m with
 | zero=>exact hs.elim
 | succ m=>
  unfold brT at hs
  rw[hnq] at hs
  match is,hs,hcov,hnd with
  | i0::is',hs,hcov,hnd=>
   exfalso
   have hi0:=hnd i0 (by simp)
   by_cases hlt:i0<l.length
   ·rw[hD i0 hlt] at hi0;cases hi0
   -- a number beyond the list bars nothing
   have hen:bI3 l (cK V) i0=true:=by
    unfold bI3
    rw[all_eq_true]
    intro j _
    have:dep l i0 j=false:=by
     unfold dep
     rw[getElem?_eq_none aA]
     rfl
    rw[this];rfl
   have h1:=aX3 hs i0 (mem_filter.2 ⟨by simp,hen⟩)
   rw[getElem?_eq_none aA] at h1
   exact h1.elim
  | [],hs,hcov,hnd=>
   have hs:(K' V ⟨s2.E,s2.O,s2.B,s1.nx+20*l.length⟩ d2).holds:=hs
   refine aI (k _ _ _ _ hs ⟨?_,st,fa⟩)
   have hc2:∀ j∈List.range l.length,j∈cK V:=fun j hj=>(hcov j (mem_range.1 hj)).elim (fun h=>h) (fun h=>by cases h)
   intro t x hx
   rcases rY hc2 hx with ⟨j,h5,h6⟩ | ⟨h5,h6⟩
   ·refine ha j x t h5 (hD j ?_) h6
    unfold aW at h6
    cases hq:l[j]? with
    | none=>rw[hq] at h6;cases h6
    | some o=>exact (gsi_.1 hq).1
   rw[hb t fun j hDj hj=>h6 j ?_ hj]
   ·exact den1.fr t x h5
   unfold aW at hj
   cases hq:l[j]? with
   | none=>rw[hq] at hj;cases hj
   | some o=>exact mem_range.2 (gsi_.1 hq).1
end
end Go.Proofs.YtanpcpoogkdlaaaGreat
namespace Go.Proofs.YtanpcpoogkdlaaaGreat
set_option linter.unusedSimpArgs false
set_option linter.unusedVariables false
set_option maxHeartbeats 1000000
set_option maxHeartbeats 2000000
open Go.RowKit Go.Proofs.Tryz List

/-! ### States of loops -/
def hdOf (O:List (Nat×Ob)) (B:List (Nat×Bool×Bo)) (j:Nat):Hd:=
 match lku O j with
 | some (.own _ h _ _)=>h
 | some (.row _ _ h _ _)=>h
 | some (.rs _ h _ _ _ _ _ _ _)=>h
 | some (.rz _ _ h _ _ _ _ _)=>h
 | _=>match lku B j with
  | some (_,.sl _ h _ _)=>h
  | _=>⟨none,0,0⟩
def ptOf (O:List (Nat×Ob)) (B:List (Nat×Bool×Bo)) (j o:Nat):Sc:=
 match lku O j with
 | some (.bx b pre _ _ _) => .pt j b pre.length o
 | _=>match lku B j with
  | some (_,.rg b k _) => .pt j b k o
  | some (_,.el _ _ _ b k _) => .pt j b k o
  | _ => .vl undef
def tcS (O:List (Nat×Ob)) (B:List (Nat×Bool×Bo)):Tc→Sc
 | .v x => .vl x
 | .b e => .bo e
 | .p j o=>ptOf O B j o
 | .r j => .rf j (hdOf O B j)
def tvS (O:List (Nat×Ob)) (B:List (Nat×Bool×Bo)):Tv→SV
 | .c x=>one (tcS O B x)
 | .a l => .on (.ag (l.map (tcS O B)))
def pick {α:Type u}:List Nat→List (Nat×α)→List (Nat×α)
 | [],_=>[]
 | j::js,O=>match lku O j with
  | some o=>(j,o)::pick js O
  | none=>pick js O
def aY8 (G:Nat→Hd×List Nat):List (Nat×To)→List (Nat×Ob)
 | []=>[]
 | (j,.own i xs)::l=>(j,.own i (G j).1 xs (G j).2)::aY8 G l
 | (j,.row i e xs)::l=>(j,.row i e (G j).1 xs (G j).2)::aY8 G l
 | (_,.bx _)::l=>aY8 G l
def toBx (s:S) (O1:List (Nat×Ob)):List (Nat×To)→List (Nat×Ob)
 | []=>[]
 | (j,.bx cs)::l=>match lku s.O j with
  | some (.bx b pre _ post t)=>(j,.bx b pre (cs.map (tcS O1 s.B)) post t)::toBx s O1 l
  | _=>toBx s O1 l
 | _::l=>toBx s O1 l
def qO:Code→List Nat
 | .region _ ops _=>ops.toList.filterMap (·.dst)
 | .seq a b=>qO a++qO b
 | .cond _ a b=>qO a++qO b
 | .block _ c=>qO c
 | .loop c=>qO c
 | _=>[]
def reC (OT:List (Nat×Ob)):Sc→Sc
 | .rf j h=>cond (OT.any fun q=>Nat.beq j q.1) (.rf j (hdOf OT [] j)) (.rf j h)
 | c=>c
def isR (OT:List (Nat×Ob)):Sc→Bool
 | .rf j _=>OT.any fun q=>Nat.beq j q.1
 | _=>false
def reV (OT:List (Nat×Ob)):SV→Option SV
 | .on (.ce c)=>some (.on (.ce (reC OT c)))
 | .on (.ag l)=>cond (l.any (isR OT)) none (some (.on (.ag l)))
 | .tu _=>none
def reO (OT:List (Nat×Ob)):Ob→Ob
 | .bx b pre cs post t => .bx b pre (cs.map (reC OT)) post t
 | o=>o
def bD1 (OT:List (Nat×Ob)):List (Nat×SV)→List Nat→List (Nat×SV)
 | [],_=>[]
 | (t,v)::E,l=>cond (l.any fun q=>Nat.beq t q) (bD1 OT E l) (match reV OT v with
  | some v=>(t,v)::bD1 OT E (t::l)
  | none=>bD1 OT E (t::l))
def pickE (OT:List (Nat×Ob)) (av ks:List Nat) (E:List (Nat×SV)):List (Nat×SV):=
 match ks with
 | k::ks=>cond (Nat.beq k 777777) (bD1 OT E (ks++av)) (pick (k::ks) E)
 | ks=>pick ks E
def pickO (OT:List (Nat×Ob)) (TO:List (Nat×To)) (ko:List Nat) (O:List (Nat×Ob)):List (Nat×Ob):=
 match ko with
 | [k]=>cond (Nat.beq k 777777) ((O.filter fun p => !(TO.any fun q=>Nat.beq p.1 q.1)).map fun p=>(p.1,reO OT p.2)) (pick [k] O)
 | ko=>pick ko O
def pickB (kb:List Nat) (B:List (Nat×Bool×Bo)):List (Nat×Bool×Bo):=
 match kb with
 | [k]=>cond (Nat.beq k 777777) (lasting B) (pick [999999,k] B)
 | kb=>pick (999999::kb) B
def ist (av:List Nat) (s:S) (ks ko kb:List Nat) (TE:List (Nat×Tv)) (TO:List (Nat×To)) (G:Nat→Hd×List Nat):S:=
 let OT:=aY8 G TO
 let O1:=OT++pickO OT TO ko s.O
 let O2:=toBx s O1 TO++O1
 ⟨TE.map (fun p=>(p.1,tvS O2 s.B p.2))++pickE OT av ks s.E,O2,pickB kb s.B,s.nx⟩
def sgm (sg:List (Nat×Nat)) (j:Nat):Nat:=(lku sg j).getD j
def ghs (O:List (Nat×Ob)) (sg:List (Nat×Nat)) (j:Nat):Hd×List Nat:=
 match lku O (sgm sg j) with
 | some (.own _ h _ fp)=>(h,fp)
 | some (.row _ _ h _ fe)=>(h,fe)
 | _=>(⟨none,0,0⟩,[])
def fitE (E:List (Nat×SV)):List (Nat×SV)→Tr→Tr
 | [],k=>k
 | (t,x)::l,k=>match lku E t with
  | some y => .e0 y.val x.val (fitE E l k)
  | none => .no
def fitB (B:List (Nat×Bool×Bo)):List (Nat×Bool×Bo)→Tr→Tr
 | [],k=>k
 | (j,l,b)::r,k=>match lku B j with
  | some (l',b') => .e1 b' b (.e0 (l' || !l) true (fitB B r k))
  | none => .no
def fitO (sg:List (Nat×Nat)):List (Nat×Ob)→List (Nat×Ob)→Tr→Tr
 | _,[],k=>k
 | O,(j,ob)::r,k=>match lku O (sgm sg j) with
  | some ob' => .e0 ob'.res ob.res (fitO sg (bZ O (sgm sg j)) r k)
  | none => .no
def fit (s T:S) (sg:List (Nat×Nat)) (k:Tr):Tr:=fitE s.E T.E (fitB s.B T.B (fitO sg s.O T.O k))
theorem bE0 {E:List (Nat×SV)} {f:Nat→Value} (hf:Fr E f):∀ {T:List (Nat×SV)} {k:Tr},(fitE E T k).holds→Fr T f∧k.holds
 | [],k,h=>⟨fun t x hx=>(by cases hx),h⟩
 | (t,x)::l,k,h=>by
  unfold fitE at h
  split at h
  ·next y hy=>
   obtain ⟨h1,h2⟩:=h
   obtain ⟨h3,h4⟩:=bE0 hf h2
   exact ⟨h3.know t x ((hf t y hy).trans h1),h4⟩
  ·exact h.elim
theorem bE1 {w0 W:World} {B:List (Nat×Bool×Bo)} (hb:Below w0.heap.size w0 W) (fa:Facts w0 W B):∀ {T:List (Nat×Bool×Bo)} {k:Tr},(fitB B T k).holds→Facts w0 W T∧k.holds
 | [],k,h=>⟨fun e he=>(by cases he),h⟩
 | (j,l,b)::r,k,h=>by
  unfold fitB at h
  split at h
  ·next l' b' hj=>
   obtain ⟨rfl,h1,h2⟩:=h
   obtain ⟨h3,h4⟩:=bE1 hb fa h2
   refine ⟨fun e he => ?_,h4⟩
   rcases mem_cons.1 he with rfl | he
   ·have:=fa _ (kV hj)
    cases l' with
    | true=>
     cases l with
     | true=>exact this
     | false=>exact Bo.up hb this
    | false=>
     cases l with
     | true=>cases h1
     | false=>exact this
   ·exact h3 e he
  ·exact h.elim
theorem bD9 {w0 W:World} {sg:List (Nat×Nat)}:∀ {T O:List (Nat×Ob)} {k:Tr} {rs:List Res},(fitO sg O T k).holds→St w0 W (Or O++rs)→St w0 W (Or T++rs)∧k.holds
 | [],O,k,rs,h,st=>⟨st.sub (sublist_append_right _ _),h⟩
 | (j,ob)::r,O,k,rs,h,st=>by
  unfold fitO at h
  split at h
  ·next ob' hj=>
   obtain ⟨h1,h2⟩:=h
   have st2:St w0 W (Or (bZ O (sgm sg j))++(ob'.res::rs)):=(st.take hj).perm perm_middle
   rw[h1] at st2
   obtain ⟨h3,h4⟩:=bD9 h2 st2
   exact ⟨h3.perm (perm_middle (a:=ob.res) (l₁:=Or r) (l₂:=rs)).symm,h4⟩
  ·exact h.elim
theorem aX0 {w0 W:World} {s T:S} {sg:List (Nat×Nat)} {k:Tr} {f:Nat→Value} (h:(fit s T sg k).holds) (den:Den w0 s f W):Den w0 T f W∧k.holds:=by
 obtain ⟨h1,h⟩:=bE0 den.fr h
 obtain ⟨h2,h⟩:=bE1 den.st.below den.fa h
 have st:St w0 W (Or s.O++[]):=by simpa [Or,S.rs] using den.st
 obtain ⟨h3,h⟩:=bD9 h st
 exact ⟨⟨h1,by simpa [Or,S.rs] using h3,h2⟩,h⟩
section
variable {P:Program} {A:Type} {R:A→Prop}
def unT (K:Exit→S→D P R→Tr) (c:(Exit→S→D P R→Tr)→S→D P R→Tr):Nat→S→D P R→Tr
 | 0,_,_ => .no
 | m+1,s,d=>c (fun e s' d'=>match e with
  | .normal=>unT K c m s' d'
  | e=>K e s' d') s d
def lpC {Γ:Type} (K:Exit→S→D P R→Tr) (c:(Exit→S→D P R→Tr)→S→D P R→Tr) (av:List Nat) (s:S) (J:Γ→Prop) (m:Γ→Nat) (ks ko kb:List Nat) (TE:Γ→List (Nat×Tv)) (TO:Γ→List (Nat×To)) (g:Γ) (sg:List (Nat×Nat)) (k:∀ g,J g→Tok J m (m g)→D P R):Tr:=
   .an (fit s (ist av s ks ko kb (TE g) (TO g) (ghs s.O sg)) sg .ok) <|
    .fn fun g:Γ => .fp (J g) fun hJ => .fn fun G:Nat→Hd×List Nat=>c (fun e s' d'=>match e with
     | .normal=>prp d' s' fun s' d'=>match d' with
      | .nx (J:=J') (m:=m') (c:=c') _ g' _ _ sg' => .e1 (⟨J',m',c'⟩:Lsp) ⟨J,m,m g⟩ <| .fp ((⟨J',m',c'⟩:Lsp)=⟨J,m,m g⟩) fun he=>
        fit s' (ist av s ks ko kb (TE (cast (congrArg Lsp.Γ he) g')) (TO (cast (congrArg Lsp.Γ he) g')) (ghs s'.O sg')) sg' .ok
      | _ => .no
     | e=>K e s' d') (ist av s ks ko kb (TE g) (TO g) G) (k g hJ ⟨⟩)
def jnT {Δ:Type} (av:List Nat) (s:S) (Je:Δ→Prop) (ks ko kb:List Nat) (TE:Δ→List (Nat×Tv)) (TO:Δ→List (Nat×To)) (s':S) (d':D P R):Tr:=
 prp d' s' fun s' d'=>match d' with
  | .xt Je' g' _ sg' => .e1 (⟨Je'⟩:Jsp) ⟨Je⟩ <| .fp ((⟨Je'⟩:Jsp)=⟨Je⟩) fun he=>fit s' (ist av s ks ko kb (TE (cast (congrArg Jsp.Γ he) g')) (TO (cast (congrArg Jsp.Γ he) g')) (ghs s'.O sg')) sg' .ok
  | _ => .no
theorem bN8 {Δ:Type} {av:List Nat} {w0 W:World} {s:S} {Je:Δ→Prop} {ks ko kb:List Nat} {TE:Δ→List (Nat×Tv)} {TO:Δ→List (Nat×To)} {s':S} {d':D P R} {f:Nat→Value} (h:(jnT av s Je ks ko kb TE TO s' d').holds) (den:Den w0 s' f W) :
  ∃ (g:Δ) (G:Nat→Hd×List Nat),Je g∧Den w0 (ist av s ks ko kb (TE g) (TO g) G) f W:=by
 refine fN h den fun s4 d4 h4 den4 => ?_
 split at h4
 ·next Δ' Je' g' hJ' sg'=>
  obtain ⟨he,h5⟩:=h4
  have h6:=h5 he
  cases he
  obtain ⟨den5,_⟩:=aX0 h6 den4
  exact ⟨g',_,hJ',den5⟩
 exact h4.elim
def jnK {Δ:Type} (K:Exit→S→D P R→Tr) (av:List Nat) (s:S) (ex:Nat) (Je:Δ→Prop) (ks ko kb:List Nat) (TE:Δ→List (Nat×Tv)) (TO:Δ→List (Nat×To)):Exit→S→D P R→Tr
 | .exit i,s',d'=>cond (Nat.beq i ex) (jnT av s Je ks ko kb TE TO s' d') (K (.exit i) s' d')
 | e,s',d'=>K e s' d'
def jcK {Δ:Type} (K:Exit→S→D P R→Tr) (av:List Nat) (s:S) (Je:Δ→Prop) (ks ko kb:List Nat) (TE:Δ→List (Nat×Tv)) (TO:Δ→List (Nat×To)):Exit→S→D P R→Tr
 | .normal,s',d'=>jnT av s Je ks ko kb TE TO s' d'
 | e,s',d'=>K e s' d'
def lpT (K:Exit→S→D P R→Tr) (c:(Exit→S→D P R→Tr)→S→D P R→Tr) (av:List Nat) (s:S) (d:D P R):Tr:=
 prp d s fun s d=>match d with
  | .lp J m ks ko kb TE TO g _ sg k=>lpC K c av s J m ks ko kb TE TO g sg k
  | .lx J m ks ko kb TE TO g _ sg k (Δ:=Δ) Je ex ks2 ko2 kb2 TE2 TO2 k2 => .an (lpC (jnK K av s ex Je ks2 ko2 kb2 TE2 TO2) c av s J m ks ko kb TE TO g sg k) <|
    .fn fun g:Δ => .fp (Je g) fun hJ => .fn fun G:Nat→Hd×List Nat=>K (.exit ex) (ist av s ks2 ko2 kb2 (TE2 g) (TO2 g) G) (k2 g hJ)
  | .ul m k=>unT K c m s k
  | _ => .no
def knw (c:Operand) (r:Bool) (s:S):S:=
 match c with
 | .tmp t=>⟨(t,one (.vl (.bool r)))::s.E,s.O,s.B,s.nx⟩
 | _=>s
def chk (P:Program) {A:Type} {R:A→Prop} (n:Nat):Code→(Exit→S→D P R→Tr)→S→D P R→Tr
 | .skip,K=>K .normal
 | .region _ ops dr,K=>fun s d=>cond dr (cond (aO0 ops.toList (aB9 ops.toList ops.toList.length [])) (bP7 P n ops.toList s d fun s d=>K .normal s d) (bP8 P n ops.toList s d fun s d=>K .normal s d)) (opsT P n ops.toList ops.toList s d fun s d=>K .normal s d)
 | .seq a b,K=>chk P n a fun e s d=>match e with
  | .normal=>chk P n b K s d
  | e=>K e s d
 | .cond c a b,K=>fun s d=>prp d s fun s d=>match d with
  | .jc (Δ:=Δ) Je ks2 ko2 kb2 TE2 TO2 k k2 => .an (prp k s fun s0 d=>opt (opd n s0 c) fun v=>asC v fun x=>bl x d fun r d=>match r with
    | true=>chk P n a (jcK K (qO a++qO b) s Je ks2 ko2 kb2 TE2 TO2) (knw c true s0) d
    | false=>chk P n b (jcK K (qO a++qO b) s Je ks2 ko2 kb2 TE2 TO2) (knw c false s0) d) <|
    .fn fun g:Δ => .fp (Je g) fun hJ => .fn fun G:Nat→Hd×List Nat=>K .normal (ist (qO a++qO b) s ks2 ko2 kb2 (TE2 g) (TO2 g) G) (k2 g hJ)
  | d=>opt (opd n s c) fun v=>asC v fun x=>bl x d fun r d=>match r with
   | true=>chk P n a K (knw c true s) d
   | false=>chk P n b K (knw c false s) d
 | .block id c,K=>chk P n c fun e s d=>match e with
  | .exit i=>cond (Nat.beq i id) (K .normal s d) (K (.exit i) s d)
  | e=>K e s d
 | .loop c,K=>lpT K (chk P n c) (qO c)
 | .exit id,K=>K (.exit id)
 | .ret,K=>K .ret
 | _,_=>fun _ _ => .no
theorem uW {w0:World} {n:Nat}:∀ (c:Code) {K:Exit→S→D P R→Tr} {s:S} {d:D P R} {f:Nat→Value} {W:World} {Q:Exit→Act→World→Prop},(chk P n c K s d).holds→Den w0 s f W →
  (∀ e s' d' f' W',(K e s' d').holds→Den w0 s' f' W'→Q e (act n f') W')→c.wp P Q (act n f) W:=by
 intro c
 induction c with
 | skip=>exact fun h den k=>wp_skip (k _ _ _ _ _ h den)
 | region id ops dr=>
  intro K s d f W Q h den k
  cases dr with
  | true=>
   have h:(cond (aO0 ops.toList (aB9 ops.toList ops.toList.length [])) (bP7 P n ops.toList s d fun s d=>K .normal s d) (bP8 P n ops.toList s d fun s d=>K .normal s d)).holds:=h
   cases hc:aO0 ops.toList (aB9 ops.toList ops.toList.length []) with
   | true=>
    rw[hc] at h
    have:=drawT_ok (id:=id) h den (fun s' d' f' W' h den=>k .normal s' d' f' W' h den)
    simpa using this
   | false=>
    rw[hc] at h
    have:=drawB_ok (id:=id) h den (fun s' d' f' W' h den=>k .normal s' d' f' W' h den)
    simpa using this
  | false=>
   have:=aD (id:=id) (aM2 (fun s' d' f' W' h den=>k .normal s' d' f' W' h den) h den)
   simpa using this
 | seq a b iha ihb=>
  intro K s d f W Q h den k
  refine wp_seq (iha h den fun e s' d' f' W' h' den' => ?_)
  cases e with
  | normal=>exact ihb h' den' k
  | exit id=>exact k _ _ _ _ _ h' den'
  | goto l=>exact k _ _ _ _ _ h' den'
  | ret=>exact k _ _ _ _ _ h' den'
  | panic ch=>exact k _ _ _ _ _ h' den'
  | outgrown=>exact k _ _ _ _ _ h' den'
 | cond c a b iha ihb=>
  intro K s d f W Q h den k
  have step:∀ {K':Exit→S→D P R→Tr} {s1:S} {d1:D P R},(opt (opd n s1 c) fun v=>asC v fun x=>bl x d1 fun r d=>match r with
    | true=>chk P n a K' (knw c true s1) d
    | false=>chk P n b K' (knw c false s1) d).holds→Den w0 s1 f W→(∀ e s' d' f' W',(K' e s' d').holds→Den w0 s' f' W'→Q e (act n f') W')→(Code.cond c a b).wp P Q (act n f) W:=by
   intro K' s1 d1 h1 den1 k'
   refine aH h1 fun v hv h2=>bU h2 fun x hx h3=>bF2 h3 fun r d2 hr h4 => ?_
   subst hx
   have hc:=(aW5 den1.fr c _ hv).trans hr
   have hk:Den w0 (knw c r s1) f W:=by
    clear h4 h3 h2 h1 h
    cases c with
    | tmp t=>
     refine ⟨den1.fr.know t _ ?_,den1.st,den1.fa⟩
     have hv':lku s1.E t=some (one x):=by
      simp only[opd] at hv
      cases hb:Nat.ble (t+1) n with
      | true=>rw[hb] at hv;exact hv
      | false=>rw[hb] at hv;cases hv
     exact (den1.fr t _ hv').trans hr
    | const v=>exact den1
    | global g=>exact den1
    | func g=>exact den1
   cases r with
   | true=>exact xZ hc (fun _=>iha h4 hk k') (fun h=>by cases h)
   | false=>exact xZ hc (fun h=>by cases h) (fun _=>ihb h4 hk k')
  refine fN h den fun s1 d1 h1 den1 => ?_
  split at h1
  ·next Δ Je ks2 ko2 kb2 TE2 TO2 kk k2=>
   obtain ⟨h2,h3⟩:=h1
   refine fN h2 den1 fun s0 d0 h4 den0=>step h4 den0 fun e s' d' f' W' h' den' => ?_
   cases e with
   | normal=>
    obtain ⟨g,G,hJ,den5⟩:=bN8 h' den'
    exact k _ _ _ _ _ (h3 g hJ G) den5
   | exit i=>exact k _ _ _ _ _ h' den'
   | goto l=>exact k _ _ _ _ _ h' den'
   | ret=>exact k _ _ _ _ _ h' den'
   | panic ch=>exact k _ _ _ _ _ h' den'
   | outgrown=>exact k _ _ _ _ _ h' den'
  exact step h1 den1 k
 | block id c ih=>
  intro K s d f W Q h den k
  refine wp_block (ih h den fun e s' d' f' W' h' den' => ?_)
  cases e with
  | exit i=>
   show if i=id then Q .normal _ _ else Q (.exit i) _ _
   have h':(cond (Nat.beq i id) (K .normal s' d') (K (.exit i) s' d')).holds:=h'
   by_cases hi:i=id
   ·rw[if_pos hi]
    subst hi
    rw[Nat.beq_refl] at h'
    exact k _ _ _ _ _ h' den'
   rw[if_neg hi]
   rw[hX hi] at h'
   exact k _ _ _ _ _ h' den'
  | normal=>exact k _ _ _ _ _ h' den'
  | goto l=>exact k _ _ _ _ _ h' den'
  | ret=>exact k _ _ _ _ _ h' den'
  | panic ch=>exact k _ _ _ _ _ h' den'
  | outgrown=>exact k _ _ _ _ _ h' den'
 | loop c ih=>
  intro K s0 d0 f0 W0 Q h den k
  have step:∀ {Γ:Type} {K':Exit→S→D P R→Tr} {s:S} {J:Γ→Prop} {m:Γ→Nat} {ks ko kb:List Nat} {TE:Γ→List (Nat×Tv)} {TO:Γ→List (Nat×To)} {g0:Γ} {sg:List (Nat×Nat)} {kk:∀ g,J g→Tok J m (m g)→D P R},J g0 →
    (lpC K' (chk P n c) (qO c) s J m ks ko kb TE TO g0 sg kk).holds→Den w0 s f0 W0→(∀ e s' d' f' W',e ≠ .normal→(K' e s' d').holds→Den w0 s' f' W'→Q e (act n f') W')→(Code.loop c).wp P Q (act n f0) W0:=by
   intro Γ K' s J m ks ko kb TE TO g0 sg kk hJ0 h1 den1 k'
   obtain ⟨h2,h3⟩:=h1
   obtain ⟨den2,_⟩:=aX0 h2 den1
   refine kQ (fun mm f W=>∃ (g:Γ) (G:Nat→Hd×List Nat),J g∧m g=mm∧Den w0 (ist (qO c) s ks ko kb (TE g) (TO g) G) f W) (m g0) ⟨g0,_,hJ0,rfl,den2⟩ ?_
   rintro mm f W ⟨g,G,hJ,rfl,den3⟩
   refine ih (h3 g hJ G) den3 fun e s' d' f' W' h' den' => ?_
   cases e with
   | normal=>
    refine fN h' den' fun s4 d4 h4 den4 => ?_
    split at h4
    ·next Γ' J' m' c' t' g' hJ' hm' sg'=>
     obtain ⟨he,h5⟩:=h4
     have h6:=h5 he
     cases he
     obtain ⟨den5,_⟩:=aX0 h6 den4
     exact ⟨f',m g',hm',rfl,g',_,hJ',rfl,den5⟩
    exact h4.elim
   | exit i=>exact k' _ _ _ _ _ (fun h=>by cases h) h' den'
   | goto l=>exact k' _ _ _ _ _ (fun h=>by cases h) h' den'
   | ret=>exact k' _ _ _ _ _ (fun h=>by cases h) h' den'
   | panic ch=>exact k' _ _ _ _ _ (fun h=>by cases h) h' den'
   | outgrown=>exact k' _ _ _ _ _ (fun h=>by cases h) h' den'
  refine fN h den fun s d h1 den1 => ?_
  split at h1
  ·next hJ0 _ _=>exact step hJ0 h1 den1 fun e s' d' f' W' _ h' den'=>k _ _ _ _ _ h' den'
  ·next Γ J m ks ko kb TE TO g0 hJ0 sg kk Δ Je ex ks2 ko2 kb2 TE2 TO2 k2=>
   obtain ⟨h2,h3⟩:=h1
   refine step hJ0 h2 den1 fun e s' d' f' W' hne h' den' => ?_
   cases e with
   | normal=>exact absurd rfl hne
   | exit i=>
    have h':(cond (Nat.beq i ex) (jnT (qO c) s Je ks2 ko2 kb2 TE2 TO2 s' d') (K (.exit i) s' d')).holds:=h'
    by_cases hi:i=ex
    ·subst hi
     rw[Nat.beq_refl] at h'
     obtain ⟨g,G,hJ,den5⟩:=bN8 h' den'
     exact k _ _ _ _ _ (h3 g hJ G) den5
    rw[hX hi] at h'
    exact k _ _ _ _ _ h' den'
   | goto l=>exact k _ _ _ _ _ h' den'
   | ret=>exact k _ _ _ _ _ h' den'
   | panic ch=>exact k _ _ _ _ _ h' den'
   | outgrown=>exact k _ _ _ _ _ h' den'
  ·next m0 kk=>
   refine kQ (fun mm f W=>∃ (s:S) (d:D P R),(unT K (chk P n c) mm s d).holds∧Den w0 s f W) m0 ⟨s,kk,h1,den1⟩ ?_
   rintro mm f W ⟨s2,d2,h2,den2⟩
   cases mm with
   | zero=>exact h2.elim
   | succ mm=>
    refine ih h2 den2 fun e s' d' f' W' h' den' => ?_
    cases e with
    | normal=>exact ⟨f',mm,Nat.lt_succ_self _,rfl,s',d',h',den'⟩
    | exit i=>exact k _ _ _ _ _ h' den'
    | goto l=>exact k _ _ _ _ _ h' den'
    | ret=>exact k _ _ _ _ _ h' den'
    | panic ch=>exact k _ _ _ _ _ h' den'
    | outgrown=>exact k _ _ _ _ _ h' den'
  exact h1.elim
 | exit id=>exact fun h den k=>wp_exit (k _ _ _ _ _ h den)
 | ret=>exact fun h den k=>wp_ret (k _ _ _ _ _ h den)
 | _=>intros;exact (by assumption:Tr.no.holds).elim
end
end Go.Proofs.YtanpcpoogkdlaaaGreat
namespace Go.Proofs.YtanpcpoogkdlaaaGreat
set_option linter.unusedSimpArgs false
set_option linter.unusedVariables false
set_option maxHeartbeats 1000000
set_option maxHeartbeats 2000000
open Go.RowKit Go.Proofs.Tryz List
section
variable {P:Program} {A:Type} {R:A→Prop}
/-! ### What comes in -/
def wL:List Par→Nat→S→(S→Tr)→Tr
 | [],_,s,K=>K s
 | .v x::ps,t,s,K=>wL ps (t+1) ⟨(t,one (sc x))::s.E,s.O,s.B,s.nx⟩ K
 | .b e::ps,t,s,K=>wL ps (t+1) ⟨(t,one (.bo e))::s.E,s.O,s.B,s.nx⟩ K
 | .st i x::ps,t,s,K=>rU true (i.lv x) s fun cs s=>wL ps (t+1) ⟨(t,.on (.ag cs))::s.E,s.O,s.B,s.nx⟩ K
 | .ag l::ps,t,s,K=>wL ps (t+1) ⟨(t,.on (.ag (l.map sc)))::s.E,s.O,s.B,s.nx⟩ K
 | .sl i xs::ps,t,s,K => .fn fun g:Hd×List Nat=>wL ps (t+1) ⟨(t,one (.rf s.nx g.1))::s.E,s.O,(s.nx,true,.sl i g.1 xs g.2)::s.B,s.nx+1⟩ K
theorem uX {w:World}:∀ {ls:List Lf} {cs:List Value} {fp:List Nat},cR w cs ls fp→lns ls
 | [],_,_,_=>trivial
 | .v x::ls,[],_,h=>h.elim
 | .s _ _ _::ls,[],_,h=>h.elim
 | .v x::ls,c::cs,fp,h=>uX (ls:=ls) h.2
 | .s _ _ ys::ls,c::cs,fp,h=>by
  obtain ⟨f1,f2,h1,h2,_⟩:=h
  exact ⟨h1.len_le,uX h2⟩
theorem iV {G:Prop} {w W:World} {f:Nat→Value}:∀ {ps:List Par} {us:List Value} {t:Nat} {s:S} {K:S→Tr},(wL ps t s K).holds→Pars w us ps→(∀ k v,us[k]? = some v→f (t+k)=v)→Den w s f W →
  (∀ s',(K s').holds→Den w s' f W→gin ps→s'.O=s.O→G)→G
 | [],[],t,s,K,h,hp,hu,den,k=>k s h den trivial rfl
 | [],_::_,t,s,K,h,hp,hu,den,k=>hp.elim
 | p::ps,[],t,s,K,h,hp,hu,den,k=>by cases p <;> exact hp.elim
 | p::ps,u::us,t,s,K,h,hp,hu,den,k=>by
  have h0:f t=u:=hu 0 u rfl
  have hu':∀ k v,us[k]? = some v→f (t+1+k)=v:=fun k v hk=>by
   rw[Nat.add_assoc,Nat.add_comm 1 k];exact hu (k+1) v (by simpa using hk)
  cases p with
  | v x=>
   obtain ⟨rfl,hp⟩:=hp
   exact iV (t:=t+1) (us:=us) h hp hu' ⟨den.fr.know t (one (sc u)) (h0.trans (kG u).symm),den.st,den.fa⟩ k
  | b e=>
   obtain ⟨rfl,hp⟩:=hp
   exact iV (t:=t+1) (us:=us) h hp hu' ⟨den.fr.know t (one (.bo e)) h0,den.st,den.fa⟩ k
  | ag l=>
   obtain ⟨rfl,hp⟩:=hp
   refine iV (t:=t+1) (us:=us) h hp hu' ⟨den.fr.know t (.on (.ag (l.map sc))) (h0.trans ?_),den.st,den.fa⟩ k
   show Value.agg l.toArray = .agg ((l.map sc).map Sc.val).toArray
   rw[map_map,show Sc.val ∘ sc=id from funext kG,map_id]
  | st i x=>
   obtain ⟨⟨cs,fp,rfl,hc⟩,hp⟩:=hp
   obtain ⟨hg,hc⟩:=i.out hc
   refine kZ (l:=true) (w0:=w) (W:=W) h hc den.fa fun scs s1 h1 e1 e2 e3 fa'=>(iV (t:=t+1) (us:=us) h1 hp hu' ⟨?_,by rw[S.rs,e3];exact den.st,fa'⟩ fun s' h' den' hg' eO=>k s' h' den' ⟨⟨hg,uX hc⟩,hg'⟩ (eO.trans e3))
   refine Fr.know (by rw[e2];exact den.fr) t _ (h0.trans ?_)
   show Value.agg cs.toArray = .agg (scs.map Sc.val).toArray
   rw[e1]
  | sl i xs=>
   obtain ⟨⟨fp,hs⟩,hp⟩:=hp
   obtain ⟨hd,rfl,hn⟩:=hs.hd
   refine iV (t:=t+1) (us:=us) (h (hd,fp)) hp hu' ⟨den.fr.know t _ h0,den.st,fun e he => ?_⟩ fun s' h' den' hg' eO=>k s' h' den' ⟨hs.len_le,hg'⟩ eO
   rcases mem_cons.1 he with rfl | he
   ·exact hs
   ·exact den.fa e he
theorem bE4 {G:Prop} {w:World} {f:Nat→Value} {ps:List Par} {us:List Value} {t:Nat} {s:S} {K:S→Tr} (h:(wL ps t s K).holds) (hp:Pars w us ps) (hu:∀ k v,us[k]? = some v→f (t+k)=v) (den:Den w s f w) (k:∀ s',(K s').holds→Den w s' f w→gin ps→G):G:=iV h hp hu den fun s' a b c _=>k s' a b c
/-! ### What goes out -/
def rgd:List Rk→Prop
 | []=>True
 | .own i x::ks=>i.good x∧rgd ks
 | _::ks=>rgd ks
def resT (P:Program) (n:Nat) (s:S) (r:ResultVar) (K:TV→Tr):Tr:=
 match r with
 | .tmp t=>opt (opd n s (.tmp t)) fun v=>match v with
  | .on v=>K v
  | _ => .no
 | .cell a t=>opt (opd n s (.tmp a)) fun v=>asC v fun c=>ldT P s t c fun v=>match v with
  | .on v=>K v
  | _ => .no
def aW0 (tmps:Array Value):ResultVar→Sem Value
 | .tmp t=>pure (tmps.getD t undef)
 | .cell a t=>do loadVar t (← asAddr (tmps.getD a undef))
theorem ldT_run {G:Prop} {w0 W:World} {s:S} {t:TypeId} {c:Sc} {K:SV→Tr} (h:(ldT P s t c K).holds) (st:St w0 W s.rs) (fa:Facts w0 W s.B) (k:∀ v a,c.val = .pointer (some a)→(loadVar t a).run P W = .ok v.val W→(K v).holds→G):G:=by
 unfold ldT at h
 split at h
 ·next j b0 k0 o=>
  refine aH h fun r hr h => ?_
  obtain ⟨b,kk,cs⟩:=r
  obtain ⟨h1,h2,h⟩:=h
  simp only at h1 h2
  subst h1 h2
  have hrg:=aL7 hr st fa
  refine aH h fun z hz h => ?_
  cases z with
  | none=>
   refine aH h fun v hvv h=>k _ _ rfl ?_ h
   have:=zQ (P:=P) (cs:=[v.val]) (o:=k0+o) (b:=b0) (W:=W) hz (by
    intro q u hj
    cases q with
    | zero=>
     simp at hj;subst hj
     exact hrg o _ (by rw[getElem?_map];simp only at hvv;rw[hvv];rfl)
    | succ j=>simp at hj) rfl
   simp[Instr.loadAt,Instr.sureAddr,Sem.run_bind] at this
   exact this
  | some z=>
   obtain ⟨h1,h⟩:=h
   simp only at h1
   refine k _ _ rfl ?_ h
   have h5:=rN (i:=o) (z:=z) hrg
   have:=zQ (P:=P) (cs:=((cs.drop o).take z).map Sc.val) (o:=k0+o) (b:=b0) (W:=W) hz (by simpa [map_take,map_drop] using h5) (by simpa using h1)
   simp only[Instr.loadAt,Instr.sureAddr,Sem.run_bind,Sem.run_pure,Result.andThen_ok] at this
   exact this
 exact h.elim
theorem resT_ok {G:Prop} {w0 W:World} {n:Nat} {s:S} {r:ResultVar} {K:TV→Tr} {f:Nat→Value} (h:(resT P n s r K).holds) (den:Den w0 s f W) (k:∀ v,(aW0 (act n f).tmps r).run P W = .ok v.val W→(K v).holds→G):G:=by
 have hg:∀ t v,opd n s (.tmp t)=some v→(act n f).tmps.getD t undef=v.val:=fun t v hv=>by
  rw[tX];exact aW5 den.fr (.tmp t) v hv
 cases r with
 | tmp t=>
  refine aH h fun v hv h => ?_
  split at h
  ·next v=>
   refine k v ?_ h
   simp only[aW0,hg t _ hv]
   rfl
  exact h.elim
 | cell a t=>
  refine aH h fun v hv h'=>bU h' fun c hc h => ?_
  subst hc
  refine ldT_run h den.st den.fa fun v ad e hl h => ?_
  split at h
  ·next v=>
   refine k v ?_ h
   simp only[aW0,hg a _ hv]
   have:(SV.on (TV.ce c)).val = .pointer (some ad):=e
   rw[this]
   simp[asAddr,Sem.run_bind]
   exact hl
  exact h.elim
def aW1 (P:Program) (n:Nat) (s:S):List ResultVar→(List TV→Tr)→Tr
 | [],K=>K []
 | r::rs,K=>resT P n s r fun v=>aW1 P n s rs fun vs=>K (v::vs)
theorem qA {G:Prop} {w0 W:World} {n:Nat} {s:S} {f:Nat→Value} (den:Den w0 s f W):∀ {rs:List ResultVar} {K:List TV→Tr},(aW1 P n s rs K).holds→(∀ vs,(rs.mapM (aW0 (act n f).tmps)).run P W = .ok (vs.map TV.val) W→(K vs).holds→G)→G
 | [],K,h,k=>k [] rfl h
 | r::rs,K,h,k=>resT_ok h den fun v hv h=>qA den (K:=fun vs=>K (v::vs)) h fun vs hvs h=>k (v::vs) (by
   simp[mapM_cons,Sem.run_bind,hv,hvs]) h
theorem jX {fn:Func} {tmps:Array Value} {vs:List Value} {W:World} (h:(fn.results.toList.mapM (aW0 tmps)).run P W = .ok vs W):(results fn tmps).run P W = .ok (uI vs) W:=by
 have e:results fn tmps=(do let vs ← fn.results.mapM (aW0 tmps);pure (if h:vs.size=1 then vs[0] else .tuple vs)):=by
  unfold results
  congr 1
 rw[e,Array.mapM_eq_mapM_toList,Sem.run_bind]
 have h2:(List.toArray <$> fn.results.toList.mapM (aW0 tmps)).run P W = .ok vs.toArray W:=by
  rw[map_eq_pure_bind,Sem.run_bind,h];rfl
 rw[h2]
 show Result.ok _ W=_
 congr 1
 match vs with
 | []=>rfl
 | [v]=>rfl
 | _::_::_=>rfl
def rkT:List TV→List Rk→List (Nat×Ob)→(List (Nat×Ob)→Tr)→Tr
 | [],[],O,K=>K O
 | .ce c::ts,.v x::ks,O,K => .e0 c.val x (rkT ts ks O K)
 | .ag cs::ts,.own i x::ks,O,K=>iJ O cs (i.lv x) fun O'=>rkT ts ks O' K
 | .ce c::ts,.sl i xs::ks,O,K=>iJ O [c] [.s _ i xs] fun O'=>rkT ts ks O' K
 | .ce c::ts,.rw i e xs::ks,O,K=>ctk O [c] [.r i e xs] fun O'=>rkT ts ks O' K
 | .ag cs::ts,.cl ls::ks,O,K=>ctk O cs ls fun O'=>rkT ts ks O' K
 | _,_,_,_ => .no
theorem aV9 {w0 W:World}:∀ {ts:List TV} {ks:List Rk} {O:List (Nat×Ob)} {K:List (Nat×Ob)→Tr} {rs:List Res},(rkT ts ks O K).holds→rgd ks→St w0 W (Or O++rs)→∃ r O',(K O').holds∧Rks (ts.map TV.val) ks r∧St w0 W (Or O'++(r++rs)):=by
 intro ts
 induction ts with
 | nil=>
  intro ks O K rs h hg st
  cases ks with
  | nil=>exact ⟨[],O,h,rfl,st⟩
  | cons=>exact h.elim
 | cons t ts ih=>
  intro ks O K rs h hg st
  cases ks with
  | nil=>cases t <;> exact h.elim
  | cons kk ks=>
   have mid:∀ {O':List (Nat×Ob)} {r:List Res} {x:Res},St w0 W (Or O'++(r++(x::rs)))→St w0 W (Or O'++((x::r)++rs)):=fun {O' r x} h=>h.perm ((perm_middle (a:=x) (l₁:=r) (l₂:=rs)).symm.append_left (Or O'))
   cases t with
   | ce c=>
    cases kk with
    | v x=>
     obtain ⟨h1,h2⟩:=h
     obtain ⟨r,O',hK,h3,h4⟩:=ih h2 hg st
     exact ⟨r,O',hK,⟨[],r,⟨h1,rfl⟩,h3,rfl⟩,h4⟩
    | own i x=>exact h.elim
    | cl ls=>exact h.elim
    | rw i e xs=>
     obtain ⟨r1,O',h',hl,st1⟩:=uU h st
     obtain ⟨fe,r2,rfl,hl2⟩:=hl
     have hl2:r2=[]:=hl2
     subst hl2
     obtain ⟨r,O2,hK,h3,h4⟩:=ih h' hg st1
     exact ⟨Res.row e c.val xs fe::r,O2,hK,⟨[_],r,⟨fe,rfl⟩,h3,rfl⟩,mid h4⟩
    | sl i xs=>
     refine dU h st fun O' fp h' st' => ?_
     obtain ⟨f1,f2,st2⟩:=St.s_pc st'
     have st3:=st2.d0
     obtain ⟨r,O2,hK,h3,h4⟩:=ih h' hg (rs:=Res.own c.val xs f1::rs) (st3.perm perm_middle)
     exact ⟨Res.own c.val xs f1::r,O2,hK,⟨[_],r,⟨f1,rfl⟩,h3,rfl⟩,mid h4⟩
   | ag cs=>
    cases kk with
    | v x=>exact h.elim
    | sl i xs=>exact h.elim
    | rw i e xs=>exact h.elim
    | cl ls=>
     obtain ⟨r1,O',h',hl,st1⟩:=uU h st
     obtain ⟨r,O2,hK,h3,h4⟩:=ih h' hg st1
     refine ⟨r1++r,O2,hK,⟨r1,r,⟨_,rfl,hl⟩,h3,rfl⟩,?_⟩
     refine h4.perm (List.Perm.append_left (Or O2) ?_)
     rw[append_assoc,← append_assoc r r1 rs,← append_assoc r1 r rs]
     exact (perm_append_comm (l₁:=r1) (l₂:=r)).append_right rs
    | own i x=>
     refine dU h st fun O' fp h' st' => ?_
     have st2:=St.pc_cs i st' hg.1
     obtain ⟨r,O2,hK,h3,h4⟩:=ih h' hg.2 (rs := @Res.cs _ i.toShape (cs.map Sc.val) x fp::rs) (st2.perm perm_middle)
     exact ⟨_::r,O2,hK,⟨[_],r,⟨_,fp,rfl,rfl⟩,h3,rfl⟩,mid h4⟩
def unwt {P:Program} {A:Type} {R:A→Prop}:D P R→D P R
 | .wt _ k=>k
 | d=>d
def retT (P:Program) {A:Type} {R:A→Prop} (rk:A→List Rk) (n:Nat) (rs:List ResultVar) (s:S) (d:D P R):Tr:=
 prp d s fun s d=>prp (unwt d) s fun s d=>match d with
  | .rt a _=>aW1 P n s rs fun ts=>rkT ts (rk a) s.O fun _ => .ok
  | _ => .no
def grB:Option Gr→List (Nat×Bool×Bo)
 | none=>[]
 | some g=>[(999999,true,.gr g)]
theorem grB_ok {G:Option Gr} {w:World} (h:Gin G w):Facts w w (grB G):=by
 cases G with
 | none=>intro e he;cases he
 | some g=>
  intro e he
  simp only[grB,mem_singleton] at he
  subst he
  exact h
def vcT (P:Program) (fn:Func) (G:Option Gr) (ps:List Par) {A:Type} {R:A→Prop} (rk:A→List Rk) (d:gin ps→D P (fun a=>R a∧rgd (rk a))):Tr:=
 .e0 (Nat.ble ps.length fn.ntmps) true<|match fn.body with
  | some c=>wL ps 0 ⟨[],[],grB G,0⟩ fun s => .fp (gin ps) fun hg=>chk P fn.ntmps c (fun e s d=>match e with
   | .ret=>retT P rk fn.ntmps fn.results.toList s d
   | .normal=>retT P rk fn.ntmps fn.results.toList s d
   | _ => .no) s (d hg)
  | none => .no
theorem Pars.len {w:World}:∀ {us:List Value} {ps:List Par},Pars w us ps→us.length=ps.length
 | [],[],_=>rfl
 | [],p::_,h=>by cases p <;> exact h.elim
 | _::_,[],h=>h.elim
 | u::us,p::ps,h=>by
  cases p <;> exact congrArg (· + 1) (Pars.len h.2)
theorem vcg {F:FuncId} {fn:Func} {ps:List Par} {rk:A→List Rk} (G:Option Gr) (hf:P.funcs[F]? = some fn) (d:gin ps→D P (fun a=>R a∧rgd (rk a))) (h:(vcT P fn G ps rk d).side true=(vcT P fn G ps rk d).side false):Cg P F G ps R rk:=by
 have h:=Tr.of_side h
 obtain ⟨h1,h⟩:=h
 refine ⟨fun w us hG hp => ?_⟩
 split at h
 ·next c hb=>
  have hl:us.length≤fn.ntmps:=by rw[hp.len];exact Nat.le_of_ble_eq_true h1
  refine enter us hf hb rfl hl ?_
  refine bE4 (t:=0) h hp (f:=fun t=>us.getD t undef) (fun k v hk=>by
   show us.getD (0+k) undef=v
   rw[Nat.zero_add,getD_eq_getElem?_getD,hk];rfl) ⟨fun t x hx=>(by cases hx),St.start w,grB_ok hG⟩ fun s' h' den' hg => ?_
  have hret:∀ {s:S} {d:D P (fun a=>R a∧rgd (rk a))} {f:Nat→Value} {W:World},(retT P rk fn.ntmps fn.results.toList s d).holds→Den w s f W→∃ v,(results fn (act fn.ntmps f).tmps).run P W = .ok v W∧∃ a vs rs,R a∧Ending.returned v = .returned (uI vs)∧Rks vs (rk a) rs∧St w W rs:=by
   intro s d f W h den
   refine fN h den fun s0_ d0_ h0_ den0_=>fN h0_ den0_ fun s1 d1 h1 den1 => ?_
   split at h1
   ·next a ha=>
    refine qA den1 h1 fun ts hts h2 => ?_
    have st:St w W (Or s1.O++[]):=by simpa [Or,S.rs] using den1.st
    obtain ⟨r,O',_,h3,h4⟩:=aV9 h2 ha.2 st
    exact ⟨_,jX hts,a,_,r,ha.1,rfl,h3,h4.sub (by rw[append_nil];exact sublist_append_right _ _)⟩
   exact h1.elim
  refine uW c (h' hg) den' fun e s2 d2 f2 W2 h2 den2 => ?_
  cases e with
  | ret=>exact ⟨rfl,hret h2 den2⟩
  | normal=>exact ⟨rfl,hret h2 den2⟩
  | exit i=>exact h2.elim
  | goto l=>exact h2.elim
  | panic ch=>exact h2.elim
  | outgrown=>exact h2.elim
 exact h.elim
theorem vc {F:FuncId} {fn:Func} {ps:List Par} {rk:A→List Rk} (hf:P.funcs[F]? = some fn) (d:gin ps→D P (fun a=>R a∧rgd (rk a))) (h:(vcT P fn none ps rk d).side true=(vcT P fn none ps rk d).side false):Ct P F ps R rk:=vcg none hf d h
/-! ### Calls that are read in their caller's state -/
def bP1:List SV→Nat→List (Nat×SV)
 | [],_=>[]
 | u::us,t=>(t,u)::bP1 us (t+1)
theorem bD7 {f:Nat→Value}:∀ {us:List SV} {t:Nat},(∀ k v,(us.map SV.val)[k]? = some v→f (t+k)=v)→Fr (bP1 us t) f
 | [],t,_=>fun t x hx=>by cases hx
 | u::us,t,h=>by
  refine Fr.know (bD7 (us:=us) (t:=t+1) fun k v hk => ?_) t u (h 0 _ rfl)
  rw[Nat.add_assoc,Nat.add_comm 1 k]
  exact h (k+1) v (by simpa using hk)
def retI (P:Program) {A:Type} {R:A→Prop} (n:Nat) (rs:List ResultVar) (K:A→SV→S→Tr) (s:S) (d:D P R):Tr:=
 prp d s fun s d=>prp (unwt d) s fun s d=>match d with
  | .rt a _=>aW1 P n s rs fun ts=>K a (aD4 ts) s
  | _ => .no
def inlT (P:Program) (fn:Func) {A:Type} {R:A→Prop} (d:D P R) (s:S) (us:List SV) (K:A→SV→S→Tr):Tr:=
 .e0 (Nat.ble us.length fn.ntmps) true<|match fn.body with
  | some c=>chk P fn.ntmps c (fun e s d=>match e with
   | .ret=>retI P fn.ntmps fn.results.toList K s d
   | .normal=>retI P fn.ntmps fn.results.toList K s d
   | _ => .no) ⟨bP1 us 0,s.O,s.B,s.nx⟩ d
  | none => .no
theorem inlT_ok {F:FuncId} {fn:Func} (hf:P.funcs[F]? = some fn) (d:D P R) {w0 W:World} {s:S} {us:List SV} {K:A→SV→S→Tr} (h:(inlT P fn d s us K).holds) (st:St w0 W s.rs) (fa:Facts w0 W s.B) :
  Calls P F (us.map SV.val).toArray W fun e W'=>∃ a v s',R a∧(K a v s').holds∧e = .returned v.val∧St w0 W' s'.rs∧Facts w0 W' s'.B:=by
 obtain ⟨h1,h⟩:=h
 split at h
 ·next c hb=>
  have hl:(us.map SV.val).length≤fn.ntmps:=by rw[length_map];exact Nat.le_of_ble_eq_true h1
  refine enter (us.map SV.val) hf hb rfl hl ?_
  have hret:∀ {s:S} {d:D P R} {f:Nat→Value} {W:World},(retI P fn.ntmps fn.results.toList K s d).holds→Den w0 s f W→∃ v,(results fn (act fn.ntmps f).tmps).run P W = .ok v W∧∃ a u s',R a∧(K a u s').holds∧Ending.returned v = .returned u.val∧St w0 W s'.rs∧Facts w0 W s'.B:=by
   intro s d f W h den
   refine fN h den fun s0_ d0_ h0_ den0_=>fN h0_ den0_ fun s1 d1 h1 den1 => ?_
   split at h1
   ·next a ha=>
    refine qA den1 h1 fun ts hts h2 => ?_
    exact ⟨_,jX hts,a,aD4 ts,s1,ha,h2,by rw[jU],den1.st,den1.fa⟩
   exact h1.elim
  refine uW (w0:=w0) c h ⟨bD7 (f:=fun t=>(us.map SV.val).getD t undef) fun k v hk => ?_,st,fa⟩ fun e s2 d2 f2 W2 h2 den2 => ?_
  ·show (us.map SV.val).getD (0+k) undef=v
   rw[Nat.zero_add,getD_eq_getElem?_getD,hk];rfl
  cases e with
  | ret=>exact ⟨rfl,hret h2 den2⟩
  | normal=>exact ⟨rfl,hret h2 den2⟩
  | exit i=>exact h2.elim
  | goto l=>exact h2.elim
  | panic ch=>exact h2.elim
  | outgrown=>exact h2.elim
 exact h.elim
def inl {F:FuncId} {fn:Func} (hf:P.funcs[F]? = some fn) (d:D P R):Inc P F R:=⟨inlT P fn d,inlT_ok hf d⟩
/-! ### Functions that are handed a pointer -/
def Res.all (rs:List Res):Res where
 fp:=rs.flatMap Res.fp
 holds:=fun W=>∀ r∈rs,r.holds W
 loc:=fun hs hb h r hr=>r.loc hs (fun b hm=>hb b (mem_flatMap.2 ⟨r,hr,hm⟩)) (h r hr)
 wr:=fun h b hb=>by
  obtain ⟨r,hr,hm⟩:=mem_flatMap.1 hb
  exact r.wr (h r hr) b hm
theorem St.all_in {w W:World} {a rs:List Res} (h:St w W (a++rs)):St w W (a++[Res.all rs]):=by
 refine ⟨h.below,by simpa [Res.all] using h.nodup,fun r hr b hb => ?_,fun r hr => ?_⟩
 ·rcases mem_append.1 hr with hr | hr
  ·exact h.fresh r (mem_append_left _ hr) b hb
  simp only[mem_singleton] at hr
  subst hr
  obtain ⟨q,hq,hm⟩:=mem_flatMap.1 (show b∈rs.flatMap Res.fp from hb)
  exact h.fresh q (mem_append_right _ hq) b hm
 rcases mem_append.1 hr with hr | hr
 ·exact h.holds r (mem_append_left _ hr)
 simp only[mem_singleton] at hr
 subst hr
 exact fun q hq=>h.holds q (mem_append_right _ hq)
theorem St.all_out {w W:World} {a rs:List Res} (h:St w W (a++[Res.all rs])):St w W (a++rs):=by
 refine ⟨h.below,by simpa [Res.all] using h.nodup,fun r hr b hb => ?_,fun r hr => ?_⟩
 ·rcases mem_append.1 hr with hr | hr
  ·exact h.fresh r (mem_append_left _ hr) b hb
  exact h.fresh (Res.all rs) (by simp) b (mem_flatMap.2 ⟨r,hr,hb⟩)
 rcases mem_append.1 hr with hr | hr
 ·exact h.holds r (mem_append_left _ hr)
 exact h.holds (Res.all rs) (by simp) r hr
def aX4:Nat:=1000000
def retM (P:Program) {A:Type} {R:A→Prop} {α:Type} (i:Dsh α) (y:A→α) (rk:A→List Rk) (n:Nat) (rs:List ResultVar) (b:Nat) (t:TypeId) (pre post:List Value) (r:Res) (s:S) (d:D P R):Tr:=
 prp d s fun s d=>prp (unwt d) s fun s d=>match d with
  | .rt a _=>match lku s.O 0 with
   | some (.bx b' pre' cs post' t') => .e0 b' b <| .e0 pre' pre <| .e0 post' post <| .e0 t' t<|iJ (bZ s.O 0) cs (i.lv (y a)) fun O'=>
     aW1 P n s rs fun ts=>rkT ts (rk a) O' fun O2=>match lku O2 aX4 with
      | some (.raw r') => .e0 r' r .ok
      | _ => .no
   | _ => .no
  | _ => .no
def vcmT (P:Program) (fn:Func) (ps:List Par) {α:Type} (i:Dsh α) (x:α) {A:Type} {R:A→Prop} (y:A→α) (rk:A→List Rk) (d:gin ps→lns (i.lv x)→D P (fun a=>R a∧rgd (rk a))):Tr:=
 .e0 (Nat.ble (ps.length+1) fn.ntmps) true<|match fn.body with
  | some c => .fn fun G:(Nat×TypeId)×(List Value×List Value×Res)=>wH (i.lv x) ⟨[],[(aX4,.raw G.2.2.2)],[],1⟩ fun scs s=>
    wL ps 1 ⟨[(0,one (.pt 0 G.1.1 G.2.1.length 0))],(0,.bx G.1.1 G.2.1 scs G.2.2.1 G.1.2)::s.O,s.B,s.nx⟩ fun s => .fp (gin ps) fun hg => .fp (lns (i.lv x)) fun hn=>chk P fn.ntmps c (fun e s d=>match e with
     | .ret=>retM P i y rk fn.ntmps fn.results.toList G.1.1 G.1.2 G.2.1 G.2.2.1 G.2.2.2 s d
     | .normal=>retM P i y rk fn.ntmps fn.results.toList G.1.1 G.1.2 G.2.1 G.2.2.1 G.2.2.2 s d
     | _ => .no) s (d hg hn)
  | none => .no
theorem vcm {F:FuncId} {fn:Func} {ps:List Par} {α:Type} {i:Dsh α} {x:α} {y:A→α} {rk:A→List Rk} (hf:P.funcs[F]? = some fn) (d:gin ps→lns (i.lv x)→D P (fun a=>R a∧rgd (rk a))) (h:(vcmT P fn ps i x y rk d).side true=(vcmT P fn ps i x y rk d).side false):Cm P F ps i x R y rk:=by
 have h:=Tr.of_side h
 obtain ⟨h1,h⟩:=h
 refine ⟨fun w W0 b pre post t cs fp us rs st hp => ?_⟩
 split at h
 ·next c hb=>
  have hl:us.length+1≤fn.ntmps:=by rw[hp.len];exact Nat.le_of_ble_eq_true h1
  refine enter (Value.pointer (some ⟨b,pre.length,none⟩)::us) hf hb rfl hl ?_
  have st1:St w W0 (Res.pc cs (i.lv x) fp::([Res.bx b (pre++cs++post) t]++[Res.all rs])):=by
   have:=St.all_in (a:=[Res.bx b (pre++cs++post) t,Res.pc cs (i.lv x) fp]) st
   exact this.swap
  refine lO (s:=⟨[],[(aX4,.raw (Res.all rs))],[],1⟩) (rs:=[Res.bx b (pre++cs++post) t]) (h ((b,t),(pre,post,Res.all rs))) st1 fun scs s1 h2 e1 e2 e3 _ st2 hn => ?_
  have st3:St w W0 (S.rs ⟨[(0,one (.pt 0 b pre.length 0))],(0,.bx b pre scs post t)::s1.O,s1.B,s1.nx⟩):=by
   have:St w W0 (Res.bx b (pre++cs++post) t::s1.rs):=st2
   rw[← e1] at this
   exact this
  have hret:∀ {s:S} {d:D P (fun a=>R a∧rgd (rk a))} {f:Nat→Value} {W:World},(retM P i y rk fn.ntmps fn.results.toList b t pre post (Res.all rs) s d).holds→Den w s f W→∃ v,(results fn (act fn.ntmps f).tmps).run P W = .ok v W∧∃ a vs cs' fp' rr,R a∧Ending.returned v = .returned (uI vs)∧Rks vs (rk a) rr∧St w W (Res.bx b (pre++cs'++post) t::Res.pc cs' (i.lv (y a)) fp'::(rr++rs)):=by
   intro s d f W h den
   refine fN h den fun s0_ d0_ h0_ den0_=>fN h0_ den0_ fun s1 d1 h1 den1 => ?_
   split at h1
   ·next a ha=>
    split at h1
    ·next b' pre' cs' post' t' hj=>
     obtain ⟨rfl,rfl,rfl,rfl,g2⟩:=h1
     have st:St w W (Or s1.O++[]):=by simpa [Or,S.rs] using den1.st
     have g1:St w W (Or (bZ s1.O 0)++[Res.bx b' (pre'++cs'.map Sc.val++post') t']):=by
      have:=st.take hj
      rw[append_nil] at this
      exact this.perm (perm_append_comm (l₁:=Or (bZ s1.O 0)) (l₂:=[_]))
     refine dU g2 g1 fun O' fp' h3 st2=>(qA den1 h3 fun ts hts h4 => ?_)
     have st3:St w W (Or O'++[Res.pc (cs'.map Sc.val) (i.lv (y a)) fp',Res.bx b' (pre'++cs'.map Sc.val++post') t']):=st2.perm (perm_middle (a:=Res.pc (cs'.map Sc.val) (i.lv (y a)) fp') (l₁:=Or O') (l₂:=[_]))
     obtain ⟨rr,O2,hK,h5,st4⟩:=aV9 h4 ha.2 st3
     split at hK
     ·next r' hr=>
      obtain ⟨rfl,_⟩:=hK
      have st5:=st4.take hr
      have st6:St w W ((Res.bx b' (pre'++cs'.map Sc.val++post') t'::Res.pc (cs'.map Sc.val) (i.lv (y a)) fp'::rr)++[Res.all rs]):=by
       have st7:St w W (Res.all rs::(rr++[Res.pc (cs'.map Sc.val) (i.lv (y a)) fp',Res.bx b' (pre'++cs'.map Sc.val++post') t'])):=st5.sub (List.Sublist.cons_cons _ (sublist_append_right _ _))
       refine st7.perm ((perm_append_comm (l₂:=[Res.all rs])).trans (List.Perm.cons _ ((List.Perm.swap _ _ _).trans ?_)))
       exact perm_append_comm (l₁:=[Res.pc (cs'.map Sc.val) (i.lv (y a)) fp',Res.bx b' (pre'++cs'.map Sc.val++post') t']) (l₂:=rr)
      have st8:=St.all_out st6
      exact ⟨_,jX hts,a,_,cs'.map Sc.val,fp',rr,ha.1,rfl,h5,st8⟩
     exact hK.elim
    exact h1.elim
   exact h1.elim
  refine iV (t:=1) h2 hp (f:=fun t=>(Value.pointer (some ⟨b,pre.length,none⟩)::us).getD t undef) (fun k v hk=>by
   show (Value.pointer (some ⟨b,pre.length,none⟩)::us).getD (1+k) undef=v
   rw[Nat.add_comm,getD_eq_getElem?_getD,getElem?_cons_succ,hk];rfl) (W:=W0) ⟨?_,st3,by rw[e3];intro e he;cases he⟩ fun s' h' den' hg _ => ?_
  ·refine Fr.know (E:=[]) (fun t x hx=>by cases hx) 0 _ rfl
  refine uW c (h' hg hn) den' fun e s2 d2 f2 W2 h2 den2 => ?_
  cases e with
  | ret=>exact ⟨rfl,hret h2 den2⟩
  | normal=>exact ⟨rfl,hret h2 den2⟩
  | exit i=>exact h2.elim
  | goto l=>exact h2.elim
  | panic ch=>exact h2.elim
  | outgrown=>exact h2.elim
 exact h.elim
/-! ### Functions that are handed structs of their caller's own -/
def bI2:List Pw→Prop
 | []=>True
 | .bw p::ps=>gin [p]∧bI2 ps
 | .ow i x::ps=>lns (i.lv x)∧bI2 ps
def entW:List Pw→Nat→S→(S→Tr)→Tr
 | [],_,s,K=>K s
 | .bw p::ps,t,s,K=>wL [p] t s fun s=>entW ps (t+1) s K
 | .ow i x::ps,t,s,K=>wH (i.lv x) s fun cs s=>entW ps (t+1) ⟨(t,.on (.ag cs))::s.E,s.O,s.B,s.nx⟩ K
theorem aN5 {G:Prop} {w W:World} {f:Nat→Value}:∀ {ps:List Pw} {us:List Value} {t:Nat} {s:S} {r:List Res} {K:S→Tr},(entW ps t s K).holds→PwAt w us ps r→(∀ k v,us[k]? = some v→f (t+k)=v)→Fr s.E f→Facts w W s.B→St w W (r++s.rs) →
  (∀ s',(K s').holds→Den w s' f W→bI2 ps→G)→G
 | [],[],t,s,r,K,h,hp,hu,fr,fa,st,k=>by
  have hp:r=[]:=hp
  subst hp
  exact k s h ⟨fr,st,fa⟩ trivial
 | [],_::_,t,s,r,K,h,hp,hu,fr,fa,st,k=>hp.elim
 | p::ps,[],t,s,r,K,h,hp,hu,fr,fa,st,k=>by cases p <;> exact hp.elim
 | p::ps,u::us,t,s,r,K,h,hp,hu,fr,fa,st,k=>by
  have h0:f t=u:=hu 0 u rfl
  have hu':∀ k v,us[k]? = some v→f (t+1+k)=v:=fun k v hk=>by
   rw[Nat.add_assoc,Nat.add_comm 1 k];exact hu (k+1) v (by simpa using hk)
  cases p with
  | bw p=>
   refine iV (us:=[u]) (K:=fun s=>entW ps (t+1) s K) h ⟨hp.1,trivial⟩ (fun k v hk => ?_) ⟨fr,st.sub (sublist_append_right _ _),fa⟩ fun s' h' den' hg eO => ?_
   ·cases k with
    | zero=>simp only[getElem?_cons_zero,Option.some.injEq] at hk;rw[← hk];exact h0
    | succ k=>simp at hk
   ·exact aN5 (t:=t+1) h' hp.2 hu' den'.fr den'.fa (by rw[S.rs,eO];exact st) fun s2 h2 den2 hg2=>k s2 h2 den2 ⟨hg,hg2⟩
  | ow i x=>
   obtain ⟨cs,fp,r2,rfl,rfl,hp⟩:=hp
   refine lO (rs:=r2) h st fun scs s' h' e1 e2 e3 _ st' hl=>(aN5 (t:=t+1) (s:=⟨(t,.on (.ag scs))::s'.E,s'.O,s'.B,s'.nx⟩) h' hp hu' ?_ (by rw[e3];exact fa) st' fun s2 h2 den2 hg2=>k s2 h2 den2 ⟨hl,hg2⟩)
   refine Fr.know (by rw[e2];exact fr) t _ (h0.trans ?_)
   show Value.agg cs.toArray = .agg (scs.map Sc.val).toArray
   rw[e1]
/-! ### Functions that are handed what is their caller's own -/
def retO (P:Program) {A:Type} {R:A→Prop} (rk:A→List Rk) (n:Nat) (rs:List ResultVar) (r:Res) (s:S) (d:D P R):Tr:=
 prp d s fun s d=>prp (unwt d) s fun s d=>match d with
  | .rt a _=>aW1 P n s rs fun ts=>rkT ts (rk a) s.O fun O2=>match lku O2 aX4 with
   | some (.raw r') => .e0 r' r .ok
   | _ => .no
  | _ => .no
theorem wV {w W:World} {rk:A→List Rk} {fn:Func} {rs:List Res} {s:S} {d:D P (fun a=>R a∧rgd (rk a))} {f:Nat→Value} (h:(retO P rk fn.ntmps fn.results.toList (Res.all rs) s d).holds) (den:Den w s f W) :
  ∃ v,(results fn (act fn.ntmps f).tmps).run P W = .ok v W∧∃ a vs rr,R a∧Ending.returned v = .returned (uI vs)∧Rks vs (rk a) rr∧St w W (rr++rs):=by
 refine fN h den fun s0_ d0_ h0_ den0_=>fN h0_ den0_ fun s1 d1 h1 den1 => ?_
 split at h1
 ·next a ha=>
  refine qA den1 h1 fun ts hts h4 => ?_
  have st3:St w W (Or s1.O++[]):=by simpa [Or,S.rs] using den1.st
  obtain ⟨rr,O2,hK,h5,st4⟩:=aV9 h4 ha.2 st3
  split at hK
  ·next r' hr=>
   obtain ⟨rfl,_⟩:=hK
   have st5:=st4.take hr
   have st6:St w W (rr++[Res.all rs]):=by
    have st7:St w W (Res.all rs::(rr++[])):=st5.sub (List.Sublist.cons_cons _ (sublist_append_right _ _))
    rw[append_nil] at st7
    exact st7.perm (perm_append_comm (l₁:=rr) (l₂:=[Res.all rs]))
   exact ⟨_,jX hts,a,_,rr,ha.1,rfl,h5,St.all_out st6⟩
  exact hK.elim
 exact h1.elim
def vcoT (P:Program) (fn:Func) (ow:List Lr) (ag:Bool) (ps:List Par) {A:Type} {R:A→Prop} (rk:A→List Rk) (d:gin ps→lrs ow→D P (fun a=>R a∧rgd (rk a))):Tr:=
 .e0 (Nat.ble (ps.length+1) fn.ntmps) true<|match fn.body with
  | some c => .fn fun r:Res=>crb ow ⟨[],[(aX4,.raw r)],[],0⟩ fun scs s=>
    wL ps 1 ⟨[(0,cond ag (.on (.ag scs)) (one (scs.headD (.vl undef))))],s.O,s.B,s.nx⟩ fun s => .fp (gin ps) fun hg => .fp (lrs ow) fun hn=>chk P fn.ntmps c (fun e s d=>match e with
     | .ret=>retO P rk fn.ntmps fn.results.toList r s d
     | .normal=>retO P rk fn.ntmps fn.results.toList r s d
     | _ => .no) s (d hg hn)
  | none => .no
theorem vco {F:FuncId} {fn:Func} {ow:List Lr} {ag:Bool} {ps:List Par} {rk:A→List Rk} (hf:P.funcs[F]? = some fn) (d:gin ps→lrs ow→D P (fun a=>R a∧rgd (rk a))) (h:(vcoT P fn ow ag ps rk d).side true=(vcoT P fn ow ag ps rk d).side false):Co P F ow ag ps R rk:=by
 have h:=Tr.of_side h
 obtain ⟨h1,h⟩:=h
 refine ⟨fun w W0 cs r us rs hlv st hp => ?_⟩
 split at h
 ·next c hb=>
  have hl:us.length+1≤fn.ntmps:=by rw[hp.len];exact Nat.le_of_ble_eq_true h1
  refine enter (cond ag (.agg cs.toArray) (cs.headD undef)::us) hf hb rfl hl ?_
  have st1:St w W0 (r++([]++S.rs ⟨[],[(aX4,.raw (Res.all rs))],[],0⟩)):=St.all_in (a:=r) st
  refine aB1 (rs:=[]) (h (Res.all rs)) hlv st1 fun scs s1 h2 e1 e2 e3 _ st2 hn => ?_
  refine iV (t:=1) h2 hp (f:=fun t=>(cond ag (.agg cs.toArray) (cs.headD undef)::us).getD t undef) (fun k v hk=>by
   show (cond ag (.agg cs.toArray) (cs.headD undef)::us).getD (1+k) undef=v
   rw[Nat.add_comm,getD_eq_getElem?_getD,getElem?_cons_succ,hk];rfl) (W:=W0) ⟨?_,st2,by rw[e3];intro e he;cases he⟩ fun s' h' den' hg _ => ?_
  ·refine Fr.know (E:=[]) (fun t x hx=>by cases hx) 0 _ ?_
   show cond ag (.agg cs.toArray) (cs.headD undef)=_
   cases ag with
   | true=>rw[← e1];rfl
   | false=>
    rw[← e1]
    cases scs with
    | nil=>rfl
    | cons a l=>rfl
  refine uW c (h' hg hn) den' fun e s2 d2 f2 W2 h2 den2 => ?_
  cases e with
  | ret=>exact ⟨rfl,wV h2 den2⟩
  | normal=>exact ⟨rfl,wV h2 den2⟩
  | exit i=>exact h2.elim
  | goto l=>exact h2.elim
  | panic ch=>exact h2.elim
  | outgrown=>exact h2.elim
 exact h.elim
def vcwT (P:Program) (fn:Func) (ps:List Pw) {A:Type} {R:A→Prop} (rk:A→List Rk) (d:bI2 ps→D P (fun a=>R a∧rgd (rk a))):Tr:=
 .e0 (Nat.ble ps.length fn.ntmps) true<|match fn.body with
  | some c => .fn fun r:Res=>entW ps 0 ⟨[],[(aX4,.raw r)],[],0⟩ fun s => .fp (bI2 ps) fun hg=>chk P fn.ntmps c (fun e s d=>match e with
    | .ret=>retO P rk fn.ntmps fn.results.toList r s d
    | .normal=>retO P rk fn.ntmps fn.results.toList r s d
    | _ => .no) s (d hg)
  | none => .no
theorem PwAt.len {w:World}:∀ {us:List Value} {ps:List Pw} {r:List Res},PwAt w us ps r→us.length=ps.length
 | [],[],_,_=>rfl
 | [],p::_,_,h=>by cases p <;> exact h.elim
 | _::_,[],_,h=>h.elim
 | u::us,.bw p::ps,_,h=>congrArg (· + 1) (PwAt.len h.2)
 | u::us,.ow i x::ps,_,h=>by
  obtain ⟨_,_,r2,_,_,h⟩:=h
  exact congrArg (· + 1) (PwAt.len h)
theorem vcw {F:FuncId} {fn:Func} {ps:List Pw} {rk:A→List Rk} (hf:P.funcs[F]? = some fn) (d:bI2 ps→D P (fun a=>R a∧rgd (rk a))) (h:(vcwT P fn ps rk d).side true=(vcwT P fn ps rk d).side false):Cw P F ps R rk:=by
 have h:=Tr.of_side h
 obtain ⟨h1,h⟩:=h
 refine ⟨fun w W0 us r rs hp st => ?_⟩
 split at h
 ·next c hb=>
  have hl:us.length≤fn.ntmps:=by rw[hp.len];exact Nat.le_of_ble_eq_true h1
  refine enter us hf hb rfl hl ?_
  refine aN5 (t:=0) (r:=r) (W:=W0) (h (Res.all rs)) hp (f:=fun t=>us.getD t undef) (fun k v hk=>by
   show us.getD (0+k) undef=v
   rw[Nat.zero_add,getD_eq_getElem?_getD,hk];rfl) (fun t x hx=>(by cases hx)) (fun e he=>by cases he) (St.all_in (a:=r) st) fun s' h' den' hg => ?_
  refine uW c (h' hg) den' fun e s2 d2 f2 W2 h2 den2 => ?_
  cases e with
  | ret=>exact ⟨rfl,wV h2 den2⟩
  | normal=>exact ⟨rfl,wV h2 den2⟩
  | exit i=>exact h2.elim
  | goto l=>exact h2.elim
  | panic ch=>exact h2.elim
  | outgrown=>exact h2.elim
 exact h.elim
/-! ### Functions that hand back a struct whose slices are their caller's -/
def retB (P:Program) {A:Type} {R:A→Prop} {α:Type} (i:Dsh α) (x:α) (n:Nat) (rs:List ResultVar) (s:S) (d:D P R):Tr:=
 prp d s fun s d=>prp (unwt d) s fun s d=>match d with
  | .rt _ _=>aW1 P n s rs fun ts=>match ts with
   | [.ag cs]=>aB7 ⟨[],[],lasting s.B,0⟩ cs (i.lv x) .ok
   | _ => .no
  | _ => .no
def vcbT (P:Program) (fn:Func) (ps:List Par) {α:Type} (i:Dsh α) (x:α) (d:gin ps→D P (fun _:Unit=>i.good x)):Tr:=
 .e0 (Nat.ble ps.length fn.ntmps) true<|match fn.body with
  | some c=>wL ps 0 ⟨[],[],[],0⟩ fun s => .fp (gin ps) fun hg=>chk P fn.ntmps c (fun e s d=>match e with
   | .ret=>retB P i x fn.ntmps fn.results.toList s d
   | .normal=>retB P i x fn.ntmps fn.results.toList s d
   | _ => .no) s (d hg)
  | none => .no
theorem vcb {F:FuncId} {fn:Func} {ps:List Par} {α:Type} {i:Dsh α} {x:α} (hf:P.funcs[F]? = some fn) (d:gin ps→D P (fun _:Unit=>i.good x)) (h:(vcbT P fn ps i x d).side true=(vcbT P fn ps i x d).side false):Cb P F ps i x:=by
 have h:=Tr.of_side h
 obtain ⟨h1,h⟩:=h
 refine ⟨fun w us hp => ?_⟩
 split at h
 ·next c hb=>
  have hl:us.length≤fn.ntmps:=by rw[hp.len];exact Nat.le_of_ble_eq_true h1
  refine enter us hf hb rfl hl ?_
  refine bE4 (t:=0) h hp (f:=fun t=>us.getD t undef) (fun k v hk=>by
   show us.getD (0+k) undef=v
   rw[Nat.zero_add,getD_eq_getElem?_getD,hk];rfl) ⟨fun t x hx=>(by cases hx),St.start w,fun e he=>by cases he⟩ fun s' h' den' hg => ?_
  have hret:∀ {s:S} {d:D P (fun _:Unit=>i.good x)} {f:Nat→Value} {W:World},(retB P i x fn.ntmps fn.results.toList s d).holds→Den w s f W→∃ v,(results fn (act fn.ntmps f).tmps).run P W = .ok v W∧∃ cs fp,i.C w cs x fp∧Ending.returned v = .returned (.agg cs.toArray)∧St w W []:=by
   intro s d f W h den
   refine fN h den fun s0_ d0_ h0_ den0_=>fN h0_ den0_ fun s1 d1 h1 den1 => ?_
   split at h1
   ·next a ha=>
    refine qA den1 h1 fun ts hts h2 => ?_
    split at h2
    ·next cs=>
     obtain ⟨⟨fp,hc⟩,_⟩:=qH (s:=⟨[],[],lasting s1.B,0⟩) (w0:=w) (W:=w) (St.start w) den1.fa.base h2
     exact ⟨_,jX hts,cs.map Sc.val,fp,i.inn ha hc,rfl,den1.st.bare⟩
    exact h2.elim
   exact h1.elim
  refine uW c (h' hg) den' fun e s2 d2 f2 W2 h2 den2 => ?_
  cases e with
  | ret=>exact ⟨rfl,hret h2 den2⟩
  | normal=>exact ⟨rfl,hret h2 den2⟩
  | exit i=>exact h2.elim
  | goto l=>exact h2.elim
  | panic ch=>exact h2.elim
  | outgrown=>exact h2.elim
 exact h.elim
end
end Go.Proofs.YtanpcpoogkdlaaaGreat
namespace Go.Proofs.YtanpcpoogkdlaaaGreat
set_option linter.unusedSimpArgs false
set_option linter.unusedVariables false
set_option maxRecDepth 100000
set_option maxHeartbeats 2000000
open Go.RowKit Go.Proofs.Tryz List
abbrev lS {β:Type} [i:Shape β] (ys:List β):Lf := .s β i ys
theorem aF {w:World} {cs:List Value} {u:Value} {ls:List Lf} {fp:List Nat} (h:cR w cs (.v u::ls) fp):∃ r,cs=u::r∧cR w r ls fp:=by
 cases cs with
 | nil=>exact h.elim
 | cons c r=>exact ⟨r,by rw[h.1],h.2⟩
theorem dC {w:World} {cs:List Value} {β:Type} {i:Shape β} {ys:List β} {ls:List Lf} {fp:List Nat} (h:cR w cs (.s β i ys::ls) fp):∃ c r f1 f2,cs=c::r∧Sl w c ys f1∧cR w r ls f2∧fp=f1++f2:=by
 cases cs with
 | nil=>exact h.elim
 | cons c r=>obtain ⟨f1,f2,h1,h2,h3⟩:=h;exact ⟨c,r,f1,f2,rfl,h1,h2,h3⟩
theorem dD {w:World} {cs:List Value} {fp:List Nat} (h:cR w cs [] fp):cs=[]∧fp=[]:=by
 cases cs with
 | nil=>exact ⟨rfl,h⟩
 | cons=>exact h.elim
instance:Dsh Int where
 lv:=fun n=>[.v (I n)]
 good:=I64
 out:=fun ⟨h1,h2,h3⟩=>by subst h1;subst h2;exact ⟨h3,rfl,rfl⟩
 inn:=fun hg h=>by obtain ⟨r,rfl,h2⟩:=aF h;obtain ⟨rfl,rfl⟩:=dD h2;exact ⟨rfl,rfl,hg⟩
instance:Dsh Bool where
 lv:=fun b=>[.v (.bool b)]
 good:=fun _=>True
 out:=fun ⟨h1,h2,h3⟩=>by subst h1;subst h2;exact ⟨h3,rfl,rfl⟩
 inn:=fun hg h=>by obtain ⟨r,rfl,h2⟩:=aF h;obtain ⟨rfl,rfl⟩:=dD h2;exact ⟨rfl,rfl,hg⟩
instance:Dsh ByteArray where
 lv:=fun b=>[.v (.string b)]
 good:=fun s=>s.size≤maxLen
 out:=fun ⟨h1,h2,h3⟩=>by subst h1;subst h2;exact ⟨h3,rfl,rfl⟩
 inn:=fun hg h=>by obtain ⟨r,rfl,h2⟩:=aF h;obtain ⟨rfl,rfl⟩:=dD h2;exact ⟨rfl,rfl,hg⟩
instance {α:Type} [Shape α]:Dsh (List α) where
 lv:=fun xs=>[.s α _ xs]
 good:=fun _=>True
 out:=fun ⟨v,h1,h2⟩=>by subst h1;exact ⟨trivial,_,[],h2,rfl,by simp⟩
 inn:=fun hg h=>by obtain ⟨c,r,f1,f2,rfl,h1,h2,rfl⟩:=dC h;obtain ⟨rfl,rfl⟩:=dD h2;exact ⟨c,rfl,by simpa using h1⟩
instance:Dsh Edge where
 lv:=fun x=>[.v (I x.from_),.v (I x.to_)]
 good:=Edge.ok
 out:=fun {w cs x fp} h=>by obtain ⟨h1,h2,h3⟩:=h;subst h1;subst h2;exact ⟨h3,rfl,rfl,rfl⟩
 inn:=fun hg h=>by obtain ⟨r0,e0,z0⟩:=aF h;obtain ⟨r1,e1,z1⟩:=aF z0;obtain ⟨e2,p0⟩:=dD z1;subst e2 e1 e0;subst p0;exact ⟨rfl,rfl,hg⟩
instance:Dsh Plan where
 lv:=fun x=>[.v (I x.prio),.v (I x.most),.v (I x.wait),.v (I x.tasks),lS x.edges]
 good:=Plan.ok
 out:=fun {w cs x fp} h=>by
  obtain ⟨v0,f0,hcs,hok,h0,hfp⟩:=h
  refine ⟨hok,?_⟩
  rw[hcs,hfp]
  have h:cR w [I x.prio,I x.most,I x.wait,I x.tasks,v0] [.v (I x.prio),.v (I x.most),.v (I x.wait),.v (I x.tasks),lS x.edges] (f0++[]):=⟨rfl,⟨rfl,⟨rfl,⟨rfl,⟨f0,_,h0,rfl,rfl⟩⟩⟩⟩⟩
  simpa using h
 inn:=fun hg h=>by
  obtain ⟨r0,e0,z0⟩:=aF h
  obtain ⟨r1,e1,z1⟩:=aF z0
  obtain ⟨r2,e2,z2⟩:=aF z1
  obtain ⟨r3,e3,z3⟩:=aF z2
  obtain ⟨c0,r4,f0,g0,e4,h0,z4,p0⟩:=dC z3
  obtain ⟨e5,p1⟩:=dD z4
  subst e5 e4 e3 e2 e1 e0
  subst p1 p0
  exact ⟨c0,f0,rfl,hg,h0,by simp⟩
instance:Dsh Entry where
 lv:=fun x=>[.v (I x.prio),.v (I x.seq),.v (I x.run),.v (I x.task)]
 good:=Entry.ok
 out:=fun {w cs x fp} h=>by obtain ⟨h1,h2,h3⟩:=h;subst h1;subst h2;exact ⟨h3,rfl,rfl,rfl,rfl,rfl⟩
 inn:=fun hg h=>by obtain ⟨r0,e0,z0⟩:=aF h;obtain ⟨r1,e1,z1⟩:=aF z0;obtain ⟨r2,e2,z2⟩:=aF z1;obtain ⟨r3,e3,z3⟩:=aF z2;obtain ⟨e4,p0⟩:=dD z3;subst e4 e3 e2 e1 e0;subst p0;exact ⟨rfl,rfl,hg⟩
instance:Dsh Task where
 lv:=fun x=>[.v (I x.state),.v (I x.need),.v (I x.try_),.v (I x.until_)]
 good:=Task.ok
 out:=fun {w cs x fp} h=>by obtain ⟨h1,h2,h3⟩:=h;subst h1;subst h2;exact ⟨h3,rfl,rfl,rfl,rfl,rfl⟩
 inn:=fun hg h=>by obtain ⟨r0,e0,z0⟩:=aF h;obtain ⟨r1,e1,z1⟩:=aF z0;obtain ⟨r2,e2,z2⟩:=aF z1;obtain ⟨r3,e3,z3⟩:=aF z2;obtain ⟨e4,p0⟩:=dD z3;subst e4 e3 e2 e1 e0;subst p0;exact ⟨rfl,rfl,hg⟩
instance:Dsh Run where
 lv:=fun x=>[.v (I x.id),.v (I x.plan.prio),.v (I x.plan.most),.v (I x.plan.wait),.v (I x.plan.tasks),lS x.plan.edges,.v (I x.state),lS x.tasks]
 good:=Run.ok
 out:=fun {w cs x fp} h=>by
  obtain ⟨v0,v1,f0,f1,hcs,hok,h0,h1,hfp⟩:=h
  refine ⟨hok,?_⟩
  rw[hcs,hfp]
  have h:cR w [I x.id,I x.plan.prio,I x.plan.most,I x.plan.wait,I x.plan.tasks,v0,I x.state,v1] [.v (I x.id),.v (I x.plan.prio),.v (I x.plan.most),.v (I x.plan.wait),.v (I x.plan.tasks),lS x.plan.edges,.v (I x.state),lS x.tasks] (f0++(f1++[])):=⟨rfl,⟨rfl,⟨rfl,⟨rfl,⟨rfl,⟨f0,_,h0,⟨rfl,⟨f1,_,h1,rfl,rfl⟩⟩,rfl⟩⟩⟩⟩⟩⟩
  simpa using h
 inn:=fun hg h=>by
  obtain ⟨r0,e0,z0⟩:=aF h
  obtain ⟨r1,e1,z1⟩:=aF z0
  obtain ⟨r2,e2,z2⟩:=aF z1
  obtain ⟨r3,e3,z3⟩:=aF z2
  obtain ⟨r4,e4,z4⟩:=aF z3
  obtain ⟨c0,r5,f0,g0,e5,h0,z5,p0⟩:=dC z4
  obtain ⟨r6,e6,z6⟩:=aF z5
  obtain ⟨c1,r7,f1,g1,e7,h1,z7,p1⟩:=dC z6
  obtain ⟨e8,p2⟩:=dD z7
  subst e8 e7 e6 e5 e4 e3 e2 e1 e0
  subst p2 p1 p0
  exact ⟨c0,c1,f0,f1,rfl,hg,h0,h1,by simp⟩
instance:Dsh Yard where
 lv:=fun x=>[.v (I x.now),.v (I x.seq),lS x.shelf,lS x.runs]
 good:=Yard.ok
 out:=fun {w cs x fp} h=>by
  obtain ⟨v0,v1,f0,f1,hcs,hok,h0,h1,hfp⟩:=h
  refine ⟨hok,?_⟩
  rw[hcs,hfp]
  have h:cR w [I x.now,I x.seq,v0,v1] [.v (I x.now),.v (I x.seq),lS x.shelf,lS x.runs] (f0++(f1++[])):=⟨rfl,⟨rfl,⟨f0,_,h0,⟨f1,_,h1,rfl,rfl⟩,rfl⟩⟩⟩
  simpa using h
 inn:=fun hg h=>by
  obtain ⟨r0,e0,z0⟩:=aF h
  obtain ⟨r1,e1,z1⟩:=aF z0
  obtain ⟨c0,r2,f0,g0,e2,h0,z2,p0⟩:=dC z1
  obtain ⟨c1,r3,f1,g1,e3,h1,z3,p1⟩:=dC z2
  obtain ⟨e4,p2⟩:=dD z3
  subst e4 e3 e2 e1 e0
  subst p2 p1 p0
  exact ⟨c0,c1,f0,f1,rfl,hg,h0,h1,by simp⟩
instance:Dsh Reply where
 lv:=fun x=>[.v (I x.code),.v (I x.run),.v (I x.task),.v (I x.try_)]
 good:=Reply.ok
 out:=fun {w cs x fp} h=>by obtain ⟨h1,h2,h3⟩:=h;subst h1;subst h2;exact ⟨h3,rfl,rfl,rfl,rfl,rfl⟩
 inn:=fun hg h=>by obtain ⟨r0,e0,z0⟩:=aF h;obtain ⟨r1,e1,z1⟩:=aF z0;obtain ⟨r2,e2,z2⟩:=aF z1;obtain ⟨r3,e3,z3⟩:=aF z2;obtain ⟨e4,p0⟩:=dD z3;subst e4 e3 e2 e1 e0;subst p0;exact ⟨rfl,rfl,hg⟩
instance:Dsh Deed where
 lv:=fun x=>[.v (I x.kind),.v (I x.run),.v (I x.plan.prio),.v (I x.plan.most),.v (I x.plan.wait),.v (I x.plan.tasks),lS x.plan.edges,.v (I x.task),.v (I x.try_),.v (I x.worker),.v (I x.draw)]
 good:=Deed.ok
 out:=fun {w cs x fp} h=>by
  obtain ⟨v0,f0,hcs,hok,h0,hfp⟩:=h
  refine ⟨hok,?_⟩
  rw[hcs,hfp]
  have h:cR w [I x.kind,I x.run,I x.plan.prio,I x.plan.most,I x.plan.wait,I x.plan.tasks,v0,I x.task,I x.try_,I x.worker,I x.draw] [.v (I x.kind),.v (I x.run),.v (I x.plan.prio),.v (I x.plan.most),.v (I x.plan.wait),.v (I x.plan.tasks),lS x.plan.edges,.v (I x.task),.v (I x.try_),.v (I x.worker),.v (I x.draw)] (f0++[]):=⟨rfl,⟨rfl,⟨rfl,⟨rfl,⟨rfl,⟨rfl,⟨f0,_,h0,⟨rfl,⟨rfl,⟨rfl,⟨rfl,rfl⟩⟩⟩⟩,rfl⟩⟩⟩⟩⟩⟩⟩
  simpa using h
 inn:=fun hg h=>by
  obtain ⟨r0,e0,z0⟩:=aF h
  obtain ⟨r1,e1,z1⟩:=aF z0
  obtain ⟨r2,e2,z2⟩:=aF z1
  obtain ⟨r3,e3,z3⟩:=aF z2
  obtain ⟨r4,e4,z4⟩:=aF z3
  obtain ⟨r5,e5,z5⟩:=aF z4
  obtain ⟨c0,r6,f0,g0,e6,h0,z6,p0⟩:=dC z5
  obtain ⟨r7,e7,z7⟩:=aF z6
  obtain ⟨r8,e8,z8⟩:=aF z7
  obtain ⟨r9,e9,z9⟩:=aF z8
  obtain ⟨r10,e10,z10⟩:=aF z9
  obtain ⟨e11,p1⟩:=dD z10
  subst e11 e10 e9 e8 e7 e6 e5 e4 e3 e2 e1 e0
  subst p1 p0
  exact ⟨c0,f0,rfl,hg,h0,by simp⟩
instance:Dsh Note where
 lv:=fun x=>[.v (I x.seq),.v (I x.deed.kind),.v (I x.deed.run),.v (I x.deed.plan.prio),.v (I x.deed.plan.most),.v (I x.deed.plan.wait),.v (I x.deed.plan.tasks),lS x.deed.plan.edges,.v (I x.deed.task),.v (I x.deed.try_),.v (I x.deed.worker),.v (I x.deed.draw)]
 good:=Note.ok
 out:=fun {w cs x fp} h=>by
  obtain ⟨v0,f0,hcs,hok,h0,hfp⟩:=h
  refine ⟨hok,?_⟩
  rw[hcs,hfp]
  have h:cR w [I x.seq,I x.deed.kind,I x.deed.run,I x.deed.plan.prio,I x.deed.plan.most,I x.deed.plan.wait,I x.deed.plan.tasks,v0,I x.deed.task,I x.deed.try_,I x.deed.worker,I x.deed.draw] [.v (I x.seq),.v (I x.deed.kind),.v (I x.deed.run),.v (I x.deed.plan.prio),.v (I x.deed.plan.most),.v (I x.deed.plan.wait),.v (I x.deed.plan.tasks),lS x.deed.plan.edges,.v (I x.deed.task),.v (I x.deed.try_),.v (I x.deed.worker),.v (I x.deed.draw)] (f0++[]):=⟨rfl,⟨rfl,⟨rfl,⟨rfl,⟨rfl,⟨rfl,⟨rfl,⟨f0,_,h0,⟨rfl,⟨rfl,⟨rfl,⟨rfl,rfl⟩⟩⟩⟩,rfl⟩⟩⟩⟩⟩⟩⟩⟩
  simpa using h
 inn:=fun hg h=>by
  obtain ⟨r0,e0,z0⟩:=aF h
  obtain ⟨r1,e1,z1⟩:=aF z0
  obtain ⟨r2,e2,z2⟩:=aF z1
  obtain ⟨r3,e3,z3⟩:=aF z2
  obtain ⟨r4,e4,z4⟩:=aF z3
  obtain ⟨r5,e5,z5⟩:=aF z4
  obtain ⟨r6,e6,z6⟩:=aF z5
  obtain ⟨c0,r7,f0,g0,e7,h0,z7,p0⟩:=dC z6
  obtain ⟨r8,e8,z8⟩:=aF z7
  obtain ⟨r9,e9,z9⟩:=aF z8
  obtain ⟨r10,e10,z10⟩:=aF z9
  obtain ⟨r11,e11,z11⟩:=aF z10
  obtain ⟨e12,p1⟩:=dD z11
  subst e12 e11 e10 e9 e8 e7 e6 e5 e4 e3 e2 e1 e0
  subst p1 p0
  exact ⟨c0,f0,rfl,hg,h0,by simp⟩
instance:Dsh Wait where
 lv:=fun x=>[.v (I x.call),.v (I x.reply.code),.v (I x.reply.run),.v (I x.reply.task),.v (I x.reply.try_)]
 good:=Wait.ok
 out:=fun {w cs x fp} h=>by obtain ⟨h1,h2,h3⟩:=h;subst h1;subst h2;exact ⟨h3,rfl,rfl,rfl,rfl,rfl,rfl⟩
 inn:=fun hg h=>by obtain ⟨r0,e0,z0⟩:=aF h;obtain ⟨r1,e1,z1⟩:=aF z0;obtain ⟨r2,e2,z2⟩:=aF z1;obtain ⟨r3,e3,z3⟩:=aF z2;obtain ⟨r4,e4,z4⟩:=aF z3;obtain ⟨e5,p0⟩:=dD z4;subst e5 e4 e3 e2 e1 e0;subst p0;exact ⟨rfl,rfl,hg⟩
instance:Dsh File where
 lv:=fun x=>[.v (.string x.name),.v (.string x.data),.v (I x.safe)]
 good:=File.ok
 out:=fun {w cs x fp} h=>by obtain ⟨h1,h2,h3⟩:=h;subst h1;subst h2;exact ⟨h3,rfl,rfl,rfl,rfl⟩
 inn:=fun hg h=>by obtain ⟨r0,e0,z0⟩:=aF h;obtain ⟨r1,e1,z1⟩:=aF z0;obtain ⟨r2,e2,z2⟩:=aF z1;obtain ⟨e3,p0⟩:=dD z2;subst e3 e2 e1 e0;subst p0;exact ⟨rfl,rfl,hg⟩
instance:Dsh Disk where
 lv:=fun x=>[lS x.files]
 good:=Disk.ok
 out:=fun {w cs x fp} h=>by
  obtain ⟨v0,f0,hcs,hok,h0,hfp⟩:=h
  refine ⟨hok,?_⟩
  rw[hcs,hfp]
  have h:cR w [v0] [lS x.files] (f0++[]):=⟨f0,_,h0,rfl,rfl⟩
  simpa using h
 inn:=fun hg h=>by
  obtain ⟨c0,r0,f0,g0,e0,h0,z0,p0⟩:=dC h
  obtain ⟨e1,p1⟩:=dD z0
  subst e1 e0
  subst p1 p0
  exact ⟨c0,f0,rfl,hg,h0,by simp⟩
instance:Dsh Engine where
 lv:=fun x=>[.v (I x.yard.now),.v (I x.yard.seq),lS x.yard.shelf,lS x.yard.runs,lS x.disk.files,.v (I x.next),.v (I x.calls),lS x.waits,.v (I x.state),.v (.bool x.broken)]
 good:=Engine.ok
 out:=fun {w cs x fp} h=>by
  obtain ⟨v0,v1,v2,v3,f0,f1,f2,f3,hcs,hok,h0,h1,h2,h3,hfp⟩:=h
  refine ⟨hok,?_⟩
  rw[hcs,hfp]
  have h:cR w [I x.yard.now,I x.yard.seq,v0,v1,v2,I x.next,I x.calls,v3,I x.state,.bool x.broken] [.v (I x.yard.now),.v (I x.yard.seq),lS x.yard.shelf,lS x.yard.runs,lS x.disk.files,.v (I x.next),.v (I x.calls),lS x.waits,.v (I x.state),.v (.bool x.broken)] (f0++(f1++(f2++(f3++[])))):=⟨rfl,⟨rfl,⟨f0,_,h0,⟨f1,_,h1,⟨f2,_,h2,⟨rfl,⟨rfl,⟨f3,_,h3,⟨rfl,⟨rfl,rfl⟩⟩,rfl⟩⟩⟩,rfl⟩,rfl⟩,rfl⟩⟩⟩
  simpa using h
 inn:=fun hg h=>by
  obtain ⟨r0,e0,z0⟩:=aF h
  obtain ⟨r1,e1,z1⟩:=aF z0
  obtain ⟨c0,r2,f0,g0,e2,h0,z2,p0⟩:=dC z1
  obtain ⟨c1,r3,f1,g1,e3,h1,z3,p1⟩:=dC z2
  obtain ⟨c2,r4,f2,g2,e4,h2,z4,p2⟩:=dC z3
  obtain ⟨r5,e5,z5⟩:=aF z4
  obtain ⟨r6,e6,z6⟩:=aF z5
  obtain ⟨c3,r7,f3,g3,e7,h3,z7,p3⟩:=dC z6
  obtain ⟨r8,e8,z8⟩:=aF z7
  obtain ⟨r9,e9,z9⟩:=aF z8
  obtain ⟨e10,p4⟩:=dD z9
  subst e10 e9 e8 e7 e6 e5 e4 e3 e2 e1 e0
  subst p4 p3 p2 p1 p0
  exact ⟨c0,c1,c2,c3,f0,f1,f2,f3,rfl,hg,h0,h1,h2,h3,by simp⟩
instance:Dsh WorldD where
 lv:=fun x=>[.v (I x.engine.yard.now),.v (I x.engine.yard.seq),lS x.engine.yard.shelf,lS x.engine.yard.runs,lS x.engine.disk.files,.v (I x.engine.next),.v (I x.engine.calls),lS x.engine.waits,.v (I x.engine.state),.v (.bool x.engine.broken),lS x.deeds,lS x.replies,.v (I x.told),.v (I x.fell)]
 good:=WorldD.ok
 out:=fun {w cs x fp} h=>by
  obtain ⟨v0,v1,v2,v3,v4,v5,f0,f1,f2,f3,f4,f5,hcs,hok,h0,h1,h2,h3,h4,h5,hfp⟩:=h
  refine ⟨hok,?_⟩
  rw[hcs,hfp]
  have h:cR w [I x.engine.yard.now,I x.engine.yard.seq,v0,v1,v2,I x.engine.next,I x.engine.calls,v3,I x.engine.state,.bool x.engine.broken,v4,v5,I x.told,I x.fell] [.v (I x.engine.yard.now),.v (I x.engine.yard.seq),lS x.engine.yard.shelf,lS x.engine.yard.runs,lS x.engine.disk.files,.v (I x.engine.next),.v (I x.engine.calls),lS x.engine.waits,.v (I x.engine.state),.v (.bool x.engine.broken),lS x.deeds,lS x.replies,.v (I x.told),.v (I x.fell)] (f0++(f1++(f2++(f3++(f4++(f5++[])))))):=⟨rfl,⟨rfl,⟨f0,_,h0,⟨f1,_,h1,⟨f2,_,h2,⟨rfl,⟨rfl,⟨f3,_,h3,⟨rfl,⟨rfl,⟨f4,_,h4,⟨f5,_,h5,⟨rfl,⟨rfl,rfl⟩⟩,rfl⟩,rfl⟩⟩⟩,rfl⟩⟩⟩,rfl⟩,rfl⟩,rfl⟩⟩⟩
  simpa using h
 inn:=fun hg h=>by
  obtain ⟨r0,e0,z0⟩:=aF h
  obtain ⟨r1,e1,z1⟩:=aF z0
  obtain ⟨c0,r2,f0,g0,e2,h0,z2,p0⟩:=dC z1
  obtain ⟨c1,r3,f1,g1,e3,h1,z3,p1⟩:=dC z2
  obtain ⟨c2,r4,f2,g2,e4,h2,z4,p2⟩:=dC z3
  obtain ⟨r5,e5,z5⟩:=aF z4
  obtain ⟨r6,e6,z6⟩:=aF z5
  obtain ⟨c3,r7,f3,g3,e7,h3,z7,p3⟩:=dC z6
  obtain ⟨r8,e8,z8⟩:=aF z7
  obtain ⟨r9,e9,z9⟩:=aF z8
  obtain ⟨c4,r10,f4,g4,e10,h4,z10,p4⟩:=dC z9
  obtain ⟨c5,r11,f5,g5,e11,h5,z11,p5⟩:=dC z10
  obtain ⟨r12,e12,z12⟩:=aF z11
  obtain ⟨r13,e13,z13⟩:=aF z12
  obtain ⟨e14,p6⟩:=dD z13
  subst e14 e13 e12 e11 e10 e9 e8 e7 e6 e5 e4 e3 e2 e1 e0
  subst p6 p5 p4 p3 p2 p1 p0
  exact ⟨c0,c1,c2,c3,c4,c5,f0,f1,f2,f3,f4,f5,rfl,hg,h0,h1,h2,h3,h4,h5,by simp⟩
instance:Dsh ActD where
 lv:=fun x=>[.v (I x.kind),.v (I x.deed.kind),.v (I x.deed.run),.v (I x.deed.plan.prio),.v (I x.deed.plan.most),.v (I x.deed.plan.wait),.v (I x.deed.plan.tasks),lS x.deed.plan.edges,.v (I x.deed.task),.v (I x.deed.try_),.v (I x.deed.worker),.v (I x.deed.draw),.v (I x.n),lS x.keep]
 good:=ActD.ok
 out:=fun {w cs x fp} h=>by
  obtain ⟨v0,v1,f0,f1,hcs,hok,h0,h1,hfp⟩:=h
  refine ⟨hok,?_⟩
  rw[hcs,hfp]
  have h:cR w [I x.kind,I x.deed.kind,I x.deed.run,I x.deed.plan.prio,I x.deed.plan.most,I x.deed.plan.wait,I x.deed.plan.tasks,v0,I x.deed.task,I x.deed.try_,I x.deed.worker,I x.deed.draw,I x.n,v1] [.v (I x.kind),.v (I x.deed.kind),.v (I x.deed.run),.v (I x.deed.plan.prio),.v (I x.deed.plan.most),.v (I x.deed.plan.wait),.v (I x.deed.plan.tasks),lS x.deed.plan.edges,.v (I x.deed.task),.v (I x.deed.try_),.v (I x.deed.worker),.v (I x.deed.draw),.v (I x.n),lS x.keep] (f0++(f1++[])):=⟨rfl,⟨rfl,⟨rfl,⟨rfl,⟨rfl,⟨rfl,⟨rfl,⟨f0,_,h0,⟨rfl,⟨rfl,⟨rfl,⟨rfl,⟨rfl,⟨f1,_,h1,rfl,rfl⟩⟩⟩⟩⟩⟩,rfl⟩⟩⟩⟩⟩⟩⟩⟩
  simpa using h
 inn:=fun hg h=>by
  obtain ⟨r0,e0,z0⟩:=aF h
  obtain ⟨r1,e1,z1⟩:=aF z0
  obtain ⟨r2,e2,z2⟩:=aF z1
  obtain ⟨r3,e3,z3⟩:=aF z2
  obtain ⟨r4,e4,z4⟩:=aF z3
  obtain ⟨r5,e5,z5⟩:=aF z4
  obtain ⟨r6,e6,z6⟩:=aF z5
  obtain ⟨c0,r7,f0,g0,e7,h0,z7,p0⟩:=dC z6
  obtain ⟨r8,e8,z8⟩:=aF z7
  obtain ⟨r9,e9,z9⟩:=aF z8
  obtain ⟨r10,e10,z10⟩:=aF z9
  obtain ⟨r11,e11,z11⟩:=aF z10
  obtain ⟨r12,e12,z12⟩:=aF z11
  obtain ⟨c1,r13,f1,g1,e13,h1,z13,p1⟩:=dC z12
  obtain ⟨e14,p2⟩:=dD z13
  subst e14 e13 e12 e11 e10 e9 e8 e7 e6 e5 e4 e3 e2 e1 e0
  subst p2 p1 p0
  exact ⟨c0,c1,f0,f1,rfl,hg,h0,h1,by simp⟩
end Go.Proofs.YtanpcpoogkdlaaaGreat
namespace Go.Proofs.YtanpcpoogkdlaaaGreat
set_option linter.unusedSimpArgs false
set_option linter.unusedVariables false
set_option maxHeartbeats 2000000
open Go.RowKit Go.Proofs.Tryz List
theorem all1 {α:Type} {p:α→Prop} {y:α} (h:p y):∀ z∈[y],p z:=fun z hz=>by rw[mem_singleton] at hz;rw[hz];exact h
theorem aX6 {α:Type} {p:α→Prop} {x y:α} (h:p x) (h2:p y):∀ z∈[x,y],p z:=fun z hz=>by
 rcases mem_cons.1 hz with rfl | hz
 ·exact h
 ·exact all1 h2 z hz
abbrev vi (e:Int):Value:=I e
namespace Par
abbrev I (e:Int):Par := .v (vi e)
abbrev T (e:ByteArray):Par := .v (.string e)
abbrev S {α:Type} [i:Dsh α] (x:α):Par := .st i x
abbrev L {α:Type} [i:Shape α] (x:List α):Par := .sl i x
end Par
namespace Rk
abbrev I (e:Int):Rk := .v (vi e)
abbrev B (e:Bool):Rk := .v (.bool e)
abbrev T (e:ByteArray):Rk := .v (.string e)
abbrev S {α:Type} [i:Dsh α] (x:α):Rk := .own i x
abbrev L {α:Type} [i:Shape α] (x:List α):Rk := .sl i x
end Rk
abbrev vI (t:Nat) (e:Int):Nat×Tv:=(t,.c (.v (I e)))
abbrev vT (t:Nat) (e:ByteArray):Nat×Tv:=(t,.c (.v (.string e)))
abbrev vR (t j:Nat):Nat×Tv:=(t,.c (.r j))
abbrev oR {α:Type} [i:Shape α] (j e:Nat) (xs:List α):Nat×To:=(j,.row i e xs)
abbrev oO {α:Type} [i:Shape α] (j:Nat) (xs:List α):Nat×To:=(j,.own i xs)
abbrev oB (j:Nat) (cs:List Tc):Nat×To:=(j,.bx cs)
theorem Cg.one {P:Program} {F:FuncId} {G:Option Gr} {ps:List Par} {A:Type} {rk:A→List Rk} (a0:A) (h:Cg P F G ps (fun a=>a=a0) rk):Cg P F G ps (fun _:Unit=>True) (fun _=>rk a0):=
 ⟨fun w us hG hp=>(h.run w us hG hp).mono fun e W hh=>by
  obtain ⟨a,vs,rs,ha,hh⟩:=hh
  subst ha
  exact ⟨(),vs,rs,trivial,hh⟩⟩
theorem Ct.one {P:Program} {F:FuncId} {ps:List Par} {A:Type} {rk:A→List Rk} (a0:A) (h:Ct P F ps (fun a=>a=a0) rk):Ct1 P F ps (rk a0):=Cg.one a0 h
theorem Cm.one {P:Program} {F:FuncId} {ps:List Par} {α:Type} {i:Dsh α} {x:α} {A:Type} {y:A→α} {rk:A→List Rk} (a0:A) (h:Cm P F ps i x (fun a=>a=a0) y rk):Cm P F ps i x (fun _:Unit=>True) (fun _=>y a0) (fun _=>rk a0):=
 ⟨fun w W0 b pre post t cs fp us rs st hp=>(h.run w W0 b pre post t cs fp us rs st hp).mono fun e W hh=>by
  obtain ⟨a,vs,cs',fp',rr,ha,hh⟩:=hh
  subst ha
  exact ⟨(),vs,cs',fp',rr,trivial,hh⟩⟩
theorem Cw.one {P:Program} {F:FuncId} {ps:List Pw} {A:Type} {rk:A→List Rk} (a0:A) (h:Cw P F ps (fun a=>a=a0) rk):Cw P F ps (fun _:Unit=>True) (fun _=>rk a0):=
 ⟨fun w W0 us r rs hp st=>(h.run w W0 us r rs hp st).mono fun e W hh=>by
  obtain ⟨a,vs,rr,ha,hh⟩:=hh
  subst ha
  exact ⟨(),vs,rr,trivial,hh⟩⟩
theorem bnT {e:Bool} (h:(!e)=true):e=false:=by cases e <;> simp_all
theorem bnF {e:Bool} (h:(!e)=false):e=true:=by cases e <;> simp_all
namespace D
variable {P:Program} {A:Type} {R:A→Prop}
abbrev x {α:Type} [i:Dsh α] (xs:List α) (n:Nat) (k:∀ x,xs[n]? = some x→i.good x→D P R) (h:n<xs.length:=by omega):D P R:=
 .ex (p:=fun x=>xs[n]? = some x) ⟨xs[n],getElem?_eq_getElem h⟩ fun x hx => .ix i xs n x hx n rfl (k x hx)
abbrev xe {α:Type} [i:Dsh α] (xs:List α) (n:Nat) (e:Int) (k:∀ x,xs[n]? = some x→i.good x→D P R) (h:n<xs.length:=by omega) (he:e=n:=by omega):D P R:=
 .ex (p:=fun x=>xs[n]? = some x) ⟨xs[n],getElem?_eq_getElem h⟩ fun x hx => .ix i xs n x hx e he (k x hx)
abbrev y {α:Type} [i:Dsh α] {xs:List α} {n:Nat} {x:α} (hx:xs[n]? = some x) (k:i.good x→D P R):D P R := .ix i xs n x hx n rfl k
abbrev ye {α:Type} [i:Dsh α] {xs:List α} {n:Nat} {x:α} (hx:xs[n]? = some x) (e:Int) (k:i.good x→D P R) (he:e=n:=by omega):D P R := .ix i xs n x hx e he k
abbrev z (j n:Nat) (k:D P R):D P R := .iy j n n rfl k
abbrev p (x y:Int) (k:D P R) (h:I64 (x+y):=by first | (unfold I64;omega) | (simp only[I64] at *;omega)):D P R := .ad x y h k
abbrev m (x y:Int) (k:D P R) (h:I64 (x - y):=by first | (unfold I64;omega) | (simp only[I64] at *;omega)):D P R := .su x y h k
abbrev o (x y:Int) (k:D P R) (h:I64 (x*y):=by first | (unfold I64;omega) | (simp only[I64] at *;omega)):D P R := .mu x y h k
abbrev q (x y:Int) (k:D P R) (h:(0≤x∧x≤9223372036854775807)∧0<y:=by omega):D P R := .qu x y h k
abbrev s (p:Prop) [i:Decidable p] (t:p→D P R) (f:¬ p→D P R):D P R := .sp p i t f
abbrev u (p:Prop) [i:Decidable p] (t:¬ p→D P R) (f:p→D P R):D P R := .sn p i t f
abbrev v (e:Bool) (t:e=false→D P R) (f:e=true→D P R):D P R := .sb (!e) (fun h=>t (bnT h)) (fun h=>f (bnF h))
abbrev kt (p:Prop) [i:Decidable p] (h:p) (k:D P R):D P R := .kn (decide p) true (decide_eq_true h) k
abbrev kf (p:Prop) [i:Decidable p] (h:¬ p) (k:D P R):D P R := .kn (decide p) false (decide_eq_false h) k
abbrev ut (p:Prop) [i:Decidable p] (h:¬ p) (k:D P R):D P R := .kn (!decide p) true (by rw[decide_eq_false h];rfl) k
abbrev uf (p:Prop) [i:Decidable p] (h:p) (k:D P R):D P R := .kn (!decide p) false (by rw[decide_eq_true h];rfl) k
abbrev c {ps:List Par} {rk:List Rk} {F:FuncId} {fn:Func} {G:Option Gr} (hf:P.funcs[F]? = some fn) (h:Cg P F G ps (fun _:Unit=>True) (fun _=>rk)) (k:gds rk→D P R) (hg:gps ps:=by repeat' (first | exact trivial | assumption | constructor)):D P R := .cq F hf h hg k
abbrev l {Γ:Type} (J:Γ→Prop) (m:Γ→Nat) (ks ko kb:List Nat) (TE:Γ→List (Nat×Tv)) (TO:Γ→List (Nat×To)) (g:Γ) (k:∀ g,J g→Tok J m (m g)→D P R) (h:J g:=by repeat' (first | exact trivial | assumption | omega | constructor)):D P R := .lp J m ks ko kb TE TO g h [] k
abbrev la {Γ:Type} (J:Γ→Prop) (m:Γ→Nat) (TE:Γ→List (Nat×Tv)) (TO:Γ→List (Nat×To)) (g:Γ) (k:∀ g,J g→Tok J m (m g)→D P R) (h:J g:=by repeat' (first | exact trivial | assumption | omega | constructor)):D P R := .lp J m [777777] [777777] [777777] TE TO g h [] k
abbrev n {Γ:Type} {J:Γ→Prop} {m:Γ→Nat} {c:Nat} (t:Tok J m c) (g:Γ) (sg:List (Nat×Nat)) (h1:J g:=by repeat' (first | exact trivial | assumption | omega | constructor)) (h2:m g<c:=by first | omega | (dsimp only;omega)):D P R := .nx t g h1 h2 sg
abbrev a {α:Type} [i:Dsh α] (xs:List α) (y:α) (bytes:Nat) (k:D P R) (hy:i.good y:=by first | exact trivial | assumption | (show I64 _;unfold I64;omega)) (h63:xs.length+1≤maxLen:=by unfold maxLen;omega) (hby:(xs.length+1)*bytes≤140737488355328:=by omega):D P R := .ap i xs [y] (all1 hy) bytes h63 hby k
abbrev g {α:Type} [i:Shape α] (j:Nat) {xs ys:List α} (h:xs=ys) (k:D P R):D P R := .rw i j xs ys h k
abbrev e (α:Type) [i:Shape α] (k:D P R):D P R := .em i k
abbrev w (α:Type) [i:Shape α] (e t:Nat) (k:D P R):D P R := .rn i e t k
abbrev b {α:Type} [i:Dsh α] (j:Nat) (xs:List α) (n:Nat) (k:∀ x,xs[n]? = some x→i.good x→D P R) (h:n<xs.length:=by omega):D P R:=
 .ex (p:=fun x=>xs[n]? = some x) ⟨xs[n],getElem?_eq_getElem h⟩ fun x hx => .le i j xs n x hx (k x hx)
abbrev d {α:Type} [i:Dsh α] (j:Nat) {xs:List α} {n:Nat} {x:α} (hx:xs[n]? = some x) (k:i.good x→D P R):D P R := .le i j xs n x hx k
abbrev f {α:Type} [i:Dsh α] (j:Nat) (xs:List α) (y:α) (k:D P R) (h:i.good y:=by first | exact trivial | assumption):D P R := .gi i j xs y h k
abbrev i (n:Nat) (k:D P R):D P R := .il n n rfl k
abbrev in_ {F:FuncId} {fn:Func} {A':Type} {R':A'→Prop} (hf:P.funcs[F]? = some fn) (d':D P R') (k:∀ a,R' a→D P R):D P R := .iv F hf (inl hf d') k
abbrev ma {α:Type} [i:Dsh α] (z:α) (n:Nat) (bytes:Nat) (k:D P R) (hn:n≤67108864:=by omega) (hb:n*bytes≤140737488355328:=by omega) (hz:i.good z:=by first | exact trivial | assumption):D P R := .mk i z n n rfl bytes hn hb hz k
abbrev ie (n:Nat) (e:Int) (k:D P R) (he:e=n:=by omega):D P R := .il n e he k
end D
end Go.Proofs.YtanpcpoogkdlaaaGreat
namespace Go.Proofs.YtanpcpoogkdlaaaGreat
set_option linter.unusedSimpArgs false
set_option linter.unusedVariables false
set_option maxRecDepth 100000
set_option maxHeartbeats 2000000
open Go.RowKit Go.Proofs.Tryz List
abbrev U (c:UInt8):Value := .int .u8 (c.toNat:Int)
instance:Dsh UInt8 where
 lv:=fun b=>[.v (U b)]
 good:=fun _=>True
 out:=fun {w cs x fp} h=>by obtain ⟨h1,h2,h3⟩:=h;subst h1;subst h2;exact ⟨h3,rfl,rfl⟩
 inn:=fun hg h=>by
  obtain ⟨r,e0,z0⟩:=aF h
  obtain ⟨e1,p1⟩:=dD z0
  subst e1 e0 p1
  exact ⟨rfl,rfl,hg⟩
theorem tV (c:UInt8):c.toNat<256:=by have:=c.toNat_lt;omega
theorem hk_ix {P:Program} {t:TypeId} {s:ByteArray} {i:Nat} {c:UInt8} {e:Int} (hu:P.underlying t=some .string) (h:s.data.toList[i]? = some c) (he:e=i):XOk P t (.string s) (I e) (U c):=by
 intro n f W Q K d ty pos af g xo yo hx hy k
 subst he
 obtain ⟨hi,rfl⟩:=gsi_.1 h
 refine Stp.run (v:=U (s.data.toList[i])) ?_ k
 have hs:0≤(i:Int)∧(i:Int)<s.size:=⟨by omega,by have:s.size=s.data.toList.length:=rfl;omega⟩
 have:=run_index_string (P:=P) (w:=W) t s .i64 i hu
 rw[dif_pos hs] at this
 simp only[execOp,hx,hy,Sem.run_bind,this,Result.andThen_ok];rfl
theorem bO4 {P:Program} {t t':TypeId} (c:UInt8) (hs:P.underlying t=some (.int .u8)) (hd:P.underlying t'=some (.int .i64)):COk P t t' (U c) (I c.toNat):=by
 intro n f W Q K d ty pos af g xo hx k
 refine Stp.run (v:=I c.toNat) ?_ k
 have hc:=tV c
 have hk:P.intKind t' = .i64:=by simp[Program.intKind,hd]
 have hw:IntKind.i64.wrap (c.toNat:Int)=c.toNat:=iF ⟨by omega,by omega⟩
 have hd':P.underlying t'=some (.int (P.intKind t')):=by rw[hk];exact hd
 have:=run_convert_int (P:=P) W t t' .u8 c.toNat (by rw[hs];rfl) hd'
 rw[hk,hw] at this
 simp only[execOp,hx,Sem.run_bind,this,Result.andThen_ok];rfl
def wtL {α:Type} (f:α→Nat) (xs:List α):Nat:=xs.length+(xs.map f).sum
def Plan.wt (x:Plan):Nat:=x.edges.length
def Run.wt (x:Run):Nat:=x.plan.wt+x.tasks.length
def Yard.wt (x:Yard):Nat:=wtL (fun y:List Entry=>y.length) (x.shelf)+wtL (fun y:Run=>y.wt) (x.runs)
def Deed.wt (x:Deed):Nat:=x.plan.wt
def Note.wt (x:Note):Nat:=x.deed.wt
def File.wt (x:File):Nat:=x.name.size+x.data.size
def Disk.wt (x:Disk):Nat:=wtL (fun y:File=>y.wt) (x.files)
def Engine.wt (x:Engine):Nat:=x.yard.wt+x.disk.wt+x.waits.length
def WorldD.wt (x:WorldD):Nat:=x.engine.wt+wtL (fun y:Deed=>y.wt) (x.deeds)+x.replies.length
def ActD.wt (x:ActD):Nat:=x.deed.wt+x.keep.length
def Span.wt (x:Span):Nat:=x.deed.wt
def Crew.wt (x:Crew):Nat:=x.yard.wt+x.holds.length
def szL (l:Int) (n:Nat):Int:=if l<n then -1 else l - n
theorem szL_t {l:Int} {n:Nat} (h:l<n):szL l n = -1:=by simp[szL,h]
theorem szL_f {l:Int} {n:Nat} (h:¬ l<n):szL l n=l - n:=by simp[szL,h]
theorem sL {α:Type} (f:α→Nat) (xs:List α) (n:Nat) (h:n<xs.length):((xs.take (n+1)).map f).sum=((xs.take n).map f).sum+f xs[n]:=by
 rw[take_succ_eq_append_getElem h,map_append,sum_append];simp only[map_cons,map_nil,sum_cons,sum_nil];omega
theorem fA {α:Type} (f:α→Nat):∀ (xs:List α) (n:Nat),((xs.take n).map f).sum≤(xs.map f).sum
 | [],n=>by simp
 | x::xs,0=>by simp
 | x::xs,n+1=>by have:=fA f xs n;simp only[take_succ_cons,map_cons,sum_cons];omega
theorem aY0 {α:Type} (f:α→Nat):∀ (xs:List α) (n:Nat) (h:n<xs.length),f xs[n]≤(xs.map f).sum
 | x::xs,0,_=>by simp
 | x::xs,n+1,h=>by have:=aY0 f xs n (by simpa using h);simp;omega
theorem Sl.val {α:Type} [Shape α] {w:World} {v:Value} {xs:List α} {fp:List Nat} (h:Sl w v xs fp):∃ ao cap,v = .slice ao xs.length cap:=by
 obtain ⟨ao,cap,h,_⟩:=h
 exact ⟨ao,cap,h⟩
theorem aV3 {α:Type} (f:α→Nat) {xs:List α} {k:Nat} {e:α} (h:xs[k]? = some e):f e≤wtL f xs:=by
 obtain ⟨hk,rfl⟩:=gsi_.1 h
 have h1:=sL f xs k hk
 have h2:=fA f xs (k+1)
 unfold wtL;omega
def toZ {α:Type} (z:α) (xs:List α) (k:Nat):List α:=xs.take k++List.replicate (xs.length - k) z
theorem xT {α:Type} (z:α) (xs:List α):List.replicate xs.length z=toZ z xs 0:=rfl
theorem rG {α:Type} (z:α) {xs:List α} {k:Nat} {e:α} (h:xs[k]? = some e):(toZ z xs k)[k]? = some z:=by
 obtain ⟨hk,rfl⟩:=gsi_.1 h
 unfold toZ
 rw[getElem?_append_right (by rw[length_take];omega),length_take,getElem?_replicate,if_pos aA]
theorem xR {α:Type} (z:α) {xs:List α} {k:Nat} {e:α} (h:xs[k]? = some e):(toZ z xs k).set k e=toZ z xs (k+1):=by
 obtain ⟨hk,rfl⟩:=gsi_.1 h
 unfold toZ
 have h1:(xs.take k).length=k:=by rw[length_take];omega
 rw[set_append_right _ _ aA,h1,Nat.sub_self,show xs.length - k=(xs.length - (k+1))+1 by omega,replicate_succ,set_cons_zero,take_succ_eq_append_getElem hk,append_assoc]
 rfl
theorem xS {α:Type} (z:α) {xs:List α} {k:Nat} (h:¬ (k:Int)<xs.length):toZ z xs k=xs:=by
 unfold toZ
 rw[take_of_length_le aA,show xs.length - k=0 by omega];simp
theorem toEdge_d (x:Edge):Ct1 prog 367 [.S x] [.S x]:=
 vc func367 (fun (hg:gin [Par.S x])=>let gx:=hg.1.1
  .rt () ⟨trivial,gx,trivial⟩) aC
theorem toEdgeS_d (xs:List (Edge)) (hw:xs.length≤1048576):Ct1 prog 275 [.L xs] [.L xs]:=
 vc func275 (fun hg=>let hl:xs.length≤1048576:=aA
  .ma (⟨0,0⟩:Edge) xs.length 16 (hz:=(by simp[Dsh.good,Edge.ok,Plan.ok,Entry.ok,Task.ok,Run.ok,Yard.ok,Reply.ok,Deed.ok,Note.ok,Wait.ok,File.ok,Disk.ok,Engine.ok,WorldD.ok,ActD.ok,Hand.ok,Span.ok,Crew.ok,View.ok,I64,maxLen])) <| .g 1 (xT (⟨0,0⟩:Edge) xs) <| .la (Γ:=Nat) (fun k=>k≤xs.length) (fun k=>xs.length - k) (fun k=>[vI 4 k]) (fun k=>[oO 1 (toZ (⟨0,0⟩:Edge) xs k)]) 0 fun k hk t => .s ((k:Int)<xs.length)
   (fun h => .x xs k (h:=by omega) fun e he ge => .c func367 (toEdge_d e) (hg:=⟨ge,trivial⟩) fun _ => .d 1 (rG (⟨0,0⟩:Edge) he) fun _ => .i k <| .wt 12 <| .f 1 (toZ (⟨0,0⟩:Edge) xs k) e (h:=ge) <| .g 1 (xR (⟨0,0⟩:Edge) he) <| .p k 1 (h:=by unfold I64;omega) <| .n t (k+1) [])
   (fun h => .g 1 (xS (⟨0,0⟩:Edge) h) <| .rt () ⟨trivial,trivial⟩)) aC
theorem aP3 (x:Plan) (hw:x.wt≤1048576):Ct1 prog 165 [.S x] [.S x]:=
 vc func165 (fun (hg:gin [Par.S x])=>let gx:=hg.1.1
  .c func275 (toEdgeS_d x.edges (by unfold Plan.wt at hw;omega)) fun _ => .rt () ⟨trivial,gx,trivial⟩) aC
theorem toEntry_d (x:Entry):Ct1 prog 398 [.S x] [.S x]:=
 vc func398 (fun (hg:gin [Par.S x])=>let gx:=hg.1.1
  .rt () ⟨trivial,gx,trivial⟩) aC
theorem toEntryS_d (xs:List (Entry)) (hw:xs.length≤1048576):Ct1 prog 357 [.L xs] [.L xs]:=
 vc func357 (fun hg=>let hl:xs.length≤1048576:=aA
  .ma (⟨0,0,0,0⟩:Entry) xs.length 32 (hz:=(by simp[Dsh.good,Edge.ok,Plan.ok,Entry.ok,Task.ok,Run.ok,Yard.ok,Reply.ok,Deed.ok,Note.ok,Wait.ok,File.ok,Disk.ok,Engine.ok,WorldD.ok,ActD.ok,Hand.ok,Span.ok,Crew.ok,View.ok,I64,maxLen])) <| .g 1 (xT (⟨0,0,0,0⟩:Entry) xs) <| .la (Γ:=Nat) (fun k=>k≤xs.length) (fun k=>xs.length - k) (fun k=>[vI 4 k]) (fun k=>[oO 1 (toZ (⟨0,0,0,0⟩:Entry) xs k)]) 0 fun k hk t => .s ((k:Int)<xs.length)
   (fun h => .x xs k (h:=by omega) fun e he ge => .c func398 (toEntry_d e) (hg:=⟨ge,trivial⟩) fun _ => .d 1 (rG (⟨0,0,0,0⟩:Entry) he) fun _ => .i k <| .wt 12 <| .f 1 (toZ (⟨0,0,0,0⟩:Entry) xs k) e (h:=ge) <| .g 1 (xR (⟨0,0,0,0⟩:Entry) he) <| .p k 1 (h:=by unfold I64;omega) <| .n t (k+1) [])
   (fun h => .g 1 (xS (⟨0,0,0,0⟩:Entry) h) <| .rt () ⟨trivial,trivial⟩)) aC
theorem toTask_d (x:Task):Ct1 prog 409 [.S x] [.S x]:=
 vc func409 (fun (hg:gin [Par.S x])=>let gx:=hg.1.1
  .rt () ⟨trivial,gx,trivial⟩) aC
theorem toTaskS_d (xs:List (Task)) (hw:xs.length≤1048576):Ct1 prog 399 [.L xs] [.L xs]:=
 vc func399 (fun hg=>let hl:xs.length≤1048576:=aA
  .ma (⟨0,0,0,0⟩:Task) xs.length 32 (hz:=(by simp[Dsh.good,Edge.ok,Plan.ok,Entry.ok,Task.ok,Run.ok,Yard.ok,Reply.ok,Deed.ok,Note.ok,Wait.ok,File.ok,Disk.ok,Engine.ok,WorldD.ok,ActD.ok,Hand.ok,Span.ok,Crew.ok,View.ok,I64,maxLen])) <| .g 1 (xT (⟨0,0,0,0⟩:Task) xs) <| .la (Γ:=Nat) (fun k=>k≤xs.length) (fun k=>xs.length - k) (fun k=>[vI 4 k]) (fun k=>[oO 1 (toZ (⟨0,0,0,0⟩:Task) xs k)]) 0 fun k hk t => .s ((k:Int)<xs.length)
   (fun h => .x xs k (h:=by omega) fun e he ge => .c func409 (toTask_d e) (hg:=⟨ge,trivial⟩) fun _ => .d 1 (rG (⟨0,0,0,0⟩:Task) he) fun _ => .i k <| .wt 12 <| .f 1 (toZ (⟨0,0,0,0⟩:Task) xs k) e (h:=ge) <| .g 1 (xR (⟨0,0,0,0⟩:Task) he) <| .p k 1 (h:=by unfold I64;omega) <| .n t (k+1) [])
   (fun h => .g 1 (xS (⟨0,0,0,0⟩:Task) h) <| .rt () ⟨trivial,trivial⟩)) aC
theorem toRun_d (x:Run) (hw:x.wt≤1048576):Ct1 prog 358 [.S x] [.S x]:=
 vc func358 (fun (hg:gin [Par.S x])=>let gx:=hg.1.1
  .c func165 (aP3 x.plan (by unfold Run.wt at hw;omega)) (hg:=⟨(show Run.ok _ from gx).2.1,trivial⟩) fun _ => .c func399 (toTaskS_d x.tasks (by unfold Run.wt at hw;omega)) fun _ => .rt () ⟨trivial,gx,trivial⟩) aC
theorem toRunS_d (xs:List (Run)) (hw:wtL (fun y:Run=>y.wt) xs≤1048576):Ct1 prog 257 [.L xs] [.L xs]:=
 vc func257 (fun hg=>let hl:xs.length≤1048576:=(by unfold wtL at hw;omega)
  .ma (⟨0,⟨0,0,0,0,[]⟩,0,[]⟩:Run) xs.length 96 (hz:=(by simp[Dsh.good,Edge.ok,Plan.ok,Entry.ok,Task.ok,Run.ok,Yard.ok,Reply.ok,Deed.ok,Note.ok,Wait.ok,File.ok,Disk.ok,Engine.ok,WorldD.ok,ActD.ok,Hand.ok,Span.ok,Crew.ok,View.ok,I64,maxLen])) <| .g 1 (xT (⟨0,⟨0,0,0,0,[]⟩,0,[]⟩:Run) xs) <| .la (Γ:=Nat) (fun k=>k≤xs.length) (fun k=>xs.length - k) (fun k=>[vI 4 k]) (fun k=>[oO 1 (toZ (⟨0,⟨0,0,0,0,[]⟩,0,[]⟩:Run) xs k)]) 0 fun k hk t => .s ((k:Int)<xs.length)
   (fun h => .x xs k (h:=by omega) fun e he ge => .c func358 (toRun_d e (by have:=aV3 (fun y:Run=>y.wt) he;omega)) (hg:=⟨ge,trivial⟩) fun _ => .d 1 (rG (⟨0,⟨0,0,0,0,[]⟩,0,[]⟩:Run) he) fun _ => .i k <| .wt 12 <| .f 1 (toZ (⟨0,⟨0,0,0,0,[]⟩,0,[]⟩:Run) xs k) e (h:=ge) <| .g 1 (xR (⟨0,⟨0,0,0,0,[]⟩,0,[]⟩:Run) he) <| .p k 1 (h:=by unfold I64;omega) <| .n t (k+1) [])
   (fun h => .g 1 (xS (⟨0,⟨0,0,0,0,[]⟩,0,[]⟩:Run) h) <| .rt () ⟨trivial,trivial⟩)) aC
theorem toEntrySS_d (xs:List (List Entry)) (hw:wtL (fun y:List Entry=>y.length) xs≤1048576):Ct1 prog 256 [.L xs] [.L xs]:=
 vc func256 (fun hg=>let hl:xs.length≤1048576:=(by unfold wtL at hw;omega)
  .ma ([]:List Entry) xs.length 24 (hz:=trivial) <| .g 1 (xT ([]:List Entry) xs) <| .la (Γ:=Nat) (fun k=>k≤xs.length) (fun k=>xs.length - k) (fun k=>[vI 4 k]) (fun k=>[oO 1 (toZ ([]:List Entry) xs k)]) 0 fun k hk t => .s ((k:Int)<xs.length)
   (fun h => .x xs k (h:=by omega) fun e he ge => .c func357 (toEntryS_d e (by have:=aV3 (fun y:List Entry=>y.length) he;omega)) fun _ => .d 1 (rG ([]:List Entry) he) fun _ => .i k <| .wt 12 <| .f 1 (toZ ([]:List Entry) xs k) e (h:=trivial) <| .g 1 (xR ([]:List Entry) he) <| .p k 1 (h:=by unfold I64;omega) <| .n t (k+1) [])
   (fun h => .g 1 (xS ([]:List Entry) h) <| .rt () ⟨trivial,trivial⟩)) aC
theorem toYard_d (x:Yard) (hw:x.wt≤1048576):Ct1 prog 141 [.S x] [.S x]:=
 vc func141 (fun (hg:gin [Par.S x])=>let gx:=hg.1.1
  .c func256 (toEntrySS_d x.shelf (by unfold Yard.wt at hw;omega)) fun _ => .c func257 (toRunS_d x.runs (by unfold Yard.wt at hw;omega)) fun _ => .rt () ⟨trivial,gx,trivial⟩) aC
theorem toReply_d (x:Reply):Ct1 prog 267 [.S x] [.S x]:=
 vc func267 (fun (hg:gin [Par.S x])=>let gx:=hg.1.1
  .rt () ⟨trivial,gx,trivial⟩) aC
theorem toDeed_d (x:Deed) (hw:x.wt≤1048576):Ct1 prog 62 [.S x] [.S x]:=
 vc func62 (fun (hg:gin [Par.S x])=>let gx:=hg.1.1
  .c func165 (aP3 x.plan (by unfold Deed.wt at hw;omega)) (hg:=⟨(show Deed.ok _ from gx).2.2.1,trivial⟩) fun _ => .rt () ⟨trivial,gx,trivial⟩) aC
theorem toWait_d (x:Wait):Ct1 prog 258 [.S x] [.S x]:=
 vc func258 (fun (hg:gin [Par.S x])=>let gx:=hg.1.1
  .c func267 (toReply_d x.reply) (hg:=⟨(show Wait.ok _ from gx).2,trivial⟩) fun _ => .rt () ⟨trivial,gx,trivial⟩) aC
theorem toWaitS_d (xs:List (Wait)) (hw:xs.length≤1048576):Ct1 prog 142 [.L xs] [.L xs]:=
 vc func142 (fun hg=>let hl:xs.length≤1048576:=aA
  .ma (⟨0,⟨0,0,0,0⟩⟩:Wait) xs.length 40 (hz:=(by simp[Dsh.good,Edge.ok,Plan.ok,Entry.ok,Task.ok,Run.ok,Yard.ok,Reply.ok,Deed.ok,Note.ok,Wait.ok,File.ok,Disk.ok,Engine.ok,WorldD.ok,ActD.ok,Hand.ok,Span.ok,Crew.ok,View.ok,I64,maxLen])) <| .g 1 (xT (⟨0,⟨0,0,0,0⟩⟩:Wait) xs) <| .la (Γ:=Nat) (fun k=>k≤xs.length) (fun k=>xs.length - k) (fun k=>[vI 4 k]) (fun k=>[oO 1 (toZ (⟨0,⟨0,0,0,0⟩⟩:Wait) xs k)]) 0 fun k hk t => .s ((k:Int)<xs.length)
   (fun h => .x xs k (h:=by omega) fun e he ge => .c func258 (toWait_d e) (hg:=⟨ge,trivial⟩) fun _ => .d 1 (rG (⟨0,⟨0,0,0,0⟩⟩:Wait) he) fun _ => .i k <| .wt 12 <| .f 1 (toZ (⟨0,⟨0,0,0,0⟩⟩:Wait) xs k) e (h:=ge) <| .g 1 (xR (⟨0,⟨0,0,0,0⟩⟩:Wait) he) <| .p k 1 (h:=by unfold I64;omega) <| .n t (k+1) [])
   (fun h => .g 1 (xS (⟨0,⟨0,0,0,0⟩⟩:Wait) h) <| .rt () ⟨trivial,trivial⟩)) aC
theorem toFile_d (x:File) (hw:x.wt≤1048576):Ct1 prog 243 [.S x] [.S x]:=
 vc func243 (fun (hg:gin [Par.S x])=>let gx:=hg.1.1
  .rt () ⟨trivial,gx,trivial⟩) aC
theorem toFileS_d (xs:List (File)) (hw:wtL (fun y:File=>y.wt) xs≤1048576):Ct1 prog 127 [.L xs] [.L xs]:=
 vc func127 (fun hg=>let hl:xs.length≤1048576:=(by unfold wtL at hw;omega)
  .ma (⟨ByteArray.empty,ByteArray.empty,0⟩:File) xs.length 40 (hz:=(by simp[Dsh.good,Edge.ok,Plan.ok,Entry.ok,Task.ok,Run.ok,Yard.ok,Reply.ok,Deed.ok,Note.ok,Wait.ok,File.ok,Disk.ok,Engine.ok,WorldD.ok,ActD.ok,Hand.ok,Span.ok,Crew.ok,View.ok,I64,maxLen])) <| .g 1 (xT (⟨ByteArray.empty,ByteArray.empty,0⟩:File) xs) <| .la (Γ:=Nat) (fun k=>k≤xs.length) (fun k=>xs.length - k) (fun k=>[vI 4 k]) (fun k=>[oO 1 (toZ (⟨ByteArray.empty,ByteArray.empty,0⟩:File) xs k)]) 0 fun k hk t => .s ((k:Int)<xs.length)
   (fun h => .x xs k (h:=by omega) fun e he ge => .c func243 (toFile_d e (by have:=aV3 (fun y:File=>y.wt) he;omega)) (hg:=⟨ge,trivial⟩) fun _ => .d 1 (rG (⟨ByteArray.empty,ByteArray.empty,0⟩:File) he) fun _ => .i k <| .wt 12 <| .f 1 (toZ (⟨ByteArray.empty,ByteArray.empty,0⟩:File) xs k) e (h:=ge) <| .g 1 (xR (⟨ByteArray.empty,ByteArray.empty,0⟩:File) he) <| .p k 1 (h:=by unfold I64;omega) <| .n t (k+1) [])
   (fun h => .g 1 (xS (⟨ByteArray.empty,ByteArray.empty,0⟩:File) h) <| .rt () ⟨trivial,trivial⟩)) aC
theorem toDisk_d (x:Disk) (hw:x.wt≤1048576):Ct1 prog 35 [.S x] [.S x]:=
 vc func35 (fun (hg:gin [Par.S x])=>let gx:=hg.1.1
  .c func127 (toFileS_d x.files (by unfold Disk.wt at hw;omega)) fun _ => .rt () ⟨trivial,gx,trivial⟩) aC
theorem toEngine_d (x:Engine) (hw:x.wt≤1048576):Ct1 prog 43 [.S x] [.S x]:=
 vc func43 (fun (hg:gin [Par.S x])=>let gx:=hg.1.1
  .c func141 (toYard_d x.yard (by unfold Engine.wt at hw;omega)) (hg:=⟨(show Engine.ok _ from gx).1,trivial⟩) fun _ => .c func35 (toDisk_d x.disk (by unfold Engine.wt at hw;omega)) (hg:=⟨trivial,trivial⟩) fun _ => .c func142 (toWaitS_d x.waits (by unfold Engine.wt at hw;omega)) fun _ => .rt () ⟨trivial,gx,trivial⟩) aC
theorem jE {l:Int} {n:Nat} (h:szL l n<0) (hl:0≤l):l<n:=by
 unfold szL at h;split at h <;> omega
theorem gV {l:Int} {n:Nat} (h:¬ szL l n<0) (hl:0≤l):(n:Int)≤l∧szL l n=l - n:=by
 unfold szL at h ⊢;split at h <;> split <;> omega
theorem lV {l:Int} {n:Nat} (h:l<n) : -1=szL l n:=(szL_t h).symm
theorem wJ {l v:Int} {n:Nat} (h:v=l - n) (h0:0≤v):v=szL l n:=by rw[szL_f aA,h]
theorem bJ3 {α:Type} (f:α→Nat) (xs:List α) (k:Nat) (h:k<xs.length):∃ e,xs[k]? = some e∧((xs.take (k+1)).map f).sum=((xs.take k).map f).sum+f e:=⟨xs[k],getElem?_eq_getElem h,sL f xs k h⟩
theorem sz_e {α:Type} {f:α→Nat} {xs:List α} {k n:Nat} {g l:Int} (h:g+(((xs.take k).map f).sum:Nat)=l - (xs.length:Int)) (hk:xs.length≤k) (hn:n=xs.length+(xs.map f).sum) (h0:0≤g):g=szL l n:=by
 rw[take_of_length_le hk] at h
 exact wJ aA h0
theorem szEdgeS_d (xs:List (Edge)) (l:Int) (hl:0≤l) (hl2:l≤1048576):Ct1 prog 274 [.L xs,.I l] [.I (szL l (xs.length))]:=
 .one (szL l (xs.length)) (rk:=fun b=>[.I b])<|vc func274 (fun (hg:gin [Par.L xs,Par.I l])=>let hcap:=hg.1
  .m l (xs.length:Int) (h:=by unfold I64;omega) <| .s (l - (xs.length:Int)<0) (fun h => .rt (-1) ⟨lV aA,trivial⟩) (fun h => .rt (l - (xs.length:Int)) ⟨wJ aA aA,trivial⟩)) aC
theorem aP8 (x:Plan) (l:Int) (hl:0≤l) (hl2:l≤1048576):Ct1 prog 164 [.S x,.I l] [.I (szL l x.wt)]:=
 .one (szL l x.wt) (rk:=fun b=>[.I b])<|vc func164 (fun (hg:gin [Par.S x,Par.I l])=>let gx:=hg.1.1
  let hwt:x.wt=x.edges.length:=rfl
  .c func274 (szEdgeS_d x.edges (l) aA aA) fun _ => .s (szL (l) (x.edges.length)<0) (fun h0 => .rt (-1) ⟨lV (by have:=jE h0 aA;omega),trivial⟩) (fun h0=>let q0:=gV h0 aA;.rv 1 (I (l - ((x.edges.length:Nat):Int))) (congrArg I q0.2) <| .rt (l - ((x.edges.length:Nat):Int)) ⟨wJ aA aA,trivial⟩)) aC
theorem szEntryS_d (xs:List (Entry)) (l:Int) (hl:0≤l) (hl2:l≤1048576):Ct1 prog 354 [.L xs,.I l] [.I (szL l (xs.length))]:=
 .one (szL l (xs.length)) (rk:=fun b=>[.I b])<|vc func354 (fun (hg:gin [Par.L xs,Par.I l])=>let hcap:=hg.1
  .m l (xs.length:Int) (h:=by unfold I64;omega) <| .s (l - (xs.length:Int)<0) (fun h => .rt (-1) ⟨lV aA,trivial⟩) (fun h => .rt (l - (xs.length:Int)) ⟨wJ aA aA,trivial⟩)) aC
theorem szTaskS_d (xs:List (Task)) (l:Int) (hl:0≤l) (hl2:l≤1048576):Ct1 prog 397 [.L xs,.I l] [.I (szL l (xs.length))]:=
 .one (szL l (xs.length)) (rk:=fun b=>[.I b])<|vc func397 (fun (hg:gin [Par.L xs,Par.I l])=>let hcap:=hg.1
  .m l (xs.length:Int) (h:=by unfold I64;omega) <| .s (l - (xs.length:Int)<0) (fun h => .rt (-1) ⟨lV aA,trivial⟩) (fun h => .rt (l - (xs.length:Int)) ⟨wJ aA aA,trivial⟩)) aC
theorem szRun_d (x:Run) (l:Int) (hl:0≤l) (hl2:l≤1048576):Ct1 prog 355 [.S x,.I l] [.I (szL l x.wt)]:=
 .one (szL l x.wt) (rk:=fun b=>[.I b])<|vc func355 (fun (hg:gin [Par.S x,Par.I l])=>let gx:=hg.1.1
  let hwt:x.wt=x.plan.wt+x.tasks.length:=rfl
  .c func164 (aP8 x.plan (l) aA aA) (hg:=⟨(show Run.ok _ from gx).2.1,trivial⟩) fun _ => .s (szL (l) (x.plan.wt)<0) (fun h0 => .rt (-1) ⟨lV (by have:=jE h0 aA;omega),trivial⟩) (fun h0=>let q0:=gV h0 aA;.rv 1 (I (l - ((x.plan.wt:Nat):Int))) (congrArg I q0.2) <| .c func397 (szTaskS_d x.tasks (l - ((x.plan.wt:Nat):Int)) aA aA) fun _ => .s (szL (l - ((x.plan.wt:Nat):Int)) (x.tasks.length)<0) (fun h1 => .rt (-1) ⟨lV (by have:=jE h1 aA;omega),trivial⟩) (fun h1=>let q1:=gV h1 aA;.rv 1 (I (l - ((x.plan.wt:Nat):Int) - ((x.tasks.length:Nat):Int))) (congrArg I q1.2) <| .rt (l - ((x.plan.wt:Nat):Int) - ((x.tasks.length:Nat):Int)) ⟨wJ aA aA,trivial⟩))) aC
theorem szRunS_d (xs:List (Run)) (l:Int) (hl:0≤l) (hl2:l≤1048576):Ct1 prog 254 [.L xs,.I l] [.I (szL l (wtL (fun y:Run=>y.wt) xs))]:=
 .one (szL l (wtL (fun y:Run=>y.wt) xs)) (rk:=fun b=>[.I b])<|vc func254 (fun (hg:gin [Par.L xs,Par.I l])=>let hcap:=hg.1
  let hwt:wtL (fun y:Run=>y.wt) xs=xs.length+(xs.map (fun y:Run=>y.wt)).sum:=rfl
  .m l (xs.length:Int) (h:=by unfold I64;omega) <| .s (l - (xs.length:Int)<0) (fun h => .rt (-1) ⟨lV aA,trivial⟩) (fun h => .l (Γ:=Nat×Int) (fun g=>g.1≤xs.length∧0≤g.2∧g.2+(((xs.take g.1).map (fun y:Run=>y.wt)).sum:Nat)=l - (xs.length:Int)) (fun g=>xs.length - g.1) [0] [] [0] (fun g=>[vI 5 g.1,vI 1 g.2]) (fun g=>[]) (0,l - (xs.length:Int)) (h:=⟨Nat.zero_le _,by show 0≤l - (xs.length:Int);omega,by simp⟩) fun g hJ tk => .s ((g.1:Int)<xs.length)
   (fun h2 => .ex (p:=fun e=>xs[g.1]? = some e∧((xs.take (g.1+1)).map (fun y:Run=>y.wt)).sum=((xs.take g.1).map (fun y:Run=>y.wt)).sum+(fun y:Run=>y.wt) e) (bJ3 (fun y:Run=>y.wt) xs g.1 aA) fun e he => .y he.1 fun ge=>let hle:=fA (fun y:Run=>y.wt) xs (g.1+1)
    let he2:((xs.take (g.1+1)).map (fun y:Run=>y.wt)).sum=((xs.take g.1).map (fun y:Run=>y.wt)).sum+e.wt:=he.2
    .c func355 (szRun_d e g.2 aA aA) (hg:=⟨ge,trivial⟩) fun _ => .s (szL g.2 (e.wt)<0) (fun h3 => .rt (-1) ⟨lV (by have:=jE h3 aA;omega),trivial⟩)
     (fun h3=>let q:=gV h3 aA;.rv 1 (I (g.2 - ((e.wt:Nat):Int))) (congrArg I q.2) <| .p g.1 1 (h:=by unfold I64;omega) <| .n tk (g.1+1,g.2 - ((e.wt:Nat):Int)) [] (h1:=⟨by show g.1+1≤_;omega,by show 0≤g.2 - ((e.wt:Nat):Int);omega,by show g.2 - ((e.wt:Nat):Int)+(((xs.take (g.1+1)).map (fun y:Run=>y.wt)).sum:Nat)=_;omega⟩) (h2:=by show xs.length - (g.1+1)<_;omega)))
   (fun h2 => .rt g.2 ⟨sz_e hJ.2.2 (show xs.length≤g.1 by omega) hwt hJ.2.1,trivial⟩))) aC
theorem szEntrySS_d (xs:List (List Entry)) (l:Int) (hl:0≤l) (hl2:l≤1048576):Ct1 prog 253 [.L xs,.I l] [.I (szL l (wtL (fun y:List Entry=>y.length) xs))]:=
 .one (szL l (wtL (fun y:List Entry=>y.length) xs)) (rk:=fun b=>[.I b])<|vc func253 (fun (hg:gin [Par.L xs,Par.I l])=>let hcap:=hg.1
  let hwt:wtL (fun y:List Entry=>y.length) xs=xs.length+(xs.map (fun y:List Entry=>y.length)).sum:=rfl
  .m l (xs.length:Int) (h:=by unfold I64;omega) <| .s (l - (xs.length:Int)<0) (fun h => .rt (-1) ⟨lV aA,trivial⟩) (fun h => .l (Γ:=Nat×Int) (fun g=>g.1≤xs.length∧0≤g.2∧g.2+(((xs.take g.1).map (fun y:List Entry=>y.length)).sum:Nat)=l - (xs.length:Int)) (fun g=>xs.length - g.1) [0] [] [0] (fun g=>[vI 5 g.1,vI 1 g.2]) (fun g=>[]) (0,l - (xs.length:Int)) (h:=⟨Nat.zero_le _,by show 0≤l - (xs.length:Int);omega,by simp⟩) fun g hJ tk => .s ((g.1:Int)<xs.length)
   (fun h2 => .ex (p:=fun e=>xs[g.1]? = some e∧((xs.take (g.1+1)).map (fun y:List Entry=>y.length)).sum=((xs.take g.1).map (fun y:List Entry=>y.length)).sum+(fun y:List Entry=>y.length) e) (bJ3 (fun y:List Entry=>y.length) xs g.1 aA) fun e he => .y he.1 fun ge=>let hle:=fA (fun y:List Entry=>y.length) xs (g.1+1)
    let he2:((xs.take (g.1+1)).map (fun y:List Entry=>y.length)).sum=((xs.take g.1).map (fun y:List Entry=>y.length)).sum+e.length:=he.2
    .c func354 (szEntryS_d e g.2 aA aA) fun _ => .s (szL g.2 (e.length)<0) (fun h3 => .rt (-1) ⟨lV (by have:=jE h3 aA;omega),trivial⟩)
     (fun h3=>let q:=gV h3 aA;.rv 1 (I (g.2 - ((e.length:Nat):Int))) (congrArg I q.2) <| .p g.1 1 (h:=by unfold I64;omega) <| .n tk (g.1+1,g.2 - ((e.length:Nat):Int)) [] (h1:=⟨by show g.1+1≤_;omega,by show 0≤g.2 - ((e.length:Nat):Int);omega,by show g.2 - ((e.length:Nat):Int)+(((xs.take (g.1+1)).map (fun y:List Entry=>y.length)).sum:Nat)=_;omega⟩) (h2:=by show xs.length - (g.1+1)<_;omega)))
   (fun h2 => .rt g.2 ⟨sz_e hJ.2.2 (show xs.length≤g.1 by omega) hwt hJ.2.1,trivial⟩))) aC
theorem szYard_d (x:Yard) (l:Int) (hl:0≤l) (hl2:l≤1048576):Ct1 prog 136 [.S x,.I l] [.I (szL l x.wt)]:=
 .one (szL l x.wt) (rk:=fun b=>[.I b])<|vc func136 (fun (hg:gin [Par.S x,Par.I l])=>let gx:=hg.1.1
  let hwt:x.wt=(wtL (fun y:List Entry=>y.length) x.shelf)+(wtL (fun y:Run=>y.wt) x.runs):=rfl
  .c func253 (szEntrySS_d x.shelf (l) aA aA) fun _ => .s (szL (l) (wtL (fun y:List Entry=>y.length) x.shelf)<0) (fun h0 => .rt (-1) ⟨lV (by have:=jE h0 aA;omega),trivial⟩) (fun h0=>let q0:=gV h0 aA;.rv 1 (I (l - ((wtL (fun y:List Entry=>y.length) x.shelf:Nat):Int))) (congrArg I q0.2) <| .c func254 (szRunS_d x.runs (l - ((wtL (fun y:List Entry=>y.length) x.shelf:Nat):Int)) aA aA) fun _ => .s (szL (l - ((wtL (fun y:List Entry=>y.length) x.shelf:Nat):Int)) (wtL (fun y:Run=>y.wt) x.runs)<0) (fun h1 => .rt (-1) ⟨lV (by have:=jE h1 aA;omega),trivial⟩) (fun h1=>let q1:=gV h1 aA;.rv 1 (I (l - ((wtL (fun y:List Entry=>y.length) x.shelf:Nat):Int) - ((wtL (fun y:Run=>y.wt) x.runs:Nat):Int))) (congrArg I q1.2) <| .rt (l - ((wtL (fun y:List Entry=>y.length) x.shelf:Nat):Int) - ((wtL (fun y:Run=>y.wt) x.runs:Nat):Int)) ⟨wJ aA aA,trivial⟩))) aC
theorem szDeed_d (x:Deed) (l:Int) (hl:0≤l) (hl2:l≤1048576):Ct1 prog 60 [.S x,.I l] [.I (szL l x.wt)]:=
 .one (szL l x.wt) (rk:=fun b=>[.I b])<|vc func60 (fun (hg:gin [Par.S x,Par.I l])=>let gx:=hg.1.1
  let hwt:x.wt=x.plan.wt:=rfl
  .c func164 (aP8 x.plan (l) aA aA) (hg:=⟨(show Deed.ok _ from gx).2.2.1,trivial⟩) fun _ => .s (szL (l) (x.plan.wt)<0) (fun h0 => .rt (-1) ⟨lV (by have:=jE h0 aA;omega),trivial⟩) (fun h0=>let q0:=gV h0 aA;.rv 1 (I (l - ((x.plan.wt:Nat):Int))) (congrArg I q0.2) <| .rt (l - ((x.plan.wt:Nat):Int)) ⟨wJ aA aA,trivial⟩)) aC
theorem szWaitS_d (xs:List (Wait)) (l:Int) (hl:0≤l) (hl2:l≤1048576):Ct1 prog 137 [.L xs,.I l] [.I (szL l (xs.length))]:=
 .one (szL l (xs.length)) (rk:=fun b=>[.I b])<|vc func137 (fun (hg:gin [Par.L xs,Par.I l])=>let hcap:=hg.1
  .m l (xs.length:Int) (h:=by unfold I64;omega) <| .s (l - (xs.length:Int)<0) (fun h => .rt (-1) ⟨lV aA,trivial⟩) (fun h => .rt (l - (xs.length:Int)) ⟨wJ aA aA,trivial⟩)) aC
theorem szFile_d (x:File) (l:Int) (hl:0≤l) (hl2:l≤1048576):Ct1 prog 239 [.S x,.I l] [.I (szL l x.wt)]:=
 .one (szL l x.wt) (rk:=fun b=>[.I b])<|vc func239 (fun (hg:gin [Par.S x,Par.I l])=>let gx:=hg.1.1
  let hwt:x.wt=x.name.size+x.data.size:=rfl
  .m (l) (x.name.size:Int) (h:=by have:=(show File.ok x from gx).1;unfold maxLen at this;unfold I64;omega) <| .s (l - (x.name.size:Int)<0) (fun h0 => .rt (-1) ⟨lV aA,trivial⟩) (fun h0 => .m (l - (x.name.size:Int)) (x.data.size:Int) (h:=by have:=(show File.ok x from gx).2.1;unfold maxLen at this;unfold I64;omega) <| .s (l - (x.name.size:Int) - (x.data.size:Int)<0) (fun h1 => .rt (-1) ⟨lV aA,trivial⟩) (fun h1 => .rt (l - (x.name.size:Int) - (x.data.size:Int)) ⟨wJ aA aA,trivial⟩))) aC
theorem szFileS_d (xs:List (File)) (l:Int) (hl:0≤l) (hl2:l≤1048576):Ct1 prog 124 [.L xs,.I l] [.I (szL l (wtL (fun y:File=>y.wt) xs))]:=
 .one (szL l (wtL (fun y:File=>y.wt) xs)) (rk:=fun b=>[.I b])<|vc func124 (fun (hg:gin [Par.L xs,Par.I l])=>let hcap:=hg.1
  let hwt:wtL (fun y:File=>y.wt) xs=xs.length+(xs.map (fun y:File=>y.wt)).sum:=rfl
  .m l (xs.length:Int) (h:=by unfold I64;omega) <| .s (l - (xs.length:Int)<0) (fun h => .rt (-1) ⟨lV aA,trivial⟩) (fun h => .l (Γ:=Nat×Int) (fun g=>g.1≤xs.length∧0≤g.2∧g.2+(((xs.take g.1).map (fun y:File=>y.wt)).sum:Nat)=l - (xs.length:Int)) (fun g=>xs.length - g.1) [0] [] [0] (fun g=>[vI 5 g.1,vI 1 g.2]) (fun g=>[]) (0,l - (xs.length:Int)) (h:=⟨Nat.zero_le _,by show 0≤l - (xs.length:Int);omega,by simp⟩) fun g hJ tk => .s ((g.1:Int)<xs.length)
   (fun h2 => .ex (p:=fun e=>xs[g.1]? = some e∧((xs.take (g.1+1)).map (fun y:File=>y.wt)).sum=((xs.take g.1).map (fun y:File=>y.wt)).sum+(fun y:File=>y.wt) e) (bJ3 (fun y:File=>y.wt) xs g.1 aA) fun e he => .y he.1 fun ge=>let hle:=fA (fun y:File=>y.wt) xs (g.1+1)
    let he2:((xs.take (g.1+1)).map (fun y:File=>y.wt)).sum=((xs.take g.1).map (fun y:File=>y.wt)).sum+e.wt:=he.2
    .c func239 (szFile_d e g.2 aA aA) (hg:=⟨ge,trivial⟩) fun _ => .s (szL g.2 (e.wt)<0) (fun h3 => .rt (-1) ⟨lV (by have:=jE h3 aA;omega),trivial⟩)
     (fun h3=>let q:=gV h3 aA;.rv 1 (I (g.2 - ((e.wt:Nat):Int))) (congrArg I q.2) <| .p g.1 1 (h:=by unfold I64;omega) <| .n tk (g.1+1,g.2 - ((e.wt:Nat):Int)) [] (h1:=⟨by show g.1+1≤_;omega,by show 0≤g.2 - ((e.wt:Nat):Int);omega,by show g.2 - ((e.wt:Nat):Int)+(((xs.take (g.1+1)).map (fun y:File=>y.wt)).sum:Nat)=_;omega⟩) (h2:=by show xs.length - (g.1+1)<_;omega)))
   (fun h2 => .rt g.2 ⟨sz_e hJ.2.2 (show xs.length≤g.1 by omega) hwt hJ.2.1,trivial⟩))) aC
theorem szDisk_d (x:Disk) (l:Int) (hl:0≤l) (hl2:l≤1048576):Ct1 prog 33 [.S x,.I l] [.I (szL l x.wt)]:=
 .one (szL l x.wt) (rk:=fun b=>[.I b])<|vc func33 (fun (hg:gin [Par.S x,Par.I l])=>let gx:=hg.1.1
  let hwt:x.wt=(wtL (fun y:File=>y.wt) x.files):=rfl
  .c func124 (szFileS_d x.files (l) aA aA) fun _ => .s (szL (l) (wtL (fun y:File=>y.wt) x.files)<0) (fun h0 => .rt (-1) ⟨lV (by have:=jE h0 aA;omega),trivial⟩) (fun h0=>let q0:=gV h0 aA;.rv 1 (I (l - ((wtL (fun y:File=>y.wt) x.files:Nat):Int))) (congrArg I q0.2) <| .rt (l - ((wtL (fun y:File=>y.wt) x.files:Nat):Int)) ⟨wJ aA aA,trivial⟩)) aC
theorem szEngine_d (x:Engine) (l:Int) (hl:0≤l) (hl2:l≤1048576):Ct1 prog 41 [.S x,.I l] [.I (szL l x.wt)]:=
 .one (szL l x.wt) (rk:=fun b=>[.I b])<|vc func41 (fun (hg:gin [Par.S x,Par.I l])=>let gx:=hg.1.1
  let hwt:x.wt=x.yard.wt+x.disk.wt+x.waits.length:=rfl
  .c func136 (szYard_d x.yard (l) aA aA) (hg:=⟨(show Engine.ok _ from gx).1,trivial⟩) fun _ => .s (szL (l) (x.yard.wt)<0) (fun h0 => .rt (-1) ⟨lV (by have:=jE h0 aA;omega),trivial⟩) (fun h0=>let q0:=gV h0 aA;.rv 1 (I (l - ((x.yard.wt:Nat):Int))) (congrArg I q0.2) <| .c func33 (szDisk_d x.disk (l - ((x.yard.wt:Nat):Int)) aA aA) (hg:=⟨trivial,trivial⟩) fun _ => .s (szL (l - ((x.yard.wt:Nat):Int)) (x.disk.wt)<0) (fun h1 => .rt (-1) ⟨lV (by have:=jE h1 aA;omega),trivial⟩) (fun h1=>let q1:=gV h1 aA;.rv 1 (I (l - ((x.yard.wt:Nat):Int) - ((x.disk.wt:Nat):Int))) (congrArg I q1.2) <| .c func137 (szWaitS_d x.waits (l - ((x.yard.wt:Nat):Int) - ((x.disk.wt:Nat):Int)) aA aA) fun _ => .s (szL (l - ((x.yard.wt:Nat):Int) - ((x.disk.wt:Nat):Int)) (x.waits.length)<0) (fun h2 => .rt (-1) ⟨lV (by have:=jE h2 aA;omega),trivial⟩) (fun h2=>let q2:=gV h2 aA;.rv 1 (I (l - ((x.yard.wt:Nat):Int) - ((x.disk.wt:Nat):Int) - ((x.waits.length:Nat):Int))) (congrArg I q2.2) <| .rt (l - ((x.yard.wt:Nat):Int) - ((x.disk.wt:Nat):Int) - ((x.waits.length:Nat):Int)) ⟨wJ aA aA,trivial⟩)))) aC
end Go.Proofs.YtanpcpoogkdlaaaGreat
