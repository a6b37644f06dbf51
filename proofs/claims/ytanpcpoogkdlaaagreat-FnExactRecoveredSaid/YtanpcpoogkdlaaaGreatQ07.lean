/-
  Runs that are forgotten, of both.
  A deed that is done, of both.
  A deed that is done, of the reference; told to the reader.
  slices.DeleteFunc, told as a reader; shelves that are swept, of the program.
  Runs that are forgotten, of the program; told to the reader.
  Runs that are changed where they lie, of the program; told to the reader.
  A deed that is done, of the program; told to the reader.
  A made slice, all zeros, of elements of several cells.
  A new crew, of both.
  What a crew's turn makes of it, and many turns; how heavy it becomes. Theory alone.
  Orders of spans: what is asked of them; the weight of a yard behind a deed. Theory alone.
  All deeds of a list, and what stays, of both; told to the reader.
  The mark of a disk, of both, given how it is read.
  A yard read out of a text, of the reference.
  The mark of a disk, of both; as calls.
  Notes replayed, and what is recovered from a disk, of both; told to the reader.
  What is recovered from a disk, as calls.
  The laws' marks, walked.
  The law on Recovered, walked.
  What is handed to a law, taken out of the row's reading: it is data in memory, as the walks want it.
  A law's arguments, taken out of the row's reading.
-/
import Derived.ProofKit
import Derived.OpenShut
import Derived.Test.YtanpcpoogkdlaaaGreatQ01
import Derived.Test.YtanpcpoogkdlaaaGreatQ02
import Derived.Test.YtanpcpoogkdlaaaGreatQ03
import Derived.Test.YtanpcpoogkdlaaaGreatQ04
import Derived.Test.YtanpcpoogkdlaaaGreatQ05
import Derived.Test.YtanpcpoogkdlaaaGreatQ06
namespace Go.Proofs.YtanpcpoogkdlaaaGreat
set_option linter.unusedSimpArgs false
set_option linter.unusedVariables false
set_option maxRecDepth 100000
set_option maxHeartbeats 2000000
open Go.RowKit Go.Proofs.Tryz List
variable (w:World) {cs ds:List Value} {fp gp:List Nat}
def flE (id:Int) (l:List Entry):List Entry:=l.filter (fun e => !decide (e.run=id))
theorem flE_t {id:Int} {l:List Entry} {k:Nat} {e:Entry} (he:l[k]? = some e) (h:¬ e.run=id):flE id (l.take (k+1))=flE id (l.take k)++[e]:=by
 obtain ⟨hk,rfl⟩:=gsi_.1 he
 unfold flE;rw[take_succ_eq_append_getElem hk,filter_append];simp[h]
theorem flE_f {id:Int} {l:List Entry} {k:Nat} {e:Entry} (he:l[k]? = some e) (h:e.run=id):flE id (l.take (k+1))=flE id (l.take k):=by
 obtain ⟨hk,rfl⟩:=gsi_.1 he
 unfold flE;rw[take_succ_eq_append_getElem hk,filter_append];simp[h]
theorem aY9 (id:Int) (l:List Entry):(flE id l).length≤l.length:=length_filter_le _ _
def qN (id:Int) (xss:List (List Entry)) (i:Nat):List (List Entry):=(xss.take i).map (flE id)++xss.drop i
theorem xU (id:Int) (xss:List (List Entry)):qN id xss 0=xss:=by simp[qN]
theorem bH4 (id:Int) (xss:List (List Entry)) (i:Nat):(qN id xss i).length=xss.length:=by simp[qN];omega
theorem aZ0 {id:Int} {xss:List (List Entry)} {i:Nat} {l:List Entry} (h:xss[i]? = some l):(qN id xss i)[i]? = some l:=by
 have hl:=(gsi_.1 h).1
 unfold qN
 rw[getElem?_append_right (by simp;omega)]
 simp only[length_map,length_take,getElem?_drop]
 rw[← h];congr 1;omega
theorem aJ1 {id:Int} {xss:List (List Entry)} {i:Nat} {l:List Entry} (h:xss[i]? = some l):(qN id xss i).set i (flE id l)=qN id xss (i+1):=by
 obtain ⟨hl,rfl⟩:=gsi_.1 h
 unfold qN
 have e1:((xss.take i).map (flE id)).length=i:=by simp;omega
 rw[set_append_right _ _ aA,e1,Nat.sub_self,take_succ_eq_append_getElem hl,map_append,append_assoc]
 congr 1
 exact (congrArg (fun z=>z.set 0 (flE id xss[i])) (drop_eq_getElem_cons hl)).trans rfl
theorem aJ2 {id:Int} {xss:List (List Entry)} {i:Nat} (h:i=xss.length):qN id xss i=xss.map (flE id):=by subst h;simp[qN]
def aI9 (y:Yard) (id:Int) (k:Nat):Yard:=⟨y.now,y.seq,y.shelf.map (flE id),y.runs.eraseIdx k⟩
noncomputable def bF (y:Yard) (id:Int):Yard×Int:=
 if aM y=false then (y,8) else match y.runs[(aG y id).toNat]? with
  | some r=>if aG y id<0 then (y,10) else if r.state=1 then (y,13) else (aI9 y id (aG y id).toNat,0)
  | none=>(y,10)
theorem wI {y:Yard} {id:Int} (h0:aM y=true) (h:aG y id<0):bF y id=(y,10):=by
 unfold bF
 rw[if_neg (by rw[h0];decide)]
 cases y.runs[(aG y id).toNat]? with
 | none=>rfl
 | some r=>simp only;rw[if_pos h]
theorem kL {y:Yard} {id:Int} {r:Run} (h0:aM y=true) (h:¬ aG y id<0) (hr:y.runs[(aG y id).toNat]? = some r):bF y id=if r.state=1 then (y,13) else (aI9 y id (aG y id).toNat,0):=by
 unfold bF
 rw[if_neg (by rw[h0];decide),hr]
 simp only
 rw[if_neg h]
section
variable {P:Program} {n:Nat} {f:Nat→Value} {w0 W:World} {rs:List Res} {Q:Exit→Act→World→Prop} {d:Option Tmp} {ty:TypeId} {pos:String} {af:Array Go.Edge} {g:Option (Nat×Bool)} {K:Value→World→Prop} {α:Type} [Shape α]
theorem lH {t e e':TypeId} {bytes:Nat} {s x:Operand} {v:Value} {xs ys:List α} {fe fy:List Nat} {ad:Addr} {c m b o:Nat} {C cells:List Value} (hT:ApOk P t e α bytes) (hs:ev n f s=v) (hx:ev n f x = .slice (some ad) m c) (hm:ys.length=m) (had:0<m→ad=⟨b,o,none⟩) (hcl:cells=(C.drop o).take (m*Shape.size α))
  (hst:St w0 W (Res.row e v xs fe::Res.es cells ys fy::Res.bx b C e'::rs)) (h63:xs.length+m≤maxLen) (hby:(xs.length+m)*bytes≤140737488355328)
  (k:∀ v' W',St w0 W' (Res.row e v' (xs++ys) (fe++fy)::Res.bx b C e'::rs)→K v' W') :
  Stp P n ⟨d,.call { callee := .builtin .append,args := #[s,x],argTypes := #[t,t] },ty,pos,af,g⟩ f W Q K:=by
 have hE:=hst.get 1 rfl
 have hB:W.heap[b]? = some (.cells C.toArray e' (0,0)):=hst.get 2 rfl
 have hn:=hst.nodup
 have h2:=hst.f1
 have hn2:=h2.nodup
 rw[flatMap_cons,nodup_append] at hn2
 refine nE hT hs hx hm hst.d1 hE.1 ?_ hE.2 hn2.1 ?_ h63 hby k
 ·intro j u hj
  have hj2:=(gsi_.1 hj).1
  rw[hE.1.len,hm] at hj2
  have hm0:0<m:=Nat.pos_of_ne_zero (fun h0=>by rw[h0] at hj2;simp at hj2)
  rw[had hm0,Addr.add_mid]
  rw[hcl] at hj
  have:=bC hB (o+j) u (aG9 hj)
  simpa using this
 intro a ha
 refine ⟨fun h=>hn2.2.2 a ha a ?_ rfl,fun h=>hn2.2.2 a ha a ?_ rfl,h2.fresh (Res.es cells ys fy) (by simp) a ha⟩
 ·rw[flatMap_cons];exact mem_append_left _ h
 rw[flatMap_cons];exact mem_append_right _ h
theorem bT3 {C:List Value} {o N k s:Nat} (h:k≤N):((C.drop o).take (N*s)).drop (k*s)=(C.drop (o+k*s)).take ((N - k)*s):=by
 rw[drop_take,drop_drop,Nat.sub_mul]
theorem St.es_split {w0 W:World} {rs:List Res} {cells:List Value} {xs:List α} {fe:List Nat} (h:St w0 W (Res.es cells xs fe::rs)) {k:Nat} (hk:k<xs.length) :
  ∃ f1 f3,St w0 W (Res.es (cells.take (k*Shape.size α)) (xs.take k) f1::Res.es (cells.drop ((k+1)*Shape.size α)) (xs.drop (k+1)) f3::rs):=by
 have hh:=h.get 0 rfl
 obtain ⟨f1,g,rfl,h1,h2⟩:=hh.1.parts' k aA
 obtain ⟨f2,f3,rfl,h3,h4⟩:=h2.parts' 1 (by rw[length_drop];omega)
 rw[drop_drop,drop_drop,show k*Shape.size α+1*Shape.size α=(k+1)*Shape.size α by rw[Nat.add_mul]] at h4
 refine ⟨f1,f3,St.trade (rs1:=[Res.es cells xs (f1++(f2++f3))]) (rs2:=[Res.es (cells.take (k*Shape.size α)) (xs.take k) f1,Res.es (cells.drop ((k+1)*Shape.size α)) (xs.drop (k+1)) f3]) h ?_ ?_ ?_⟩
 ·have:=h.nodup
  rw[flatMap_cons,nodup_append] at this
  have h5:(f1++(f2++f3)).Nodup:=this.1
  have h6:(f1++f3).Sublist (f1++(f2++f3)):=(List.Sublist.refl _).append (sublist_append_right _ _)
  simpa [Res.es] using h6.nodup h5
 ·intro c hc;simp[Res.es] at hc ⊢;rcases hc with hc | hc <;> simp[hc]
 intro r hr
 rcases mem_cons.1 hr with rfl | hr
 ·exact ⟨h1,fun c hc=>hh.2 c (by simp[hc])⟩
 rw[mem_singleton] at hr;subst hr
 exact ⟨h4,fun c hc=>hh.2 c (by simp[hc])⟩
end

theorem ForgetS {y:Yard} (hc:Shape.C w cs y fp) (id:Int) (hid:I64 id) (hw:y.wt≤1048576) :
  Calls prog 225 #[.agg cs.toArray,I id] w fun e w'=>∃ (cs':List Value) (fp':List Nat),e = .returned (.tuple #[.agg cs'.toArray,I (bF y id).2])∧St w w' [Res.own (.agg cs'.toArray) (bF y id).1 fp']:=by
 have hyok:y.ok:=by obtain ⟨v0,v1,g0,g1,rfl,hok,h0,h1,rfl⟩:=hc;exact hok
 have hy1:I64 y.now:=hyok.1
 have hysl:y.shelf.length≤y.wt:=by unfold Yard.wt wtL;omega
 refine iY func225 rfl ntmps225 cH (wp_seq (aB (sg (gJ (cs:=cs) rfl (St.start w) ?_))));intro b1 W2 hb3 st4
 refine sg (gF nW st4 ?_);intro b6 W7 hb8 st9
 refine sg (aV (aC (wp_seq (aB (sg (cJ dM rfl rfl (st9.get 1 rfl) (Shape.len hc) (sg (jT func184 rfl rfl ((CopyYardT W7 (jM hc st9.below) aA).mono ?_)))))))));rintro _ W17 ⟨cs15,fp15,rfl,hk18⟩;refine ⟨_,rfl,?_⟩
 have st19:=St.call st9 hk18
 refine sg (gF nW st19 ?_);intro b21 W22 hb23 st24
 refine sgn (eJ (cs:=cs15) dM (cW (st24.get 1 rfl) rfl) rfl rfl st24 rfl ?_);intro W26 st27
 refine aC (wp_seq (aB (rc st27 4 Ag.nil.put.put.put.put.put.put.put.put [] [(7,I (aG y id))] [qw 3 rfl (Shape.len hc),qc func291 rfl (fun W s b=>RunAtS W (jM hc s.below) id aA)] aD fun f29 W30 h29_ st31 hb32=>(aC (wp_seq (wp_block (wp_seq (aB (rc st31 4 h29_ [] [(16,.bool (!(aM y)))] [qw 3 rfl (Shape.len hc),qc func185 rfl (fun W s b=>YardOkT W (jM hc s.below) aA),.o] aD fun f34 W35 h34_ st36 hb37=>(aC (tI (h34_.at 16) (fun h38 => ?_) (fun h38 => ?_))))))))))))
 ·refine wp_seq (aB (sg (cJ dM rfl (h34_.at 6) (st36.get 0 rfl) (Shape.len (cW (st36.get 1 rfl) rfl)) (sgn (eJ (cs:=cs15) dM (cW (st36.f2.get 2 rfl) rfl) (h34_.at 4) rfl st36.f2 rfl ?_)))));intro W42 st43
  refine sg (aV (aC (wr (bC6 dM rfl results225 (h34_.at 4) (st43.get 0 rfl) (Shape.len (cW (st43.get 2 rfl) rfl)) rfl ?_))))
  have hfe:bF y id=(y,8):=by unfold bF;rw[if_pos (aZ5 h38)]
  rw[hfe]
  exact ⟨_,_,rfl,st43.f2.d1.d1.d1⟩
 refine wp_seq (aB (rn st36 3 h34_ [] [(21,.bool (decide ((aG y id)<0)))] [.o] aD fun f51 h51_=>(aC (cS (h51_.at 21) (fun h52p => ?_) (fun h52p => ?_)))))
 ·refine wp_seq (aB (sg (cJ dM rfl (h51_.at 6) (st36.get 0 rfl) (Shape.len (cW (st36.get 1 rfl) rfl)) (sgn (eJ (cs:=cs15) dM (cW (st36.f2.get 2 rfl) rfl) (h51_.at 4) rfl st36.f2 rfl ?_)))));intro W56 st57
  refine sg (aV (aC (wr (bC6 dM rfl results225 (h51_.at 4) (st57.get 0 rfl) (Shape.len (cW (st57.get 2 rfl) rfl)) rfl ?_))))
  have hfe:bF y id=(y,10):=wI (aK9 h38) h52p
  rw[hfe]
  exact ⟨_,_,rfl,st57.f2.d1.d1.d1⟩
 refine wp_seq ?_
 have hY:=jN (aK9 h38)
 have hra:=h52p
 obtain ⟨r,hr⟩:=vU hra
 have hrk:(aG y id).toNat<y.runs.length:=(gsi_.1 hr).1
 have hr8:=hY.runs
 have hs4:=hY.shelf
 have hk8:aG y id=(((aG y id).toNat:Nat):Int):=by omega
 refine aB ?_
 have hk65:=hc
 obtain ⟨v65_0,v65_1,g65_0,g65_1,rfl,hok65,h65_0,h65_1,rfl⟩:=hk65
 have hi9ceb2:(aG y id).toNat<y.runs.length:=(gsi_.1 hr).1
 obtain ⟨b66,o66,cs66,f66,hp66,hr66,hc66,hm66⟩:=idxq h65_1 (i:=(aG y id).toNat) hr
 have hk67:=hc66
 obtain ⟨v67_0,v67_1,g67_0,g67_1,rfl,hok67,h67_0,h67_1,rfl⟩:=hk67
 refine rn st36 8 h51_ [] [(25,.bool (decide (r.state=1)))] [qb 3 rfl 3,qxe hp66 (e:=aG y id) aA,qr hr66 6,.o] aD fun f68 h68_=>(aC (cS (h68_.at 25) (fun h69p => ?_) (fun h69p => ?_)))
 ·refine wp_seq (aB (sg (cJ dM rfl (h68_.at 6) (st36.get 0 rfl) (Shape.len (cW (st36.get 1 rfl) rfl)) (sgn (eJ (cs:=cs15) dM (cW (st36.f2.get 2 rfl) rfl) (h68_.at 4) rfl st36.f2 rfl ?_)))));intro W73 st74
  refine sg (aV (aC (wr (bC6 dM rfl results225 (h68_.at 4) (st74.get 0 rfl) (Shape.len (cW (st74.get 2 rfl) rfl)) rfl ?_))))
  have hfe:bF y id=(y,13):=by rw[kL (aK9 h38) hra hr,if_pos aA]
  rw[hfe]
  exact ⟨_,_,rfl,st74.f2.d1.d1.d1⟩
 refine wp_skip (wp_seq ?_)
 obtain ⟨v82_0,v82_1,g82_0,g82_1,he82,hok82,st83⟩:=aP6 st36.f1
 subst he82
 have hq_:=St.ownOpen' st83.f1 cH aA
 obtain ⟨bD,oD,cD,CD,eD,feD,hvD,hcD,hmD,hlD,st87⟩:=hq_
 obtain ⟨fE0,fE1,st88⟩:=st87.f1.es_split hrk
 subst hvD
 rcases nem ((aG y id).toNat+1<cD) with h139p | h139p
 ·refine oA 11 [(none,some 5,.is (Res.es (((CD.drop oD).take (y.runs.length*8)).take ((aG y id).toNat*8)) (y.runs.take (aG y id).toNat) fE0)),(some 0,some 5,.of (ι:=Nat) [34] (fun b170=>[(.slice (some ⟨b170,0,none⟩) 0 0)]) (fun b170=>Res.row (α:=Run) 55 (.slice (some ⟨b170,0,none⟩) 0 0) [] [])),(some 5,none,.of (ι:=Value) [39] (fun v179=>[v179]) (fun v179=>Res.row (α:=Run) 55 v179 ([]++(y.runs.take (aG y id).toNat)) ([]++fE0)))] [(false,.ex (fun (b170:Nat)=>(.slice (some ⟨b170,0,none⟩) 0 0))),(true,.is (.pointer (some ⟨b21,0+3,none⟩))),(true,.is (.slice (some ⟨bD,oD,none⟩) y.runs.length cD)),(true,.is (I (aG y id))),(true,.is (.slice (some ⟨bD,oD,none⟩) (aG y id).toNat cD)),(false,.ex (fun (v179:Value)=>v179)),(true,.is (.pointer (some ⟨b21,0+3,none⟩))),(true,.is (.slice (some ⟨bD,oD,none⟩) y.runs.length cD)),(true,.is (I (aG y id))),(true,.is (I ((aG y id)+1))),(true,.is (.slice (some ⟨bD,oD,none⟩) 0 0))] mix aD aD aD aD (rs0:=[Res.es (((CD.drop oD).take (y.runs.length*8)).take ((aG y id).toNat*8)) (y.runs.take (aG y id).toNat) fE0]) ⟨_,_,rfl,rfl,rfl⟩ st88 st88.below ⟨?_,(fq_ mY (h68_.at 6)),(fun f W hst hbl hd hf=>fT aA5 rfl (hd 1 35 rfl rfl) (hst.get 3 rfl) (i:=3) rfl rfl brq),(mq_ (h68_.at 7)),(fun f W hst hbl hd hf=>xG (h:=(aG y id).toNat) hX (hd 2 36 rfl rfl) (hd 3 37 rfl rfl) aA aA aA brq),?_,(fq_ mY (h68_.at 6)),(fun f W hst hbl hd hf=>fT aA5 rfl (hd 6 40 rfl rfl) (hst.get 3 rfl) (i:=3) rfl rfl brq),(mq_ (h68_.at 7)),(fun f W hst hbl hd hf=>mN (hd 8 42 rfl rfl) rfl bK4 brq),(fun f W hst hbl hd hf=>bY6 (l:=(aG y id).toNat+1) hX (hd 7 41 rfl rfl) (hd 9 43 rfl rfl) aA aA aA brq),trivial⟩ ?_
  ·intro f W ru oth hu hst hbl hd hf
   have hn_:ru=[]:=hu
   subst hn_
   try simp only[cap_,xN] at hst
   refine (bX (cs:=[]) (e:=55) aF4 (gW sX _) hst ?_);intro b170 W171 hb172 st173
   have st173:=st173.row_empty (α:=Run)
   exact ⟨⟨b170,rfl⟩,⟨_,⟨_,_,rfl,⟨b170,(ce rfl rfl),rfl⟩,rfl⟩,st173⟩,st173.below⟩
  ·intro f W ru oth hu hst hbl hd hf
   obtain ⟨_,_,rfl,rfl,_,_,rfl,⟨b170,he175,rfl⟩,hn_⟩:=hu
   have hn_:_=[]:=hn_
   subst hn_
   have hu175_34:f 34=(.slice (some ⟨b170,0,none⟩) 0 0):=congrArg (fun l=>l.getD 0 undef) he175
   try simp only[cap_,xN] at hst
   have st176:=hst.f3
   refine (lH (α:=Run) (m:=(aG y id).toNat) (o:=oD) sX hu175_34 (hd 4 38 rfl rfl) (by rw[length_take];omega) (fun _=>rfl) (by rw[take_take];congr 1;have hz:(aG y id).toNat*8≤y.runs.length*8:=Nat.mul_le_mul_right _ aA;exact (Nat.min_eq_left hz).symm▸rfl) st176.f1.f2 (by simp only[length_append,length_take,length_nil];unfold maxLen;omega) (by simp only[length_append,length_take,length_nil];omega) ?_);intro v179 W180 st181
   exact ⟨⟨v179,rfl⟩,⟨_,⟨_,_,rfl,⟨v179,(ce rfl rfl),rfl⟩,rfl⟩,st181.f6.f6.f6.f6.f5.f6.f6⟩,st181.f6.f6.f6.f6.f5.f6.f6.below⟩
  intro f189 W190 rs_ hAL_ st193 hbl194 hv191 hf192
  obtain ⟨_,_,rfl,⟨v179,he195,rfl⟩,hn_⟩:=hAL_
  have hn_:_=[]:=hn_
  subst hn_
  have hu195_39:f189 39=v179:=congrArg (fun l=>l.getD 0 undef) he195
  try simp only[cap_,xN] at st193
  have st197:=st193.f2
  refine sg (lH (α:=Run) (m:=y.runs.length - ((aG y id).toNat+1)) (o:=oD+((aG y id).toNat+1)*8) sX hu195_39 (Eq.trans (hv191 10 44 cH rfl) (by rw[show y.runs.length - ((aG y id).toNat+1)=0 by omega])) (by rw[length_drop]) (fun hz=>by omega) (bT3 aA) st197.f2.f2 (by simp only[length_append,length_take,length_nil];unfold maxLen;omega) (by simp only[length_append,length_take,length_nil];omega) ?_);intro v200 W201 st202
  refine sg (cR mY ((hf192 6 rfl).trans (h68_.at 6)) (sgn (lG (v:=v200) aD rfl rfl (Sl.cells (gH (st202.f3.get 1 rfl))) (Sl.one (gH (st202.f3.get 1 rfl))) st202.f3 kJ rfl ?_)));intro W206 st207
  refine aC (wp_seq (wp_seq (aB (sg (aV (aC (wp_block (dX (fun (m:Nat) (f:Nat→Value) (W:World)=>∃ (i:Nat) (fo210:List Nat),i≤y.shelf.length∧m=y.shelf.length - i∧Ag [(1,I id),(4,pt_ b6),(6,pt_ b21),(8,I (i:Int))] f∧St w W ([Res.bx b21 [I y.now,I y.seq,v82_0,v200] 27,Res.row (α:=Run) 55 v200 (([]++(y.runs.take (aG y id).toNat))++(y.runs.drop ((aG y id).toNat+1))) (([]++fE0)++fE1),Res.bx bD CD eD,Res.own (α:=List (List Entry)) v82_0 (qN id y.shelf i) fo210,Res.bx b6 [I 0,I 0,.slice none 0 0,.slice none 0 0] 27,Res.bx b1 [I y.now,I y.seq,v65_0,v65_1] 27])) (y.shelf.length - 0) ?_ ?_))))))))
  ·exact ⟨0,g82_0,Nat.zero_le _,rfl,(Ag.cons ((hf192 1 rfl).trans (h68_.at 1)) (Ag.cons ((hf192 4 rfl).trans (h68_.at 4)) (Ag.cons ((hf192 6 rfl).trans (h68_.at 6)) (Ag.cons rfl Ag.nil)))),(by rw[xU];exact st207)⟩
  intro m211 f212 W213 hJ214
  obtain ⟨i,fo210,hil,rfl,hA216,st215⟩:=hJ214
  have hfl:=bH4 id y.shelf i
  refine wp_seq (wp_seq (aB (rn st215 5 hA216 [] [(51,.bool (decide ((i:Int)<((qN id y.shelf i).length:Int))))] [qb 0 rfl 2,ql (bP (st215.get 3 rfl)),.o] aD fun f218 h218_=>(aC (cS (h218_.at 51) (fun h219p => ?_) (fun h219p => ?_))))))
  ·refine wp_skip (wp_seq (wp_block (wp_seq ?_)))
   have hq_:=gN (xs:=y.shelf) (i:=i) aA
   obtain ⟨l,hl⟩:=hq_
   have hla:=aZ0 (id:=id) hl
   have hl80:=oE (hY.each l (mem_of_getElem? hl))
   have hq_:=St.lendx (α:=List Entry) cH st215.f3 (x:=l) hla
   obtain ⟨b221,e221,pre221,cs221,post221,fi221,fr221,hPA221,hC221,st222⟩:=hq_
   have hq_:=st222.f1.uncs1
   obtain ⟨v221,he221,st227⟩:=hq_;subst he221
   refine aB (sg (bX (cs:=[]) (e:=243) aF4 (gW iR _) st227 ?_));intro b228 W229 hb230 st231
   have st231:=st231.row_empty (α:=Entry)
   refine sg (aH (v:=(.slice (some ⟨b228,0,none⟩) 0 0)) rfl (aC (wp_seq (wp_seq (aB (sg (aV (aC (wp_block (dX (fun (m:Nat) (f:Nat→Value) (W:World)=>∃ (j:Nat) (v237:Value),j≤l.length∧m=l.length - j∧Ag [(1,I id),(4,pt_ b6),(6,pt_ b21),(8,I (i:Int)),(9,v237),(10,I (j:Int))] f∧St w W ([Res.row (α:=Entry) 243 v237 (flE id (l.take j)) [],Res.own (α:=List Entry) v221 l fi221,Res.bx b221 (pre221++[v221]++post221) e221,Res.rest (α:=(List Entry)) v82_0 b221 pre221 post221 (qN id y.shelf i) i fr221,Res.bx b21 [I y.now,I y.seq,v82_0,v200] 27,Res.row (α:=Run) 55 v200 (([]++(y.runs.take (aG y id).toNat))++(y.runs.drop ((aG y id).toNat+1))) (([]++fE0)++fE1),Res.bx bD CD eD,Res.bx b6 [I 0,I 0,.slice none 0 0,.slice none 0 0] 27,Res.bx b1 [I y.now,I y.seq,v65_0,v65_1] 27])) (l.length - 0) ?_ ?_))))))))))
   ·exact ⟨0,(.slice (some ⟨b228,0,none⟩) 0 0),Nat.zero_le _,rfl,(h218_.put.put.put.to aD),st231⟩
   intro m238 f239 W240 hJ241
   obtain ⟨j,v237,hjl,rfl,hA243,st242⟩:=hJ241
   have hfn:=aY9 id (l.take j)
   have htl:=length_take_le j l
   refine wp_seq (wp_seq (aB (rn st242 8 hA243 [] [(62,.bool (decide ((j:Int)<(l.length:Int))))] [qb 4 rfl 2,qx hPA221,qp 2 rfl 0,ql (bP (st242.get 1 rfl)),.o] aD fun f245 h245_=>(aC (cS (h245_.at 62) (fun h246p => ?_) (fun h246p => ?_))))))
   ·refine wp_skip (wp_seq (wp_block (wp_seq ?_)))
    have hq_:=gN (xs:=l) (i:=j) aA
    obtain ⟨e,he⟩:=hq_
    refine aB ?_
    have hi1fd33:j<l.length:=(gsi_.1 he).1
    obtain ⟨b248,o248,cs248,f248,hp248,hr248,hc248,hm248⟩:=idxq (bP (st242.get 1 rfl)) (i:=j) he
    have hk249:=hc248
    obtain ⟨he249,rfl,hok249⟩:=hk249
    have he249:_=[I e.prio,I e.seq,I e.run,I e.task]:=he249
    subst he249
    refine rn st242 11 h245_ [] [(75,.bool (!decide (e.run=id)))] [qb 4 rfl 2,qx hPA221,qp 2 rfl 0,qx hp248,qn hr248 2,.o] aD fun f250 h250_=>(aC (gM (h250_.at 75) (fun h251p => ?_) (fun h251p => ?_)))
    ·refine aB (rn st242 9 h250_ [] [(76,v237),(84,.agg #[I e.prio,I e.seq,I e.run,I e.task])] [qb 4 rfl 2,qx hPA221,qp 2 rfl 0,qx hp248,qn hr248 0] aD fun f253 h253_ => ?_)
     have hoke:e.ok:=(hc248).2.2
     refine sg (bX (cs:=[I e.prio,I e.seq,I e.run,I e.task]) (e:=243) (aF7 (h253_.at 84) aF4) (jI iR _ _ rfl rfl cH) st242 ?_);intro b254 W255 hb256 st257
     refine sg (lI (ys:=[(⟨e.prio,e.seq,e.run,e.task⟩:Entry)]) iR (h253_.at 76) rfl rfl st257.f1 (Elems.one1 (show Shape.C _ [I e.prio,I e.seq,I e.run,I e.task] e [] from ⟨rfl,rfl,hoke⟩)) (by unfold maxLen;omega) aA ?_);intro v260 W261 st262
     refine sg (aH (v:=v260) rfl (aC (aB (rn st262 3 h253_.put.put.put [10] [(10,I ((j:Int)+1))] [qad (j:Int) 1] aD fun f266 h266_=>(aC ?_)))))
     exact ⟨_,l.length - (j+1),aA,rfl,j+1,v260,aA,rfl,(h266_.to aD),(by rw[flE_t he aA];exact st262)⟩
    refine wp_skip (aB (rn st242 3 h250_ [10] [(10,I ((j:Int)+1))] [qad (j:Int) 1] aD fun f268 h268_=>(aC ?_)))
    exact ⟨_,l.length - (j+1),aA,rfl,j+1,v237,aA,rfl,(h268_.to aD),(by rw[flE_f he aA];exact st242)⟩
   refine wp_exit ?_
   have hje:j=l.length:=by omega
   rw[hje,take_length] at st242
   obtain ⟨fp269,st270⟩:=st242.shut
   refine aB (rn st270 5 h245_ [] [(90,v237),(91,.pointer (some ⟨b221,pre221.length,none⟩))] [qb 4 rfl 2,qx hPA221] aD fun f272 h272_=>(sgn (aW (i:=0) (v:=v237) aD (h272_.at 91) (h272_.at 90) (Sl.cells (bP (st270.f2.get 1 rfl))) (Sl.one (bP (st270.f2.get 1 rfl))) st270.f2 rfl kJ rfl ?_)));intro W274 st275
   refine aC (aB (rn st275 3 h272_ [8] [(8,I ((i:Int)+1))] [qad (i:Int) 1] aD fun f277 h277_=>(aC ?_)))
   have st279:=st275.f1.cs1
   obtain ⟨fp283,st284⟩:=St.give (α:=List Entry) st279.f3.f1.f2
   exact ⟨_,y.shelf.length - (i+1),aA,rfl,i+1,fp283,aA,rfl,(h277_.to aD),(by rw[← aJ1 hl];exact st284.f6.f6.f2.f6.f6.f6.d6)⟩
  refine wp_exit (wp_seq (aB (sg (mM (cs:=[I y.now,I y.seq,v82_0,v200]) dM rfl (h218_.at 6) (st215.get 0 rfl) rfl rfl (sgn (fZ aD (h218_.at 4) rfl (dF rfl (dF rfl (dF (Sl.one (bP (st215.f4.get 4 rfl))) (dF (Sl.one (gH (st215.f4.get 2 rfl))) wD)))) st215.f4 kJ rfl ?_))))));intro W295 st296
  refine sg (aV (aC (wr (bC6 dM rfl results225 (h218_.at 4) (st296.get 0 rfl) rfl rfl ?_))))
  have hie:i=y.shelf.length:=by omega
  rw[aJ2 hie] at st296
  have hera:([]++(y.runs.take (aG y id).toNat))++(y.runs.drop ((aG y id).toNat+1))=y.runs.eraseIdx (aG y id).toNat:=by rw[nil_append,eraseIdx_eq_take_drop_succ]
  rw[hera] at st296
  have st299:=st296.f2
  obtain ⟨fp301,st300⟩:=st299.shut
  have st303:=pH (x:=(aI9 y id (aG y id).toNat)) st300.f4 hyok
  have hfe:bF y id=((aI9 y id (aG y id).toNat),0):=by rw[kL (aK9 h38) hra hr,if_neg aA]
  rw[hfe]
  exact ⟨_,_,rfl,st303.d1.d1.d1.d1⟩
 refine oA 11 [(none,some 5,.is (Res.es (((CD.drop oD).take (y.runs.length*8)).take ((aG y id).toNat*8)) (y.runs.take (aG y id).toNat) fE0)),(some 0,some 5,.of (ι:=Nat) [34] (fun b339=>[(.slice (some ⟨b339,0,none⟩) 0 0)]) (fun b339=>Res.row (α:=Run) 55 (.slice (some ⟨b339,0,none⟩) 0 0) [] [])),(some 5,none,.of (ι:=Value) [39] (fun v348=>[v348]) (fun v348=>Res.row (α:=Run) 55 v348 ([]++(y.runs.take (aG y id).toNat)) ([]++fE0)))] [(false,.ex (fun (b339:Nat)=>(.slice (some ⟨b339,0,none⟩) 0 0))),(true,.is (.pointer (some ⟨b21,0+3,none⟩))),(true,.is (.slice (some ⟨bD,oD,none⟩) y.runs.length cD)),(true,.is (I (aG y id))),(true,.is (.slice (some ⟨bD,oD,none⟩) (aG y id).toNat cD)),(false,.ex (fun (v348:Value)=>v348)),(true,.is (.pointer (some ⟨b21,0+3,none⟩))),(true,.is (.slice (some ⟨bD,oD,none⟩) y.runs.length cD)),(true,.is (I (aG y id))),(true,.is (I ((aG y id)+1))),(true,.is (.slice (some ⟨bD,oD+((aG y id).toNat+1)*8,none⟩) (y.runs.length - ((aG y id).toNat+1)) (cD - ((aG y id).toNat+1))))] mix aD aD aD aD (rs0:=[Res.es (((CD.drop oD).take (y.runs.length*8)).take ((aG y id).toNat*8)) (y.runs.take (aG y id).toNat) fE0]) ⟨_,_,rfl,rfl,rfl⟩ st88 st88.below ⟨?_,(fq_ mY (h68_.at 6)),(fun f W hst hbl hd hf=>fT aA5 rfl (hd 1 35 rfl rfl) (hst.get 3 rfl) (i:=3) rfl rfl brq),(mq_ (h68_.at 7)),(fun f W hst hbl hd hf=>xG (h:=(aG y id).toNat) hX (hd 2 36 rfl rfl) (hd 3 37 rfl rfl) aA aA aA brq),?_,(fq_ mY (h68_.at 6)),(fun f W hst hbl hd hf=>fT aA5 rfl (hd 6 40 rfl rfl) (hst.get 3 rfl) (i:=3) rfl rfl brq),(mq_ (h68_.at 7)),(fun f W hst hbl hd hf=>mN (hd 8 42 rfl rfl) rfl bK4 brq),(fun f W hst hbl hd hf=>pW (l:=(aG y id).toNat+1) hX (hd 7 41 rfl rfl) (hd 9 43 rfl rfl) aA aA aA brq),trivial⟩ ?_
 ·intro f W ru oth hu hst hbl hd hf
  have hn_:ru=[]:=hu
  subst hn_
  try simp only[cap_,xN] at hst
  refine (bX (cs:=[]) (e:=55) aF4 (gW sX _) hst ?_);intro b339 W340 hb341 st342
  have st342:=st342.row_empty (α:=Run)
  exact ⟨⟨b339,rfl⟩,⟨_,⟨_,_,rfl,⟨b339,(ce rfl rfl),rfl⟩,rfl⟩,st342⟩,st342.below⟩
 ·intro f W ru oth hu hst hbl hd hf
  obtain ⟨_,_,rfl,rfl,_,_,rfl,⟨b339,he344,rfl⟩,hn_⟩:=hu
  have hn_:_=[]:=hn_
  subst hn_
  have hu344_34:f 34=(.slice (some ⟨b339,0,none⟩) 0 0):=congrArg (fun l=>l.getD 0 undef) he344
  try simp only[cap_,xN] at hst
  have st345:=hst.f3
  refine (lH (α:=Run) (m:=(aG y id).toNat) (o:=oD) sX hu344_34 (hd 4 38 rfl rfl) (by rw[length_take];omega) (fun _=>rfl) (by rw[take_take];congr 1;have hz:(aG y id).toNat*8≤y.runs.length*8:=Nat.mul_le_mul_right _ aA;exact (Nat.min_eq_left hz).symm▸rfl) st345.f1.f2 (by simp only[length_append,length_take,length_nil];unfold maxLen;omega) (by simp only[length_append,length_take,length_nil];omega) ?_);intro v348 W349 st350
  exact ⟨⟨v348,rfl⟩,⟨_,⟨_,_,rfl,⟨v348,(ce rfl rfl),rfl⟩,rfl⟩,st350.f6.f6.f6.f6.f5.f6.f6⟩,st350.f6.f6.f6.f6.f5.f6.f6.below⟩
 intro f358 W359 rs_ hAL_ st362 hbl363 hv360 hf361
 obtain ⟨_,_,rfl,⟨v348,he364,rfl⟩,hn_⟩:=hAL_
 have hn_:_=[]:=hn_
 subst hn_
 have hu364_39:f358 39=v348:=congrArg (fun l=>l.getD 0 undef) he364
 try simp only[cap_,xN] at st362
 have st366:=st362.f2
 refine sg (lH (α:=Run) (m:=y.runs.length - ((aG y id).toNat+1)) (o:=oD+((aG y id).toNat+1)*8) sX hu364_39 (hv360 10 44 cH rfl) (by rw[length_drop]) (fun _=>rfl) (bT3 aA) st366.f2.f2 (by simp only[length_append,length_take,length_nil];unfold maxLen;omega) (by simp only[length_append,length_take,length_nil];omega) ?_);intro v369 W370 st371
 refine sg (cR mY ((hf361 6 rfl).trans (h68_.at 6)) (sgn (lG (v:=v369) aD rfl rfl (Sl.cells (gH (st371.f3.get 1 rfl))) (Sl.one (gH (st371.f3.get 1 rfl))) st371.f3 kJ rfl ?_)));intro W375 st376
 refine aC (wp_seq (wp_seq (aB (sg (aV (aC (wp_block (dX (fun (m:Nat) (f:Nat→Value) (W:World)=>∃ (i:Nat) (fo379:List Nat),i≤y.shelf.length∧m=y.shelf.length - i∧Ag [(1,I id),(4,pt_ b6),(6,pt_ b21),(8,I (i:Int))] f∧St w W ([Res.bx b21 [I y.now,I y.seq,v82_0,v369] 27,Res.row (α:=Run) 55 v369 (([]++(y.runs.take (aG y id).toNat))++(y.runs.drop ((aG y id).toNat+1))) (([]++fE0)++fE1),Res.bx bD CD eD,Res.own (α:=List (List Entry)) v82_0 (qN id y.shelf i) fo379,Res.bx b6 [I 0,I 0,.slice none 0 0,.slice none 0 0] 27,Res.bx b1 [I y.now,I y.seq,v65_0,v65_1] 27])) (y.shelf.length - 0) ?_ ?_))))))))
 ·exact ⟨0,g82_0,Nat.zero_le _,rfl,(Ag.cons ((hf361 1 rfl).trans (h68_.at 1)) (Ag.cons ((hf361 4 rfl).trans (h68_.at 4)) (Ag.cons ((hf361 6 rfl).trans (h68_.at 6)) (Ag.cons rfl Ag.nil)))),(by rw[xU];exact st376)⟩
 intro m380 f381 W382 hJ383
 obtain ⟨i,fo379,hil,rfl,hA385,st384⟩:=hJ383
 have hfl:=bH4 id y.shelf i
 refine wp_seq (wp_seq (aB (rn st384 5 hA385 [] [(51,.bool (decide ((i:Int)<((qN id y.shelf i).length:Int))))] [qb 0 rfl 2,ql (bP (st384.get 3 rfl)),.o] aD fun f387 h387_=>(aC (cS (h387_.at 51) (fun h388p => ?_) (fun h388p => ?_))))))
 ·refine wp_skip (wp_seq (wp_block (wp_seq ?_)))
  have hq_:=gN (xs:=y.shelf) (i:=i) aA
  obtain ⟨l,hl⟩:=hq_
  have hla:=aZ0 (id:=id) hl
  have hl80:=oE (hY.each l (mem_of_getElem? hl))
  have hq_:=St.lendx (α:=List Entry) cH st384.f3 (x:=l) hla
  obtain ⟨b390,e390,pre390,cs390,post390,fi390,fr390,hPA390,hC390,st391⟩:=hq_
  have hq_:=st391.f1.uncs1
  obtain ⟨v390,he390,st396⟩:=hq_;subst he390
  refine aB (sg (bX (cs:=[]) (e:=243) aF4 (gW iR _) st396 ?_));intro b397 W398 hb399 st400
  have st400:=st400.row_empty (α:=Entry)
  refine sg (aH (v:=(.slice (some ⟨b397,0,none⟩) 0 0)) rfl (aC (wp_seq (wp_seq (aB (sg (aV (aC (wp_block (dX (fun (m:Nat) (f:Nat→Value) (W:World)=>∃ (j:Nat) (v406:Value),j≤l.length∧m=l.length - j∧Ag [(1,I id),(4,pt_ b6),(6,pt_ b21),(8,I (i:Int)),(9,v406),(10,I (j:Int))] f∧St w W ([Res.row (α:=Entry) 243 v406 (flE id (l.take j)) [],Res.own (α:=List Entry) v390 l fi390,Res.bx b390 (pre390++[v390]++post390) e390,Res.rest (α:=(List Entry)) v82_0 b390 pre390 post390 (qN id y.shelf i) i fr390,Res.bx b21 [I y.now,I y.seq,v82_0,v369] 27,Res.row (α:=Run) 55 v369 (([]++(y.runs.take (aG y id).toNat))++(y.runs.drop ((aG y id).toNat+1))) (([]++fE0)++fE1),Res.bx bD CD eD,Res.bx b6 [I 0,I 0,.slice none 0 0,.slice none 0 0] 27,Res.bx b1 [I y.now,I y.seq,v65_0,v65_1] 27])) (l.length - 0) ?_ ?_))))))))))
  ·exact ⟨0,(.slice (some ⟨b397,0,none⟩) 0 0),Nat.zero_le _,rfl,(h387_.put.put.put.to aD),st400⟩
  intro m407 f408 W409 hJ410
  obtain ⟨j,v406,hjl,rfl,hA412,st411⟩:=hJ410
  have hfn:=aY9 id (l.take j)
  have htl:=length_take_le j l
  refine wp_seq (wp_seq (aB (rn st411 8 hA412 [] [(62,.bool (decide ((j:Int)<(l.length:Int))))] [qb 4 rfl 2,qx hPA390,qp 2 rfl 0,ql (bP (st411.get 1 rfl)),.o] aD fun f414 h414_=>(aC (cS (h414_.at 62) (fun h415p => ?_) (fun h415p => ?_))))))
  ·refine wp_skip (wp_seq (wp_block (wp_seq ?_)))
   have hq_:=gN (xs:=l) (i:=j) aA
   obtain ⟨e,he⟩:=hq_
   refine aB ?_
   have hi1fd33:j<l.length:=(gsi_.1 he).1
   obtain ⟨b417,o417,cs417,f417,hp417,hr417,hc417,hm417⟩:=idxq (bP (st411.get 1 rfl)) (i:=j) he
   have hk418:=hc417
   obtain ⟨he418,rfl,hok418⟩:=hk418
   have he418:_=[I e.prio,I e.seq,I e.run,I e.task]:=he418
   subst he418
   refine rn st411 11 h414_ [] [(75,.bool (!decide (e.run=id)))] [qb 4 rfl 2,qx hPA390,qp 2 rfl 0,qx hp417,qn hr417 2,.o] aD fun f419 h419_=>(aC (gM (h419_.at 75) (fun h420p => ?_) (fun h420p => ?_)))
   ·refine aB (rn st411 9 h419_ [] [(76,v406),(84,.agg #[I e.prio,I e.seq,I e.run,I e.task])] [qb 4 rfl 2,qx hPA390,qp 2 rfl 0,qx hp417,qn hr417 0] aD fun f422 h422_ => ?_)
    have hoke:e.ok:=(hc417).2.2
    refine sg (bX (cs:=[I e.prio,I e.seq,I e.run,I e.task]) (e:=243) (aF7 (h422_.at 84) aF4) (jI iR _ _ rfl rfl cH) st411 ?_);intro b423 W424 hb425 st426
    refine sg (lI (ys:=[(⟨e.prio,e.seq,e.run,e.task⟩:Entry)]) iR (h422_.at 76) rfl rfl st426.f1 (Elems.one1 (show Shape.C _ [I e.prio,I e.seq,I e.run,I e.task] e [] from ⟨rfl,rfl,hoke⟩)) (by unfold maxLen;omega) aA ?_);intro v429 W430 st431
    refine sg (aH (v:=v429) rfl (aC (aB (rn st431 3 h422_.put.put.put [10] [(10,I ((j:Int)+1))] [qad (j:Int) 1] aD fun f435 h435_=>(aC ?_)))))
    exact ⟨_,l.length - (j+1),aA,rfl,j+1,v429,aA,rfl,(h435_.to aD),(by rw[flE_t he aA];exact st431)⟩
   refine wp_skip (aB (rn st411 3 h419_ [10] [(10,I ((j:Int)+1))] [qad (j:Int) 1] aD fun f437 h437_=>(aC ?_)))
   exact ⟨_,l.length - (j+1),aA,rfl,j+1,v406,aA,rfl,(h437_.to aD),(by rw[flE_f he aA];exact st411)⟩
  refine wp_exit ?_
  have hje:j=l.length:=by omega
  rw[hje,take_length] at st411
  obtain ⟨fp438,st439⟩:=st411.shut
  refine aB (rn st439 5 h414_ [] [(90,v406),(91,.pointer (some ⟨b390,pre390.length,none⟩))] [qb 4 rfl 2,qx hPA390] aD fun f441 h441_=>(sgn (aW (i:=0) (v:=v406) aD (h441_.at 91) (h441_.at 90) (Sl.cells (bP (st439.f2.get 1 rfl))) (Sl.one (bP (st439.f2.get 1 rfl))) st439.f2 rfl kJ rfl ?_)));intro W443 st444
  refine aC (aB (rn st444 3 h441_ [8] [(8,I ((i:Int)+1))] [qad (i:Int) 1] aD fun f446 h446_=>(aC ?_)))
  have st448:=st444.f1.cs1
  obtain ⟨fp452,st453⟩:=St.give (α:=List Entry) st448.f3.f1.f2
  exact ⟨_,y.shelf.length - (i+1),aA,rfl,i+1,fp452,aA,rfl,(h446_.to aD),(by rw[← aJ1 hl];exact st453.f6.f6.f2.f6.f6.f6.d6)⟩
 refine wp_exit (wp_seq (aB (sg (mM (cs:=[I y.now,I y.seq,v82_0,v369]) dM rfl (h387_.at 6) (st384.get 0 rfl) rfl rfl (sgn (fZ aD (h387_.at 4) rfl (dF rfl (dF rfl (dF (Sl.one (bP (st384.f4.get 4 rfl))) (dF (Sl.one (gH (st384.f4.get 2 rfl))) wD)))) st384.f4 kJ rfl ?_))))));intro W464 st465
 refine sg (aV (aC (wr (bC6 dM rfl results225 (h387_.at 4) (st465.get 0 rfl) rfl rfl ?_))))
 have hie:i=y.shelf.length:=by omega
 rw[aJ2 hie] at st465
 have hera:([]++(y.runs.take (aG y id).toNat))++(y.runs.drop ((aG y id).toNat+1))=y.runs.eraseIdx (aG y id).toNat:=by rw[nil_append,eraseIdx_eq_take_drop_succ]
 rw[hera] at st465
 have st468:=st465.f2
 obtain ⟨fp470,st469⟩:=st468.shut
 have st472:=pH (x:=(aI9 y id (aG y id).toNat)) st469.f4 hyok
 have hfe:bF y id=((aI9 y id (aG y id).toNat),0):=by rw[kL (aK9 h38) hra hr,if_neg aA]
 rw[hfe]
 exact ⟨_,_,rfl,st472.d1.d1.d1.d1⟩
def eC (c:Int):Reply:=⟨c,0,0,0⟩
noncomputable def doD (y:Yard) (d:Deed):Yard×Reply:=
 if aZ d=false then (y,eC 5) else if d.kind=1 then ((bI y d.run d.plan).1,eC (bI y d.run d.plan).2) else if d.kind=2 then gI y d.worker d.draw else if d.kind=3 then (fE y d.run d.task d.try_,eC (dU y d.run d.task d.try_))
 else if d.kind=4 then (oL y d.run d.task d.try_,eC (dU y d.run d.task d.try_)) else if d.kind=5 then ((eF y).1,eC (eF y).2) else if d.kind=6 then ((bS y d.run).1,eC (bS y d.run).2)
 else if d.kind=7 then ((bF y d.run).1,eC (bF y d.run).2) else (dP y,eC (if aM y=true then 0 else 8))
theorem fK {c:Int} (h : -100≤c∧c≤100):(eC c).ok:=by simp only[eC,Reply.ok,I64];omega
theorem deedOk_edges {d:Deed} (h:aZ d=true):d.plan.edges.length≤31:=by
 unfold aZ at h
 simp only[Bool.and_eq_true,decide_eq_true_eq] at h
 exact h.1.1.2
theorem tJ (y:Yard) (id:Int) (p:Plan) : -100≤(bI y id p).2∧(bI y id p).2≤100:=by
 have:=pf_rng p
 unfold bI
 repeat' split
 all_goals first | (simp only;omega) | (show -100≤aK p∧aK p≤100;omega)
theorem aC7 (y:Yard) : -100≤(eF y).2∧(eF y).2≤100:=by
 unfold eF
 repeat' split
 all_goals (simp only;omega)
theorem tQ (y:Yard) (id:Int) : -100≤(bS y id).2∧(bS y id).2≤100:=by
 unfold bS
 repeat' split
 all_goals (simp only;omega)
theorem tN (y:Yard) (id:Int) : -100≤(bF y id).2∧(bF y id).2≤100:=by
 unfold bF
 repeat' split
 all_goals (simp only;omega)

theorem own_yi {w W:World} {e:Ending} {x:Yard} {n:Int} (h:∃ (cs':List Value) (fp':List Nat),e = .returned (.tuple #[.agg cs'.toArray,I n])∧St w W [Res.own (.agg cs'.toArray) x fp']):∃ (a:Unit) (vs:List Value) (rs:List Res),True∧e = .returned (vP vs)∧Rks vs [Rk.S x,Rk.I n] rs∧St w W rs:=by
 obtain ⟨cs,fp,he,st⟩:=h
 exact ⟨(),[.agg cs.toArray,I n],[Res.cs cs x fp],trivial,he,⟨[Res.cs cs x fp],[],⟨cs,fp,rfl,rfl⟩,⟨[],[],⟨rfl,rfl⟩,rfl,rfl⟩,rfl⟩,st.cs rfl⟩
structure SubJ (y:Yard) (id:Int) (p:Plan):Prop where
 ss:4≤y.shelf.length
 sq:0≤y.seq∧y.seq≤4000000000
 tl:(bU id p).tasks.length≤12
 tk:(aR (bU id p).tasks 2).length≤12
 ln:(y.shelf.getD (aX (bU id p).id).toNat []).length≤80
 r8:y.runs.length<8
 nw:lX id p=true
 ok:(bY5 y id p).ok
theorem sub_j {y:Yard} {id:Int} {p:Plan} (gp:p.ok) (h0:aM y=true) (h1:inB id 1 9999=true) (h3:aK p=0) (h4:jA y p=true):SubJ y id p:=by
 have hY:=jN h0
 have hplr:=bD4 h3
 have hrq:y.seq≤999999000 - p.tasks∧y.runs.length<8:=by unfold jA at h4;simp at h4;omega
 have hsq:=hY.seq
 have hss:=hY.shelf
 have htl:(bU id p).tasks.length=p.tasks.toNat:=kB p _
 have htk:(aR (bU id p).tasks 2).length≤(bU id p).tasks.length:=iC _ _ _
 have hsh:=iE id
 have hnow:=hY.now
 refine ⟨by omega,by omega,by omega,by omega,Nat.le_trans (lL hY _ (by have:aX (bU id p).id=aX id:=rfl;omega)) cH,hrq.2,by unfold lX;simp[h1,h3],?_⟩
 show I64 _∧I64 _
 simp only[bY5,I64];omega
theorem sub_8 {y:Yard} {id:Int} {p:Plan} (h0:aM y=false):(y,(8:Int))=bI y id p:=by unfold bI;rw[if_pos h0]
theorem sub_5 {y:Yard} {id:Int} {p:Plan} (h0:aM y=true) (h1:inB id 1 9999=false):(y,(5:Int))=bI y id p:=by unfold bI;rw[if_neg (by rw[h0];decide),if_pos h1]
theorem sub_6 {y:Yard} {id:Int} {p:Plan} (h0:aM y=true) (h1:inB id 1 9999=true) (h2:0≤aG y id):(y,(6:Int))=bI y id p:=by unfold bI;rw[if_neg (by rw[h0];decide),if_neg (by rw[h1];decide),if_pos h2]
theorem sub_p {y:Yard} {id:Int} {p:Plan} (h0:aM y=true) (h1:inB id 1 9999=true) (h2:¬ 0≤aG y id) (h3:¬ aK p=0):(y,aK p)=bI y id p:=by unfold bI;rw[if_neg (by rw[h0];decide),if_neg (by rw[h1];decide),if_neg h2,if_pos h3]
theorem sub_7 {y:Yard} {id:Int} {p:Plan} (h0:aM y=true) (h1:inB id 1 9999=true) (h2:¬ 0≤aG y id) (h3:aK p=0) (h4:jA y p=false):(y,(7:Int))=bI y id p:=by unfold bI;rw[if_neg (by rw[h0];decide),if_neg (by rw[h1];decide),if_neg h2,if_neg (by simp[h3]),if_pos h4]
theorem sub_0 {y:Yard} {id:Int} {p:Plan} {q:Int×List (List Entry)} (h0:aM y=true) (h1:inB id 1 9999=true) (h2:¬ 0≤aG y id) (h3:aK p=0) (h4:jA y p=true) (hq:uU (bU id p) (aR (bU id p).tasks 2) y.seq y.shelf q):((⟨y.now,q.1,q.2,y.runs++[bU id p]⟩:Yard),(0:Int))=bI y id p:=by
 unfold bI;rw[if_neg (by rw[h0];decide),if_neg (by rw[h1];decide),if_neg h2,if_neg (by simp[h3]),if_neg (by rw[h4];decide)]
 have hq:q=_:=hq
 rw[hq];rfl
theorem sub_g {y:Yard} {id:Int} {p:Plan} {q:Int×List (List Entry)} (hj:SubJ y id p) (hq:uU (bU id p) (aR (bU id p).tasks 2) y.seq y.shelf q):(⟨y.now,q.1,q.2,y.runs++[bU id p]⟩:Yard).ok:=by
 have hq:q=_:=hq
 rw[hq];exact hj.ok
theorem new_t {P:Program} {F:FuncId} {id:Int} {p:Plan} {ps:List Par} (h:lX id p=true) (C:Ct1 P F ps [.S (aG4 id p),.B (lX id p)]):Ct1 P F ps [.S (bU id p),.B true]:=by rw[cC1 h,h] at C;exact C
theorem Submit_s (y:Yard) (id:Int) (p:Plan) (hw:y.wt≤1048576) (hp:p.wt≤1048576):Ct1 prog 219 [.S y,.I id,.S p] [.S (bI y id p).1,.I (bI y id p).2]:=
 .one (bI y id p) (rk:=fun q=>[.S q.1,.I q.2])<|vc func219 (fun (hg:gin [Par.S y,Par.I id,Par.S p])=>let gy:=hg.1.1
  let gp:p.ok:=hg.2.1.1
  .c func184 (CopyYardR_s y hw) (hg:=⟨gy,trivial⟩) fun _ => .c func185 (kN y hw) (hg:=⟨gy,trivial⟩) fun _ => .v (aM y) (fun h0 => .rt (y,8) ⟨sub_8 h0,gy,trivial⟩) (fun h0=>
  .c func138 (InV id 1 9999) fun _ => .v (inB id 1 9999) (fun h1 => .rt (y,5) ⟨sub_5 h0 h1,gy,trivial⟩) (fun h1=>
  .c func291 (lN y id hw) (hg:=⟨gy,trivial⟩) fun _ => .s ((0:Int)≤aG y id) (fun h2 => .rt (y,6) ⟨sub_6 h0 h1 h2,gy,trivial⟩) (fun h2=>
  .c func325 (oQ p) (hg:=⟨gp,trivial⟩) fun _ => .u (aK p=0) (fun h3 => .c func325 (oQ p) (hg:=⟨gp,trivial⟩) fun _ => .rt (y,aK p) ⟨sub_p h0 h1 h2 h3,gy,trivial⟩) (fun h3=>
  .c func326 (RoomFor_s y p hw) (hg:=⟨gy,gp,trivial⟩) fun _ => .v (jA y p) (fun h4 => .rt (y,7) ⟨sub_7 h0 h1 h2 h3 h4,gy,trivial⟩) (fun h4=>let hj:=sub_j gp h0 h1 h3 h4
  .c func327 (new_t hj.nw (RunNew_s id p)) (hg:=⟨gp,trivial⟩) fun hz=>let gr:(bU id p).ok:=hz.1.1
  .az inferInstance y.runs (bU id p) gr 96 (by have:=hj.r8;unfold maxLen;omega) (by have:=hj.r8;omega) <| .in_ func328 (layD true 13 6 7 y.now y.seq y.shelf zRun (bU id p) hj.ss (Nat.le_trans hj.ln aA) (by have:=hj.tl;omega) hj.sq gr (fun _=>rfl)) fun q hq0=>let hq:uU (bU id p) (aR (bU id p).tasks 2) y.seq y.shelf q:=(by rw[← fresh_zero];exact hq0)
      .zr 7 <| .rt (⟨y.now,q.1,q.2,y.runs++[bU id p]⟩,0) ⟨sub_0 h0 h1 h2 h3 h4 hq,sub_g hj hq,trivial⟩)))))) aD
theorem Forget_s (y:Yard) (id:Int) (hid:I64 id) (hw:y.wt≤1048576):Ct1 prog 225 [.S y,.I id] [.S (bF y id).1,.I (bF y id).2]:=⟨fun w us _ hps=>by
 match us,hps with
 | [_,_],⟨⟨cs,fp,rfl,hc⟩,rfl,_⟩=>exact (ForgetS w hc id hid hw).mono fun e w' h=>own_yi h⟩
theorem dd_wt {d:Deed} (h:aZ d=true):d.plan.wt≤1048576:=by have:=deedOk_edges h;unfold Plan.wt;omega
theorem bT8 {d:Deed} (h:aZ d=true):1≤d.kind∧d.kind≤8:=by
 unfold aZ at h
 simp only[Bool.and_eq_true] at h
 exact inB_iff.1 h.1.1.1
theorem do_0 {y:Yard} {d:Deed} (h:aZ d=false):(y,eC 5)=doD y d:=by unfold doD;rw[if_pos h]
theorem do_1 {y:Yard} {d:Deed} (h:aZ d=true) (hk:d.kind=1):((bI y d.run d.plan).1,eC (bI y d.run d.plan).2)=doD y d:=by unfold doD;rw[if_neg (by rw[h];simp),if_pos hk]
theorem do_2 {y:Yard} {d:Deed} (h:aZ d=true) (hk:d.kind=2):gI y d.worker d.draw=doD y d:=by unfold doD;rw[if_neg (by rw[h];simp),if_neg aA,if_pos hk]
theorem do_3 {y:Yard} {d:Deed} (h:aZ d=true) (hk:d.kind=3):(fE y d.run d.task d.try_,eC (dU y d.run d.task d.try_))=doD y d:=by unfold doD;rw[if_neg (by rw[h];simp),if_neg aA,if_neg aA,if_pos hk]
theorem do_4 {y:Yard} {d:Deed} (h:aZ d=true) (hk:d.kind=4):(oL y d.run d.task d.try_,eC (dU y d.run d.task d.try_))=doD y d:=by unfold doD;rw[if_neg (by rw[h];simp),if_neg aA,if_neg aA,if_neg aA,if_pos hk]
theorem do_5 {y:Yard} {d:Deed} (h:aZ d=true) (hk:d.kind=5):((eF y).1,eC (eF y).2)=doD y d:=by unfold doD;rw[if_neg (by rw[h];simp),if_neg aA,if_neg aA,if_neg aA,if_neg aA,if_pos hk]
theorem do_6 {y:Yard} {d:Deed} (h:aZ d=true) (hk:d.kind=6):((bS y d.run).1,eC (bS y d.run).2)=doD y d:=by unfold doD;rw[if_neg (by rw[h];simp),if_neg aA,if_neg aA,if_neg aA,if_neg aA,if_neg aA,if_pos hk]
theorem do_7 {y:Yard} {d:Deed} (h:aZ d=true) (hk:d.kind=7):((bF y d.run).1,eC (bF y d.run).2)=doD y d:=by unfold doD;rw[if_neg (by rw[h];simp),if_neg aA,if_neg aA,if_neg aA,if_neg aA,if_neg aA,if_neg aA,if_pos hk]
theorem do_8 {y:Yard} {d:Deed} (h:aZ d=true) (hk:d.kind=8) (c:Int) (hc:(if aM y=true then 0 else 8)=c):(dP y,eC c)=doD y d:=by unfold doD;rw[if_neg (by rw[h];simp),if_neg aA,if_neg aA,if_neg aA,if_neg aA,if_neg aA,if_neg aA,if_neg aA,← hc]
theorem aZ8 (y:Yard) (a b c:Int):(eC (dU y a b c)).ok:=fK (by have:=askF_rng y a b c;omega)
theorem Do_s (y:Yard) (d:Deed) (hw:y.wt≤1048576):Ct1 prog 115 [.S y,.S d] [.S (doD y d).1,.S (doD y d).2]:=
 .one (doD y d) (rk:=fun q=>[.S q.1,.S q.2])<|vc func115 (fun (hg:gin [Par.S y,Par.S d])=>let gy:=hg.1.1
  let gd:d.ok:=hg.2.1.1
  .c func217 (bI4 d) (hg:=⟨gd,trivial⟩) fun _ => .v (aZ d)
   (fun h => .c func184 (fN y hw) (hg:=⟨gy,trivial⟩) fun _ => .rt (y,eC 5) ⟨do_0 h,gy,fK aA,trivial⟩)
   (fun h=>let hk:=bT8 h
    .s (d.kind=1)
    (fun h1 => .c func219 (Submit_s y d.run d.plan hw (dd_wt h)) (hg:=⟨gy,gd.2.2.1,trivial⟩) fun hz => .rt ((bI y d.run d.plan).1,eC (bI y d.run d.plan).2) ⟨do_1 h h1,hz.1.1,fK (tJ y d.run d.plan),trivial⟩)
    (fun h1 => .s (d.kind=2)
    (fun h2 => .c func220 (Poll_s y d.worker d.draw hw gd.2.2.2.2.2.2) (hg:=⟨gy,trivial⟩) fun hz => .rt (gI y d.worker d.draw) ⟨do_2 h h2,hz.1.1,hz.2.1.1,trivial⟩)
    (fun h2 => .s (d.kind=3)
    (fun h3 => .c func221 (Complete_s y d.run d.task d.try_ hw) (hg:=⟨gy,trivial⟩) fun hz => .rt (fE y d.run d.task d.try_,eC (dU y d.run d.task d.try_)) ⟨do_3 h h3,hz.1.1,aZ8 _ _ _ _,trivial⟩)
    (fun h3 => .s (d.kind=4)
    (fun h4 => .c func222 (Fail_s y d.run d.task d.try_ hw) (hg:=⟨gy,trivial⟩) fun hz => .rt (oL y d.run d.task d.try_,eC (dU y d.run d.task d.try_)) ⟨do_4 h h4,hz.1.1,aZ8 _ _ _ _,trivial⟩)
    (fun h4 => .s (d.kind=5)
    (fun h5 => .c func223 (Tick_s y hw) (hg:=⟨gy,trivial⟩) fun hz => .rt ((eF y).1,eC (eF y).2) ⟨do_5 h h5,hz.1.1,fK (aC7 y),trivial⟩)
    (fun h5 => .s (d.kind=6)
    (fun h6 => .c func224 (Cancel_s y d.run hw) (hg:=⟨gy,trivial⟩) fun hz => .rt ((bS y d.run).1,eC (bS y d.run).2) ⟨do_6 h h6,hz.1.1,fK (tQ y d.run),trivial⟩)
    (fun h6 => .s (d.kind=7)
    (fun h7 => .c func225 (Forget_s y d.run gd.2.1 hw) (hg:=⟨gy,trivial⟩) fun hz => .rt ((bF y d.run).1,eC (bF y d.run).2) ⟨do_7 h h7,hz.1.1,fK (tN y d.run),trivial⟩)
    (fun h7 => .c func226 (Restart_s y hw) (hg:=⟨gy,trivial⟩) fun hz => .c func185 (kN y hw) (hg:=⟨gy,trivial⟩) fun _ => .v (aM y)
     (fun h9 => .rt (dP y,eC 8) ⟨do_8 h aA 8 (by rw[h9];rfl),hz.1.1,fK aA,trivial⟩)
     (fun h9 => .rt (dP y,eC 0) ⟨do_8 h aA 0 (by rw[h9];rfl),hz.1.1,fK aA,trivial⟩)))))))))) aD
section
variable {p q:Entry→Bool} {xs:List Entry} {k m c:Nat} {e:Entry} {g:Nat×Nat×List Entry}
theorem bT7 (hpq:∀ e,q e = !p e) (h:xs.any p=false):xs=xs.filter q:=by
 symm;rw[filter_eq_self];intro x hx;rw[hpq,Bool.not_eq_true'];simpa using any_eq_false.1 h x hx
theorem dl_some (hpq:∀ e,q e = !p e) (hk:xs[k]? = some e) (h:(xs.take k).any p=false) (hp:p e=true):xs.take k=(xs.take (k+1)).filter q:=by
 rw[← dJ hk,filter_append,← bT7 hpq h];simp[hpq,hp]
theorem dl_any (h:xs[k]? = some e) (h0:(xs.take k).any p=false) (hp:¬ p e=true):(xs.take (k+1)).any p=false:=by
 rw[← dJ h,any_append,h0];simp[hp]
def DlF (q:Entry→Bool) (xs:List Entry):Option Nat→Prop
 | none=>xs=xs.filter q
 | some k=>k<xs.length∧xs.take k=(xs.take (k+1)).filter q
structure DlJ (q:Entry→Bool) (xs:List Entry) (g:Nat×Nat×List Entry):Prop where
 lt:g.2.1<g.1
 le:g.1≤xs.length
 len:g.2.2.length=xs.length
 tk:g.2.2.take g.2.1=(xs.take g.1).filter q
 dr:g.2.2.drop g.1=xs.drop g.1
theorem DlJ.at_ (h:DlJ q xs g) (he:g.2.2[g.1]? = some e):xs[g.1]? = some e:=by
 have h1:(g.2.2.drop g.1)[0]? = some e:=by simpa using he
 rw[h.dr] at h1;simpa using h1
theorem DlJ.dr1 (h:DlJ q xs g):g.2.2.drop (g.1+1)=xs.drop (g.1+1):=by
 have:=congrArg (fun l=>l.drop 1) h.dr
 simpa [drop_drop,Nat.add_comm] using this
theorem DlJ.skip (h:DlJ q xs g) (he:g.2.2[g.1]? = some e) (hq:q e=false):DlJ q xs (g.1+1,g.2.1,g.2.2):=by
 have h1:=h.at_ he
 have h2:=(gsi_.1 h1).1
 have h3:=h.lt
 exact ⟨by show g.2.1<g.1+1;omega,h2,h.len,by show g.2.2.take g.2.1=(xs.take (g.1+1)).filter q;rw[← dJ h1,filter_append,h.tk];simp[hq],h.dr1⟩
theorem DlJ.keep (h:DlJ q xs g) (he:g.2.2[g.1]? = some e) (hq:q e=true):DlJ q xs (g.1+1,g.2.1+1,g.2.2.set g.2.1 e):=by
 have h1:=h.at_ he
 have h2:=(gsi_.1 h1).1
 have h3:=h.lt
 have h4:=h.len
 refine ⟨by show g.2.1+1<g.1+1;omega,h2,by show (g.2.2.set g.2.1 e).length=_;rw[length_set,h4],?_,?_⟩
 ·show (g.2.2.set g.2.1 e).take (g.2.1+1)=(xs.take (g.1+1)).filter q
  rw[← dJ h1,filter_append,← h.tk,← dJ (getElem?_set_self (show g.2.1<g.2.2.length by omega)),take_set_of_le (Nat.le_refl _)];simp[hq]
 show (g.2.2.set g.2.1 e).drop (g.1+1)=xs.drop (g.1+1)
 rw[drop_set_of_lt aA];exact h.dr1
theorem DlJ.all (h:DlJ q xs g) (hn:¬ (g.1:Int)<g.2.2.length):g.2.2.take g.2.1=xs.filter q:=by
 have h4:=h.len
 rw[h.tk,take_of_length_le aA]
end
noncomputable def delD (j:Nat) (xs:List Entry) (hl:xs.length≤1048576) (p q:Entry→Bool) (hpq:∀ e,q e = !p e) (call:∀ {A:Type} {R:A→Prop} (e:Entry),Dsh.good e→D prog R→D prog R):D prog (fun _:Unit=>True):=
 .in_ (R':=DlF q xs) func382 (
  .la (Γ:=Nat) (fun k=>k≤xs.length∧(xs.take k).any p=false) (fun k=>xs.length - k) (fun k=>[vI 8 k]) (fun _=>[]) 0 (h:=⟨Nat.zero_le _,rfl⟩) fun k hk t=>
   .s ((k:Int)<xs.length)
    (fun h => .x xs k (h:=by omega) fun e he ge=>call e ge <| .sb (p e)
     (fun hp => .rt (some k) ⟨by omega,dl_some hpq he hk.2 hp⟩)
     (fun hp => .p k 1 (h:=by unfold I64;omega) <| .n t (k+1) [] (h1:=⟨by omega,dl_any he hk.2 (by rw[hp];simp)⟩)))
    (fun h => .rt none (bT7 hpq (by have:=hk.2;rwa [take_of_length_le aA] at this)))) fun o=>match o with
 | none=>fun ho => .kt ((-1:Int) = -1) rfl <| .g j ho <| .rt () trivial
 | some k=>fun ho=>let hk:k<xs.length:=ho.1
  .kf ((k:Int) = -1) aA <| .p k 1 (h:=by unfold I64;omega) <| .la (Γ:=Nat×Nat×List Entry) (DlJ q xs) (fun g=>xs.length - g.1) (fun g=>[vI 6 g.1,vI 5 g.2.1]) (fun g=>[oO j g.2.2]) (k+1,k,xs) (h:=⟨Nat.lt_succ_self k,hk,rfl,ho.2,rfl⟩) fun g hJ t=>
   let h1:=hJ.lt
   let h2:=hJ.le
   let h3:=hJ.len
   .s ((g.1:Int)<g.2.2.length)
    (fun h => .x g.2.2 g.1 (h:=by omega) fun e he ge=>call e ge <| .v (p e)
     (fun hp => .ex (p:=fun x=>g.2.2[g.2.1]? = some x) ⟨g.2.2[g.2.1]'(by omega),getElem?_eq_getElem _⟩ fun x hx => .d j hx fun _ => .i g.2.1 <| .wt 34 <| .f j g.2.2 e (h:=ge) <| .p g.2.1 1 (h:=by unfold I64;omega) <| .p g.1 1 (h:=by unfold I64;omega) <| .n t (g.1+1,g.2.1+1,g.2.2.set g.2.1 e) [] (h1:=hJ.keep he (by rw[hpq,hp];rfl)) (h2:=by show xs.length - (g.1+1)<_;omega))
     (fun hp => .p g.1 1 (h:=by unfold I64;omega) <| .n t (g.1+1,g.2.1,g.2.2) [] (h1:=hJ.skip he (by rw[hpq,hp];rfl)) (h2:=by show xs.length - (g.1+1)<_;omega)))
    (fun h => .dp inferInstance g.2.2 g.2.1 aA g.2.1 rfl <| .cz inferInstance j g.2.2 g.2.1 aA <| .dz <| .g j (hJ.all h) <| .rt () trivial)
theorem bV0 (y:Yard) (sh:Int) (hw:y.wt≤1048576):Ct1 prog 305 [.S y,.I sh] [.S (aY y sh)]:=
 .one (aY y sh) (rk:=fun x=>[.S x])<|vc func305 (fun (hg:gin [Par.S y,Par.I sh])=>let gy:=hg.1.1
  let hsl:=eW y hw
  .c func119 (fO y hw) (hg:=⟨gy,trivial⟩) fun _ => .m (y.shelf.length:Int) 1 (h:=by unfold I64;omega) <| .c func92 (bW sh 0 ((y.shelf.length:Int) - 1)) fun _ => .v (inB sh 0 ((y.shelf.length:Int) - 1))
   (fun h => .rt y ⟨sw_no h,gy,trivial⟩)
   (fun h => .ex (uL h) fun l hl=>let hll:=kY hl hw
    .d 4 hl fun _ => .ie sh.toNat sh (he:=jK h) <| .in_ func318 (delD 8 l aA (fun e => !fresh y e) (fresh y) (fun e=>(Bool.not_not _).symm)
     (fun e ge d => .in_ (R':=fun _:Unit=>True) func380 (.c func346 (bV7 y e hw) (hg:=⟨gy,ge,trivial⟩) fun _ => .rt () trivial) fun _ _=>d)) fun _ _=>
    .ie sh.toNat sh (he:=jK h) <| .wt 26 <| .f 4 y.shelf (l.filter (fresh y)) (h:=trivial) <|
     .rt ⟨y.now,y.seq,y.shelf.set sh.toNat (l.filter (fresh y)),y.runs⟩ ⟨sw_in h hl,gy,trivial⟩)) aD
noncomputable def delRunInc (xs:List Run) (k:Nat) (hk:k<xs.length) (hxl:xs.length≤1048576) (e1 e2:Int) (h1:e1=k) (h2:e2=(k:Int)+1):Inc prog 317 (fun _:Unit=>True) where
 T:=fun s us K=>match us with
  | [.on (.ce (.rf j h)),.on (.ce (.vl v1)),.on (.ce (.vl v2))]=>match lku s.O j with
   | some (.own i h' xs' _) => .e0 h h' <| .e1 (⟨i,xs'⟩:Dat) ⟨instShapeRun,xs⟩ <| .e0 v1 (I e1) <| .e0 v2 (I e2) <| .fn fun r:Hd×List Nat=>K () (.on (.ce (.rf j r.1))) ⟨s.E,(j,.own instShapeRun r.1 (xs.eraseIdx k) r.2)::cN s.O j,lasting s.B,s.nx⟩
   | _ => .no
  | _ => .no
 ok:=by
  intro w0 W s us K h st fa
  split at h
  ·next j hd v1 v2=>
   split at h
   ·next i h' xs' fp hj=>
    obtain ⟨rfl,h2',h3,h4,h5⟩:=h
    subst h1 h2
    simp only[Dat.mk.injEq] at h2'
    obtain ⟨rfl,h6,h7⟩:=h2'
    obtain ⟨rfl,rfl⟩:=And.intro (eq_of_heq h6) (eq_of_heq h7)
    subst h3 h4
    have st2:=St.take (rs:=[]) (by simpa [Or,S.rs] using st) hj
    rw[append_nil] at st2
    refine (DeleteRun st2 hk hxl).mono ?_
    rintro e W' ⟨v',fp',rfl,st'⟩
    obtain ⟨hd,rfl,_⟩:=Sl.hd (bP (st'.get 0 rfl))
    exact ⟨(),.on (.ce (.rf j hd)),_,trivial,h5 (hd,fp'),rfl,st',fa.lasting⟩
   exact h.elim
  exact h.elim
theorem fg_8 {y:Yard} {id:Int} (h:aM y=false):(y,(8:Int))=bF y id:=by unfold bF;rw[if_pos h]
theorem Forget_i (y:Yard) (id:Int) (hid:I64 id) (hw:y.wt≤1048576):Ct1 prog 211 [.S y,.I id] [.S (bF y id).1,.I (bF y id).2]:=
 .one (bF y id) (rk:=fun q=>[.S q.1,.I q.2])<|vc func211 (fun (hg:gin [Par.S y,Par.I id])=>let gy:=hg.1.1
  let hsl:=eW y hw
  .c func119 (fO y hw) (hg:=⟨gy,trivial⟩) fun _ => .c func232 (kP y id hw) (hg:=⟨gy,trivial⟩) fun _ => .c func118 (kO y hw) (hg:=⟨gy,trivial⟩) fun _ => .v (aM y)
   (fun h => .rt (y,8) ⟨fg_8 h,gy,trivial⟩)
   (fun h => .s (aG y id<0)
    (fun h2 => .rt (y,10) ⟨(wI h h2).symm,gy,trivial⟩)
    (fun h2 => .ex (vU h2) fun r hr=>let hrl:(aG y id).toNat<y.runs.length:=(gsi_.1 hr).1
     .ye hr (aG y id) (he:=rH h2) fun gr => .s (r.state=1)
      (fun h3 => .rt (y,13) ⟨by rw[kL h h2 hr,if_pos h3],gy,trivial⟩)
      (fun h3 => .p (aG y id) 1 (h:=by unfold I64;omega) <| .iv _ func317 (delRunInc y.runs (aG y id).toNat hrl aA (aG y id) (aG y id+1) (rH h2) aA) fun _ _=>
       .g 5 (xU id y.shelf).symm <| .la (Γ:=Nat) (fun k=>k≤y.shelf.length) (fun k=>y.shelf.length - k) (fun k=>[vI 42 k]) (fun k=>[oO 5 (qN id y.shelf k)]) 0 fun k hk t=>
        .s ((k:Int)<y.shelf.length)
         (fun h4 => .ex (p:=fun l=>y.shelf[k]? = some l) ⟨y.shelf[k]'(by omega),getElem?_eq_getElem _⟩ fun l hl=>let hll:=kY hl hw
          .d 5 (aZ0 (id:=id) hl) fun _ => .i k <| .in_ func318 (delD 12 l hll (fun e=>decide (e.run=id)) (fun e => !decide (e.run=id)) (fun _=>rfl)
           (fun e ge d => .in_ (R':=fun _:Unit=>True) func319 (.rt () trivial) fun _ _=>d)) fun _ _=>
          .i k <| .wt 55 <| .f 5 (qN id y.shelf k) (flE id l) (h:=trivial) <| .g 5 (aJ1 (id:=id) hl) <| .p k 1 (h:=by unfold I64;omega) <| .n t (k+1) [])
         (fun h4 => .g 5 (aJ2 (id:=id) (xss:=y.shelf) (show k=y.shelf.length by omega)) <| .rt (aI9 y id (aG y id).toNat,0) ⟨by rw[kL h h2 hr,if_neg h3],gy,trivial⟩)))) ) aD
theorem RunLeft_i (r:Run) (hl:r.plan.edges.length≤1048576) (htl:r.tasks.length≤1048576):Ct1 prog 316 [.S r] [.S (kV r)]:=
 .one (kV r) (rk:=fun x=>[.S x])<|vc func316 (fun (hg:gin [Par.S r])=>let gr:=hg.1.1
  .c func236 (yH r hl htl) (hg:=⟨gr,trivial⟩) fun _ => .c func231 (bV2 r) (hg:=⟨gr,trivial⟩) fun _ => .sb (eM r)
   (fun h => .s (r.state=1)
    (fun h1 => .cm _ func238 (bV5 r (-1) htl) trivial fun _ _ _ _ => .rt ⟨r.id,r.plan,4,gQ r.tasks (-1)⟩ ⟨(bS4 (by unfold aR2;rw[h,decide_eq_true h1];rfl)).symm,⟨gr.1,gr.2.1,by show I64 4;unfold I64;omega⟩,trivial⟩)
    (fun h1 => .rt r ⟨bS3 h1,gr,trivial⟩))
   (fun h => .rt r ⟨bS2 h,gr,trivial⟩)) aD
theorem Cancel_i (y:Yard) (id:Int) (hw:y.wt≤1048576):Ct1 prog 210 [.S y,.I id] [.S (bS y id).1,.I (bS y id).2]:=
 .one (bS y id) (rk:=fun q=>[.S q.1,.I q.2])<|vc func210 (fun (hg:gin [Par.S y,Par.I id])=>let gy:=hg.1.1
  .c func119 (fO y hw) (hg:=⟨gy,trivial⟩) fun _ => .c func232 (kP y id hw) (hg:=⟨gy,trivial⟩) fun _ => .c func118 (kO y hw) (hg:=⟨gy,trivial⟩) fun _ => .v (aM y)
   (fun h => .rt (y,8) ⟨cF5 h,gy,trivial⟩)
   (fun h => .s (aG y id<0)
    (fun h2 => .rt (y,10) ⟨(wT h h2).symm,gy,trivial⟩)
    (fun h2 => .ex (vU h2) fun r hr => .ye hr (aG y id) (he:=rH h2) fun gr=>let hrl:=jH hw hr
     .u (r.state=1)
      (fun h3 => .rt (y,12) ⟨by rw[mW h h2 hr,if_pos h3],gy,trivial⟩)
      (fun h3 => .d 5 hr fun _ => .ye hr (aG y id) (he:=rH h2) fun _ => .c func316 (RunLeft_i r hrl.2.2 hrl.2.1) (hg:=⟨gr,trivial⟩) fun _ => .ie (aG y id).toNat (aG y id) (he:=rH h2) <| .wt 41 <| .f 5 y.runs (kV r) (h:=bG3 gr) <|
       .rt (bU1 y (aG y id).toNat r,0) ⟨by rw[mW h h2 hr,if_neg (by simp[h3])],gy,trivial⟩)))) aD
theorem Submit_i (y:Yard) (id:Int) (p:Plan) (hw:y.wt≤1048576) (hp:p.wt≤1048576):Ct1 prog 205 [.S y,.I id,.S p] [.S (bI y id p).1,.I (bI y id p).2]:=
 .one (bI y id p) (rk:=fun q=>[.S q.1,.I q.2])<|vc func205 (fun (hg:gin [Par.S y,Par.I id,Par.S p])=>let gy:=hg.1.1
  let gp:p.ok:=hg.2.1.1
  .c func119 (CopyYardR_i y hw) (hg:=⟨gy,trivial⟩) fun _ => .c func118 (kO y hw) (hg:=⟨gy,trivial⟩) fun _ => .v (aM y) (fun h0 => .rt (y,8) ⟨sub_8 h0,gy,trivial⟩) (fun h0=>
  .c func92 (bW id 1 9999) fun _ => .v (inB id 1 9999) (fun h1 => .rt (y,5) ⟨sub_5 h0 h1,gy,trivial⟩) (fun h1=>
  .c func232 (kP y id hw) (hg:=⟨gy,trivial⟩) fun _ => .s ((0:Int)≤aG y id) (fun h2 => .rt (y,6) ⟨sub_6 h0 h1 h2,gy,trivial⟩) (fun h2=>
  .c func302 (jX p) (hg:=⟨gp,trivial⟩) fun _ => .u (aK p=0) (fun h3 => .c func302 (jX p) (hg:=⟨gp,trivial⟩) fun _ => .rt (y,aK p) ⟨sub_p h0 h1 h2 h3,gy,trivial⟩) (fun h3=>
  .c func303 (RoomFor_i y p hw) (hg:=⟨gy,gp,trivial⟩) fun _ => .v (jA y p) (fun h4 => .rt (y,7) ⟨sub_7 h0 h1 h2 h3 h4,gy,trivial⟩) (fun h4=>let hj:=sub_j gp h0 h1 h3 h4
  .c func304 (new_t hj.nw (RunNew_i id p)) (hg:=⟨gp,trivial⟩) fun hz=>let gr:(bU id p).ok:=hz.1.1
  .az inferInstance y.runs (bU id p) gr 96 (by have:=hj.r8;unfold maxLen;omega) (by have:=hj.r8;omega) <| .c func30 (lF (bU id p) 2 (by have:=hj.tl;omega)) (hg:=⟨gr,trivial⟩) fun _ => .in_ func237 (bY8 8 6 7 y.now y.seq y.shelf (bU id p) (aR (bU id p).tasks 2) hj.ss (by have:=hj.ln;have:=hj.tk;omega) hj.sq gr) fun q hq => .zr 7 <| .rt (⟨y.now,q.1,q.2,y.runs++[bU id p]⟩,0) ⟨sub_0 h0 h1 h2 h3 h4 hq,sub_g hj hq,trivial⟩)))))) aD
theorem cF4 {y out:Yard} {n k i:Nat} {r:Run} {t:Task} (hY:YardIs y) (h:RI y out n) (hn:n≤900) (hr:out.runs[k]? = some r) (ht:r.tasks[i]? = some t) (h3:t.state=3) (hR:RunIs r):(r.ok∧r.tasks.length≤12)∧(4≤out.shelf.length∧(out.shelf.getD (aX (cC r i).id).toNat []).length≤1000000∧(0≤out.seq∧out.seq≤4000000000))∧(cC r i).tasks.length≤1000∧(cC r i).ok∧dN out k r (cC r i)=kS out k i:=by
 have h1:=hR.small
 have h2:=(hR.fails ht h3).small
 exact ⟨⟨h1.1,h1.2.1⟩,h.chg hY aA _,by omega,h2.1,(bM6 hr ht h3).symm⟩
structure LtI (y out:Yard) (j k i:Nat) (id tr:Int) (r:Run) (t:Task):Prop where
 p:(cK y)[j]? = some (k,i)
 row:((cK y).map (gC y))[j]? = some [id,(i:Int),tr]
 ix:aG out id=(k:Int)
 hr:out.runs[k]? = some r
 is:RunIs r
 ht:r.tasks[i]? = some t
 ho:fJ out id (i:Int) tr=decide (t.state=3)
theorem li_at {y out:Yard} {n j:Nat} {m:Int} (hY:YardIs y) (hm:0≤m∧m≤999999980) (h:RI (oP m y) out n) (hj:j<(cK y).length):∃ q:(Nat×Nat)×(Int×Int)×Run×Task,LtI y out j q.1.1 q.1.2 q.2.1.1 q.2.1.2 q.2.2.1 q.2.2.2:=by
 obtain ⟨k,i,r,t,hp,hr,ht,hrow⟩:=bF3 hj
 obtain ⟨r2,t2,h1,h2,h3,h4⟩:=h.holds (hY.at hm) hr ht
 exact ⟨((k,i),(r.id,t.try_),r2,t2),⟨hp,hrow,cV (h.ix (hY.at hm) hr),h1,h2,h3,h4⟩⟩
theorem tick_e {y out:Yard} {j:Nat} (h0:aM y=true) (h:¬ 999999980<y.now+1) (ho:out=nD (oP (y.now+1) y) ((cK y).take j)) (hj:¬ j<(cK y).length):(out,(0:Int))=eF y:=by
 unfold eF;rw[if_neg (by rw[h0];simp),if_neg h]
 unfold bY0
 rw[ho,take_of_length_le aA]
theorem Tick_i (y:Yard) (hw:y.wt≤1048576):Ct1 prog 209 [.S y] [.S (eF y).1,.I (eF y).2]:=
 .one (eF y) (rk:=fun q=>[.S q.1,.I q.2])<|vc func209 (fun (hg:gin [Par.S y])=>let gy:=hg.1.1
  .c func119 (fO y hw) (hg:=⟨gy,trivial⟩) fun _ => .c func118 (kO y hw) (hg:=⟨gy,trivial⟩) fun _ => .v (aM y)
   (fun h => .rt (y,8) ⟨bB5 h,gy,trivial⟩)
   (fun h=>let hY:=jN h
    let hn:=hY.now
    .p y.now 1 (h:=by unfold I64;omega) <| .s (999999980<y.now+1)
     (fun h7 => .rt (y,7) ⟨bB6 h h7,gy,trivial⟩)
     (fun h7=>let hln:=cC6 hY
      let hml:((cK y).map (gC y)).length=(cK y).length:=length_map _
      let hm:0≤y.now+1∧y.now+1≤999999980:=aA
      .p y.now 1 (h:=by unfold I64;omega) <| .c func314 (LateOf_i y hY) (hg:=⟨gy,trivial⟩) fun _=>
      .la (Γ:=Nat×Yard) (fun g=>g.1≤(cK y).length∧g.2=nD (oP (y.now+1) y) ((cK y).take g.1)) (fun g=>(cK y).length - g.1) (fun g=>[vI 27 g.1]) (fun g=>oO 7 ((cK y).map (gC y))::ryS g.2 6 4 5) (0,oP (y.now+1) y) (h:=⟨Nat.zero_le _,(tV _ _).symm⟩) fun g hJ tk=>
       let hRI:RI (oP (y.now+1) y) g.2 200:=(by rw[hJ.2];exact (RI.list (hY.at hm) (l:=cK y) (fun p hp=>aA7 (y:=y) p hp) g.1).mono aA)
       .s ((g.1:Int)<((cK y).map (gC y)).length)
        (fun hlt => .ex (li_at hY hm hRI (show g.1<(cK y).length by omega)) fun q hq=>
         let row:=[q.2.1.1,(q.1.2:Int),q.2.1.2]
         let i0:row[0]? = some q.2.1.1:=rfl
         let i1:row[1]? = some (q.1.2:Int):=rfl
         let i2:row[2]? = some q.2.1.2:=rfl
         .d 7 hq.row fun _ => .i g.1 <| .y i0 fun _ => .y i1 fun _ => .y i2 fun _ => .c func120 (bA2 g.2 q.2.1.1 (q.1.2:Int) q.2.1.2 (Nat.le_trans (hRI.wt (hY.at hm) aA) aA)) (hg:=⟨hRI.ok (hY.at hm) aA,trivial⟩) fun _ => .sb (fJ g.2 q.2.1.1 (q.1.2:Int) q.2.1.2)
          (fun hh=>let h3:q.2.2.2.state=3:=of_decide_eq_true (hq.ho.symm.trans hh)
           let hT:=cF4 (hY.at hm) hRI aA hq.hr hq.ht h3 hq.is
           .y i0 fun _ => .c func232 (kP g.2 q.2.1.1 (Nat.le_trans (hRI.wt (hY.at hm) aA) aA)) (hg:=⟨hRI.ok (hY.at hm) aA,trivial⟩) fun _=>
           .in_ func121 (aB5 6 4 5 22 g.2.now g.2.seq g.2.shelf g.2.runs q.1.1 (aG g.2 q.2.1.1) hq.ix q.2.2.1 (cC q.2.2.1 q.1.2) hq.hr aA hT.2.2.1 hT.1.1 hT.2.2.2.1 hT.2.1.1 hT.2.1.2.1 hT.2.1.2.2
            (fun d => .in_ (R':=fun _:Unit=>True) func315 (.y i1 fun _ => .cm _ func123 (bA7 q.2.2.1 (q.1.2:Int) q.2.2.2 aA hq.ht aA) trivial fun _ _ _ _ => .rt () trivial) fun _ _=>d)) fun z hz=>
           .f 7 ((cK y).map (gC y)) row (h:=trivial) <| .g 7 (vL hq.row) <| .p g.1 1 (h:=by unfold I64;omega) <| .n tk (g.1+1,⟨g.2.now,z.1,z.2,g.2.runs.set q.1.1 (cC q.2.2.1 q.1.2)⟩) [] (h1:=⟨by show g.1+1≤_;omega,by show (⟨g.2.now,z.1,z.2,_⟩:Yard)=_;rw[aV3 hz,hT.2.2.2.2,nC hq.p,← hJ.2]⟩) (h2:=by show (cK y).length - (g.1+1)<_;omega))
          (fun hh=>let h3:¬ q.2.2.2.state=3:=of_decide_eq_false (hq.ho.symm.trans hh)
           .f 7 ((cK y).map (gC y)) row (h:=trivial) <| .g 7 (vL hq.row) <| .p g.1 1 (h:=by unfold I64;omega) <| .n tk (g.1+1,g.2) [] (h1:=⟨by show g.1+1≤_;omega,by show g.2=_;rw[nC hq.p,← hJ.2];exact (zQ hq.hr hq.ht h3).symm⟩) (h2:=by show (cK y).length - (g.1+1)<_;omega)))
        (fun hge => .rt (g.2,0) ⟨tick_e (j:=g.1) h h7 hJ.2 aA,hRI.ok (hY.at hm) aA,trivial⟩)))) aD
theorem Restart_i (y:Yard) (hw:y.wt≤1048576):Ct1 prog 32 [.S y] [.S (dP y)]:=
 .one (dP y) (rk:=fun x=>[.S x])<|vc func32 (fun (hg:gin [Par.S y])=>let gy:=hg.1.1
  .c func119 (fO y hw) (hg:=⟨gy,trivial⟩) fun _ => .c func118 (kO y hw) (hg:=⟨gy,trivial⟩) fun _ => .v (aM y)
   (fun h => .rt y ⟨by unfold dP;rw[if_neg (by rw[h];simp)],gy,trivial⟩)
   (fun h=>let hY:=jN h
    let h8:=hY.runs
    .la (Γ:=Nat×Yard) (fun g=>g.1≤y.runs.length∧g.2=mG y g.1) (fun g=>y.runs.length - g.1) (fun g=>[vI 17 g.1]) (fun g=>ryS g.2 6 4 5) (0,y) (h:=⟨Nat.zero_le _,rfl⟩) fun g hJ tk=>
     let hRK:RI y g.2 96:=(by rw[hJ.2];exact bC7 hY hJ.1)
     .s ((g.1:Int)<y.runs.length)
      (fun hlt => .x y.runs g.1 (h:=by omega) fun r1 hr1 gr1=>
       let hl12:=(hY.run g.1 r1 hr1).1.small.2.1
       .la (Γ:=Nat×Yard) (fun q=>q.1≤r1.tasks.length∧q.2=qV (mG y g.1) g.1 q.1) (fun q=>r1.tasks.length - q.1) (fun q=>[vI 25 q.1]) (fun q=>ryS q.2 6 4 5) (0,g.2) (h:=⟨Nat.zero_le _,hJ.2⟩) fun q hq tq=>
        let hRI:RI y q.2 200:=(by rw[hq.2];exact bP5 hY hr1 hq.1)
        .s ((q.1:Int)<r1.tasks.length)
         (fun hl2 => .x r1.tasks q.1 (h:=by omega) fun t1 ht1 gt1 => .ex (p:=fun z:Run×Task=>q.2.runs[g.1]? = some z.1∧RunIs z.1∧z.1.tasks[q.1]? = some z.2∧fJ q.2 r1.id (q.1:Int) t1.try_=decide (z.2.state=3)) (by obtain ⟨r2,t2,h1,h2,h3,h4⟩:=hRI.holds hY hr1 ht1;exact ⟨(r2,t2),h1,h2,h3,h4⟩) fun z hz=>
          .c func120 (bA2 q.2 r1.id (q.1:Int) t1.try_ (Nat.le_trans (hRI.wt hY aA) aA)) (hg:=⟨hRI.ok hY aA,trivial⟩) fun _ => .sb (fJ q.2 r1.id (q.1:Int) t1.try_)
          (fun hh=>let h3:z.2.state=3:=of_decide_eq_true (hz.2.2.2.symm.trans hh)
           let hT:=cF4 hY hRI aA hz.1 hz.2.2.1 h3 hz.2.1
           .in_ func121 (aB5 6 4 5 20 q.2.now q.2.seq q.2.shelf q.2.runs g.1 (g.1:Int) rfl z.1 (cC z.1 q.1) hz.1 aA hT.2.2.1 hT.1.1 hT.2.2.2.1 hT.2.1.1 hT.2.1.2.1 hT.2.1.2.2
            (fun d => .in_ (R':=fun _:Unit=>True) func122 (.cm _ func123 (bA7 z.1 (q.1:Int) z.2 aA hz.2.2.1 aA) trivial fun _ _ _ _ => .rt () trivial) fun _ _=>d)) fun u hu=>
           .p q.1 1 (h:=by unfold I64;omega) <| .n tq (q.1+1,⟨q.2.now,u.1,u.2,q.2.runs.set g.1 (cC z.1 q.1)⟩) [] (h1:=⟨by show q.1+1≤_;omega,by show (⟨q.2.now,u.1,u.2,_⟩:Yard)=_;rw[aV3 hu,hT.2.2.2.2,hq.2];rfl⟩) (h2:=by show r1.tasks.length - (q.1+1)<_;omega))
          (fun hh=>let h3:¬ z.2.state=3:=of_decide_eq_false (hz.2.2.2.symm.trans hh)
           .p q.1 1 (h:=by unfold I64;omega) <| .n tq (q.1+1,q.2) [] (h1:=⟨by show q.1+1≤_;omega,by show q.2=kS (qV (mG y g.1) g.1 q.1) g.1 q.1;rw[← hq.2];exact (zQ hz.1 hz.2.2.1 h3).symm⟩) (h2:=by show r1.tasks.length - (q.1+1)<_;omega)))
         (fun hl2 => .p g.1 1 (h:=by unfold I64;omega) <| .n tk (g.1+1,q.2) [] (h1:=⟨by show g.1+1≤_;omega,by show q.2=_;rw[hq.2];exact bC8 hr1 aA⟩) (h2:=by show y.runs.length - (g.1+1)<_;omega)))
      (fun hge => .rt g.2 ⟨by unfold dP;rw[if_pos h,hJ.2];congr 1;omega,hRK.ok hY aA,trivial⟩))) aD
theorem aC5 {g:Run→Nat→Run} {y:Yard} {id task try_:Int} {k:Nat} {r:Run} {q:Int×List (List Entry)} (h:dU y id task try_=0) (hk:bZ y id=some k) (hr:y.runs[k]? = some r) (hq:uU (g r task.toNat) (fA r (g r task.toNat)) y.seq y.shelf q):((⟨y.now,q.1,q.2,y.runs.set k (g r task.toNat)⟩,dU y id task try_):Yard×Int)=(yI g y id task try_,dU y id task try_):=by
 have hq:q=_:=hq
 subst hq
 rw[pF h hk hr]
 rfl
theorem bM9 {g:Run→Nat→Run} {y:Yard} {id task try_:Int} {k:Nat} {r:Run} {q:Int×List (List Entry)} (hY:YardIs y) (h:dU y id task try_=0) (hk:bZ y id=some k) (hr:y.runs[k]? = some r) (hl:(g r task.toNat).tasks.length≤1000) (hq:uU (g r task.toNat) (fA r (g r task.toNat)) y.seq y.shelf q):(⟨y.now,q.1,q.2,y.runs.set k (g r task.toNat)⟩:Yard).ok:=by
 have:=congrArg Prod.fst (aC5 h hk hr hq)
 simp only at this
 rw[this,pF h hk hr]
 exact uP hY hl
theorem bM8 {g:Run→Nat→Run} {y:Yard} {id task try_:Int} (h:¬ dU y id task try_=0):(y,dU y id task try_)=(yI g y id task try_,dU y id task try_):=by rw[pE h]
structure AskJ (y:Yard) (id task:Int) (q:Nat×Run×Task):Prop where
 Y:YardIs y
 ix:bZ y id=some q.1
 at_:y.runs[q.1]? = some q.2.1
 R:RunIs q.2.1
 pos:0≤task
 tk:q.2.1.tasks[task.toNat]? = some q.2.2
 run:q.2.2.state=3
theorem cF9 {y:Yard} {id task try_:Int} (h:dU y id task try_=0):∃ q,AskJ y id task q:=by
 obtain ⟨hY,k,r,t,h1,h2,h3,h4,h5,h6⟩:=aL2 h
 exact ⟨(k,r,t),hY,h1,h2,h3,h4,h5,h6⟩
theorem AskJ.small {y:Yard} {id task:Int} {q:Nat×Run×Task} (h:AskJ y id task q):q.2.1.ok∧q.2.1.tasks.length≤12∧4≤y.shelf.length∧(y.shelf.getD (aX q.2.1.id).toNat []).length≤1000000∧(0≤y.seq∧y.seq≤4000000000):=by
 have h1:=h.R.small
 have h2:=(RI.start h.Y).chg h.Y (Nat.zero_le _) q.2.1.id
 exact ⟨h1.1,h1.2.1,h2⟩
theorem Complete_i (y:Yard) (id task try_:Int) (hw:y.wt≤1048576):Ct1 prog 207 [.S y,.I id,.I task,.I try_] [.S (fE y id task try_),.I (dU y id task try_)]:=
 .one (fE y id task try_,dU y id task try_) (rk:=fun q=>[.S q.1,.I q.2])<|vc func207 (fun (hg:gin [Par.S y,Par.I id,Par.I task,Par.I try_])=>let gy:=hg.1.1
  .c func119 (fO y hw) (hg:=⟨gy,trivial⟩) fun _ => .c func310 (cG4 y id task try_ hw) (hg:=⟨gy,trivial⟩) fun _ => .s (dU y id task try_=0)
   (fun h => .ex (cF9 h) fun z hz=>let hs:=hz.small
    let hk:=oM z.2.1 task.toNat
    .c func232 (kP y id hw) (hg:=⟨gy,trivial⟩) fun _ => .in_ func121 (aB5 7 5 6 14 y.now y.seq y.shelf y.runs z.1 (aG y id) (cV hz.ix) z.2.1 (jE z.2.1 task.toNat) hz.at_ aA (by rw[hk.2.2.1];omega) hs.1 (doneR_ok hs.1 _) hs.2.2.1 (by rw[hk.1];exact hs.2.2.2.1) hs.2.2.2.2
     (fun d => .in_ (R':=fun _:Unit=>True) func311 (.cm _ func312 (Done_p z.2.1 task z.2.2 hz.pos hz.tk hz.R) trivial fun _ _ _ _ => .rt () trivial) fun _ _=>d)) fun q hq=>
      .rt (⟨y.now,q.1,q.2,y.runs.set z.1 (jE z.2.1 task.toNat)⟩,dU y id task try_) ⟨aC5 h hz.ix hz.at_ hq,bM9 hz.Y h hz.ix hz.at_ (by rw[hk.2.2.1];omega) hq,trivial⟩)
   (fun h => .rt (y,dU y id task try_) ⟨bM8 h,gy,trivial⟩)) aD
theorem Fail_i (y:Yard) (id task try_:Int) (hw:y.wt≤1048576):Ct1 prog 208 [.S y,.I id,.I task,.I try_] [.S (oL y id task try_),.I (dU y id task try_)]:=
 .one (oL y id task try_,dU y id task try_) (rk:=fun q=>[.S q.1,.I q.2])<|vc func208 (fun (hg:gin [Par.S y,Par.I id,Par.I task,Par.I try_])=>let gy:=hg.1.1
  .c func119 (fO y hw) (hg:=⟨gy,trivial⟩) fun _ => .c func310 (cG4 y id task try_ hw) (hg:=⟨gy,trivial⟩) fun _ => .s (dU y id task try_=0)
   (fun h => .ex (cF9 h) fun z hz=>let hs:=hz.small
    let hk:=qP z.2.1 task.toNat
    .c func232 (kP y id hw) (hg:=⟨gy,trivial⟩) fun _ => .in_ func121 (aB5 7 5 6 14 y.now y.seq y.shelf y.runs z.1 (aG y id) (cV hz.ix) z.2.1 (cC z.2.1 task.toNat) hz.at_ aA (by rw[hk.2.2.1];omega) hs.1 (failsR_ok hs.1 _) hs.2.2.1 (by rw[hk.1];exact hs.2.2.2.1) hs.2.2.2.2
     (fun d => .in_ (R':=fun _:Unit=>True) func313 (.cm _ func123 (bA7 z.2.1 task z.2.2 hz.pos hz.tk aA) trivial fun _ _ _ _ => .rt () trivial) fun _ _=>d)) fun q hq=>
      .rt (⟨y.now,q.1,q.2,y.runs.set z.1 (cC z.2.1 task.toNat)⟩,dU y id task try_) ⟨aC5 h hz.ix hz.at_ hq,bM9 hz.Y h hz.ix hz.at_ (by rw[hk.2.2.1];omega) hq,trivial⟩)
   (fun h => .rt (y,dU y id task try_) ⟨bM8 h,gy,trivial⟩)) aD
theorem pl_robI {y out:Yard} {h:Nat} {o:Int} (hP:PI y out h) (hh:h<4) (ho:0≤o∧o≤3∧o≠(h:Int)):∃ q:List Entry×List Entry,(aY out o).shelf[o.toNat]? = some q.1∧(aY out o).shelf[h]? = some q.2∧((aY out o).shelf.set h (dS q.2 (q.1.take (cP q.1))))[o.toNat]? = some q.1∧q.1.length≤80∧q.2.length≤80 ∧
  (⟨(aY out o).now,(aY out o).seq,((aY out o).shelf.set h (dS q.2 (q.1.take (cP q.1)))).set o.toNat (q.1.drop (cP q.1)),(aY out o).runs⟩:Yard)=aW3 (aY out o) h o.toNat:=by
 have hs:=hP.sw (o:=o) aA
 have hne:h≠o.toNat:=by omega
 exact ⟨((aY out o).shelf.getD o.toNat [],(aY out o).shelf.getD h []),getD_some aA,getD_some aA,by rw[getElem?_set_ne hne];exact getD_some aA,hs.2 _ aA,hs.2 _ hh,rfl⟩
theorem Poll_i (y:Yard) (w d:Int) (hw:y.wt≤1048576) (hd:I64 d):Ct1 prog 206 [.S y,.I w,.I d] [.S (gI y w d).1,.S (gI y w d).2]:=
 .one (gI y w d) (rk:=fun q=>[.S q.1,.S q.2])<|vc func206 (fun (hg:gin [Par.S y,Par.I w,Par.I d])=>let gy:=hg.1.1
  .c func118 (kO y hw) (hg:=⟨gy,trivial⟩) fun _ => .v (aM y)
   (fun h => .c func119 (fO y hw) (hg:=⟨gy,trivial⟩) fun _ => .rt (y,⟨8,0,0,0⟩) ⟨pl_8 h,gy,aP0 8 aA,trivial⟩)
   (fun hy=>let hY:=jN hy
    .c func92 (bW w 0 99) fun _ => .v (inB w 0 99)
    (fun h => .c func119 (fO y hw) (hg:=⟨gy,trivial⟩) fun _ => .rt (y,⟨5,0,0,0⟩) ⟨pl_5 hy h,gy,aP0 5 aA,trivial⟩)
    (fun hin=>let hwk:=inB_iff.1 hin
     .q w 4 (h:=by omega) <| .c func305 (bV0 y (w % 4) hw) (hg:=⟨gy,trivial⟩) fun _ => .c func306 (Victims_i (w % 4) d aA hd) fun _=>
     let fin:∀ (m:Nat) (out:Yard),out=eU (w % 4).toNat (aY y (w % 4)) (bQ (w % 4) d)→PI y out (w % 4).toNat→out.ok→D prog (fun q:Yard×Reply=>q=gI y w d∧rgd [Rk.S q.1,Rk.S q.2]):=fun m out ho hP go=>
      let hl:=aA4 hP (show (w % 4).toNat<4 by omega)
      let h80:=hP.each (w % 4).toNat aA
      .ye hl (w % 4) (he:=nO w) fun _ => .c func309 (TakeEntry_i (out.shelf.getD (w % 4).toNat []) aA) fun gt => .v (bV (out.shelf.getD (w % 4).toNat [])).2.2
       (fun hn => .rt (out,⟨9,0,0,0⟩) ⟨by rw[← pl_0 hy hin ho];exact (aI2 (bX9 hn)).symm,go,aP0 9 aA,trivial⟩)
       (fun hn=>let hcs:=bN2 hn
        .ex (pl_at hY hP (show (bV (out.shelf.getD (w % 4).toNat [])).1∈(out.shelf.getD (w % 4).toNat []) by rw[hcs];exact mem_cons_self)) fun q hq=>
        let hnow:0≤out.now∧out.now≤999999980:=(by rw[hP.now];exact hY.now)
        let hrl:(bV (out.shelf.getD (w % 4).toNat [])).2.1.length≤80:=(by have h_:=h80;rw[hcs] at h_;simp only[length_cons] at h_;omega)
        let htr:=hq.is.tries hq.ht
        let h1:I64 (q.2.2.try_+1):=(by unfold I64;omega)
        let h2:I64 (out.now+q.2.1.plan.wait):=(by unfold I64;omega)
        .d 5 hl fun _ => .ie (w % 4).toNat (w % 4) (he:=nO w) <| .w1 <| .f 5 out.shelf (bV (out.shelf.getD (w % 4).toNat [])).2.1 (h:=trivial) <|
        .c func232 (kP ⟨out.now,out.seq,out.shelf.set (w % 4).toNat (bV (out.shelf.getD (w % 4).toNat [])).2.1,out.runs⟩ (bV (out.shelf.getD (w % 4).toNat [])).1.run (Nat.le_trans (hP.wtS hY hrl) aA)) (hg:=⟨go,trivial⟩) fun _=>
        .ye hq.hr (aG ⟨out.now,out.seq,out.shelf.set (w % 4).toNat (bV (out.shelf.getD (w % 4).toNat [])).2.1,out.runs⟩ (bV (out.shelf.getD (w % 4).toNat [])).1.run) (he:=cV hq.ix) fun _ => .d 6 hq.hr fun gr => .lq 17 6 <| .d (m+11) hq.ht fun gu => .ie (bV (out.shelf.getD (w % 4).toNat [])).1.task.toNat (bV (out.shelf.getD (w % 4).toNat [])).1.task (he:=by have:=hq.h0;omega) <|
        .p q.2.2.try_ 1 (h:=h1) <| .p out.now q.2.1.plan.wait (h:=h2) <| .wt 999 <| .f (m+11) q.2.1.tasks ⟨3,q.2.2.need,q.2.2.try_+1,out.now+q.2.1.plan.wait⟩ (h:=st_ok gu h1 h2) <| .f 6 out.runs (jO q.2.1 (bV (out.shelf.getD (w % 4).toNat [])).1.task.toNat q.2.2 out.now) (h:=gr) <|
        .rt (⟨out.now,out.seq,out.shelf.set (w % 4).toNat (bV (out.shelf.getD (w % 4).toNat [])).2.1,out.runs.set q.1 (jO q.2.1 (bV (out.shelf.getD (w % 4).toNat [])).1.task.toNat q.2.2 out.now)⟩,⟨0,(bV (out.shelf.getD (w % 4).toNat [])).1.run,(bV (out.shelf.getD (w % 4).toNat [])).1.task,q.2.2.try_+1⟩)
         ⟨by rw[← pl_0 hy hin ho];exact (aR3 hcs hq.ix hq.hr hq.ht).symm,go,bJ5 (by unfold I64;omega) gt.1.1.2.2.1 gt.1.1.2.2.2 h1,trivial⟩)
     .la (Γ:=Nat×Yard) (fun g=>g.1≤3∧g.2=eU (w % 4).toNat (aY y (w % 4)) ((bQ (w % 4) d).take g.1)) (fun g=>3 - g.1) (fun g=>[vI 42 g.1]) (fun g=>ryS g.2 7 5 6) (0,aY y (w % 4)) (h:=⟨Nat.zero_le _,(yR _ _ _).symm⟩) fun g hJ tk=>
      let hP:PI y g.2 (w % 4).toNat:=(by rw[hJ.2];exact bQ0 hY w d g.1)
      let hl:=aA4 hP (show (w % 4).toNat<4 by omega)
      let go:g.2.ok:=hP.ok hY
      .s ((g.1:Int)<(bQ (w % 4) d).length)
       (fun hlt => .ex (p:=fun o=>(bQ (w % 4) d)[g.1]? = some o) ⟨_,getElem?_eq_getElem (show g.1<(bQ (w % 4) d).length by omega)⟩ fun o hk=>
        let hor:=nX (home:=w % 4) (draw:=d) aA o (mem_of_getElem? hk)
        .ex (pl_robI hP (show (w % 4).toNat<4 by omega) (show 0≤o∧o≤3∧o≠(((w % 4).toNat:Nat):Int) by omega)) fun q hq=>
        .y hk fun _ => .ye hl (w % 4) (he:=nO w) fun _ => .s ((0:Int)<((g.2.shelf.getD (w % 4).toNat []).length:Int))
        (fun hem=>fin 12 g.2 (by rw[hJ.2];exact (aE4 (by rw[← hJ.2];exact bQ7 aA)).symm) hP go)
        (fun hem => .c func305 (bV0 g.2 o (Nat.le_trans (hP.wt hY) aA)) (hg:=⟨go,trivial⟩) fun gs=>
         .ye hq.1 o (he:=by omega) fun _ => .c func307 (HalfOf_i q.1 (by have:=hq.2.2.2.1;omega)) fun _=>
         .d 12 hq.2.1 fun _ => .ie (w % 4).toNat (w % 4) (he:=nO w) <| .c func308 (Merged_i q.2 (q.1.take (cP q.1)) (by have:=hq.2.2.2.2.1;omega) (by have:=hq.2.2.2.1;rw[length_take];omega)) fun _ => .ie (w % 4).toNat (w % 4) (he:=nO w) <| .wt 75 <| .f 12 (aY g.2 o).shelf (dS q.2 (q.1.take (cP q.1))) (h:=trivial) <|
         .d 12 hq.2.2.1 fun _ => .ie o.toNat o (he:=by omega) <| .w1 <| .f 12 ((aY g.2 o).shelf.set (w % 4).toNat (dS q.2 (q.1.take (cP q.1)))) (q.1.drop (cP q.1)) (h:=trivial) <|
         .p g.1 1 (h:=by unfold I64;omega) <| .n tk (g.1+1,⟨(aY g.2 o).now,(aY g.2 o).seq,((aY g.2 o).shelf.set (w % 4).toNat (dS q.2 (q.1.take (cP q.1)))).set o.toNat (q.1.drop (cP q.1)),(aY g.2 o).runs⟩) [(5,12),(6,13)]
          (h1:=⟨by show g.1+1≤3;have:(bQ (w % 4) d).length=3:=rfl;omega,by rw[aO7 hk (by rw[← hJ.2];exact nil0 aA),← hJ.2];exact hq.2.2.2.2.2⟩) (h2:=by show 3 - (g.1+1)<_;have:(bQ (w % 4) d).length=3:=rfl;omega)))
       (fun hlt=>fin 9 g.2 (by rw[hJ.2];exact aE5 (by have:(bQ (w % 4) d).length=3:=rfl;omega)) hP go)))) aD
theorem Do_i (y:Yard) (d:Deed) (hw:y.wt≤1048576):Ct1 prog 106 [.S y,.S d] [.S (doD y d).1,.S (doD y d).2]:=
 .one (doD y d) (rk:=fun q=>[.S q.1,.S q.2])<|vc func106 (fun (hg:gin [Par.S y,Par.S d])=>let gy:=hg.1.1
  let gd:d.ok:=hg.2.1.1
  .c func151 (bI5 d) (hg:=⟨gd,trivial⟩) fun _ => .v (aZ d)
   (fun h => .c func119 (fO y hw) (hg:=⟨gy,trivial⟩) fun _ => .rt (y,eC 5) ⟨do_0 h,gy,fK aA,trivial⟩)
   (fun h=>let hk:=bT8 h
    .s (d.kind=1)
    (fun h1 => .c func205 (Submit_i y d.run d.plan hw (dd_wt h)) (hg:=⟨gy,gd.2.2.1,trivial⟩) fun hz => .rt ((bI y d.run d.plan).1,eC (bI y d.run d.plan).2) ⟨do_1 h h1,hz.1.1,fK (tJ y d.run d.plan),trivial⟩)
    (fun h1 => .s (d.kind=2)
    (fun h2 => .c func206 (Poll_i y d.worker d.draw hw gd.2.2.2.2.2.2) (hg:=⟨gy,trivial⟩) fun hz => .rt (gI y d.worker d.draw) ⟨do_2 h h2,hz.1.1,hz.2.1.1,trivial⟩)
    (fun h2 => .s (d.kind=3)
    (fun h3 => .c func207 (Complete_i y d.run d.task d.try_ hw) (hg:=⟨gy,trivial⟩) fun hz => .rt (fE y d.run d.task d.try_,eC (dU y d.run d.task d.try_)) ⟨do_3 h h3,hz.1.1,aZ8 _ _ _ _,trivial⟩)
    (fun h3 => .s (d.kind=4)
    (fun h4 => .c func208 (Fail_i y d.run d.task d.try_ hw) (hg:=⟨gy,trivial⟩) fun hz => .rt (oL y d.run d.task d.try_,eC (dU y d.run d.task d.try_)) ⟨do_4 h h4,hz.1.1,aZ8 _ _ _ _,trivial⟩)
    (fun h4 => .s (d.kind=5)
    (fun h5 => .c func209 (Tick_i y hw) (hg:=⟨gy,trivial⟩) fun hz => .rt ((eF y).1,eC (eF y).2) ⟨do_5 h h5,hz.1.1,fK (aC7 y),trivial⟩)
    (fun h5 => .s (d.kind=6)
    (fun h6 => .c func210 (Cancel_i y d.run hw) (hg:=⟨gy,trivial⟩) fun hz => .rt ((bS y d.run).1,eC (bS y d.run).2) ⟨do_6 h h6,hz.1.1,fK (tQ y d.run),trivial⟩)
    (fun h6 => .s (d.kind=7)
    (fun h7 => .c func211 (Forget_i y d.run gd.2.1 hw) (hg:=⟨gy,trivial⟩) fun hz => .rt ((bF y d.run).1,eC (bF y d.run).2) ⟨do_7 h h7,hz.1.1,fK (tN y d.run),trivial⟩)
    (fun h7 => .c func32 (Restart_i y hw) (hg:=⟨gy,trivial⟩) fun hz => .c func118 (kO y hw) (hg:=⟨gy,trivial⟩) fun _ => .v (aM y)
     (fun h9 => .rt (dP y,eC 8) ⟨do_8 h aA 8 (by rw[h9];rfl),hz.1.1,fK aA,trivial⟩)
     (fun h9 => .rt (dP y,eC 0) ⟨do_8 h aA 0 (by rw[h9];rfl),hz.1.1,fK aA,trivial⟩)))))))))) aD
section
variable {P:Program} {n:Nat} {f:Nat→Value} {W w0:World} {rs:List Res} {Q:Exit→Act→World→Prop} {K:Value→World→Prop}
 {d:Option Tmp} {ty:TypeId} {pos:String} {af:Array Go.Edge} {g:Option (Nat×Bool)} {α:Type} [Shape α]
theorem Elems.reps {W:World} {zs:List Value} {z:α} (h:Shape.C W zs z []):∀ m,Elems W ((List.range (m*zs.length)).map (fun j=>zs.toArray[j % zs.toArray.size]!)) (List.replicate m z) []
 | 0=>by rw[Nat.zero_mul];exact ⟨rfl,rfl⟩
 | m+1=>by
  have ih:=Elems.reps h m
  have e:(List.range ((m+1)*zs.length)).map (fun j=>zs.toArray[j % zs.toArray.size]!)=(List.range (m*zs.length)).map (fun j=>zs.toArray[j % zs.toArray.size]!)++zs:=by
   rw[Nat.succ_mul,range_add,map_append,map_map]
   congr 1
   apply ext_getElem
   ·simp
   intro j h1 h2
   simp only[getElem_map,getElem_range,Function.comp,size_toArray]
   rw[Nat.mul_comm,Nat.mul_add_mod,Nat.mod_eq_of_lt h2]
   simp[h2]
  rw[e,replicate_succ']
  exact ih.append (Elems.single h)
end
theorem restartY_wt {y:Yard} (h:aM y=true):(dP y).wt≤100000:=by
 have hY:=jN h
 unfold dP
 rw[h,if_pos rfl]
 exact (RI.outer hY _ (Nat.le_refl _)).wt hY (by have:=hY.runs;omega)
theorem vA {y:Yard} {s:List (List Entry)} {rr:List Run} {a b:Int} (h4:s.length=4) (he:∀ j,j<4→(s.getD j []).length≤1000) (h8:rr.length≤8) (hr:∀ r∈rr,r.wt≤42):(⟨a,b,s,rr⟩:Yard).wt≤100000:=by
 have hs:=vE (fun z:List Entry=>z.length) 1000 s (fun z hz=>by
  obtain ⟨j,hj,rfl⟩:=getElem_of_mem hz
  have:=he j aA
  rw[getD_eq_getElem?_getD,getElem?_eq_getElem hj] at this
  simpa using this)
 have hq:=vE (fun z:Run=>z.wt) 42 rr hr
 rw[h4] at hs
 have:rr.length*42≤8*42:=Nat.mul_le_mul_right _ h8
 unfold Yard.wt wtL
 simp only
 omega
theorem aK2 {y:Yard} (hY:YardIs y) {k:Nat} {r r':Run} (hr:y.runs[k]? = some r) (hl:r'.tasks.length≤12) (hw:r'.wt≤42):(dN y k r r').wt≤100000:=by
 have h4:=hY.shelf
 have hsr:=iE r'.id
 have hfl:=oI r r'
 refine vA (y:=y) ?_ ?_ ?_ ?_
 ·rw[nF];exact h4
 ·intro j hj
  by_cases e:j=(aX r'.id).toNat
  ·subst e
   rw[nG _ _ _ _ _ _ aA]
   have:=lL hY (aX r'.id).toNat aA
   omega
  rw[mO _ _ _ j e]
  have:=lL hY j hj
  omega
 ·rw[length_set];exact hY.runs
 intro q hq
 rcases mem_or_eq_of_mem_set hq with h | rfl
 ·exact vQ hY q h
 exact hw
theorem doneR_wt {r:Run} (h:RunIs r) (i:Nat):(jE r i).tasks.length≤12∧(jE r i).wt≤42:=by
 obtain ⟨h1,h2,h3,h4⟩:=oM r i
 have hs:=h.small
 have hw:=h.wt
 unfold Run.wt at hw ⊢
 rw[h2,h3]
 omega
theorem completeY_wt {y:Yard} (id task try_:Int) {B:Nat} (hB:100000≤B) (hw:y.wt≤B):(fE y id task try_).wt≤B:=by
 unfold fE
 by_cases h:dU y id task try_=0
 ·obtain ⟨hY,k,r,t,hk,hr,hR,h0,ht,h3⟩:=aL2 h
  rw[pF h hk hr]
  obtain ⟨h1,h2⟩:=doneR_wt hR task.toNat
  have:=aK2 hY hr h1 h2
  omega
 rw[pE h];exact hw
theorem startT_wt {r:Run} (i:Nat) (t:Task) (now:Int):(jO r i t now).wt=r.wt:=by unfold jO Run.wt;simp
theorem given_wt {y out:Yard} {home:Nat} (hY:YardIs y) (h:PI y out home):(rS out home).1.wt≤100000:=by
 have hb:=h.wt hY
 unfold rS
 split
 ·exact hb
 next e rest he=>
 split
 ·exact hb
 next k hk=>
 split
 ·exact hb
 next r hr=>
 split
 ·exact hb
 next t ht=>
 have hrest:rest.length≤80:=by
  by_cases hh:home<4
  ·have:=h.each home hh;rw[he] at this;simp only[length_cons] at this;omega
  rw[getD_eq_getElem?_getD,getElem?_eq_none (by have:=h.len;omega)] at he;cases he
 refine aU9 (y:=y) (by rw[length_set];exact h.len) (nR h.each hrest h.len) (by rw[length_set,h.runs];exact hY.runs) ?_
 intro q hq
 rcases mem_or_eq_of_mem_set hq with h1 | rfl
 ·rw[h.runs] at h1;exact vQ hY q h1
 rw[startT_wt]
 rw[h.runs] at hr
 exact vQ hY r (mem_of_getElem? hr)
theorem polled_wt {y:Yard} (worker draw:Int) {B:Nat} (hB:100000≤B) (hw:y.wt≤B):(gI y worker draw).1.wt≤B:=by
 unfold gI
 split
 ·exact hw
 next h1=>
 split
 ·exact hw
 next h2=>
 have hY:=jN (y:=y) (by simpa using h1)
 have hi:=inB_iff'.1 (show inB worker 0 99=true by simpa using h2)
 have hh:(((worker % 4).toNat:Nat):Int)=worker % 4:=by omega
 have hPI:=PI.all hY (home:=(worker % 4).toNat) aA (l:=bQ (worker % 4) draw) (by rw[hh];exact nX aA) (PI.start hY aA)
 rw[hh] at hPI
 have:=given_wt hY hPI
 omega
theorem failsR_wt {r:Run} (h:RunIs r) {i:Nat} {t:Task} (ht:r.tasks[i]? = some t) (h3:t.state=3):(cC r i).tasks.length≤12∧(cC r i).wt≤42:=by
 have hR:=h.fails ht h3
 exact ⟨hR.small.2.1,hR.wt⟩
theorem failY_wt {y:Yard} (id task try_:Int) {B:Nat} (hB:100000≤B) (hw:y.wt≤B):(oL y id task try_).wt≤B:=by
 by_cases hA0:dU y id task try_=0
 ·obtain ⟨hY,k,r,t,hix,hr,hRI,h0,hti,h3⟩:=aL2 hA0
  have hd:=failsR_wt hRI hti h3
  have e:oL y id task try_=dN y k r (cC r task.toNat):=pF hA0 hix hr
  rw[e]
  exact Nat.le_trans (aK2 hY hr hd.1 hd.2) hB
 have e:oL y id task try_=y:=pE hA0
 rw[e];exact hw
theorem submitted_wt {y:Yard} (id:Int) (p:Plan) {B:Nat} (hB:100000≤B) (hw:y.wt≤B):(bI y id p).1.wt≤B:=by
 unfold bI
 split
 ·exact hw
 next h1=>
 split
 ·exact hw
 split
 ·exact hw
 split
 ·exact hw
 next h4=>
 split
 ·exact hw
 next h5=>
 have hY:=jN (by simpa using h1)
 have hpf:aK p=0:=by simpa using h4
 have hpr:=bD4 hpf
 have hroom:jA y p=true:=by simpa using h5
 have hr8:y.runs.length<8:=by unfold jA at hroom;simp at hroom;omega
 refine Nat.le_trans (vA (y:=y) ?_ ?_ ?_ ?_) hB
 ·rw[nF];exact hY.shelf
 ·intro j hj
  by_cases e:j=(aX id).toNat
  ·subst e
   rw[nG _ _ _ _ _ _ (by have:=hY.shelf;omega)]
   have h7:(aR (bU id p).tasks 2).length≤(bU id p).tasks.length:=iC _ _ _
   have h8:(bU id p).tasks.length=p.tasks.toNat:=kB p _
   have h9:=lL hY (aX id).toNat hj
   omega
  rw[mO _ _ _ j e]
  have:=lL hY j hj
  omega
 ·rw[length_append,length_singleton];omega
 intro r hr
 rcases mem_append.1 hr with hr | hr
 ·obtain ⟨j,hj⟩:=mem_iff_getElem?.1 hr
  exact (hY.run j r hj).1.wt
 rw[mem_singleton] at hr;subst hr
 have h8:(bU id p).tasks.length=p.tasks.toNat:=kB p _
 show (bU id p).plan.wt+(bU id p).tasks.length≤42
 have:(bU id p).plan.wt=p.edges.length:=rfl
 omega
theorem ticked_wt {y:Yard} {B:Nat} (hB:100000≤B) (hw:y.wt≤B):(eF y).1.wt≤B:=by
 unfold eF
 split
 ·exact hw
 next h1=>
 split
 ·exact hw
 have hY:=jN (by simpa using h1)
 have hn:=hY.now
 have hr:=hY.runs
 have hl:=sQ hY y.runs.length
 have hY1:YardIs (oP (y.now+1) y):=hY.at aA
 have h2:=RI.list hY1 (l:=cK y) aA7 (cK y).length
 rw[take_length] at h2
 exact Nat.le_trans (h2.wt hY1 (by show (kU y y.runs.length).length≤1000;omega)) hB
theorem goneR_wt (r:Run):(kV r).wt=r.wt:=by
 unfold kV
 split
 ·show r.plan.wt+(gQ r.tasks (-1)).length=_
  rw[aH6];rfl
 rfl
theorem cancelled_wt {y:Yard} (id:Int) {B:Nat} (hB:100000≤B) (hw:y.wt≤B):(bS y id).1.wt≤B:=by
 unfold bS
 split
 ·exact hw
 next h1=>
 split
 ·next r hr=>
  split
  ·exact hw
  split
  ·exact hw
  have hY:=jN (by simpa using h1)
  refine Nat.le_trans (vA (y:=y) hY.shelf (fun j hj=>by have:=lL hY j hj;omega) (by rw[length_set];exact hY.runs) ?_) hB
  intro q hq
  rcases mem_or_eq_of_mem_set hq with hq | hq
  ·obtain ⟨j,hj⟩:=mem_iff_getElem?.1 hq
   exact (hY.run j q hj).1.wt
  subst hq
  rw[goneR_wt]
  exact (hY.run _ r hr).1.wt
 exact hw
theorem forgotten_wt {y:Yard} (id:Int) {B:Nat} (hB:100000≤B) (hw:y.wt≤B):(bF y id).1.wt≤B:=by
 unfold bF
 split
 ·exact hw
 next h1=>
 split
 ·next r hr=>
  split
  ·exact hw
  split
  ·exact hw
  have hY:=jN (by simpa using h1)
  refine Nat.le_trans (vA (y:=y) (by rw[length_map];exact hY.shelf) (fun j hj => ?_) ?_ ?_) hB
  ·have h2:=lL hY j hj
   have h4:=hY.shelf
   rw[getD_eq_getElem?_getD,getElem?_map]
   rw[getD_eq_getElem?_getD] at h2
   cases hq:y.shelf[j]? with
   | none=>simp
   | some l=>
    rw[hq] at h2
    have:=aY9 id l
    simp at h2 ⊢;omega
  ·have:=length_eraseIdx_le y.runs (aG y id).toNat
   have:=hY.runs
   omega
  intro q hq
  obtain ⟨j,hj⟩:=mem_iff_getElem?.1 (mem_of_mem_eraseIdx hq)
  exact (hY.run j q hj).1.wt
 exact hw
theorem cE9 {y:Yard} (d:Deed) {B:Nat} (hB:100000≤B) (hw:y.wt≤B):(doD y d).1.wt≤B:=by
 unfold doD
 split
 ·exact hw
 split
 ·exact submitted_wt _ _ hB hw
 split
 ·exact polled_wt _ _ hB hw
 split
 ·exact completeY_wt _ _ _ hB hw
 split
 ·exact failY_wt _ _ _ hB hw
 split
 ·exact ticked_wt hB hw
 split
 ·exact cancelled_wt _ hB hw
 split
 ·exact forgotten_wt _ hB hw
 show (dP y).wt≤B
 cases h:aM y with
 | true=>exact Nat.le_trans (restartY_wt h) hB
 | false=>
  have:dP y=y:=by unfold dP;rw[h];rfl
  rw[this];exact hw
noncomputable def doSt (a:Yard×List Reply) (d:Deed):Yard×List Reply:=((doD a.1 d).1,a.2++[(doD a.1 d).2])
noncomputable def doL (y:Yard) (ds:List Deed):Yard×List Reply:=ds.foldl doSt (y,[])
theorem doL_to {y:Yard} {ds:List Deed} {k:Nat} {d:Deed} (h:ds[k]? = some d):doL y (ds.take (k+1))=doSt (doL y (ds.take k)) d:=by
 unfold doL;rw[← dJ h,foldl_append];rfl
theorem doF_wt (ds:List Deed):∀ a:Yard×List Reply,a.1.wt≤1048576→(ds.foldl doSt a).1.wt≤1048576:=by
 induction ds with
 | nil=>exact fun a h=>h
 | cons d ds ih=>exact fun a h=>ih _ (cE9 d aA h)
theorem doL_wt {y:Yard} (ds:List Deed) (h:y.wt≤1048576):(doL y ds).1.wt≤1048576:=doF_wt ds (y,[]) h
theorem doF_len (ds:List Deed):∀ a:Yard×List Reply,(ds.foldl doSt a).2.length=a.2.length+ds.length:=by
 induction ds with
 | nil=>exact fun a=>rfl
 | cons d ds ih=>intro a;rw[foldl_cons,ih];simp only[doSt,length_append,length_cons,length_nil];omega
theorem doL_len (y:Yard) (ds:List Deed):(doL y ds).2.length=ds.length:=by unfold doL;rw[doF_len];simp
structure DaJ (y:Yard) (ds:List Deed) (g:Nat×Yard×List Reply):Prop where
 le:g.1≤ds.length
 eq:g.2=doL y (ds.take g.1)
 ok:g.2.1.ok
theorem DaJ.wt {y:Yard} {ds:List Deed} {g:Nat×Yard×List Reply} (h:DaJ y ds g) (hw:y.wt≤1048576):g.2.1.wt≤1048576:=by rw[h.eq];exact doL_wt _ hw
theorem DaJ.len {y:Yard} {ds:List Deed} {g:Nat×Yard×List Reply} (h:DaJ y ds g):g.2.2.length≤ds.length:=by rw[h.eq,doL_len,length_take];omega
theorem DaJ.next {y:Yard} {ds:List Deed} {g:Nat×Yard×List Reply} {d:Deed} (h:DaJ y ds g) (hd:ds[g.1]? = some d) (ho:(doD g.2.1 d).1.ok):DaJ y ds (g.1+1,(doD g.2.1 d).1,g.2.2++[(doD g.2.1 d).2]):=
 ⟨(gsi_.1 hd).1,by show _=doL y (ds.take (g.1+1));rw[doL_to hd,← h.eq];rfl,ho⟩
def gD:ByteArray:=⟨#[109,97,114,107]⟩
def moR (y0:Yard) (rm:ByteArray→Yard×Int×Bool) (d:Disk):Yard×Int×Bool:=if fAt d.files gD<0 then (y0,0,true) else rm (eB d.files gD)
theorem MarkOfS (y0:Yard) (rm:ByteArray→Yard×Int×Bool) (d:Disk) (hl:d.files.length≤1048576) (hN:Ct1 prog 125 [] [.S y0]) (hR:Ct1 prog 126 [.T (eB d.files gD)] [.S (rm (eB d.files gD)).1,.I (rm (eB d.files gD)).2.1,.B (rm (eB d.files gD)).2.2]):Ct1 prog 34 [.S d] [.S (moR y0 rm d).1,.I (moR y0 rm d).2.1,.B (moR y0 rm d).2.2]:=
 .one (moR y0 rm d) (rk:=fun a=>[.S a.1,.I a.2.1,.B a.2.2])<|vc func34 (fun (hg:gin [Par.S d]) => .c func108 (bA5 d gD hl) (hg:=⟨hg.1.1,trivial⟩) fun _ => .s (fAt d.files gD<0)
  (fun h => .c func125 hN (hg:=trivial) fun gd => .rt (y0,0,true) ⟨by unfold moR;rw[if_pos h],gd.1.1,trivial⟩)
  (fun h => .c func110 (aU4 d gD hl) (hg:=⟨hg.1.1,trivial⟩) fun _ => .c func126 hR (hg:=trivial) fun gd => .rt (rm (eB d.files gD)) ⟨by unfold moR;rw[if_neg h],gd.1.1,trivial⟩)) aD
theorem MarkOfI (y0:Yard) (rm:ByteArray→Yard×Int×Bool) (d:Disk) (hA:Ct1 prog 94 [.S d,.T gD] [.I (fAt d.files gD)]) (hF:Ct1 prog 86 [.S d,.T gD] [.T (eB d.files gD)]) (hN:Ct1 prog 102 [] [.S y0]) (hR:Ct1 prog 103 [.T (eB d.files gD)] [.S (rm (eB d.files gD)).1,.I (rm (eB d.files gD)).2.1,.B (rm (eB d.files gD)).2.2]):Ct1 prog 25 [.S d] [.S (moR y0 rm d).1,.I (moR y0 rm d).2.1,.B (moR y0 rm d).2.2]:=
 .one (moR y0 rm d) (rk:=fun a=>[.S a.1,.I a.2.1,.B a.2.2])<|vc func25 (fun (hg:gin [Par.S d]) => .c func94 hA (hg:=⟨hg.1.1,trivial⟩) fun _ => .s (fAt d.files gD<0)
  (fun h => .c func102 hN (hg:=trivial) fun gd => .rt (y0,0,true) ⟨by unfold moR;rw[if_pos h],gd.1.1,trivial⟩)
  (fun h => .c func86 hF (hg:=⟨hg.1.1,trivial⟩) fun _ => .c func103 hR (hg:=trivial) fun gd => .rt (rm (eB d.files gD)) ⟨by unfold moR;rw[if_neg h],gd.1.1,trivial⟩)) aD
theorem bP2 {s:ByteArray} (h:¬ (s.size≤60000∧(iB s).1.bad=false∧(iB s).1.at_=s.size∧aM (iB s).2=true)):(yard0,false)=eH s:=by unfold eH;rw[if_neg h]
section
variable {A:Type} {R:A→Prop}
noncomputable def cmSh (x:LIn) (h:x.in_) (k:D prog R):D prog R := .cm 350 func350 (show Cm prog 350 [] (inferInstance:Dsh LIn) x (fun _:Unit=>True) (fun _=>(dA linR x).1) (fun _=>[.L (dA linR x).2]) by rw[← shelfL_eq];exact ShelfL x h) trivial fun _ _ _ _=>k
noncomputable def cmRn (x:LIn) (h:x.in_) (k:D prog R):D prog R := .cm 351 func351 (RunL x h) trivial fun _ _ _ _=>k
end
noncomputable def rsEnd (s:ByteArray) (hs:s.size≤60000) (w:LIn×List Run) (y:Yard) (hok:y.ok) (e:(w.1,y)=iB s):D prog (fun a:Yard×Bool=>a=eH s∧rgd [Rk.S a.1,Rk.B a.2]):=
 let e1:(iB s).1=w.1:=by rw[← e]
 let e2:(iB s).2=y:=by rw[← e]
 .sb w.1.bad (fun hb => .rt (yard0,false) ⟨bP2 (fun h=>by rw[e1,hb] at h;exact absurd h.2.1 (by simp)),cU,trivial⟩)
  (fun hb => .u ((w.1.at_:Int)=s.size)
   (fun hn => .rt (yard0,false) ⟨bP2 (fun h=>hn (by rw[← e1,h.2.2.1])),cU,trivial⟩)
   (fun he => .c func185 (YardOkSD y (by have:=bB1 (s:=s) aA (by rw[e1];exact hb);rw[e2] at this;omega)) (hg:=⟨hok,trivial⟩) fun _ => .v (aM y)
    (fun h2 => .rt (yard0,false) ⟨bP2 (fun h=>by rw[e2,h2] at h;exact absurd h.2.2.2 (by simp)),cU,trivial⟩)
    (fun h2 => .rt (y,true) ⟨by unfold eH;rw[if_pos ⟨hs,by rw[e1];exact hb,by rw[e1];omega,by rw[e2];exact h2⟩,e2],hok,trivial⟩)))
noncomputable def bZ8 (s:ByteArray) (hs:s.size≤60000) (now seq m:Int) (ss:List (List Entry)) (hok:I64 now∧I64 seq) (hm:m≤1000000000) (x4:LIn) (hi:x4.in_) (e:∀ w,w=bE LIn.bad (gX linR) x4 m.toNat→(w.1,(⟨now,seq,ss,w.2⟩:Yard))=iB s):D prog (fun a:Yard×Bool=>a=eH s∧rgd [Rk.S a.1,Rk.B a.2]):=
 .r0 (inferInstance:Shape Run) 55 <| .lx (Γ:=Nat×LIn×List Run) (fun g=>MJ LIn.bad (gX linR) LIn.in_ x4 m g) (fun g=>m.toNat - g.1) [0,2,4,5,7] [0,2] [] (fun g=>[vI 8 g.1]) (fun g=>[oR 4 55 g.2.2,oB 3 [.v (I now),.v (I seq),.r 2,.r 4],oB 1 (lbx g.2.1)]) (0,x4,[]) (MJ.start hi) []
  (fun g hJ t => .s ((g.1:Int)<m)
   (fun h => .sb (!g.2.1.bad)
    (fun hb=>cmRn g.2.1 hJ.inn <| .a g.2.2 (gX linR g.2.1).2 96 (hy:=bZ7 linB _ hJ.inn) (h63:=by have:=hJ.len;have:=hJ.le;unfold maxLen;omega) (hby:=by have:=hJ.len;have:=hJ.le;omega) <| .p g.1 1 (h:=by unfold I64;omega) <|
     .n t (g.1+1,(gX linR g.2.1).1,g.2.2++[(gX linR g.2.1).2]) [] (hJ.next (aW1 linB) h (bnT hb)) (by dsimp only;omega))
    (fun hb => .xt (fun w:LIn×List Run=>w=bE LIn.bad (gX linR) x4 m.toNat) (g.2.1,g.2.2) (hJ.stop (bnF hb)) []))
   (fun h => .xt (fun w:LIn×List Run=>w=bE LIn.bad (gX linR) x4 m.toNat) (g.2.1,g.2.2) (hJ.all h) []))
  (fun w:LIn×List Run=>w=bE LIn.bad (gX linR) x4 m.toNat) 2 [0,2,4,5] [0,2] [] (fun _=>[]) (fun w=>[oR 4 55 w.2,oB 3 [.v (I now),.v (I seq),.r 2,.r 4],oB 1 (lbx w.1)])
  fun w hw=>rsEnd s hs w ⟨now,seq,ss,w.2⟩ hok (e w hw)
theorem ReadYardS (s:ByteArray) (hs:s.size≤1048576):Ct1 prog 242 [.T s] [.S (eH s).1,.B (eH s).2]:=
 .one (eH s) (rk:=fun a=>[.S a.1,.B a.2])<|vc func242 (fun hg => .s ((60000:Int)<s.size)
  (fun h => .rt (yard0,false) ⟨bP2 (fun h2=>by omega),cU,trivial⟩)
  (fun h0=>
   let x0:LIn:=⟨s,0,false⟩
   let x1:=(aI x0).1
   let x2:=(aI x1).1
   let i0:x0.in_:=⟨hs,Nat.zero_le _⟩
   let i1:=bG i0
   let i2:=bG i1
   cmL x0 i0<|cmL x1 i1 <| .r0 (inferInstance:Shape (List Entry)) 217 <|
   .lx (Γ:=Nat×LIn×List (List Entry)) (fun g=>MJ LIn.bad (dA linR) LIn.in_ x2 4 g) (fun g=>(4:Int).toNat - g.1) [0,2,4,5] [0] [] (fun g=>[vI 6 g.1]) (fun g=>[oR 2 217 g.2.2,oB 3 [.v (I (aI x0).2),.v (I (aI x1).2),.r 2,.v (.slice none 0 0)],oB 1 (lbx g.2.1)]) (0,x2,[]) (MJ.start i2) []
    (fun g hJ t => .s ((g.1:Int)<4)
     (fun h => .sb (!g.2.1.bad)
      (fun hb=>cmSh g.2.1 hJ.inn <| .a g.2.2 (dA linR g.2.1).2 24 (hy:=trivial) (h63:=by have:=hJ.len;have:=hJ.le;unfold maxLen;omega) (hby:=by have:=hJ.len;have:=hJ.le;omega) <| .p g.1 1 (h:=by unfold I64;omega) <|
       .n t (g.1+1,(dA linR g.2.1).1,g.2.2++[(dA linR g.2.1).2]) [] (hJ.next (kD linB) h (bnT hb)) (by dsimp only;omega))
      (fun hb => .xt (fun z:LIn×List (List Entry)=>z=bE LIn.bad (dA linR) x2 4) (g.2.1,g.2.2) (hJ.stop (bnF hb)) []))
     (fun h => .xt (fun z:LIn×List (List Entry)=>z=bE LIn.bad (dA linR) x2 4) (g.2.1,g.2.2) (hJ.all h) []))
    (fun z:LIn×List (List Entry)=>z=bE LIn.bad (dA linR) x2 4) 0 [0,2,4,5] [0] [] (fun _=>[]) (fun z=>[oR 2 217 z.2,oB 3 [.v (I (aI x0).2),.v (I (aI x1).2),.r 2,.v (.slice none 0 0)],oB 1 (lbx z.1)])
    fun z hz=>
     let i3:z.1.in_:=by rw[hz];exact (mR (kD linB) i2 4).1
     cmL z.1 i3 <| .s ((8:Int)<(aI z.1).2)
      (fun h8=>bZ8 s aA (aI x0).2 (aI x1).2 (aI z.1).2 z.2 ⟨bT _,bT _⟩ (pI _) ⟨(aI z.1).1.s,(aI z.1).1.at_,true⟩ (bG i3) (fun w hw=>by
       show _=(fun z:LIn×List (List Entry)=>(fun w:LIn×List Run=>(w.1,(⟨(aI x0).2,(aI x1).2,z.2,w.2⟩:Yard))) (bE LIn.bad (gX linR) (aM5 8 (aI z.1).2 (aI z.1).1) (aI z.1).2.toNat)) (bE LIn.bad (dA linR) x2 4)
       rw[← hz]
       show _=(fun w:LIn×List Run=>(w.1,(⟨(aI x0).2,(aI x1).2,z.2,w.2⟩:Yard))) (bE LIn.bad (gX linR) (aM5 8 (aI z.1).2 (aI z.1).1) (aI z.1).2.toNat)
       rw[bK2 h8,← hw]))
      (fun h8=>bZ8 s aA (aI x0).2 (aI x1).2 (aI z.1).2 z.2 ⟨bT _,bT _⟩ (pI _) (aI z.1).1 (bG i3) (fun w hw=>by
       show _=(fun z:LIn×List (List Entry)=>(fun w:LIn×List Run=>(w.1,(⟨(aI x0).2,(aI x1).2,z.2,w.2⟩:Yard))) (bE LIn.bad (gX linR) (aM5 8 (aI z.1).2 (aI z.1).1) (aI z.1).2.toNat)) (bE LIn.bad (dA linR) x2 4)
       rw[← hz]
       show _=(fun w:LIn×List Run=>(w.1,(⟨(aI x0).2,(aI x1).2,z.2,w.2⟩:Yard))) (bE LIn.bad (gX linR) (aM5 8 (aI z.1).2 (aI z.1).1) (aI z.1).2.toNat)
       rw[bK3 h8,← hw])))) aD
noncomputable def moC (d:Disk):Yard×Int×Bool:=moR yardNew (rmS eH) d
theorem file_wt_le {d:Disk} {f:File} (h:f∈d.files):f.wt≤d.wt:=by
 have:=zV (g:=fun q:File=>q.wt) h
 unfold Disk.wt wtL
 omega
theorem wL (d:Disk):d.files.length≤d.wt:=by unfold Disk.wt wtL;omega
theorem vV (d:Disk) (nm:ByteArray):(eB d.files nm).size≤d.wt:=by
 unfold eB
 split
 ·exact Nat.zero_le _
 cases h:d.files[(fAt d.files nm).toNat]? with
 | none=>exact Nat.zero_le _
 | some f=>
  have:=file_wt_le (mem_of_getElem? h)
  show f.data.size≤_
  unfold File.wt at this
  omega
theorem readYS_wt {s:ByteArray} (h:(eH s).2=true):(eH s).1.wt≤s.size:=by
 unfold eH at h ⊢
 split at h
 ·next hc=>rw[if_pos hc];exact bB1 aA hc.2.1
 cases h
theorem MarkOfID (d:Disk) (hw:d.wt≤1048576):Ct1 prog 25 [.S d] [.S (moC d).1,.I (moC d).2.1,.B (moC d).2.2]:=by
 have hs:(eB d.files gD).size≤1048576:=Nat.le_trans (vV d gD) hw
 have hl:d.files.length≤1048576:=Nat.le_trans (wL d) hw
 have hR:=ReadMarkI dV iS (eB d.files gD) hs (fun t ht=>ReadYardI t ht) (fun t ht h=>Nat.le_trans (readYI_wt h) ht) (fun y hy=>aT9 y hy) (fun y hy=>yardT_size hy)
 rw[rm_eq] at hR
 exact MarkOfI yardNew (rmS eH) d (bA6 d gD) (aU5 d gD hl) YardNewD hR
theorem MarkOfSD (d:Disk) (hw:d.wt≤1048576):Ct1 prog 34 [.S d] [.S (moC d).1,.I (moC d).2.1,.B (moC d).2.2]:=by
 have hs:(eB d.files gD).size≤1048576:=Nat.le_trans (vV d gD) hw
 have hl:d.files.length≤1048576:=Nat.le_trans (wL d) hw
 exact MarkOfS yardNew (rmS eH) d hl YardNewSD (ReadMarkS eH (eB d.files gD) hs (fun t ht=>ReadYardS t ht))
noncomputable def moY (d:Disk):Yard:=(moC d).1
noncomputable def moN (d:Disk):Int:=(moC d).2.1
noncomputable def moB (d:Disk):Bool:=(moC d).2.2
theorem own_3 {w W:World} {n:Int} {b:Bool} {x:Yard} {vs:List Value} {rs:List Res} {e:Ending} (he:e = .returned (vP vs)) (hr:Rks vs [Rk.S x,Rk.I n,Rk.B b] rs) (st:St w W rs):∃ (cs':List Value) (fp':List Nat),e = .returned (.tuple #[.agg cs'.toArray,I n,.bool b])∧St w W [Res.own (.agg cs'.toArray) x fp']:=by
 match vs,hr with
 | [v1,v2,v3],hr=>
  obtain ⟨r1,r2,h1,h2,h6⟩:=hr
  obtain ⟨cs,fp,hv1,hr1⟩:=h1
  obtain ⟨r3,r4,h3,h4,h5⟩:=h2
  obtain ⟨hv2,hr3⟩:=h3
  obtain ⟨r5,r6,h7,h8,h9⟩:=h4
  obtain ⟨hv3,hr5⟩:=h7
  have h8:r6=[]:=h8
  subst h8 hr5 h9 hr3 h5 hr1 h6 hv1 hv2 hv3
  refine ⟨cs,fp,he,?_⟩
  have st2:St w W (Res.cs cs x fp::[]):=st
  exact st2.trade1 rfl fun h=>⟨⟨cs,rfl,h.1⟩,h.2⟩
noncomputable def repSt (y:Yard) (n:Note):Yard:=(doD y n.deed).1
noncomputable def uA (y:Yard) (ns:List Note):Yard:=ns.foldl repSt y
theorem repY_to {y:Yard} {ns:List Note} {k:Nat} {n:Note} (h:ns[k]? = some n):uA y (ns.take (k+1))=(doD (uA y (ns.take k)) n.deed).1:=by
 unfold uA;rw[← dJ h,foldl_append];rfl
theorem aW6:∀ (ns:List Note) {y:Yard},y.wt≤1048576→(uA y ns).wt≤1048576
 | [],y,h=>h
 | n::ns,y,h=>aW6 ns (y:=repSt y n) (cE9 n.deed aA h)
structure RpJ (y:Yard) (ns:List Note) (g:Nat×Yard):Prop where
 le:g.1≤ns.length
 eq:g.2=uA y (ns.take g.1)
 ok:g.2.ok
theorem RpJ.wt {y:Yard} {ns:List Note} {g:Nat×Yard} (h:RpJ y ns g) (hw:y.wt≤1048576):g.2.wt≤1048576:=by rw[h.eq];exact aW6 _ hw
theorem RpJ.all {y:Yard} {ns:List Note} {g:Nat×Yard} (h:RpJ y ns g) (hk:¬ (g.1:Int)<ns.length):g.2=uA y ns:=by rw[h.eq,take_of_length_le aA]
theorem RpJ.next {y:Yard} {ns:List Note} {g:Nat×Yard} {n:Note} (h:RpJ y ns g) (hn:ns[g.1]? = some n) (ho:(doD g.2 n.deed).1.ok):RpJ y ns (g.1+1,(doD g.2 n.deed).1):=
 ⟨(gsi_.1 hn).1,by show _=uA y (ns.take (g.1+1));rw[repY_to hn,← h.eq],ho⟩
theorem Replay_i (y:Yard) (ns:List Note) (hw:y.wt≤1048576) (hl:ns.length≤1048576):Ct1 prog 88 [.S y,.L ns] [.S (uA y ns)]:=
 .one (uA y ns) (rk:=fun q=>[.S q])<|vc func88 (fun (hg:gin [Par.S y,Par.L ns])=>let gy:=hg.1.1
  .c func119 (fO y hw) (hg:=⟨gy,trivial⟩) fun _=>
   .l (Γ:=Nat×Yard) (RpJ y ns) (fun g=>ns.length - g.1) [4,5,10,11] [4] [2] (fun g=>[vI 12 g.1]) (fun g=>ryS g.2 7 5 6) (0,y) (h:=⟨Nat.zero_le _,rfl,gy⟩) fun g hJ tk=>let hwg:=hJ.wt hw
    .s ((g.1:Int)<ns.length)
     (fun h => .x ns g.1 (h:=by omega) fun n hn gn=>let gn:n.ok:=gn
      .c func106 (Do_i g.2 n.deed hwg) (hg:=⟨hJ.ok,gn.2,trivial⟩) fun hz => .p g.1 1 (h:=by unfold I64;omega) <|
      .n tk (g.1+1,(doD g.2 n.deed).1) [(5,11),(6,12)] (h1:=hJ.next hn hz.1.1) (h2:=by show ns.length - (g.1+1)<_;omega))
     (fun h => .rt g.2 ⟨hJ.all h,hJ.ok,trivial⟩)) aD
theorem Replay_s (y:Yard) (ns:List Note) (hw:y.wt≤1048576) (hl:ns.length≤1048576):Ct1 prog 163 [.S y,.L ns] [.S (uA y ns)]:=
 .one (uA y ns) (rk:=fun q=>[.S q])<|vc func163 (fun (hg:gin [Par.S y,Par.L ns])=>let gy:=hg.1.1
  .c func184 (fN y hw) (hg:=⟨gy,trivial⟩) fun _=>
   .l (Γ:=Nat×Yard) (RpJ y ns) (fun g=>ns.length - g.1) [1,4,5] [4] [2] (fun g=>[vI 6 g.1]) (fun g=>ryS g.2 7 5 6) (0,y) (h:=⟨Nat.zero_le _,rfl,gy⟩) fun g hJ tk=>let hwg:=hJ.wt hw
    .s ((g.1:Int)<ns.length)
     (fun h => .x ns g.1 (h:=by omega) fun n hn gn=>let gn:n.ok:=gn
      .c func115 (Do_s g.2 n.deed hwg) (hg:=⟨hJ.ok,gn.2,trivial⟩) fun hz => .p g.1 1 (h:=by unfold I64;omega) <|
      .n tk (g.1+1,(doD g.2 n.deed).1) [(5,10),(6,11)] (h1:=hJ.next hn hz.1.1) (h2:=by show ns.length - (g.1+1)<_;omega))
     (fun h => .rt g.2 ⟨hJ.all h,hJ.ok,trivial⟩)) aD
noncomputable def iG (d:Disk):List Note:=iV ([],moN d) (hQ (eB d.files tD)).1
def qC (q:Int) (ns:List Note):Int:=match ns.getLast? with | some n=>n.seq | none=>q
noncomputable def qY (d:Disk):Yard×Int×Bool:=if moB d=true∧fB d=true then (uA (moY d) (iG d),qC (moN d) (iG d),true) else (yard0,0,false)
theorem aW7 {d:Disk} (h:¬ (moB d=true∧fB d=true)):(yard0,0,false)=qY d:=by unfold qY;rw[if_neg h]
theorem bP7 {d:Disk} {q:Int} (h1:moB d=true) (h2:fB d=true) (hq:q=qC (moN d) (iG d)):(uA (moY d) (iG d),q,true)=qY d:=by unfold qY;rw[if_pos ⟨h1,h2⟩,hq]
theorem aQ3 {q:Int} {ns:List Note} {n:Note} (h:ns[ns.length - 1]? = some n):n.seq=qC q ns:=by
 unfold qC
 rw[getLast?_eq_getElem?,h]
theorem aQ5 {q:Int} {ns:List Note} (h:¬ (0:Int)<ns.length):q=qC q ns:=by
 have:ns=[]:=eq_nil_of_length_eq_zero aA
 subst this;rfl
theorem bK0 (d:Disk):(moY d).wt≤60100:=by
 unfold moY moC moR
 split
 ·exact (by decide:yardNew.wt≤60100)
 unfold rmS
 split
 ·next hc=>
  have h1:=readYS_wt hc.2.2.2.2.2
  have h2:=hc.2.2.2.1
  rw[ByteArray.size_extract] at h1
  simp only;omega
 exact (by decide:yard0.wt≤60100)
theorem cC5 (d:Disk):I64 (moN d):=by
 unfold moN moC moR
 split
 ·exact z64
 unfold rmS
 split
 ·exact bH0 _ _
 exact z64
theorem aA3 (d:Disk):(iG d).length≤60000∧∀ n∈iG d,n.ok∧1≤n.seq∧n.seq≤1000000000:=by
 have h1:=aG0 (eB d.files tD)
 have h2:=aD4 (hQ (eB d.files tD)).1 ([],moN d)
 refine ⟨by have:=h2.2;simp only[length_nil] at this;unfold iG;omega,fun n hn => ?_⟩
 rcases h2.1 n hn with h | h
 ·cases h
 exact h1.1 n h
theorem aP2 (s:ByteArray):∀ n∈(hQ s).1,n.deed.plan.edges.length≤1048576:=by
 have key:∀ (bs:List ByteArray) (a:List Note×Int),(∀ n∈a.1,n.deed.plan.edges.length≤31)→∀ n∈(kH a bs).1,n.deed.plan.edges.length≤31:=by
  intro bs
  induction bs with
  | nil=>exact fun a h=>h
  | cons b bs ih=>
   intro a h
   rw[oF]
   split
   ·next hn=>
    refine ih _ fun n hm => ?_
    rcases mem_append.1 hm with hm | hm
    ·exact h n hm
    rw[mem_singleton] at hm;rw[hm];exact (uC hn.1).2.2.1
   exact h
 intro n hn
 have:=key (gU s).1 ([],0) (fun n h=>by cases h) n hn
 omega
theorem Recovered_i (d:Disk) (hw:d.wt≤1048576):Ct1 prog 20 [.S d] [.S (qY d).1,.I (qY d).2.1,.B (qY d).2.2]:=
 .one (qY d) (rk:=fun q=>[.S q.1,.I q.2.1,.B q.2.2])<|vc func20 (fun (hg:gin [Par.S d])=>let hl:d.files.length≤1048576:=Nat.le_trans (wL d) hw
  let hs:(eB d.files tD).size≤1048576:=Nat.le_trans (vV d tD) hw
  .c func25 (show Ct1 prog 25 [.S d] [.S (moY d),.I (moN d),.B (moB d)] from MarkOfID d hw) (hg:=⟨hg.1.1,trivial⟩) fun gm=>let gy:(moY d).ok:=gm.1.1
  .v (moB d)
   (fun h => .rt (yard0,0,false) ⟨aW7 (fun hc=>by rw[h] at hc;cases hc.1),cU,trivial⟩)
   (fun h1 => .c func84 (DiskOkI d) (hg:=⟨hg.1.1,trivial⟩) fun _ => .v (fB d)
    (fun h => .rt (yard0,0,false) ⟨aW7 (fun hc=>by rw[h] at hc;cases hc.2),cU,trivial⟩)
    (fun h2 => .c func86 (aU5 d tD hl) (hg:=⟨hg.1.1,trivial⟩) fun _ => .c func85 (NotesIn_i (eB d.files tD) hs) fun _=>
     .c func87 (Since_i (hQ (eB d.files tD)).1 (moN d) (cC5 d) (by have:=(aG0 (eB d.files tD)).2.1;omega) (aP2 _)) fun _=>
     let fin:∀ q:Int,q=qC (moN d) (iG d)→D prog (fun a:Yard×Int×Bool=>a=qY d∧rgd [Rk.S a.1,Rk.I a.2.1,Rk.B a.2.2]):=fun q hq => .c func88 (Replay_i (moY d) (iG d) (by have:=bK0 d;omega) (by have:=(aA3 d).1;omega)) (hg:=⟨gy,trivial⟩) fun gr => .rt (uA (moY d) (iG d),q,true) ⟨bP7 h1 h2 hq,gr.1.1,trivial⟩
     .s ((0:Int)<(iG d).length)
      (fun h3 => .m (iG d).length 1 (h:=by unfold I64;have:=(aA3 d).1;omega) <| .xe (iG d) ((iG d).length - 1) (((iG d).length:Int) - 1) (h:=by omega) (he:=by omega) fun n hn gn=>fin n.seq (aQ3 hn))
      (fun h3=>fin (moN d) (aQ5 h3))))) aD
theorem Recovered_s (d:Disk) (hw:d.wt≤1048576):Ct1 prog 59 [.S d] [.S (qY d).1,.I (qY d).2.1,.B (qY d).2.2]:=
 .one (qY d) (rk:=fun q=>[.S q.1,.I q.2.1,.B q.2.2])<|vc func59 (fun (hg:gin [Par.S d])=>let hl:d.files.length≤1048576:=Nat.le_trans (wL d) hw
  let hs:(eB d.files tD).size≤1048576:=Nat.le_trans (vV d tD) hw
  .c func34 (show Ct1 prog 34 [.S d] [.S (moY d),.I (moN d),.B (moB d)] from MarkOfSD d hw) (hg:=⟨hg.1.1,trivial⟩) fun gm=>let gy:(moY d).ok:=gm.1.1
  .c func116 (DiskOkSD d) (hg:=⟨hg.1.1,trivial⟩) fun _ => .v (fB d)
   (fun h => .rt (yard0,0,false) ⟨aW7 (fun hc=>by rw[h] at hc;cases hc.2),cU,trivial⟩)
   (fun h2 => .v (moB d)
    (fun h => .rt (yard0,0,false) ⟨aW7 (fun hc=>by rw[h] at hc;cases hc.1),cU,trivial⟩)
    (fun h1 => .c func110 (aU4 d tD hl) (hg:=⟨hg.1.1,trivial⟩) fun _ => .c func109 (NotesIn_s (eB d.files tD) hs) fun _=>
     .c func162 (Since_s (hQ (eB d.files tD)).1 (moN d) (cC5 d) (by have:=(aG0 (eB d.files tD)).2.1;omega) (aP2 _)) fun _=>
     let fin:∀ q:Int,q=qC (moN d) (iG d)→D prog (fun a:Yard×Int×Bool=>a=qY d∧rgd [Rk.S a.1,Rk.I a.2.1,Rk.B a.2.2]):=fun q hq => .c func163 (Replay_s (moY d) (iG d) (by have:=bK0 d;omega) (by have:=(aA3 d).1;omega)) (hg:=⟨gy,trivial⟩) fun gr => .rt (uA (moY d) (iG d),q,true) ⟨bP7 h1 h2 hq,gr.1.1,trivial⟩
     .s ((0:Int)<(iG d).length)
      (fun h3 => .m (iG d).length 1 (h:=by unfold I64;have:=(aA3 d).1;omega) <| .xe (iG d) ((iG d).length - 1) (((iG d).length:Int) - 1) (h:=by omega) (he:=by omega) fun n hn gn=>fin n.seq (aQ3 hn))
      (fun h3=>fin (moN d) (aQ5 h3))))) aD
noncomputable def nI (d:Disk):Yard:=(qY d).1
noncomputable def zJ (d:Disk):Int:=(qY d).2.1
noncomputable def tB (d:Disk):Bool:=(qY d).2.2
theorem rec_wt (d:Disk):(nI d).wt≤1048576:=by
 unfold nI qY
 split
 ·exact aW6 _ (by have:=bK0 d;omega)
 exact (by decide:yard0.wt≤1048576)
theorem zI {d:Disk} (hc:Shape.C w cs d fp) (hw:d.wt≤1048576):Calls prog 20 #[.agg cs.toArray] w fun e W=>∃ (cs':List Value) (fp':List Nat),e = .returned (.tuple #[.agg cs'.toArray,I (zJ d),.bool (tB d)])∧St w W [Res.own (.agg cs'.toArray) (nI d) fp']:=
 ((Recovered_i d hw).run w [.agg cs.toArray] trivial ⟨⟨cs,fp,rfl,hc⟩,trivial⟩).mono fun e W ⟨_,vs,rs,_,he,hr,st⟩=>own_3 he hr st
theorem RecoveredSC {d:Disk} (hc:Shape.C w cs d fp) (hw:d.wt≤1048576):Calls prog 59 #[.agg cs.toArray] w fun e W=>∃ (cs':List Value) (fp':List Nat),e = .returned (.tuple #[.agg cs'.toArray,I (zJ d),.bool (tB d)])∧St w W [Res.own (.agg cs'.toArray) (nI d) fp']:=
 ((Recovered_s d hw).run w [.agg cs.toArray] trivial ⟨⟨cs,fp,rfl,hc⟩,trivial⟩).mono fun e W ⟨_,vs,rs,_,he,hr,st⟩=>own_3 he hr st
theorem markEdgeS_n {w W0:World} {rs:List Res} {v:Value} {xs:List Edge} {fp:List Nat} (hst:St w W0 (Res.own v xs fp::rs)) (k:Int) (h0:0≤k) (hk:k+(cL aN xs:Nat)≤4611686018427387904) :
  Calls prog 175 #[v,I k] W0 fun e w'=>∃ fp',e = .returned (I (k+(cL aN xs:Nat)))∧St w w' (Res.own v (mkL jC aN xs k) fp'::rs):=by
 have hcap:=(bP (hst.get 0 rfl)).len_le
 refine iY func175 rfl ntmps175 cH (wp_seq (aB (sg (aV (aC (wp_seq (wp_seq (aB (sg (aV (aC (wp_block (dX (fun (m:Nat) (f:Nat→Value) (W:World)=>∃ (i:Nat) (K:Int) (fo5:List Nat),i≤xs.length∧K=k+(cL aN (xs.take i):Nat)∧m=xs.length - i∧Ag [(0,v),(1,I K),(5,I (i:Int))] f∧St w W (Res.own (α:=List Edge) v (mkL jC aN (xs.take i) k++xs.drop i) fo5::rs)) (xs.length - 0) ?_ ?_)))))))))))))
 ·exact ⟨0,k,fp,Nat.zero_le _,(by simp[cL]),rfl,(Ag.nil.put.put.put.put.to aD),(by simpa [mkL] using hst)⟩
 intro m6 f7 W8 hJ9
 obtain ⟨i,K,fo5,hi,hK,rfl,hA11,st10⟩:=hJ9
 have hlx:(mkL jC aN (xs.take i) k++xs.drop i).length=xs.length:=by rw[length_append,eK,length_take,length_drop];omega
 refine wp_seq (wp_seq (aB (rn st10 4 hA11 [] [(9,.bool (decide ((i:Int)<((mkL jC aN (xs.take i) k++xs.drop i).length:Int))))] [ql (bP (st10.get 0 rfl)),.o] aD fun f13 h13_=>(aC (cS (h13_.at 9) (fun h14p => ?_) (fun h14p => ?_))))))
 ·refine wp_skip (wp_seq (wp_block (wp_seq (aB (rn st10 3 h13_ [] [(12,v),(13,I (i:Int)),(14,I K)] [] aD fun f16 h16_ => ?_)))))
  have hq_:=gN (xs:=xs) (i:=i) aA
  obtain ⟨y,hy⟩:=hq_
  have hcs:=iO aN hy
  have hcl:=fL aN xs (i+1)
  have hne:aN y=2:=rfl
  have hb17:Bd K (1+(1+(0))):=⟨by omega,by omega⟩
  have hq_:=St.lendx (α:=Edge) cH st10 (x:=y) (sP hy)
  obtain ⟨b18,e18,pre18,cs18,post18,fi18,fr18,hPA18,hC18,st19⟩:=hq_
  obtain ⟨he18,hf18,hok18⟩:=hC18;have he18:_=[I y.from_,I y.to_]:=he18;subst he18
  refine sg (fC bC1 (h16_.at 12) hPA18 (h16_.at 13) rfl (sg (cR aS4 rfl (sgn (aW (i:=0) (v:=I K) aD rfl (h16_.at 14) rfl rfl st19.d1 rfl kJ rfl ?_)))));intro W26 st27
  refine aC (wp_seq (aB ?_))
  have hb29:=hb17.up
  refine rn st27 3 h16_.put.put [1] [(1,I (K+1))] [.ad K 1 hb29.i64] aD fun f30 h30_=>(aC (wp_seq (aB (rn st27 5 h30_ [] [(21,I (K+1)),(23,.pointer (some ⟨b18,pre18.length+1,none⟩))] [qx hPA18] aD fun f32 h32_=>(sgn (aW (i:=1) (v:=I (K+1)) aD (h32_.at 23) (h32_.at 21) rfl rfl st27 rfl kJ rfl ?_))))));intro W33 st34
  refine aC (aB ?_)
  have hb36:=hb29.up
  refine rn st34 3 h32_ [1] [(1,I ((K+1)+1))] [.ad (K+1) 1 hb36.i64] aD fun f37 h37_=>(aC (aB (rn st34 3 h37_ [5] [(5,I ((i:Int)+1))] [qad (i:Int) 1] aD fun f39 h39_=>(aC ?_))))
  have st40:=st34.cs0 (cs:=[I K,I (K+1)]) (x:=(⟨K,K+1⟩:Edge)) ⟨rfl,rfl,okq_⟩
  obtain ⟨fp45,st46⟩:=St.give (α:=Edge) st40.f2.f1.f2
  exact ⟨_,xs.length - (i+1),aA,rfl,i+1,(K+1)+1,fp45,aA,aA,rfl,(h39_.to aD),(by rw[← pJ hy hK];exact st46)⟩
 refine wp_exit (wp_seq (aB (sg (aF (h13_.at 1) (sg (aH (v:=I K) rfl (aC (wr (kZ results175 rfl ?_)))))))))
 obtain rfl:i=xs.length:=by omega
 have hca:=nT aN xs _ rfl
 rw[xO rfl] at st10
 exact ⟨_,fI aA,st10⟩
theorem heldEdgeS_n {v:Value} {x:List Edge} {fp:List Nat} {k:Int} (h:Sl w v (mkL jC aN x k) fp) (h0:0≤k) (hk:k+(cL aN x:Nat)≤4611686018427387904) :
  Calls prog 251 #[v,I k] w (rI_ (k+(cL aN x:Nat)) w):=by
 have hcap:=h.len_le
 rw[eK] at hcap
 have hml:(mkL jC aN x k).length=x.length:=eK _ _
 refine iY func251 rfl ntmps251 cH (wp_seq (aB (sg (aV (aC (wp_seq (wp_seq (aB (sg (aV (aC (wp_block (dX (fun (m:Nat) (f:Nat→Value) (W:World)=>∃ (i:Nat) (K:Int),i≤x.length∧K=k+(cL aN (x.take i):Nat)∧m=x.length - i∧Ag [(0,v),(1,I K),(5,I (i:Int))] f∧St w W ([])) (x.length - 0) ?_ ?_)))))))))))))
 ·exact ⟨0,k,Nat.zero_le _,(by simp[cL]),rfl,(Ag.nil.put.put.put.put.to aD),(St.start w)⟩
 intro m5 f6 W7 hJ8
 obtain ⟨i,K,hi,hK,rfl,hA10,st9⟩:=hJ8
 refine wp_seq (wp_seq (aB (rn st9 4 hA10 [] [(9,.bool (decide ((i:Int)<((mkL jC aN x k).length:Int))))] [ql h,.o] aD fun f12 h12_=>(aC (cS (h12_.at 9) (fun h13p => ?_) (fun h13p => ?_))))))
 ·refine wp_skip (wp_seq (wp_block (wp_seq (wp_seq (aB (sg (aF (h12_.at 0) (sg (aF (h12_.at 5) ?_)))))))))
  have hq_:=gN (xs:=x) (i:=i) aA
  obtain ⟨y,hy⟩:=hq_
  have hcs:=iO aN hy
  have hcl:=fL aN x (i+1)
  have hne:aN y=2:=rfl
  have hb17:Bd K (1+(1+(0))):=⟨by omega,by omega⟩
  obtain ⟨b16,o16,cs16,f16,hp16,hr16,hc16,hm16⟩:=bF7 h hy hK
  have hk18:=hc16
  obtain ⟨he18,rfl,hok18⟩:=hk18
  have he18:_=[I K,I (K+1)]:=he18;subst he18
  refine rn st9 5 h12_.put.put [] [(18,.bool (!decide (K=K)))] [qx hp16,qr hr16 0,.o] aD fun f20 h20_=>(aC (gM (h20_.at 18) (fun h21p => ?_) (fun h21p => ?_)))
  ·exact absurd rfl h21p
  refine wp_skip (wp_seq (aB ?_))
  have hb23:=hb17.up
  refine rn st9 3 h20_ [1] [(1,I (K+1))] [.ad K 1 hb23.i64] aD fun f24 h24_=>(aC (wp_seq (wp_seq (aB (sg (aF (h24_.at 0) (sg (aF (h24_.at 5) (rn st9 5 h24_.put.put [] [(27,.bool (!decide ((K+1)=(K+1))))] [qx hp16,qr hr16 1,.o] aD fun f29 h29_=>(aC (gM (h29_.at 27) (fun h30p => ?_) (fun h30p => ?_))))))))))))
  ·exact absurd rfl h30p
  refine wp_skip (aB ?_)
  have hb32:=hb23.up
  refine rn st9 3 h29_ [1] [(1,I ((K+1)+1))] [.ad (K+1) 1 hb32.i64] aD fun f33 h33_=>(aC (aB (rn st9 3 h33_ [5] [(5,I ((i:Int)+1))] [qad (i:Int) 1] aD fun f35 h35_=>(aC ?_))))
  exact ⟨_,x.length - (i+1),aA,rfl,i+1,(K+1)+1,aA,aA,rfl,(h35_.to aD),st9⟩
 refine wp_exit (wp_seq (aB (sg (aF (h12_.at 1) (sg (aH (v:=I K) rfl (aC (wr (kZ results251 rfl ?_)))))))))
 obtain rfl:i=x.length:=by omega
 have hca:=nT aN x _ rfl
 exact ⟨fI aA,st9.bare⟩
theorem markEntryS_n {w W0:World} {rs:List Res} {v:Value} {xs:List Entry} {fp:List Nat} (hst:St w W0 (Res.own v xs fp::rs)) (k:Int) (h0:0≤k) (hk:k+(cL aE xs:Nat)≤4611686018427387904) :
  Calls prog 248 #[v,I k] W0 fun e w'=>∃ fp',e = .returned (I (k+(cL aE xs:Nat)))∧St w w' (Res.own v (mkL dH aE xs k) fp'::rs):=by
 have hcap:=(bP (hst.get 0 rfl)).len_le
 refine iY func248 rfl ntmps248 cH (wp_seq (aB (sg (aV (aC (wp_seq (wp_seq (aB (sg (aV (aC (wp_block (dX (fun (m:Nat) (f:Nat→Value) (W:World)=>∃ (i:Nat) (K:Int) (fo5:List Nat),i≤xs.length∧K=k+(cL aE (xs.take i):Nat)∧m=xs.length - i∧Ag [(0,v),(1,I K),(5,I (i:Int))] f∧St w W (Res.own (α:=List Entry) v (mkL dH aE (xs.take i) k++xs.drop i) fo5::rs)) (xs.length - 0) ?_ ?_)))))))))))))
 ·exact ⟨0,k,fp,Nat.zero_le _,(by simp[cL]),rfl,(Ag.nil.put.put.put.put.to aD),(by simpa [mkL] using hst)⟩
 intro m6 f7 W8 hJ9
 obtain ⟨i,K,fo5,hi,hK,rfl,hA11,st10⟩:=hJ9
 have hlx:(mkL dH aE (xs.take i) k++xs.drop i).length=xs.length:=by rw[length_append,eK,length_take,length_drop];omega
 refine wp_seq (wp_seq (aB (rn st10 4 hA11 [] [(9,.bool (decide ((i:Int)<((mkL dH aE (xs.take i) k++xs.drop i).length:Int))))] [ql (bP (st10.get 0 rfl)),.o] aD fun f13 h13_=>(aC (cS (h13_.at 9) (fun h14p => ?_) (fun h14p => ?_))))))
 ·refine wp_skip (wp_seq (wp_block (wp_seq (aB (rn st10 3 h13_ [] [(12,v),(13,I (i:Int)),(14,I K)] [] aD fun f16 h16_ => ?_)))))
  have hq_:=gN (xs:=xs) (i:=i) aA
  obtain ⟨y,hy⟩:=hq_
  have hcs:=iO aE hy
  have hcl:=fL aE xs (i+1)
  have hne:aE y=4:=rfl
  have hb17:Bd K (1+(1+(1+(1+(0))))):=⟨by omega,by omega⟩
  have hq_:=St.lendx (α:=Entry) cH st10 (x:=y) (sP hy)
  obtain ⟨b18,e18,pre18,cs18,post18,fi18,fr18,hPA18,hC18,st19⟩:=hq_
  obtain ⟨he18,hf18,hok18⟩:=hC18;have he18:_=[I y.prio,I y.seq,I y.run,I y.task]:=he18;subst he18
  refine sg (fC sl_EntryS (h16_.at 12) hPA18 (h16_.at 13) rfl (sg (cR fa_Entry_0 rfl (sgn (aW (i:=0) (v:=I K) aD rfl (h16_.at 14) rfl rfl st19.d1 rfl kJ rfl ?_)))));intro W26 st27
  refine aC (wp_seq (aB ?_))
  have hb29:=hb17.up
  refine rn st27 3 h16_.put.put [1] [(1,I (K+1))] [.ad K 1 hb29.i64] aD fun f30 h30_=>(aC (wp_seq (aB (rn st27 5 h30_ [] [(21,I (K+1)),(23,.pointer (some ⟨b18,pre18.length+1,none⟩))] [qx hPA18] aD fun f32 h32_=>(sgn (aW (i:=1) (v:=I (K+1)) aD (h32_.at 23) (h32_.at 21) rfl rfl st27 rfl kJ rfl ?_))))));intro W33 st34
  refine aC (wp_seq (aB ?_))
  have hb36:=hb29.up
  refine rn st34 3 h32_ [1] [(1,I ((K+1)+1))] [.ad (K+1) 1 hb36.i64] aD fun f37 h37_=>(aC (wp_seq (aB (rn st34 5 h37_ [] [(28,I ((K+1)+1)),(30,.pointer (some ⟨b18,pre18.length+2,none⟩))] [qx hPA18] aD fun f39 h39_=>(sgn (aW (i:=2) (v:=I ((K+1)+1)) aD (h39_.at 30) (h39_.at 28) rfl rfl st34 rfl kJ rfl ?_))))));intro W40 st41
  refine aC (wp_seq (aB ?_))
  have hb43:=hb36.up
  refine rn st41 3 h39_ [1] [(1,I (((K+1)+1)+1))] [.ad ((K+1)+1) 1 hb43.i64] aD fun f44 h44_=>(aC (wp_seq (aB (lw h44_ [(0,v),(1,I (((K+1)+1)+1)),(5,I (i:Int))] aD fun h47_=>(rn st41 5 h47_ [] [(35,I (((K+1)+1)+1)),(37,.pointer (some ⟨b18,pre18.length+3,none⟩))] [qx hPA18] aD fun f46 h46_=>(sgn (aW (i:=3) (v:=I (((K+1)+1)+1)) aD (h46_.at 37) (h46_.at 35) rfl rfl st41 rfl kJ rfl ?_)))))));intro W48 st49
  refine aC (aB ?_)
  have hb51:=hb43.up
  refine rn st49 3 h46_ [1] [(1,I ((((K+1)+1)+1)+1))] [.ad (((K+1)+1)+1) 1 hb51.i64] aD fun f52 h52_=>(aC (aB (rn st49 3 h52_ [5] [(5,I ((i:Int)+1))] [qad (i:Int) 1] aD fun f54 h54_=>(aC ?_))))
  have st55:=st49.cs0 (cs:=[I K,I (K+1),I ((K+1)+1),I (((K+1)+1)+1)]) (x:=(⟨K,K+1,(K+1)+1,((K+1)+1)+1⟩:Entry)) ⟨rfl,rfl,okq_⟩
  obtain ⟨fp60,st61⟩:=St.give (α:=Entry) st55.f2.f1.f2
  exact ⟨_,xs.length - (i+1),aA,rfl,i+1,(((K+1)+1)+1)+1,fp60,aA,aA,rfl,(h54_.to aD),(by rw[← pJ hy hK];exact st61)⟩
 refine wp_exit (wp_seq (aB (sg (aF (h13_.at 1) (sg (aH (v:=I K) rfl (aC (wr (kZ results248 rfl ?_)))))))))
 obtain rfl:i=xs.length:=by omega
 have hca:=nT aE xs _ rfl
 rw[xO rfl] at st10
 exact ⟨_,fI aA,st10⟩
theorem heldEntryS_n {v:Value} {x:List Entry} {fp:List Nat} {k:Int} (h:Sl w v (mkL dH aE x k) fp) (h0:0≤k) (hk:k+(cL aE x:Nat)≤4611686018427387904) :
  Calls prog 250 #[v,I k] w (rI_ (k+(cL aE x:Nat)) w):=by
 have hcap:=h.len_le
 rw[eK] at hcap
 have hml:(mkL dH aE x k).length=x.length:=eK _ _
 refine iY func250 rfl ntmps250 cH (wp_seq (aB (sg (aV (aC (wp_seq (wp_seq (aB (sg (aV (aC (wp_block (dX (fun (m:Nat) (f:Nat→Value) (W:World)=>∃ (i:Nat) (K:Int),i≤x.length∧K=k+(cL aE (x.take i):Nat)∧m=x.length - i∧Ag [(0,v),(1,I K),(5,I (i:Int))] f∧St w W ([])) (x.length - 0) ?_ ?_)))))))))))))
 ·exact ⟨0,k,Nat.zero_le _,(by simp[cL]),rfl,(Ag.nil.put.put.put.put.to aD),(St.start w)⟩
 intro m5 f6 W7 hJ8
 obtain ⟨i,K,hi,hK,rfl,hA10,st9⟩:=hJ8
 refine wp_seq (wp_seq (aB (rn st9 4 hA10 [] [(9,.bool (decide ((i:Int)<((mkL dH aE x k).length:Int))))] [ql h,.o] aD fun f12 h12_=>(aC (cS (h12_.at 9) (fun h13p => ?_) (fun h13p => ?_))))))
 ·refine wp_skip (wp_seq (wp_block (wp_seq (wp_seq (aB (sg (aF (h12_.at 0) (sg (aF (h12_.at 5) ?_)))))))))
  have hq_:=gN (xs:=x) (i:=i) aA
  obtain ⟨y,hy⟩:=hq_
  have hcs:=iO aE hy
  have hcl:=fL aE x (i+1)
  have hne:aE y=4:=rfl
  have hb17:Bd K (1+(1+(1+(1+(0))))):=⟨by omega,by omega⟩
  obtain ⟨b16,o16,cs16,f16,hp16,hr16,hc16,hm16⟩:=bF7 h hy hK
  have hk18:=hc16
  obtain ⟨he18,rfl,hok18⟩:=hk18
  have he18:_=[I K,I (K+1),I ((K+1)+1),I (((K+1)+1)+1)]:=he18;subst he18
  refine rn st9 5 h12_.put.put [] [(18,.bool (!decide (K=K)))] [qx hp16,qr hr16 0,.o] aD fun f20 h20_=>(aC (gM (h20_.at 18) (fun h21p => ?_) (fun h21p => ?_)))
  ·exact absurd rfl h21p
  refine wp_skip (wp_seq (aB ?_))
  have hb23:=hb17.up
  refine rn st9 3 h20_ [1] [(1,I (K+1))] [.ad K 1 hb23.i64] aD fun f24 h24_=>(aC (wp_seq (wp_seq (aB (sg (aF (h24_.at 0) (sg (aF (h24_.at 5) (rn st9 5 h24_.put.put [] [(27,.bool (!decide ((K+1)=(K+1))))] [qx hp16,qr hr16 1,.o] aD fun f29 h29_=>(aC (gM (h29_.at 27) (fun h30p => ?_) (fun h30p => ?_))))))))))))
  ·exact absurd rfl h30p
  refine wp_skip (wp_seq (aB ?_))
  have hb32:=hb23.up
  refine rn st9 3 h29_ [1] [(1,I ((K+1)+1))] [.ad (K+1) 1 hb32.i64] aD fun f33 h33_=>(aC (wp_seq (wp_seq (aB (sg (aF (h33_.at 0) (sg (aF (h33_.at 5) (lw h33_.put.put [(0,v),(1,I ((K+1)+1)),(5,I (i:Int)),(30,v),(31,I (i:Int))] aD fun h39_=>(rn st9 5 h39_ [] [(36,.bool (!decide (((K+1)+1)=((K+1)+1))))] [qx hp16,qr hr16 2,.o] aD fun f38 h38_=>(aC (gM (h38_.at 36) (fun h40p => ?_) (fun h40p => ?_)))))))))))))
  ·exact absurd rfl h40p
  refine wp_skip (wp_seq (aB ?_))
  have hb42:=hb32.up
  refine rn st9 3 h38_ [1] [(1,I (((K+1)+1)+1))] [.ad ((K+1)+1) 1 hb42.i64] aD fun f43 h43_=>(aC (wp_seq (wp_seq (aB (sg (aF (h43_.at 0) (sg (aF (h43_.at 5) (rn st9 5 h43_.put.put [] [(45,.bool (!decide ((((K+1)+1)+1)=(((K+1)+1)+1))))] [qx hp16,qr hr16 3,.o] aD fun f48 h48_=>(aC (gM (h48_.at 45) (fun h49p => ?_) (fun h49p => ?_))))))))))))
  ·exact absurd rfl h49p
  refine wp_skip (aB ?_)
  have hb51:=hb42.up
  refine rn st9 3 h48_ [1] [(1,I ((((K+1)+1)+1)+1))] [.ad (((K+1)+1)+1) 1 hb51.i64] aD fun f52 h52_=>(aC (aB (rn st9 3 h52_ [5] [(5,I ((i:Int)+1))] [qad (i:Int) 1] aD fun f54 h54_=>(aC ?_))))
  exact ⟨_,x.length - (i+1),aA,rfl,i+1,(((K+1)+1)+1)+1,aA,aA,rfl,(h54_.to aD),st9⟩
 refine wp_exit (wp_seq (aB (sg (aF (h12_.at 1) (sg (aH (v:=I K) rfl (aC (wr (kZ results250 rfl ?_)))))))))
 obtain rfl:i=x.length:=by omega
 have hca:=nT aE x _ rfl
 exact ⟨fI aA,st9.bare⟩
theorem markTaskS_n {w W0:World} {rs:List Res} {v:Value} {xs:List Task} {fp:List Nat} (hst:St w W0 (Res.own v xs fp::rs)) (k:Int) (h0:0≤k) (hk:k+(cL bA xs:Nat)≤4611686018427387904) :
  Calls prog 249 #[v,I k] W0 fun e w'=>∃ fp',e = .returned (I (k+(cL bA xs:Nat)))∧St w w' (Res.own v (mkL jB bA xs k) fp'::rs):=by
 have hcap:=(bP (hst.get 0 rfl)).len_le
 refine iY func249 rfl ntmps249 cH (wp_seq (aB (sg (aV (aC (wp_seq (wp_seq (aB (sg (aV (aC (wp_block (dX (fun (m:Nat) (f:Nat→Value) (W:World)=>∃ (i:Nat) (K:Int) (fo5:List Nat),i≤xs.length∧K=k+(cL bA (xs.take i):Nat)∧m=xs.length - i∧Ag [(0,v),(1,I K),(5,I (i:Int))] f∧St w W (Res.own (α:=List Task) v (mkL jB bA (xs.take i) k++xs.drop i) fo5::rs)) (xs.length - 0) ?_ ?_)))))))))))))
 ·exact ⟨0,k,fp,Nat.zero_le _,(by simp[cL]),rfl,(Ag.nil.put.put.put.put.to aD),(by simpa [mkL] using hst)⟩
 intro m6 f7 W8 hJ9
 obtain ⟨i,K,fo5,hi,hK,rfl,hA11,st10⟩:=hJ9
 have hlx:(mkL jB bA (xs.take i) k++xs.drop i).length=xs.length:=by rw[length_append,eK,length_take,length_drop];omega
 refine wp_seq (wp_seq (aB (rn st10 4 hA11 [] [(9,.bool (decide ((i:Int)<((mkL jB bA (xs.take i) k++xs.drop i).length:Int))))] [ql (bP (st10.get 0 rfl)),.o] aD fun f13 h13_=>(aC (cS (h13_.at 9) (fun h14p => ?_) (fun h14p => ?_))))))
 ·refine wp_skip (wp_seq (wp_block (wp_seq (aB (rn st10 3 h13_ [] [(12,v),(13,I (i:Int)),(14,I K)] [] aD fun f16 h16_ => ?_)))))
  have hq_:=gN (xs:=xs) (i:=i) aA
  obtain ⟨y,hy⟩:=hq_
  have hcs:=iO bA hy
  have hcl:=fL bA xs (i+1)
  have hne:bA y=4:=rfl
  have hb17:Bd K (1+(1+(1+(1+(0))))):=⟨by omega,by omega⟩
  have hq_:=St.lendx (α:=Task) cH st10 (x:=y) (sP hy)
  obtain ⟨b18,e18,pre18,cs18,post18,fi18,fr18,hPA18,hC18,st19⟩:=hq_
  obtain ⟨he18,hf18,hok18⟩:=hC18;have he18:_=[I y.state,I y.need,I y.try_,I y.until_]:=he18;subst he18
  refine sg (fC sl_TaskS (h16_.at 12) hPA18 (h16_.at 13) rfl (sg (cR fa_Task_0 rfl (sgn (aW (i:=0) (v:=I K) aD rfl (h16_.at 14) rfl rfl st19.d1 rfl kJ rfl ?_)))));intro W26 st27
  refine aC (wp_seq (aB ?_))
  have hb29:=hb17.up
  refine rn st27 3 h16_.put.put [1] [(1,I (K+1))] [.ad K 1 hb29.i64] aD fun f30 h30_=>(aC (wp_seq (aB (rn st27 5 h30_ [] [(21,I (K+1)),(23,.pointer (some ⟨b18,pre18.length+1,none⟩))] [qx hPA18] aD fun f32 h32_=>(sgn (aW (i:=1) (v:=I (K+1)) aD (h32_.at 23) (h32_.at 21) rfl rfl st27 rfl kJ rfl ?_))))));intro W33 st34
  refine aC (wp_seq (aB ?_))
  have hb36:=hb29.up
  refine rn st34 3 h32_ [1] [(1,I ((K+1)+1))] [.ad (K+1) 1 hb36.i64] aD fun f37 h37_=>(aC (wp_seq (aB (rn st34 5 h37_ [] [(28,I ((K+1)+1)),(30,.pointer (some ⟨b18,pre18.length+2,none⟩))] [qx hPA18] aD fun f39 h39_=>(sgn (aW (i:=2) (v:=I ((K+1)+1)) aD (h39_.at 30) (h39_.at 28) rfl rfl st34 rfl kJ rfl ?_))))));intro W40 st41
  refine aC (wp_seq (aB ?_))
  have hb43:=hb36.up
  refine rn st41 3 h39_ [1] [(1,I (((K+1)+1)+1))] [.ad ((K+1)+1) 1 hb43.i64] aD fun f44 h44_=>(aC (wp_seq (aB (lw h44_ [(0,v),(1,I (((K+1)+1)+1)),(5,I (i:Int))] aD fun h47_=>(rn st41 5 h47_ [] [(35,I (((K+1)+1)+1)),(37,.pointer (some ⟨b18,pre18.length+3,none⟩))] [qx hPA18] aD fun f46 h46_=>(sgn (aW (i:=3) (v:=I (((K+1)+1)+1)) aD (h46_.at 37) (h46_.at 35) rfl rfl st41 rfl kJ rfl ?_)))))));intro W48 st49
  refine aC (aB ?_)
  have hb51:=hb43.up
  refine rn st49 3 h46_ [1] [(1,I ((((K+1)+1)+1)+1))] [.ad (((K+1)+1)+1) 1 hb51.i64] aD fun f52 h52_=>(aC (aB (rn st49 3 h52_ [5] [(5,I ((i:Int)+1))] [qad (i:Int) 1] aD fun f54 h54_=>(aC ?_))))
  have st55:=st49.cs0 (cs:=[I K,I (K+1),I ((K+1)+1),I (((K+1)+1)+1)]) (x:=(⟨K,K+1,(K+1)+1,((K+1)+1)+1⟩:Task)) ⟨rfl,rfl,okq_⟩
  obtain ⟨fp60,st61⟩:=St.give (α:=Task) st55.f2.f1.f2
  exact ⟨_,xs.length - (i+1),aA,rfl,i+1,(((K+1)+1)+1)+1,fp60,aA,aA,rfl,(h54_.to aD),(by rw[← pJ hy hK];exact st61)⟩
 refine wp_exit (wp_seq (aB (sg (aF (h13_.at 1) (sg (aH (v:=I K) rfl (aC (wr (kZ results249 rfl ?_)))))))))
 obtain rfl:i=xs.length:=by omega
 have hca:=nT bA xs _ rfl
 rw[xO rfl] at st10
 exact ⟨_,fI aA,st10⟩
theorem heldTaskS_n {v:Value} {x:List Task} {fp:List Nat} {k:Int} (h:Sl w v (mkL jB bA x k) fp) (h0:0≤k) (hk:k+(cL bA x:Nat)≤4611686018427387904) :
  Calls prog 252 #[v,I k] w (rI_ (k+(cL bA x:Nat)) w):=by
 have hcap:=h.len_le
 rw[eK] at hcap
 have hml:(mkL jB bA x k).length=x.length:=eK _ _
 refine iY func252 rfl ntmps252 cH (wp_seq (aB (sg (aV (aC (wp_seq (wp_seq (aB (sg (aV (aC (wp_block (dX (fun (m:Nat) (f:Nat→Value) (W:World)=>∃ (i:Nat) (K:Int),i≤x.length∧K=k+(cL bA (x.take i):Nat)∧m=x.length - i∧Ag [(0,v),(1,I K),(5,I (i:Int))] f∧St w W ([])) (x.length - 0) ?_ ?_)))))))))))))
 ·exact ⟨0,k,Nat.zero_le _,(by simp[cL]),rfl,(Ag.nil.put.put.put.put.to aD),(St.start w)⟩
 intro m5 f6 W7 hJ8
 obtain ⟨i,K,hi,hK,rfl,hA10,st9⟩:=hJ8
 refine wp_seq (wp_seq (aB (rn st9 4 hA10 [] [(9,.bool (decide ((i:Int)<((mkL jB bA x k).length:Int))))] [ql h,.o] aD fun f12 h12_=>(aC (cS (h12_.at 9) (fun h13p => ?_) (fun h13p => ?_))))))
 ·refine wp_skip (wp_seq (wp_block (wp_seq (wp_seq (aB (sg (aF (h12_.at 0) (sg (aF (h12_.at 5) ?_)))))))))
  have hq_:=gN (xs:=x) (i:=i) aA
  obtain ⟨y,hy⟩:=hq_
  have hcs:=iO bA hy
  have hcl:=fL bA x (i+1)
  have hne:bA y=4:=rfl
  have hb17:Bd K (1+(1+(1+(1+(0))))):=⟨by omega,by omega⟩
  obtain ⟨b16,o16,cs16,f16,hp16,hr16,hc16,hm16⟩:=bF7 h hy hK
  have hk18:=hc16
  obtain ⟨he18,rfl,hok18⟩:=hk18
  have he18:_=[I K,I (K+1),I ((K+1)+1),I (((K+1)+1)+1)]:=he18;subst he18
  refine rn st9 5 h12_.put.put [] [(18,.bool (!decide (K=K)))] [qx hp16,qr hr16 0,.o] aD fun f20 h20_=>(aC (gM (h20_.at 18) (fun h21p => ?_) (fun h21p => ?_)))
  ·exact absurd rfl h21p
  refine wp_skip (wp_seq (aB ?_))
  have hb23:=hb17.up
  refine rn st9 3 h20_ [1] [(1,I (K+1))] [.ad K 1 hb23.i64] aD fun f24 h24_=>(aC (wp_seq (wp_seq (aB (sg (aF (h24_.at 0) (sg (aF (h24_.at 5) (rn st9 5 h24_.put.put [] [(27,.bool (!decide ((K+1)=(K+1))))] [qx hp16,qr hr16 1,.o] aD fun f29 h29_=>(aC (gM (h29_.at 27) (fun h30p => ?_) (fun h30p => ?_))))))))))))
  ·exact absurd rfl h30p
  refine wp_skip (wp_seq (aB ?_))
  have hb32:=hb23.up
  refine rn st9 3 h29_ [1] [(1,I ((K+1)+1))] [.ad (K+1) 1 hb32.i64] aD fun f33 h33_=>(aC (wp_seq (wp_seq (aB (sg (aF (h33_.at 0) (sg (aF (h33_.at 5) (lw h33_.put.put [(0,v),(1,I ((K+1)+1)),(5,I (i:Int)),(30,v),(31,I (i:Int))] aD fun h39_=>(rn st9 5 h39_ [] [(36,.bool (!decide (((K+1)+1)=((K+1)+1))))] [qx hp16,qr hr16 2,.o] aD fun f38 h38_=>(aC (gM (h38_.at 36) (fun h40p => ?_) (fun h40p => ?_)))))))))))))
  ·exact absurd rfl h40p
  refine wp_skip (wp_seq (aB ?_))
  have hb42:=hb32.up
  refine rn st9 3 h38_ [1] [(1,I (((K+1)+1)+1))] [.ad ((K+1)+1) 1 hb42.i64] aD fun f43 h43_=>(aC (wp_seq (wp_seq (aB (sg (aF (h43_.at 0) (sg (aF (h43_.at 5) (rn st9 5 h43_.put.put [] [(45,.bool (!decide ((((K+1)+1)+1)=(((K+1)+1)+1))))] [qx hp16,qr hr16 3,.o] aD fun f48 h48_=>(aC (gM (h48_.at 45) (fun h49p => ?_) (fun h49p => ?_))))))))))))
  ·exact absurd rfl h49p
  refine wp_skip (aB ?_)
  have hb51:=hb42.up
  refine rn st9 3 h48_ [1] [(1,I ((((K+1)+1)+1)+1))] [.ad (((K+1)+1)+1) 1 hb51.i64] aD fun f52 h52_=>(aC (aB (rn st9 3 h52_ [5] [(5,I ((i:Int)+1))] [qad (i:Int) 1] aD fun f54 h54_=>(aC ?_))))
  exact ⟨_,x.length - (i+1),aA,rfl,i+1,(((K+1)+1)+1)+1,aA,aA,rfl,(h54_.to aD),st9⟩
 refine wp_exit (wp_seq (aB (sg (aF (h12_.at 1) (sg (aH (v:=I K) rfl (aC (wr (kZ results252 rfl ?_)))))))))
 obtain rfl:i=x.length:=by omega
 have hca:=nT bA x _ rfl
 exact ⟨fI aA,st9.bare⟩
theorem markRunS_n {w W0:World} {rs:List Res} {v:Value} {xs:List Run} {fp:List Nat} (hst:St w W0 (Res.own v xs fp::rs)) (k:Int) (h0:0≤k) (hk:k+(cL bN xs:Nat)≤4611686018427387904) :
  Calls prog 133 #[v,I k] W0 fun e w'=>∃ fp',e = .returned (I (k+(cL bN xs:Nat)))∧St w w' (Res.own v (mkL mQ bN xs k) fp'::rs):=by
 have hcap:=(bP (hst.get 0 rfl)).len_le
 refine iY func133 rfl ntmps133 cH (wp_seq (aB (sg (aV (aC (wp_seq (wp_seq (aB (sg (aV (aC (wp_block (dX (fun (m:Nat) (f:Nat→Value) (W:World)=>∃ (i:Nat) (K:Int) (fo5:List Nat),i≤xs.length∧K=k+(cL bN (xs.take i):Nat)∧m=xs.length - i∧Ag [(0,v),(1,I K),(5,I (i:Int))] f∧St w W (Res.own (α:=List Run) v (mkL mQ bN (xs.take i) k++xs.drop i) fo5::rs)) (xs.length - 0) ?_ ?_)))))))))))))
 ·exact ⟨0,k,fp,Nat.zero_le _,(by simp[cL]),rfl,(Ag.nil.put.put.put.put.to aD),(by simpa [mkL] using hst)⟩
 intro m6 f7 W8 hJ9
 obtain ⟨i,K,fo5,hi,hK,rfl,hA11,st10⟩:=hJ9
 have hlx:(mkL mQ bN (xs.take i) k++xs.drop i).length=xs.length:=by rw[length_append,eK,length_take,length_drop];omega
 refine wp_seq (wp_seq (aB (rn st10 4 hA11 [] [(9,.bool (decide ((i:Int)<((mkL mQ bN (xs.take i) k++xs.drop i).length:Int))))] [ql (bP (st10.get 0 rfl)),.o] aD fun f13 h13_=>(aC (cS (h13_.at 9) (fun h14p => ?_) (fun h14p => ?_))))))
 ·refine wp_skip (wp_seq (wp_block (wp_seq (aB (rn st10 3 h13_ [] [(12,v),(13,I (i:Int)),(14,I K)] [] aD fun f16 h16_ => ?_)))))
  have hq_:=gN (xs:=xs) (i:=i) aA
  obtain ⟨y,hy⟩:=hq_
  have hcs:=iO bN hy
  have hcl:=fL bN xs (i+1)
  have hne:bN y=6+cL aN y.plan.edges+cL bA y.tasks:=rfl
  have hb17:Bd K (1+(1+(1+(1+(1+((cL aN y.plan.edges)+(1+((cL bA y.tasks)+(0))))))))):=⟨by omega,by omega⟩
  have hq_:=St.lendx (α:=Run) cH st10 (x:=y) (sP hy)
  obtain ⟨b18,e18,pre18,cs18,post18,fi18,fr18,hPA18,hC18,st19⟩:=hq_
  have st24:=st19.f1.uncs rfl
  obtain ⟨v25_0,v25_1,g25_0,g25_1,he25,hok25,st26⟩:=open_Run st24
  subst he25
  refine sg (fC hX (h16_.at 12) hPA18 (h16_.at 13) rfl (sg (cR fa_Run_0 rfl (sgn (aW (i:=0) (v:=I K) aD rfl (h16_.at 14) rfl rfl st26.f2 rfl kJ rfl ?_)))));intro W32 st33
  refine aC (wp_seq (aB ?_))
  have hb35:=hb17.up
  refine rn st33 3 h16_.put.put [1] [(1,I (K+1))] [.ad K 1 hb35.i64] aD fun f36 h36_=>(aC (wp_seq (aB (rn st33 6 h36_ [] [(21,I (K+1)),(24,.pointer (some ⟨b18,pre18.length+1,none⟩))] [qx hPA18] aD fun f38 h38_=>(sgn (aW (i:=1) (v:=I (K+1)) aD (h38_.at 24) (h38_.at 21) rfl rfl st33 rfl kJ rfl ?_))))));intro W39 st40
  refine aC (wp_seq (aB ?_))
  have hb42:=hb35.up
  refine rn st40 3 h38_ [1] [(1,I ((K+1)+1))] [.ad (K+1) 1 hb42.i64] aD fun f43 h43_=>(aC (wp_seq (aB (rn st40 6 h43_ [] [(29,I ((K+1)+1)),(32,.pointer (some ⟨b18,pre18.length+2,none⟩))] [qx hPA18] aD fun f45 h45_=>(sgn (aW (i:=2) (v:=I ((K+1)+1)) aD (h45_.at 32) (h45_.at 29) rfl rfl st40 rfl kJ rfl ?_))))));intro W46 st47
  refine aC (wp_seq (aB ?_))
  have hb49:=hb42.up
  refine rn st47 3 h45_ [1] [(1,I (((K+1)+1)+1))] [.ad ((K+1)+1) 1 hb49.i64] aD fun f50 h50_=>(aC (wp_seq (aB (lw h50_ [(0,v),(1,I (((K+1)+1)+1)),(5,I (i:Int))] aD fun h53_=>(rn st47 6 h53_ [] [(37,I (((K+1)+1)+1)),(40,.pointer (some ⟨b18,pre18.length+3,none⟩))] [qx hPA18] aD fun f52 h52_=>(sgn (aW (i:=3) (v:=I (((K+1)+1)+1)) aD (h52_.at 40) (h52_.at 37) rfl rfl st47 rfl kJ rfl ?_)))))));intro W54 st55
  refine aC (wp_seq (aB ?_))
  have hb57:=hb49.up
  refine rn st55 3 h52_ [1] [(1,I ((((K+1)+1)+1)+1))] [.ad (((K+1)+1)+1) 1 hb57.i64] aD fun f58 h58_=>(aC (wp_seq (aB (rn st55 6 h58_ [] [(45,I ((((K+1)+1)+1)+1)),(48,.pointer (some ⟨b18,pre18.length+4,none⟩))] [qx hPA18] aD fun f60 h60_=>(sgn (aW (i:=4) (v:=I ((((K+1)+1)+1)+1)) aD (h60_.at 48) (h60_.at 45) rfl rfl st55 rfl kJ rfl ?_))))));intro W61 st62
  refine aC (wp_seq (aB ?_))
  have hb64:=hb57.up
  refine rn st62 3 h60_ [1] [(1,I (((((K+1)+1)+1)+1)+1))] [.ad ((((K+1)+1)+1)+1) 1 hb64.i64] aD fun f65 h65_=>(aC (wp_seq (aB (rn st62 7 h65_ [] [(56,v25_0),(57,I (((((K+1)+1)+1)+1)+1))] [qx hPA18,qp 0 rfl 5] aD fun f67 h67_ => ?_))))
  have hb73:=hb64.upc
  refine sg (eG func175 rfl (h67_.at 56) (h67_.at 57) ((markEdgeS_n st62.f1 (((((K+1)+1)+1)+1)+1) hb64.lo hb64.hi).mono ?_));rintro _ W68 ⟨fp71,rfl,st70⟩;refine ⟨_,rfl,?_⟩
  refine sg (aH (v:=I ((((((K+1)+1)+1)+1)+1)+(cL aN y.plan.edges:Nat))) rfl (aC (wp_seq (aB (rn st70 5 h67_.put.put [] [(61,I ((((((K+1)+1)+1)+1)+1)+(cL aN y.plan.edges:Nat))),(63,.pointer (some ⟨b18,pre18.length+6,none⟩))] [qx hPA18] aD fun f77 h77_=>(sgn (aW (i:=6) (v:=I ((((((K+1)+1)+1)+1)+1)+(cL aN y.plan.edges:Nat))) aD (h77_.at 63) (h77_.at 61) rfl rfl st70.f1 rfl kJ rfl ?_)))))));intro W79 st80
  refine aC (wp_seq (aB ?_))
  have hb82:=hb73.up
  refine rn st80 3 h77_ [1] [(1,I (((((((K+1)+1)+1)+1)+1)+(cL aN y.plan.edges:Nat))+1))] [.ad ((((((K+1)+1)+1)+1)+1)+(cL aN y.plan.edges:Nat)) 1 hb82.i64] aD fun f83 h83_=>(aC (aB (lw h83_ [(0,v),(1,I (((((((K+1)+1)+1)+1)+1)+(cL aN y.plan.edges:Nat))+1)),(5,I (i:Int))] aD fun h86_=>(rn st80 6 h86_ [] [(70,v25_1),(71,I (((((((K+1)+1)+1)+1)+1)+(cL aN y.plan.edges:Nat))+1))] [qx hPA18,qp 0 rfl 7] aD fun f85 h85_ => ?_))))
  have hb92:=hb82.upc
  refine sg (eG func249 rfl (h85_.at 70) (h85_.at 71) ((markTaskS_n st80.f2 (((((((K+1)+1)+1)+1)+1)+(cL aN y.plan.edges:Nat))+1) hb82.lo hb82.hi).mono ?_));rintro _ W87 ⟨fp90,rfl,st89⟩;refine ⟨_,rfl,?_⟩
  refine sg (aH (v:=I ((((((((K+1)+1)+1)+1)+1)+(cL aN y.plan.edges:Nat))+1)+(cL bA y.tasks:Nat))) rfl (aC (aB (rn st89 3 h85_.put.put [5] [(5,I ((i:Int)+1))] [qad (i:Int) 1] aD fun f96 h96_=>(aC ?_)))))
  have st98:=shut_Run (x:=(⟨K,⟨K+1,(K+1)+1,((K+1)+1)+1,(((K+1)+1)+1)+1,mkL jC aN y.plan.edges (((((K+1)+1)+1)+1)+1)⟩,(((((K+1)+1)+1)+1)+1)+(cL aN y.plan.edges:Nat),mkL jB bA y.tasks (((((((K+1)+1)+1)+1)+1)+(cL aN y.plan.edges:Nat))+1)⟩:Run)) st89.f2 okq_
  try dsimp only at st98
  have st100:=st98.cs rfl
  obtain ⟨fp104,st105⟩:=St.give (α:=Run) st100.f2.f1.f2
  exact ⟨_,xs.length - (i+1),aA,rfl,i+1,(((((((K+1)+1)+1)+1)+1)+(cL aN y.plan.edges:Nat))+1)+(cL bA y.tasks:Nat),fp104,aA,aA,rfl,(h96_.to aD),(by rw[← pJ hy hK];exact st105)⟩
 refine wp_exit (wp_seq (aB (sg (aF (h13_.at 1) (sg (aH (v:=I K) rfl (aC (wr (kZ results133 rfl ?_)))))))))
 obtain rfl:i=xs.length:=by omega
 have hca:=nT bN xs _ rfl
 rw[xO rfl] at st10
 exact ⟨_,fI aA,st10⟩
theorem heldRunS_n {v:Value} {x:List Run} {fp:List Nat} {k:Int} (h:Sl w v (mkL mQ bN x k) fp) (h0:0≤k) (hk:k+(cL bN x:Nat)≤4611686018427387904) :
  Calls prog 135 #[v,I k] w (rI_ (k+(cL bN x:Nat)) w):=by
 have hcap:=h.len_le
 rw[eK] at hcap
 have hml:(mkL mQ bN x k).length=x.length:=eK _ _
 refine iY func135 rfl ntmps135 cH (wp_seq (aB (sg (aV (aC (wp_seq (wp_seq (aB (sg (aV (aC (wp_block (dX (fun (m:Nat) (f:Nat→Value) (W:World)=>∃ (i:Nat) (K:Int),i≤x.length∧K=k+(cL bN (x.take i):Nat)∧m=x.length - i∧Ag [(0,v),(1,I K),(5,I (i:Int))] f∧St w W ([])) (x.length - 0) ?_ ?_)))))))))))))
 ·exact ⟨0,k,Nat.zero_le _,(by simp[cL]),rfl,(Ag.nil.put.put.put.put.to aD),(St.start w)⟩
 intro m5 f6 W7 hJ8
 obtain ⟨i,K,hi,hK,rfl,hA10,st9⟩:=hJ8
 refine wp_seq (wp_seq (aB (rn st9 4 hA10 [] [(9,.bool (decide ((i:Int)<((mkL mQ bN x k).length:Int))))] [ql h,.o] aD fun f12 h12_=>(aC (cS (h12_.at 9) (fun h13p => ?_) (fun h13p => ?_))))))
 ·refine wp_skip (wp_seq (wp_block (wp_seq (wp_seq (aB (sg (aF (h12_.at 0) (sg (aF (h12_.at 5) ?_)))))))))
  have hq_:=gN (xs:=x) (i:=i) aA
  obtain ⟨y,hy⟩:=hq_
  have hcs:=iO bN hy
  have hcl:=fL bN x (i+1)
  have hne:bN y=6+cL aN y.plan.edges+cL bA y.tasks:=rfl
  have hb17:Bd K (1+(1+(1+(1+(1+((cL aN y.plan.edges)+(1+((cL bA y.tasks)+(0))))))))):=⟨by omega,by omega⟩
  obtain ⟨b16,o16,cs16,f16,hp16,hr16,hc16,hm16⟩:=bF7 h hy hK
  have hk18:=hc16
  obtain ⟨v18_0,v18_1,g18_0,g18_1,he18,hok18,h18_0,h18_1,rfl⟩:=hk18
  have he18:_=[I K,I (K+1),I ((K+1)+1),I (((K+1)+1)+1),I ((((K+1)+1)+1)+1),v18_0,I ((((((K+1)+1)+1)+1)+1)+(cL aN y.plan.edges:Nat)),v18_1]:=he18;subst he18
  have h18_0:Sl _ v18_0 (mkL jC aN y.plan.edges (((((K+1)+1)+1)+1)+1)) _:=h18_0
  have h18_1:Sl _ v18_1 (mkL jB bA y.tasks (((((((K+1)+1)+1)+1)+1)+(cL aN y.plan.edges:Nat))+1)) _:=h18_1
  refine rn st9 5 h12_.put.put [] [(18,.bool (!decide (K=K)))] [qx hp16,qr hr16 0,.o] aD fun f20 h20_=>(aC (gM (h20_.at 18) (fun h21p => ?_) (fun h21p => ?_)))
  ·exact absurd rfl h21p
  refine wp_skip (wp_seq (aB ?_))
  have hb23:=hb17.up
  refine rn st9 3 h20_ [1] [(1,I (K+1))] [.ad K 1 hb23.i64] aD fun f24 h24_=>(aC (wp_seq (wp_seq (aB (sg (aF (h24_.at 0) (sg (aF (h24_.at 5) (rn st9 6 h24_.put.put [] [(28,.bool (!decide ((K+1)=(K+1))))] [qx hp16,qr hr16 1,.o] aD fun f29 h29_=>(aC (gM (h29_.at 28) (fun h30p => ?_) (fun h30p => ?_))))))))))))
  ·exact absurd rfl h30p
  refine wp_skip (wp_seq (aB ?_))
  have hb32:=hb23.up
  refine rn st9 3 h29_ [1] [(1,I ((K+1)+1))] [.ad (K+1) 1 hb32.i64] aD fun f33 h33_=>(aC (wp_seq (wp_seq (aB (sg (aF (h33_.at 0) (sg (aF (h33_.at 5) (lw h33_.put.put [(0,v),(1,I ((K+1)+1)),(5,I (i:Int)),(31,v),(32,I (i:Int))] aD fun h39_=>(rn st9 6 h39_ [] [(38,.bool (!decide (((K+1)+1)=((K+1)+1))))] [qx hp16,qr hr16 2,.o] aD fun f38 h38_=>(aC (gM (h38_.at 38) (fun h40p => ?_) (fun h40p => ?_)))))))))))))
  ·exact absurd rfl h40p
  refine wp_skip (wp_seq (aB ?_))
  have hb42:=hb32.up
  refine rn st9 3 h38_ [1] [(1,I (((K+1)+1)+1))] [.ad ((K+1)+1) 1 hb42.i64] aD fun f43 h43_=>(aC (wp_seq (wp_seq (aB (sg (aF (h43_.at 0) (sg (aF (h43_.at 5) (rn st9 6 h43_.put.put [] [(48,.bool (!decide ((((K+1)+1)+1)=(((K+1)+1)+1))))] [qx hp16,qr hr16 3,.o] aD fun f48 h48_=>(aC (gM (h48_.at 48) (fun h49p => ?_) (fun h49p => ?_))))))))))))
  ·exact absurd rfl h49p
  refine wp_skip (wp_seq (aB ?_))
  have hb51:=hb42.up
  refine rn st9 3 h48_ [1] [(1,I ((((K+1)+1)+1)+1))] [.ad (((K+1)+1)+1) 1 hb51.i64] aD fun f52 h52_=>(aC (wp_seq (wp_seq (aB (sg (aF (h52_.at 0) (sg (aF (h52_.at 5) (rn st9 6 h52_.put.put [] [(58,.bool (!decide (((((K+1)+1)+1)+1)=((((K+1)+1)+1)+1))))] [qx hp16,qr hr16 4,.o] aD fun f57 h57_=>(aC (gM (h57_.at 58) (fun h58p => ?_) (fun h58p => ?_))))))))))))
  ·exact absurd rfl h58p
  refine wp_skip (wp_seq (aB ?_))
  have hb60:=hb51.up
  refine rn st9 3 h57_ [1] [(1,I (((((K+1)+1)+1)+1)+1))] [.ad ((((K+1)+1)+1)+1) 1 hb60.i64] aD fun f61 h61_=>(aC (wp_seq (aB (sg (aF (h61_.at 0) (sg (aF (h61_.at 5) (lw h61_.put.put [(0,v),(1,I (((((K+1)+1)+1)+1)+1)),(5,I (i:Int)),(61,v),(62,I (i:Int))] aD fun h67_=>(rn st9 5 h67_ [] [(66,v18_0),(67,I (((((K+1)+1)+1)+1)+1))] [qx hp16,qr hr16 5] aD fun f66 h66_ => ?_)))))))))
  have hb72:=hb60.upc
  refine sg (eG func251 rfl (h66_.at 66) (h66_.at 67) ((heldEdgeS_n W7 (x:=y.plan.edges) (h18_0.below st9.below) hb60.lo hb60.hi).mono ?_));rintro _ W68 ⟨rfl,hk69⟩;refine ⟨_,rfl,?_⟩
  have st70:=St.call st9 hk69
  refine sg (aH (v:=I ((((((K+1)+1)+1)+1)+1)+(cL aN y.plan.edges:Nat))) rfl (aC (wp_seq (wp_seq (aB (sg (aF (v:=I ((((((K+1)+1)+1)+1)+1)+(cL aN y.plan.edges:Nat))) rfl (sg (jG rfl rfl (aC (cS rfl (fun h77p => ?_) (fun h77p => ?_))))))))))))
  ·exact absurd h77p (Int.not_lt.2 hb72.1)
  refine wp_skip (wp_seq (wp_seq (aB (sg (aF (h66_.at 0) (sg (aF (h66_.at 5) (rn st70 5 h66_.put.put.put.put.put.put [] [(77,.bool (!decide ((((((((K+1)+1)+1)+1)+1)+(cL aN y.plan.edges:Nat)):Int)=((((((K+1)+1)+1)+1)+1)+(cL aN y.plan.edges:Nat)))))] [qx hp16,qr hr16 6,.o] aD fun f82 h82_=>(aC (gM (h82_.at 77) (fun h83p => ?_) (fun h83p => ?_)))))))))))
  ·exact absurd rfl h83p
  refine wp_skip (wp_seq (aB ?_))
  have hb85:=hb72.up
  refine rn st70 3 h82_ [1] [(1,I (((((((K+1)+1)+1)+1)+1)+(cL aN y.plan.edges:Nat))+1))] [.ad ((((((K+1)+1)+1)+1)+1)+(cL aN y.plan.edges:Nat)) 1 hb85.i64] aD fun f86 h86_=>(aC (wp_seq (aB (sg (aF (h86_.at 0) (sg (aF (h86_.at 5) (rn st70 4 h86_.put.put [] [(84,v18_1),(85,I (((((((K+1)+1)+1)+1)+1)+(cL aN y.plan.edges:Nat))+1))] [qx hp16,qr hr16 7] aD fun f91 h91_ => ?_))))))))
  have hb96:=hb85.upc
  refine sg (eG func252 rfl (h91_.at 84) (h91_.at 85) ((heldTaskS_n W68 (x:=y.tasks) (h18_1.below st70.below) hb85.lo hb85.hi).mono ?_));rintro _ W92 ⟨rfl,hk93⟩;refine ⟨_,rfl,?_⟩
  have st94:=St.call st70 hk93
  refine sg (aH (v:=I ((((((((K+1)+1)+1)+1)+1)+(cL aN y.plan.edges:Nat))+1)+(cL bA y.tasks:Nat))) rfl (aC (wp_seq (aB (sg (aF (v:=I ((((((((K+1)+1)+1)+1)+1)+(cL aN y.plan.edges:Nat))+1)+(cL bA y.tasks:Nat))) rfl (sg (jG rfl rfl (aC (cS rfl (fun h101p => ?_) (fun h101p => ?_)))))))))))
  ·exact absurd h101p (Int.not_lt.2 hb96.1)
  refine wp_skip (aB (lw h91_.put.put.put.put [(0,v),(1,I ((((((((K+1)+1)+1)+1)+1)+(cL aN y.plan.edges:Nat))+1)+(cL bA y.tasks:Nat))),(5,I (i:Int))] aD fun h104_=>(rn st94 3 h104_ [5] [(5,I ((i:Int)+1))] [qad (i:Int) 1] aD fun f103 h103_=>(aC ?_))))
  exact ⟨_,x.length - (i+1),aA,rfl,i+1,(((((((K+1)+1)+1)+1)+1)+(cL aN y.plan.edges:Nat))+1)+(cL bA y.tasks:Nat),aA,aA,rfl,(h103_.to aD),st94⟩
 refine wp_exit (wp_seq (aB (sg (aF (h12_.at 1) (sg (aH (v:=I K) rfl (aC (wr (kZ results135 rfl ?_)))))))))
 obtain rfl:i=x.length:=by omega
 have hca:=nT bN x _ rfl
 exact ⟨fI aA,st9.bare⟩
theorem markEntrySS_n {w W0:World} {rs:List Res} {v:Value} {xs:List (List Entry)} {fp:List Nat} (hst:St w W0 (Res.own v xs fp::rs)) (k:Int) (h0:0≤k) (hk:k+(cL (cL aE) xs:Nat)≤4611686018427387904) :
  Calls prog 132 #[v,I k] W0 fun e w'=>∃ fp',e = .returned (I (k+(cL (cL aE) xs:Nat)))∧St w w' (Res.own v (mkL (mkL dH aE) (cL aE) xs k) fp'::rs):=by
 have hcap:=(bP (hst.get 0 rfl)).len_le
 refine iY func132 rfl ntmps132 cH (wp_seq (aB (sg (aV (aC (wp_seq (wp_seq (aB (sg (aV (aC (wp_block (dX (fun (m:Nat) (f:Nat→Value) (W:World)=>∃ (i:Nat) (K:Int) (fo5:List Nat),i≤xs.length∧K=k+(cL (cL aE) (xs.take i):Nat)∧m=xs.length - i∧Ag [(0,v),(1,I K),(5,I (i:Int))] f∧St w W (Res.own (α:=List (List Entry)) v (mkL (mkL dH aE) (cL aE) (xs.take i) k++xs.drop i) fo5::rs)) (xs.length - 0) ?_ ?_)))))))))))))
 ·exact ⟨0,k,fp,Nat.zero_le _,(by simp[cL]),rfl,(Ag.nil.put.put.put.put.to aD),(by simpa [mkL] using hst)⟩
 intro m6 f7 W8 hJ9
 obtain ⟨i,K,fo5,hi,hK,rfl,hA11,st10⟩:=hJ9
 have hlx:(mkL (mkL dH aE) (cL aE) (xs.take i) k++xs.drop i).length=xs.length:=by rw[length_append,eK,length_take,length_drop];omega
 refine wp_seq (wp_seq (aB (rn st10 4 hA11 [] [(9,.bool (decide ((i:Int)<((mkL (mkL dH aE) (cL aE) (xs.take i) k++xs.drop i).length:Int))))] [ql (bP (st10.get 0 rfl)),.o] aD fun f13 h13_=>(aC (cS (h13_.at 9) (fun h14p => ?_) (fun h14p => ?_))))))
 ·refine wp_skip (wp_seq (wp_block (aB (sg (aF (h13_.at 0) (sg (aF (h13_.at 5) ?_)))))))
  have hq_:=gN (xs:=xs) (i:=i) aA
  obtain ⟨y,hy⟩:=hq_
  have hcs:=iO (cL aE) hy
  have hcl:=fL (cL aE) xs (i+1)
  have hne:cL aE y=cL aE y:=rfl
  have hb17:Bd K ((cL aE y)+(0)):=⟨by omega,by omega⟩
  have hq_:=St.lendx (α:=List Entry) cH st10 (x:=y) (sP hy)
  obtain ⟨b18,e18,pre18,cs18,post18,fi18,fr18,hPA18,hC18,st19⟩:=hq_
  have hq_:=st19.f1.uncs1
  obtain ⟨v18,he18,st24⟩:=hq_;subst he18
  refine rn st24 3 h13_.put.put [] [(15,v18),(16,I K)] [qx hPA18,qp 1 rfl 0] aD fun f26 h26_ => ?_
  have hb31:=hb17.upc
  refine sg (eG func248 rfl (h26_.at 15) (h26_.at 16) ((markEntryS_n st24 K hb17.lo hb17.hi).mono ?_));rintro _ W27 ⟨fp30,rfl,st29⟩;refine ⟨_,rfl,?_⟩
  refine sg (aH (v:=I (K+(cL aE y:Nat))) rfl (aC (aB (rn st29 3 h26_.put.put [5] [(5,I ((i:Int)+1))] [qad (i:Int) 1] aD fun f35 h35_=>(aC ?_)))))
  have st36:=st29.cs1
  obtain ⟨fp40,st41⟩:=St.give (α:=List Entry) st36.f2.f1.f2
  exact ⟨_,xs.length - (i+1),aA,rfl,i+1,K+(cL aE y:Nat),fp40,aA,aA,rfl,(h35_.to aD),(by rw[← pJ hy hK];exact st41)⟩
 refine wp_exit (wp_seq (aB (sg (aF (h13_.at 1) (sg (aH (v:=I K) rfl (aC (wr (kZ results132 rfl ?_)))))))))
 obtain rfl:i=xs.length:=by omega
 have hca:=nT (cL aE) xs _ rfl
 rw[xO rfl] at st10
 exact ⟨_,fI aA,st10⟩
theorem heldEntrySS_n {v:Value} {x:List (List Entry)} {fp:List Nat} {k:Int} (h:Sl w v (mkL (mkL dH aE) (cL aE) x k) fp) (h0:0≤k) (hk:k+(cL (cL aE) x:Nat)≤4611686018427387904) :
  Calls prog 134 #[v,I k] w (rI_ (k+(cL (cL aE) x:Nat)) w):=by
 have hcap:=h.len_le
 rw[eK] at hcap
 have hml:(mkL (mkL dH aE) (cL aE) x k).length=x.length:=eK _ _
 refine iY func134 rfl ntmps134 cH (wp_seq (aB (sg (aV (aC (wp_seq (wp_seq (aB (sg (aV (aC (wp_block (dX (fun (m:Nat) (f:Nat→Value) (W:World)=>∃ (i:Nat) (K:Int),i≤x.length∧K=k+(cL (cL aE) (x.take i):Nat)∧m=x.length - i∧Ag [(0,v),(1,I K),(5,I (i:Int))] f∧St w W ([])) (x.length - 0) ?_ ?_)))))))))))))
 ·exact ⟨0,k,Nat.zero_le _,(by simp[cL]),rfl,(Ag.nil.put.put.put.put.to aD),(St.start w)⟩
 intro m5 f6 W7 hJ8
 obtain ⟨i,K,hi,hK,rfl,hA10,st9⟩:=hJ8
 refine wp_seq (wp_seq (aB (rn st9 4 hA10 [] [(9,.bool (decide ((i:Int)<((mkL (mkL dH aE) (cL aE) x k).length:Int))))] [ql h,.o] aD fun f12 h12_=>(aC (cS (h12_.at 9) (fun h13p => ?_) (fun h13p => ?_))))))
 ·refine wp_skip (wp_seq (wp_block (wp_seq (aB (sg (aF (h12_.at 0) (sg (aF (h12_.at 5) ?_))))))))
  have hq_:=gN (xs:=x) (i:=i) aA
  obtain ⟨y,hy⟩:=hq_
  have hcs:=iO (cL aE) hy
  have hcl:=fL (cL aE) x (i+1)
  have hne:cL aE y=cL aE y:=rfl
  have hb17:Bd K ((cL aE y)+(0)):=⟨by omega,by omega⟩
  obtain ⟨b16,o16,cs16,f16,hp16,hr16,hc16,hm16⟩:=bF7 h hy hK
  obtain ⟨v18,rfl,h19⟩:=hc16
  have h19:Sl _ v18 (mkL dH aE y K) f16:=h19
  refine rn st9 3 h12_.put.put [] [(15,v18),(16,I K)] [qx hp16,qr hr16 0] aD fun f21 h21_ => ?_
  have hb26:=hb17.upc
  refine sg (eG func250 rfl (h21_.at 15) (h21_.at 16) ((heldEntryS_n W7 (x:=y) (h19.below st9.below) hb17.lo hb17.hi).mono ?_));rintro _ W22 ⟨rfl,hk23⟩;refine ⟨_,rfl,?_⟩
  have st24:=St.call st9 hk23
  refine sg (aH (v:=I (K+(cL aE y:Nat))) rfl (aC (wp_seq (aB (sg (aF (v:=I (K+(cL aE y:Nat))) rfl (sg (jG rfl rfl (aC (cS rfl (fun h31p => ?_) (fun h31p => ?_)))))))))))
  ·exact absurd h31p (Int.not_lt.2 hb26.1)
  refine wp_skip (aB (rn st24 3 h21_.put.put.put.put [5] [(5,I ((i:Int)+1))] [qad (i:Int) 1] aD fun f33 h33_=>(aC ?_)))
  exact ⟨_,x.length - (i+1),aA,rfl,i+1,K+(cL aE y:Nat),aA,aA,rfl,(h33_.to aD),st24⟩
 refine wp_exit (wp_seq (aB (sg (aF (h12_.at 1) (sg (aH (v:=I K) rfl (aC (wr (kZ results134 rfl ?_)))))))))
 obtain rfl:i=x.length:=by omega
 have hca:=nT (cL aE) x _ rfl
 exact ⟨fI aA,st9.bare⟩
theorem markYard_n {w W0:World} {rs:List Res} {x:Yard} {cs:List Value} {fp:List Nat} (hst:St w W0 (Res.own (.agg cs.toArray) x fp::rs)) (k:Int) (h0:0≤k) (hk:k+(dG x:Nat)≤4611686018427387904) :
  Calls prog 39 #[.agg cs.toArray,I k] W0 fun e w'=>∃ fp',e = .returned (I (k+(dG x:Nat)))∧St w w' (Res.own (.agg cs.toArray) (aG8 x k) fp'::rs):=by
 have hk2:=hk
 unfold dG at hk2
 refine iY func39 rfl ntmps39 cH ?_
 have hb1:Bd k ((cL (cL aE) x.shelf)+((cL bN x.runs)+(0))):=⟨by omega,by omega⟩
 refine wp_seq (aB (sg (gJ (cs:=cs) rfl hst ?_)));intro b2 W3 hb4 st5
 refine sg (aV (aC (wp_seq (aB ?_))))
 obtain ⟨v11_0,v11_1,g11_0,g11_1,he11,hok11,st12⟩:=aP6 st5.f1
 subst he11
 refine rn st12 3 Ag.nil.put.put.put.put [] [(6,v11_0),(7,I k)] [qb 2 rfl 2] aD fun f15 h15_ => ?_
 have hb20:=hb1.upc
 refine sg (eG func132 rfl (h15_.at 6) (h15_.at 7) ((markEntrySS_n st12 k hb1.lo hb1.hi).mono ?_));rintro _ W16 ⟨fp19,rfl,st18⟩;refine ⟨_,rfl,?_⟩
 refine sg (aH (v:=I (k+(cL (cL aE) x.shelf:Nat))) rfl (aC (wp_seq (aB (rn st18 3 h15_.put.put [] [(10,v11_1),(11,I (k+(cL (cL aE) x.shelf:Nat)))] [qb 2 rfl 3] aD fun f24 h24_ => ?_)))))
 have hb30:=hb20.upc
 refine sg (eG func133 rfl (h24_.at 10) (h24_.at 11) ((markRunS_n st18.f1 (k+(cL (cL aE) x.shelf:Nat)) hb20.lo hb20.hi).mono ?_));rintro _ W25 ⟨fp28,rfl,st27⟩;refine ⟨_,rfl,?_⟩
 refine sg (aH (v:=I ((k+(cL (cL aE) x.shelf:Nat))+(cL bN x.runs:Nat))) rfl (aC (wp_seq (aB (sg (aF (v:=I ((k+(cL (cL aE) x.shelf:Nat))+(cL bN x.runs:Nat))) rfl (sg (aH (v:=I ((k+(cL (cL aE) x.shelf:Nat))+(cL bN x.runs:Nat))) rfl (aC (wr (kZ results39 rfl ?_)))))))))))
 have st36:=pH (x:=(aG8 x k)) st27.f1 hok11
 exact ⟨_,fI (by unfold dG;push_cast;omega),st36.d1⟩
theorem aI0 {x:Yard} {k:Int} (hc:Shape.C w cs (aG8 x k) fp) (h0:0≤k) (hk:k+(dG x:Nat)≤4611686018427387904) :
  Calls prog 40 #[.agg cs.toArray,I k] w (rI_ (k+(dG x:Nat)) w):=by
 have hk2:=hk
 have hnt:dG x=cL (cL aE) x.shelf+cL bN x.runs:=rfl
 refine iY func40 rfl ntmps40 cH ?_
 have hb1:Bd k ((cL (cL aE) x.shelf)+((cL bN x.runs)+(0))):=⟨by omega,by omega⟩
 refine wp_seq (aB (sg (gJ (cs:=cs) rfl (St.start w) ?_)));intro b2 W3 hb4 st5
 refine sg (aV (aC (wp_seq (aB ?_))))
 have hk10:=hc
 obtain ⟨v10_0,v10_1,g10_0,g10_1,he10,hok10,h10_0,h10_1,rfl⟩:=hk10
 have he10:_=[I x.now,I x.seq,v10_0,v10_1]:=he10;subst he10
 have h10_0:Sl _ v10_0 (mkL (mkL dH aE) (cL aE) x.shelf k) _:=h10_0
 have h10_1:Sl _ v10_1 (mkL mQ bN x.runs (k+(cL (cL aE) x.shelf:Nat))) _:=h10_1
 refine rn st5 3 Ag.nil.put.put.put.put [] [(6,v10_0),(7,I k)] [qb 0 rfl 2] aD fun f11 h11_ => ?_
 have hb16:=hb1.upc
 refine sg (eG func134 rfl (h11_.at 6) (h11_.at 7) ((heldEntrySS_n W3 (x:=x.shelf) (h10_0.below st5.below) hb1.lo hb1.hi).mono ?_));rintro _ W12 ⟨rfl,hk13⟩;refine ⟨_,rfl,?_⟩
 have st14:=St.call st5 hk13
 refine sg (aH (v:=I (k+(cL (cL aE) x.shelf:Nat))) rfl (aC (wp_seq (wp_seq (aB (sg (aF (v:=I (k+(cL (cL aE) x.shelf:Nat))) rfl (sg (jG rfl rfl (aC (cS rfl (fun h21p => ?_) (fun h21p => ?_))))))))))))
 ·exact absurd h21p (Int.not_lt.2 hb16.1)
 refine wp_skip (wp_seq (aB (rn st14 3 h11_.put.put.put.put [] [(12,v10_1),(13,I (k+(cL (cL aE) x.shelf:Nat)))] [qb 0 rfl 3] aD fun f23 h23_ => ?_)))
 have hb28:=hb16.upc
 refine sg (eG func135 rfl (h23_.at 12) (h23_.at 13) ((heldRunS_n W12 (x:=x.runs) (h10_1.below st14.below) hb16.lo hb16.hi).mono ?_));rintro _ W24 ⟨rfl,hk25⟩;refine ⟨_,rfl,?_⟩
 have st26:=St.call st14 hk25
 refine sg (aH (v:=I ((k+(cL (cL aE) x.shelf:Nat))+(cL bN x.runs:Nat))) rfl (aC (wp_seq (wp_seq (aB (sg (aF (v:=I ((k+(cL (cL aE) x.shelf:Nat))+(cL bN x.runs:Nat))) rfl (sg (jG rfl rfl (aC (cS rfl (fun h33p => ?_) (fun h33p => ?_))))))))))))
 ·exact absurd h33p (Int.not_lt.2 hb28.1)
 refine wp_skip (wp_seq (aB (sg (aF (v:=I ((k+(cL (cL aE) x.shelf:Nat))+(cL bN x.runs:Nat))) rfl (sg (aH (v:=I ((k+(cL (cL aE) x.shelf:Nat))+(cL bN x.runs:Nat))) rfl (aC (wr (kZ results40 rfl ?_)))))))))
 exact ⟨fI aA,st26.bare⟩
theorem markFileS_n {w W0:World} {rs:List Res} {v:Value} {xs:List File} {fp:List Nat} (hst:St w W0 (Res.own v xs fp::rs)) (k:Int) (h0:0≤k) (hk:k+(cL cX xs:Nat)≤4611686018427387904) :
  Calls prog 131 #[v,I k] W0 fun e w'=>∃ fp',e = .returned (I (k+(cL cX xs:Nat)))∧St w w' (Res.own v (mkL rN cX xs k) fp'::rs):=by
 have hcap:=(bP (hst.get 0 rfl)).len_le
 refine iY func131 rfl ntmps131 cH (wp_seq (aB (sg (aV (aC (wp_seq (wp_seq (aB (sg (aV (aC (wp_block (dX (fun (m:Nat) (f:Nat→Value) (W:World)=>∃ (i:Nat) (K:Int) (fo5:List Nat),i≤xs.length∧K=k+(cL cX (xs.take i):Nat)∧m=xs.length - i∧Ag [(0,v),(1,I K),(5,I (i:Int))] f∧St w W (Res.own (α:=List File) v (mkL rN cX (xs.take i) k++xs.drop i) fo5::rs)) (xs.length - 0) ?_ ?_)))))))))))))
 ·exact ⟨0,k,fp,Nat.zero_le _,(by simp[cL]),rfl,(Ag.nil.put.put.put.put.to aD),(by simpa [mkL] using hst)⟩
 intro m6 f7 W8 hJ9
 obtain ⟨i,K,fo5,hi,hK,rfl,hA11,st10⟩:=hJ9
 have hlx:(mkL rN cX (xs.take i) k++xs.drop i).length=xs.length:=by rw[length_append,eK,length_take,length_drop];omega
 refine wp_seq (wp_seq (aB (rn st10 4 hA11 [] [(9,.bool (decide ((i:Int)<((mkL rN cX (xs.take i) k++xs.drop i).length:Int))))] [ql (bP (st10.get 0 rfl)),.o] aD fun f13 h13_=>(aC (cS (h13_.at 9) (fun h14p => ?_) (fun h14p => ?_))))))
 ·refine wp_skip (wp_seq (wp_block (wp_seq (aB (rn st10 3 h13_ [] [(12,v),(13,I (i:Int)),(14,I K)] [] aD fun f16 h16_ => ?_)))))
  have hq_:=gN (xs:=xs) (i:=i) aA
  obtain ⟨y,hy⟩:=hq_
  have hcs:=iO cX hy
  have hcl:=fL cX xs (i+1)
  have hne:cX y=3:=rfl
  have hb17:Bd K (1+(1+(1+(0)))):=⟨by omega,by omega⟩
  have hq_:=St.lendx (α:=File) cH st10 (x:=y) (sP hy)
  obtain ⟨b18,e18,pre18,cs18,post18,fi18,fr18,hPA18,hC18,st19⟩:=hq_
  obtain ⟨he18,hf18,hok18⟩:=hC18;have he18:_=[.string y.name,.string y.data,I y.safe]:=he18;subst he18
  refine rc st19.d1 3 h16_ [] [(15,.string (nM K)),(17,.pointer (some ⟨b18,pre18.length,none⟩))] [qc func247 rfl (fun W s b=>aH1 W K aA),qx hPA18] aD fun f25 W26 h25_ st27 hb28=>(sgn (aW (i:=0) (v := .string (nM K)) aD (h25_.at 17) (h25_.at 15) rfl rfl st27 rfl kJ rfl ?_));intro W29 st30
  refine aC (wp_seq (aB ?_))
  have hb32:=hb17.up
  refine rn st30 3 h25_ [1] [(1,I (K+1))] [.ad K 1 hb32.i64] aD fun f33 h33_=>(aC (wp_seq (aB (rc st30 6 h33_ [] [(23,.string (nM (K+1))),(25,.pointer (some ⟨b18,pre18.length+1,none⟩))] [qc func247 rfl (fun W s b=>aH1 W (K+1) aA),qx hPA18] aD fun f35 W36 h35_ st37 hb38=>(sgn (aW (i:=1) (v := .string (nM (K+1))) aD (h35_.at 25) (h35_.at 23) rfl rfl st37 rfl kJ rfl ?_))))));intro W39 st40
  refine aC (wp_seq (aB ?_))
  have hb42:=hb32.up
  refine rn st40 3 h35_ [1] [(1,I ((K+1)+1))] [.ad (K+1) 1 hb42.i64] aD fun f43 h43_=>(aC (wp_seq (aB (rn st40 5 h43_ [] [(30,I ((K+1)+1)),(32,.pointer (some ⟨b18,pre18.length+2,none⟩))] [qx hPA18] aD fun f45 h45_=>(sgn (aW (i:=2) (v:=I ((K+1)+1)) aD (h45_.at 32) (h45_.at 30) rfl rfl st40 rfl kJ rfl ?_))))));intro W46 st47
  refine aC (aB ?_)
  have hb49:=hb42.up
  refine rn st47 3 h45_ [1] [(1,I (((K+1)+1)+1))] [.ad ((K+1)+1) 1 hb49.i64] aD fun f50 h50_=>(aC (aB (lw h50_ [(0,v),(1,I (((K+1)+1)+1)),(5,I (i:Int))] aD fun h53_=>(rn st47 3 h53_ [5] [(5,I ((i:Int)+1))] [qad (i:Int) 1] aD fun f52 h52_=>(aC ?_)))))
  have st54:=st47.cs0 (cs:=[.string (nM K),.string (nM (K+1)),I ((K+1)+1)]) (x:=(⟨nM K,nM (K+1),(K+1)+1⟩:File)) ⟨rfl,rfl,(by refine ⟨aG6 ?_,aG6 ?_,?_⟩ <;> (first | omega | (simp only[I64];omega)))⟩
  obtain ⟨fp59,st60⟩:=St.give (α:=File) st54.f2.f1.f2
  exact ⟨_,xs.length - (i+1),aA,rfl,i+1,((K+1)+1)+1,fp59,aA,aA,rfl,(h52_.to aD),(by rw[← pJ hy hK];exact st60)⟩
 refine wp_exit (wp_seq (aB (sg (aF (h13_.at 1) (sg (aH (v:=I K) rfl (aC (wr (kZ results131 rfl ?_)))))))))
 obtain rfl:i=xs.length:=by omega
 have hca:=nT cX xs _ rfl
 rw[xO rfl] at st10
 exact ⟨_,fI aA,st10⟩
theorem markDisk_n {w W0:World} {rs:List Res} {x:Disk} {cs:List Value} {fp:List Nat} (hst:St w W0 (Res.own (.agg cs.toArray) x fp::rs)) (k:Int) (h0:0≤k) (hk:k+(lV x:Nat)≤4611686018427387904) :
  Calls prog 38 #[.agg cs.toArray,I k] W0 fun e w'=>∃ fp',e = .returned (I (k+(lV x:Nat)))∧St w w' (Res.own (.agg cs.toArray) (bF0 x k) fp'::rs):=by
 have hk2:=hk
 unfold lV at hk2
 refine iY func38 rfl ntmps38 cH ?_
 have hb1:Bd k ((cL cX x.files)+(0)):=⟨by omega,by omega⟩
 refine wp_seq (aB (sg (gJ (cs:=cs) rfl hst ?_)));intro b2 W3 hb4 st5
 refine sg (aV (aC (wp_seq (aB ?_))))
 obtain ⟨v11_0,g11_0,he11,hok11,st12⟩:=open_Disk st5.f1
 subst he11
 refine rn st12 3 Ag.nil.put.put.put.put [] [(6,v11_0),(7,I k)] [qb 1 rfl 0] aD fun f14 h14_ => ?_
 have hb19:=hb1.upc
 refine sg (eG func131 rfl (h14_.at 6) (h14_.at 7) ((markFileS_n st12 k hb1.lo hb1.hi).mono ?_));rintro _ W15 ⟨fp18,rfl,st17⟩;refine ⟨_,rfl,?_⟩
 refine sg (aH (v:=I (k+(cL cX x.files:Nat))) rfl (aC (wp_seq (aB (sg (aF (v:=I (k+(cL cX x.files:Nat))) rfl (sg (aH (v:=I (k+(cL cX x.files:Nat))) rfl (aC (wr (kZ results38 rfl ?_)))))))))))
 have st24:=shut_Disk (x:=(bF0 x k)) st17 hok11
 exact ⟨_,fI (by unfold lV;push_cast;omega),st24.d1⟩
theorem recovered_law (cs0:List Value) (x0:Disk) (fp0:List Nat) (hc0:Shape.C w cs0 x0 fp0) :
  Calls prog 11 #[.agg cs0.toArray] w fun e w'=>e = .returned (.bool true)∧Below w.heap.size w w':=by
 have hwm:(nI x0).wt≤1048576:=rec_wt x0
 refine bK8 func11 rfl ntmps11 cH (wp_seq (aB (sg (gJ (cs:=cs0) rfl (St.start w) ?_))));intro b1 W2 hb3 st4
 refine sg (aV (aC (wp_seq (aB (sg (aV (aC (wp_seq (aB (rc st4 4 Ag.nil.put.put.put.put [3] [(3,I (szL 1048576 x0.wt))] [qw 0 rfl (Shape.len hc0),qc func33 rfl (fun W s b=>szDisk_n W (jM hc0 s.below) 1048576 aA aA)] aD fun f11 W12 h11_ st13 hb14=>(aC (wp_seq (wp_seq ?_)))))))))))))
 refine aB (sg (aF (h11_.at 3) (sg (jG rfl rfl (aC (cS rfl (fun h17p => ?_) (fun h17p => ?_)))))))
 ·have h17q:=bI6 h17p aA
  refine wp_seq (aB (sg (aV (aC (wr (kZ results11 rfl ?_))))))
  exact ⟨rfl,st13.below⟩
 have h17q:=bI7 h17p aA
 refine wp_skip (wp_seq (aB (sg (cJ wF rfl (h11_.at 1) (st13.get 0 rfl) (Shape.len hc0) (sg (jT func35 rfl rfl ((vC W12 (jM hc0 st13.below) (by first | exact hw | omega | (simp only[Plan.wt,Run.wt,Yard.wt,Deed.wt,Note.wt,File.wt,Disk.wt,Engine.wt,WorldD.wt,ActD.wt,Span.wt,Crew.wt] at *;omega))).mono ?_)))))));rintro _ W24 ⟨cs22,fp22,rfl,hk25⟩;refine ⟨_,rfl,?_⟩
 have st26:=St.call st13 hk25
 refine sg (jT func59 rfl rfl ((RecoveredSC W24 (cW (st26.get 0 rfl) rfl) aA).mono ?_));rintro _ W30 ⟨cs28,fp28,rfl,hk31⟩;refine ⟨_,rfl,?_⟩
 have st32:=St.call st26 hk31
 refine rn st32 4 h11_.put.put.put.put.put [] [(26,.agg cs28.toArray),(27,I (zJ x0)),(28,.bool (tB x0))] [] aD fun f35 h35_=>(sg (gF nW st32 ?_));intro b36 W37 hb38 st39
 refine sgn (eJ (cs:=cs28) dM (cW (st39.get 1 rfl) rfl) rfl (h35_.at 26) st39 rfl ?_);intro W41 st42
 refine sg (aH (h35_.at 27) (sg (aH (h35_.at 28) (aC (wp_seq (aB (sg (cJ wF rfl (h35_.at 1) (st42.get 3 rfl) (Shape.len hc0) (sg (jT func35 rfl rfl ((vC W41 (jM hc0 st42.below) (by first | exact hw | omega | (simp only[Plan.wt,Run.wt,Yard.wt,Deed.wt,Note.wt,File.wt,Disk.wt,Engine.wt,WorldD.wt,ActD.wt,Span.wt,Crew.wt] at *;omega))).mono ?_)))))))))));rintro _ W49 ⟨cs47,fp47,rfl,hk50⟩;refine ⟨_,rfl,?_⟩
 have st51:=St.call st42 hk50
 refine sg (gF zz_Disk st51 ?_);intro b53 W54 hb55 st56
 refine sgn (eJ (cs:=cs47) aA6 (cW (st56.get 1 rfl) rfl) rfl rfl st56 rfl ?_);intro W58 st59
 refine aC (wp_seq (aB (sg (cJ aA6 rfl rfl (st59.get 0 rfl) (Shape.len (cW (st59.get 1 rfl) rfl)) (sg (jT func20 rfl rfl ((zI W58 (cW (st59.get 1 rfl) rfl) aA).mono ?_)))))));rintro _ W64 ⟨cs62,fp62,rfl,hk65⟩;refine ⟨_,rfl,?_⟩
 have st66:=St.call st59 hk65
 refine lw h35_.put.put.put.put.put.put.put.put [(1,pt_ b1),(4,pt_ b36),(5,I (zJ x0)),(6,.bool (tB x0)),(7,pt_ b53),(33,.tuple #[.agg cs62.toArray,I (zJ x0),.bool (tB x0)])] aD fun h70_=>(rn st66 4 h70_ [] [(34,.agg cs62.toArray),(35,I (zJ x0)),(36,.bool (tB x0))] [] aD fun f69 h69_=>(sg (gF nW st66 ?_)));intro b71 W72 hb73 st74
 refine sgn (eJ (cs:=cs62) dM (cW (st74.get 1 rfl) rfl) rfl (h69_.at 34) st74 rfl ?_);intro W76 st77
 refine sg (aH (h69_.at 35) (sg (aH (h69_.at 36) (aC (wp_seq (wp_seq (aB ?_)))))))
 rcases bd (!(eqB (nI x0) (nI x0))) with h81 | h81
 ·rcases Decidable.em ((zJ x0)=(zJ x0)) with h82p | h82p
  ·have h82:=nd_f h82p
   refine rc st77 12 h69_.put.put.put [] [(46,.bool false),(47,.bool (tB x0)),(48,.bool (tB x0))] [qw 0 rfl (Shape.len (cW (st77.get 1 rfl) rfl)),qw 4 rfl (Shape.len (cW (st77.get 5 rfl) rfl)),qc func36 rfl (fun W s b=>aJ4 W (cW (s.get 1 rfl) rfl) (cW (s.get 5 rfl) rfl)),qk h81,qk h82] aD fun f83 W84 h83_ st85 hb86=>(sgo 46 rfl cH (bX4 (h83_.at 46) rfl) (vG underlying4 (h83_.at 47) (h83_.at 48) (sg (kW (h83_.at 46) rfl (aC (tI rfl (fun h89 => ?_) (fun h89 => ?_)))))))
   ·exact absurd (aZ5 h89) (by simp)
   refine wp_skip (wp_seq (wp_seq (oA 3 [(some 2,none,.of (ι:=List Value×List Nat) [53] (fun ⟨cs90,fp90⟩=>[.agg cs90.toArray]) (fun ⟨cs90,fp90⟩=>Res.own (α:=Disk) (.agg cs90.toArray) x0 fp90))] [(true,.is (.agg cs47.toArray)),(true,.is (.agg cs0.toArray)),(false,.ex (fun (cs90:List Value) => .agg cs90.toArray))] mix aD aD aD aD (rs0:=[]) rfl st85 (Below.refl _ _) ⟨(fun f W hst hbl hd hf=>cJ aA6 rfl ((hf 7 rfl).trans (h83_.at 7)) (hst.get 2 rfl) (Shape.len (cW (hst.get 3 rfl) rfl)) brq),(fun f W hst hbl hd hf=>cJ wF rfl ((hf 1 rfl).trans (h83_.at 1)) (hst.get 7 rfl) (Shape.len hc0) brq),?_,trivial⟩ ?_)))
   ·intro f W ru oth hu hst hbl hd hf
    have hn_:ru=[]:=hu
    subst hn_
    try simp only[cap_,xN] at hst
    refine (jT func35 rfl (hd 1 52 rfl rfl) ((vC W (jM hc0 hst.below) (by first | exact hw | omega | (simp only[Plan.wt,Run.wt,Yard.wt,Deed.wt,Note.wt,File.wt,Disk.wt,Engine.wt,WorldD.wt,ActD.wt,Span.wt,Crew.wt] at *;omega))).mono ?_));rintro _ W92 ⟨cs90,fp90,rfl,hk93⟩;refine ⟨_,rfl,?_⟩
    have st94:=St.call hst hk93
    exact ⟨⟨cs90,rfl⟩,⟨_,⟨_,_,rfl,⟨(cs90,fp90),(ce rfl rfl),rfl⟩,rfl⟩,st94⟩,(hbl.trans (Below.mono hk93.below hbl.size))⟩
   intro f96 W97 rs_ hAL_ st100 hbl101 hv98 hf99
   obtain ⟨_,_,rfl,⟨⟨cs90,fp90⟩,he102,rfl⟩,hn_⟩:=hAL_
   have hn_:_=[]:=hn_
   subst hn_
   have hu102_53:f96 53 = .agg cs90.toArray:=congrArg (fun l=>l.getD 0 undef) he102
   try simp only[cap_,xN] at st100
   refine rc st100 2 (Ag.cons (show f96 1=pt_ b1 from ((hf99 1 rfl).trans (h83_.at 1))) (Ag.cons (show f96 4=pt_ b36 from ((hf99 4 rfl).trans (h83_.at 4))) (Ag.cons (show f96 5=I (zJ x0) from ((hf99 5 rfl).trans (h83_.at 5))) (Ag.cons (show f96 6 = .bool (tB x0) from ((hf99 6 rfl).trans (h83_.at 6))) (Ag.cons (show f96 7=pt_ b53 from ((hf99 7 rfl).trans (h83_.at 7))) (Ag.cons (show f96 8=pt_ b71 from ((hf99 8 rfl).trans (h83_.at 8))) (Ag.cons (show f96 9=I (zJ x0) from ((hf99 9 rfl).trans (h83_.at 9))) (Ag.cons (show f96 10 = .bool (tB x0) from ((hf99 10 rfl).trans (h83_.at 10))) (Ag.cons (show f96 51 = .agg cs47.toArray from (hv98 0 51 cH rfl)) (Ag.cons (show f96 53 = .agg cs90.toArray from hu102_53) Ag.nil)))))))))) [] [(55,.bool (!(eqB x0 x0)))] [qc func37 rfl (fun W s b=>eqDisk_n W (cW (s.get 4 rfl) rfl) (cW (s.get 0 rfl) rfl)),.o] aD fun f105 W106 h105_ st107 hb108=>(aC (tI (h105_.at 55) (fun h109 => ?_) (fun h109 => ?_)))
   ·exact absurd (aZ5 h109) (by rw[mJ rfl];decide)
   refine wp_skip (wp_seq (aB (sg (aV (aC (wp_seq (aB (sg (cJ aA6 rfl (h105_.at 7) (st107.get 3 rfl) (Shape.len (cW (st107.get 4 rfl) rfl)) (sg (aF (v:=I 1) rfl (sg (eG func38 rfl rfl rfl ((markDisk_n st107.f4 1 aA (by have:=nt_Disk x0;omega)).mono ?_))))))))))))));rintro _ W114 ⟨fp117,rfl,st116⟩;refine ⟨_,rfl,?_⟩
   refine sg (aH (v:=I (1+(lV x0:Nat))) rfl (aC (wp_seq (wp_seq (aB ?_)))))
   rcases nem ((1+(lV x0:Nat))<0) with h122p | h122p
   ·have h122:=decide_eq_false h122p
    refine rc st116 16 h105_.put.put.put.put.put [] [(72,.bool false),(73,.bool (tB x0)),(74,.bool (tB x0))] [qk h122,qw 2 rfl (Shape.len (cW (st116.get 3 rfl) rfl)),qw 5 rfl (Shape.len (cW (st116.get 6 rfl) rfl)),qc func36 rfl (fun W s b=>aJ4 W (cW (s.get 3 rfl) rfl) (cW (s.get 6 rfl) rfl)),qk h81,qk h82] aD fun f123 W124 h123_ st125 hb126=>(sgo 72 rfl cH (bX4 (h123_.at 72) rfl) (vG underlying4 (h123_.at 73) (h123_.at 74) (sg (kW (h123_.at 72) rfl (aC (sx_f rfl h89 (wp_skip (wp_seq (aB (sg (aV (aC (wp_seq (aB ?_))))))))))))))
    refine sg (cJ dM rfl (h123_.at 8) (st125.get 2 rfl) (Shape.len (cW (st125.get 3 rfl) rfl)) (sg (aF (v:=I 1) rfl (sg (eG func39 rfl rfl rfl ((markYard_n st125.f3 1 aA (by have:=aX3 (nI x0);omega)).mono ?_))))));rintro _ W133 ⟨fp136,rfl,st135⟩;refine ⟨_,rfl,?_⟩
    refine sg (aH (v:=I (1+(dG (nI x0):Nat))) rfl (aC (wp_seq (aB (sg (aV (aC (wp_seq (aB (sg (cJ dM rfl (h123_.at 8) (st135.get 3 rfl) (Shape.len (cW (st135.get 0 rfl) rfl)) (sg (aF (v:=I 1) rfl (sg (eG func40 rfl rfl rfl ((aI0 W133 (x:=(nI x0)) (cW (st135.get 0 rfl) rfl) aA (by have:=aX3 (nI x0);omega)).mono ?_))))))))))))))));rintro _ W144 ⟨rfl,hk145⟩;refine ⟨_,rfl,?_⟩
    have st146:=St.call st135 hk145
    refine sg (aH (v:=I (1+(dG (nI x0):Nat))) rfl (aC (wp_seq (wp_seq (aB (sg (aF (v:=I (1+(dG (nI x0):Nat))) rfl (sg (jG rfl rfl (aC (cS rfl (fun h152p => ?_) (fun h152p => ?_))))))))))))
    ·have h152:=decide_eq_true h152p
     omega
    have h152:=decide_eq_false h152p
    refine wp_skip (wp_seq (wp_seq (aB (lw h123_.put.put.put.put.put.put.put.put.put.put.put.put.put.put [(1,pt_ b1),(4,pt_ b36),(5,I (zJ x0)),(6,.bool (tB x0)),(8,pt_ b71),(12,I (1+(dG (nI x0):Nat))),(13,I (1+(dG (nI x0):Nat)))] aD fun h155_=>(rn st146 3 h155_ [] [(87,.bool (!decide (((1+(dG (nI x0):Nat)):Int)=(1+(dG (nI x0):Nat)))))] [.o] aD fun f154 h154_=>(aC (gM (h154_.at 87) (fun h156p => ?_) (fun h156p => ?_))))))))
    ·have h156:=nd_t h156p
     exact absurd rfl h156p
    have h156:=nd_f h156p
    refine wp_skip (wp_seq (aB (sg (cJ wF rfl (h154_.at 1) (st146.get 8 rfl) (Shape.len hc0) (sg (jT func35 rfl rfl ((vC W144 (jM hc0 st146.below) (by first | exact hw | omega | (simp only[Plan.wt,Run.wt,Yard.wt,Deed.wt,Note.wt,File.wt,Disk.wt,Engine.wt,WorldD.wt,ActD.wt,Span.wt,Crew.wt] at *;omega))).mono ?_)))))));rintro _ W161 ⟨cs159,fp159,rfl,hk162⟩;refine ⟨_,rfl,?_⟩
    have st163:=St.call st146 hk162
    refine sg (jT func20 rfl rfl ((zI W161 (cW (st163.get 0 rfl) rfl) aA).mono ?_));rintro _ W167 ⟨cs165,fp165,rfl,hk168⟩;refine ⟨_,rfl,?_⟩
    have st169:=St.call st163 hk168
    refine rn st169 4 h154_.put.put.put [] [(92,.agg cs165.toArray),(93,I (zJ x0)),(94,.bool (tB x0))] [] aD fun f172 h172_=>(sg (gF nW st169 ?_));intro b173 W174 hb175 st176
    refine sgn (eJ (cs:=cs165) dM (cW (st176.get 1 rfl) rfl) rfl (h172_.at 92) st176 rfl ?_);intro W178 st179
    refine sg (aH (h172_.at 93) (sg (aH (h172_.at 94) (aC (wp_seq (wp_seq (aB (rc st179 12 h172_.put.put.put [] [(104,.bool false),(105,.bool (tB x0)),(106,.bool (tB x0))] [qw 0 rfl (Shape.len (cW (st179.get 1 rfl) rfl)),qw 8 rfl (Shape.len (cW (st179.get 9 rfl) rfl)),qc func36 rfl (fun W s b=>aJ4 W (cW (s.get 1 rfl) rfl) (cW (s.get 9 rfl) rfl)),qk h81,qk h82] aD fun f183 W184 h183_ st185 hb186=>(sgo 104 rfl cH (bX4 (h183_.at 104) rfl) (vG underlying4 (h183_.at 105) (h183_.at 106) (sg (kW (h183_.at 104) rfl (aC (sx_f rfl h89 (wp_skip ?_)))))))))))))))
    refine wp_seq (aB (sg (aV (aC (wp_seq (aB (sg (cJ dM rfl (h183_.at 8) (st185.get 6 rfl) (Shape.len (cW (st185.get 3 rfl) rfl)) (sg (aF (v:=I 1) rfl (sg (eG func40 rfl rfl rfl ((aI0 W184 (x:=(nI x0)) (cW (st185.get 3 rfl) rfl) aA (by have:=aX3 (nI x0);omega)).mono ?_)))))))))))));rintro _ W193 ⟨rfl,hk194⟩;refine ⟨_,rfl,?_⟩
    have st195:=St.call st185 hk194
    refine sg (aH (v:=I (1+(dG (nI x0):Nat))) rfl (aC (wp_seq (wp_seq (aB (sg (aF (v:=I (1+(dG (nI x0):Nat))) rfl (sg (jG rfl rfl (aC (sx_f rfl h152 (wp_skip (wp_seq (wp_seq ?_))))))))))))))
    refine aB (lw h183_.put.put.put.put.put.put.put.put.put [(12,I (1+(dG (nI x0):Nat))),(13,I (1+(dG (nI x0):Nat)))] aD fun h203_=>(rn st195 3 h203_ [] [(116,.bool false)] [qk h156] aD fun f202 h202_=>(aC (sx_f (h202_.at 116) rfl (wp_skip (wp_seq (aB (sg (aV (aC (wr (kZ results11 rfl ?_))))))))))))
    exact ⟨rfl,st195.below⟩
   have h122:=decide_eq_true h122p
   omega
  have h82:=nd_t h82p
  exact absurd rfl h82p
 exact absurd (aZ5 h81) (by rw[mJ rfl];decide)
end Go.Proofs.YtanpcpoogkdlaaaGreat
namespace Go.Proofs.YtanpcpoogkdlaaaGreat
set_option linter.unusedSimpArgs false
set_option linter.unusedVariables false
set_option maxRecDepth 100000
set_option maxHeartbeats 2000000
open Go.ChangeShapes Go.WideShapes Go.ChangeAt Go.RowKit Go.Deep
def aL6 (t:TypeId) (α:Type) [Shape α]:Prop:=∀ {H:Type} (enc:TypeId×Value→H) (w:World) (fuel:Nat) (cs:List Value) (x:DataW H×List MemPlace),
 DataW.trod enc Tryz.prog w 0 (fun _=>true) true fuel t cs=some x→∃ (a:α) (fp:List Nat),Shape.C w cs a fp

theorem wf_I64 {n:Int} (h:(Lit.int .i64 n).wf=true):I64 n:=by
 have:=bounds_i64 h
 exact this

theorem opens_slice {t e:TypeId} {α:Type} [Shape α] (ht:Tryz.prog.underlying t=some (.slice e)) (hC:Tryz.prog.cellsOf e=Shape.size α) (hp:0<Shape.size α) (he:aL6 e α):aL6 t (List α):=by
 intro H enc w fuel cs x h
 rcases open_slice ht h with ⟨rfl,_⟩ | ⟨a,len,cap,m,n,D,Pl,rfl,_,hl,hm,hmm,_,hi⟩
 ·exact ⟨[],[],_,rfl,none,0,rfl,Nat.le_refl _,by omega,.inl ⟨rfl,rfl⟩⟩
 simp only[if_true] at hmm
 subst hmm
 unfold maxLen at hm
 have key:∀ k,k≤len→0<len→∃ (xs:List α) (fp:List Nat),xs.length=k∧a.spot=none∧SlAt w a.block a.off xs fp:=by
  intro k
  induction k with
  | zero=>
   intro _ hlp
   obtain ⟨cs',hc,_⟩:=hi 0 aA
   obtain ⟨_,hcl,hat⟩:=World.cells?_some hc
   rw[hC] at hcl hat
   have h0:=hat 0 hp
   have:a.spot=none:=by
    have hlt:0<cs'.length:=by omega
    rw[List.getElem?_eq_getElem hlt] at h0
    simpa [Addr.add] using World.cell?_spot h0
   exact ⟨[],[],rfl,this,rfl⟩
  | succ k ih=>
   intro hk hlp
   obtain ⟨xs,fp,hxl,hsp,hS⟩:=ih aA hlp
   obtain ⟨cs',hc,ht'⟩:=hi k aA
   obtain ⟨_,hcl,hat⟩:=World.cells?_some hc
   rw[hC] at hcl hat
   obtain ⟨x,f,hx⟩:=he enc w n cs' _ ht'
   refine ⟨xs++[x],fp++f,by simp[hxl],hsp,SlAt.snoc hS ?_ hx⟩
   intro j v hj
   have hjl:j<cs'.length:=(gsi_.1 hj).1
   have:=hat j aA
   rw[hj] at this
   rw[← this,hxl]
   obtain ⟨ab,ao,asp⟩:=a
   simp only at hsp
   subst hsp
   rw[Addr.add_mid,Addr.add_mid]
 by_cases hlp:0<len
 ·obtain ⟨xs,fp,hxl,hsp,hS⟩:=key len (Nat.le_refl _) hlp
  obtain ⟨ab,ao,asp⟩:=a
  simp only at hsp
  subst hsp
  subst hxl
  have hne:xs≠[]:=by rintro rfl;simp at hlp
  refine ⟨xs,ab::fp,_,rfl,_,m,rfl,hl,hm,.inr ⟨ab,ao,fp,hne,rfl,rfl,?_,hS⟩⟩
  cases xs with
  | nil=>exact absurd rfl hne
  | cons x xs=>
   obtain ⟨cs',f1,f2,hr,hc,_,_⟩:=hS
   have hl':=Shape.len hc
   have h0:=hr 0 _ (List.getElem?_eq_getElem aA)
   exact World.block_lt_of_cell? w _ h0
 obtain rfl:len=0:=by omega
 exact ⟨[],[],_,rfl,_,m,rfl,by simp,hm,.inl ⟨rfl,rfl⟩⟩

theorem wC:aL6 9 ByteArray:=by
 intro H enc w fuel cs x h
 obtain ⟨s,rfl,_,hs⟩:=DataW.trod_string Tryz.underlying9 h
 exact ⟨s,[],rfl,rfl,hs⟩

theorem tH {H:Type} {enc:TypeId×Value→H} {W W':World} (hl:laidOutB Tryz.prog=true) (hb:Below W.heap.size W W'):∀ {ts:List TypeId} {vs:List Value} {ds:List (DataW H)} {p:List MemPlace},
  (∀ t∈ts,Tryz.prog.readableRec t=true∧t<Tryz.prog.types.size)→DataW.TrodAll enc Tryz.prog W 0 (fun _=>true) true ts vs ds p→(∀ x∈p,x.block<W.heap.size) →
  DataW.TrodAll enc Tryz.prog W' 0 (fun b=>decide (b<W.heap.size)) true ts vs ds p
 | [],_,_,_,_,h,_=>by
  obtain ⟨rfl,rfl,rfl⟩:=trodAll_nil h
  exact trodAll_mk0
 | t::ts,_,_,_,ht,h,hp=>by
  obtain ⟨v1,vs1,d1,ds1,p1,q1,rfl,rfl,rfl,h1,r1⟩:=trodAll_cons h
  exact trodAll_cons_mk (Below.trod hl (ht t (by simp)).1 (ht t (by simp)).2 h1 hb (fun x hx=>hp x (by simp[hx]))) (tH hl hb (fun t' h'=>ht t' (by simp[h'])) r1 (fun x hx=>hp x (by simp[hx])))

theorem open_param_struct {H:Type} {enc:TypeId×Value→H} {W:World} {base:Nat} {t:TypeId} {fs:Array Field} {α:Type} [Shape α] (ht:Tryz.prog.underlying t=some (.struct fs)) (ho:aL6 t α) {v:Value} {d:DataW H} {p:List MemPlace}
  (hv:Value.okWide Tryz.prog W .any base t v) (h:DataW.Trod enc Tryz.prog W 0 (fun _=>true) true t v d p):∃ (cs:List Value) (x:α) (fp:List Nat),v = .agg cs.toArray∧Shape.C W cs x fp:=by
 obtain ⟨cs,rfl,hsz⟩:=okWide_struct ht hv
 obtain ⟨fuel,hf⟩:=h
 obtain ⟨x,fp,hc⟩:=ho enc W fuel _ _ hf
 exact ⟨cs.toList,x,fp,rfl,hc⟩
theorem ownKnobTry:ownKnob Tryz.prog.godebug=none:=by kernel_rfl
theorem laidOutTry:laidOutB Tryz.prog=true:=by kernel_rfl
end Go.Proofs.YtanpcpoogkdlaaaGreat
namespace Go.Proofs.YtanpcpoogkdlaaaGreat
set_option linter.unusedSimpArgs false
set_option linter.unusedVariables false
set_option maxRecDepth 100000
set_option maxHeartbeats 2000000
open Go.ChangeShapes Go.WideShapes Go.ChangeAt Go.RowKit Go.Deep
theorem opens_File:aL6 253 File:=by
 intro H enc w fuel cs x h
 obtain ⟨xs,n,_,hx,hl,hlen,hf⟩:=DataW.trod_struct Tryz.underlying253 h
 have hl':cs.length=3:=hl
 have hlen':xs.length=3:=hlen
 match cs,hl',xs,hlen' with
 | [c0,c1,c2],_,[y0,y1,y2],_=>
  obtain ⟨s0,fs0,e0,_,ws0⟩:=wC enc w n _ _ (hf 0 _ rfl)
  have e0':[c0]=[.string s0]:=e0
  obtain rfl:=List.singleton_inj.1 e0'
  obtain ⟨s1,fs1,e1,_,ws1⟩:=wC enc w n _ _ (hf 1 _ rfl)
  have e1':[c1]=[.string s1]:=e1
  obtain rfl:=List.singleton_inj.1 e1'
  obtain ⟨n2,e2,_,w2⟩:=DataW.trod_int Tryz.underlying3 (hf 2 _ rfl)
  have e2':[c2]=[I n2]:=e2
  obtain rfl:=List.singleton_inj.1 e2'
  exact ⟨⟨s0,s1,n2⟩,[],rfl,rfl,⟨ws0,ws1,wf_I64 w2⟩⟩
theorem opens_FileS:aL6 58 (List File):=opens_slice Tryz.underlying58 aD cH opens_File
theorem opens_Disk:aL6 60 Disk:=by
 intro H enc w fuel cs x h
 obtain ⟨xs,n,_,hx,hl,hlen,hf⟩:=DataW.trod_struct Tryz.underlying60 h
 have hl':cs.length=1:=hl
 have hlen':xs.length=1:=hlen
 match cs,hl',xs,hlen' with
 | [c0],_,[y0],_=>
  obtain ⟨l0,g0,u0,e0,s0⟩:=opens_FileS enc w n _ _ (hf 0 _ rfl)
  have e0':[c0]=[u0]:=e0
  obtain rfl:=List.singleton_inj.1 e0'
  exact ⟨⟨l0⟩,_,_,g0,rfl,trivial,s0,rfl⟩
end Go.Proofs.YtanpcpoogkdlaaaGreat
