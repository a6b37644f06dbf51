/-
  Runs that are forgotten, of both.
  A deed that is done, of both.
  A deed that is done, of the reference; told to the reader.
  slices.DeleteFunc, told as a reader; shelves that are swept, of the program.
  Runs that are forgotten, of the program; told to the reader.
  Runs that are changed where they lie, of the program; told to the reader.
  A deed that is done, of the program; told to the reader.
  A made slice, all zeros, of elements of several cells.
  A new crew, of both.
  What a crew's turn makes of it, and many turns; how heavy it becomes. Theory alone.
  Orders of spans: what is asked of them; the weight of a yard behind a deed. Theory alone.
  All deeds of a list, and what stays, of both; told to the reader.
  The mark of a disk, of both, given how it is read.
  A yard read out of a text, of the reference.
  The mark of a disk, of both; as calls.
  Notes replayed, and what is recovered from a disk, of both; told to the reader.
  A call to an engine, of both; told to the reader.
  An engine that boots, of both; told to the reader.
  Engines that boot, as calls.
  The laws' marks, walked.
  The law on Boot, walked.
  What is handed to a law, taken out of the row's reading: it is data in memory, as the walks want it.
  A law's arguments, taken out of the row's reading.
-/
import Derived.ProofKit
import Derived.OpenShut
import Derived.Test.YtanpcpoogkdlaaaGreatQ01
import Derived.Test.YtanpcpoogkdlaaaGreatQ02
import Derived.Test.YtanpcpoogkdlaaaGreatQ03
import Derived.Test.YtanpcpoogkdlaaaGreatQ04
import Derived.Test.YtanpcpoogkdlaaaGreatQ05
import Derived.Test.YtanpcpoogkdlaaaGreatQ06
namespace Go.Proofs.YtanpcpoogkdlaaaGreat
set_option linter.unusedSimpArgs false
set_option linter.unusedVariables false
set_option maxRecDepth 100000
set_option maxHeartbeats 2000000
open Go.RowKit Go.Proofs.Tryz List
variable (w:World) {cs ds:List Value} {fp gp:List Nat}
def flE (id:Int) (l:List Entry):List Entry:=l.filter (fun e => !decide (e.run=id))
theorem flE_t {id:Int} {l:List Entry} {k:Nat} {e:Entry} (he:l[k]? = some e) (h:¬ e.run=id):flE id (l.take (k+1))=flE id (l.take k)++[e]:=by
 obtain ⟨hk,rfl⟩:=gsi_.1 he
 unfold flE;rw[take_succ_eq_append_getElem hk,filter_append];simp[h]
theorem flE_f {id:Int} {l:List Entry} {k:Nat} {e:Entry} (he:l[k]? = some e) (h:e.run=id):flE id (l.take (k+1))=flE id (l.take k):=by
 obtain ⟨hk,rfl⟩:=gsi_.1 he
 unfold flE;rw[take_succ_eq_append_getElem hk,filter_append];simp[h]
theorem bD3 (id:Int) (l:List Entry):(flE id l).length≤l.length:=length_filter_le _ _
def rI (id:Int) (xss:List (List Entry)) (i:Nat):List (List Entry):=(xss.take i).map (flE id)++xss.drop i
theorem zF (id:Int) (xss:List (List Entry)):rI id xss 0=xss:=by simp[rI]
theorem bL9 (id:Int) (xss:List (List Entry)) (i:Nat):(rI id xss i).length=xss.length:=by simp[rI];omega
theorem bD4 {id:Int} {xss:List (List Entry)} {i:Nat} {l:List Entry} (h:xss[i]? = some l):(rI id xss i)[i]? = some l:=by
 have hl:=(gsi_.1 h).1
 unfold rI
 rw[getElem?_append_right (by simp;omega)]
 simp only[length_map,length_take,getElem?_drop]
 rw[← h];congr 1;omega
theorem aN0 {id:Int} {xss:List (List Entry)} {i:Nat} {l:List Entry} (h:xss[i]? = some l):(rI id xss i).set i (flE id l)=rI id xss (i+1):=by
 obtain ⟨hl,rfl⟩:=gsi_.1 h
 unfold rI
 have e1:((xss.take i).map (flE id)).length=i:=by simp;omega
 rw[set_append_right _ _ aB,e1,Nat.sub_self,take_succ_eq_append_getElem hl,map_append,append_assoc]
 congr 1
 exact (congrArg (fun z=>z.set 0 (flE id xss[i])) (drop_eq_getElem_cons hl)).trans rfl
theorem aN1 {id:Int} {xss:List (List Entry)} {i:Nat} (h:i=xss.length):rI id xss i=xss.map (flE id):=by subst h;simp[rI]
def aM8 (y:Yard) (id:Int) (k:Nat):Yard:=⟨y.now,y.seq,y.shelf.map (flE id),y.runs.eraseIdx k⟩
noncomputable def bG (y:Yard) (id:Int):Yard×Int:=
 if aM y=false then (y,8) else match y.runs[(aH y id).toNat]? with
  | some r=>if aH y id<0 then (y,10) else if r.state=1 then (y,13) else (aM8 y id (aH y id).toNat,0)
  | none=>(y,10)
theorem xL {y:Yard} {id:Int} (h0:aM y=true) (h:aH y id<0):bG y id=(y,10):=by
 unfold bG
 rw[if_neg (by rw[h0];decide)]
 cases y.runs[(aH y id).toNat]? with
 | none=>rfl
 | some r=>simp only;rw[if_pos h]
theorem lA {y:Yard} {id:Int} {r:Run} (h0:aM y=true) (h:¬ aH y id<0) (hr:y.runs[(aH y id).toNat]? = some r):bG y id=if r.state=1 then (y,13) else (aM8 y id (aH y id).toNat,0):=by
 unfold bG
 rw[if_neg (by rw[h0];decide),hr]
 simp only
 rw[if_neg h]
section
variable {P:Program} {n:Nat} {f:Nat→Value} {w0 W:World} {rs:List Res} {Q:Exit→Act→World→Prop} {d:Option Tmp} {ty:TypeId} {pos:String} {af:Array Go.Edge} {g:Option (Nat×Bool)} {K:Value→World→Prop} {α:Type} [Shape α]
theorem lX {t e e':TypeId} {bytes:Nat} {s x:Operand} {v:Value} {xs ys:List α} {fe fy:List Nat} {ad:Addr} {c m b o:Nat} {C cells:List Value} (hT:ApOk P t e α bytes) (hs:ev n f s=v) (hx:ev n f x = .slice (some ad) m c) (hm:ys.length=m) (had:0<m→ad=⟨b,o,none⟩) (hcl:cells=(C.drop o).take (m*Shape.size α))
  (hst:St w0 W (Res.row e v xs fe::Res.es cells ys fy::Res.bx b C e'::rs)) (h63:xs.length+m≤maxLen) (hby:(xs.length+m)*bytes≤140737488355328)
  (k:∀ v' W',St w0 W' (Res.row e v' (xs++ys) (fe++fy)::Res.bx b C e'::rs)→K v' W') :
  Stp P n ⟨d,.call { callee := .builtin .append,args := #[s,x],argTypes := #[t,t] },ty,pos,af,g⟩ f W Q K:=by
 have hE:=hst.get 1 rfl
 have hB:W.heap[b]? = some (.cells C.toArray e' (0,0)):=hst.get 2 rfl
 have hn:=hst.nodup
 have h2:=hst.f1
 have hn2:=h2.nodup
 rw[flatMap_cons,nodup_append] at hn2
 refine nT hT hs hx hm hst.d1 hE.1 ?_ hE.2 hn2.1 ?_ h63 hby k
 ·intro j u hj
  have hj2:=(gsi_.1 hj).1
  rw[hE.1.len,hm] at hj2
  have hm0:0<m:=Nat.pos_of_ne_zero (fun h0=>by rw[h0] at hj2;simp at hj2)
  rw[had hm0,Addr.add_mid]
  rw[hcl] at hj
  have:=bE hB (o+j) u (aK8 hj)
  simpa using this
 intro a ha
 refine ⟨fun h=>hn2.2.2 a ha a ?_ rfl,fun h=>hn2.2.2 a ha a ?_ rfl,h2.fresh (Res.es cells ys fy) (by simp) a ha⟩
 ·rw[flatMap_cons];exact mem_append_left _ h
 rw[flatMap_cons];exact mem_append_right _ h
theorem bY8 {C:List Value} {o N k s:Nat} (h:k≤N):((C.drop o).take (N*s)).drop (k*s)=(C.drop (o+k*s)).take ((N - k)*s):=by
 rw[drop_take,drop_drop,Nat.sub_mul]
theorem St.es_split {w0 W:World} {rs:List Res} {cells:List Value} {xs:List α} {fe:List Nat} (h:St w0 W (Res.es cells xs fe::rs)) {k:Nat} (hk:k<xs.length) :
  ∃ f1 f3,St w0 W (Res.es (cells.take (k*Shape.size α)) (xs.take k) f1::Res.es (cells.drop ((k+1)*Shape.size α)) (xs.drop (k+1)) f3::rs):=by
 have hh:=h.get 0 rfl
 obtain ⟨f1,g,rfl,h1,h2⟩:=hh.1.parts' k aB
 obtain ⟨f2,f3,rfl,h3,h4⟩:=h2.parts' 1 (by rw[length_drop];omega)
 rw[drop_drop,drop_drop,show k*Shape.size α+1*Shape.size α=(k+1)*Shape.size α by rw[Nat.add_mul]] at h4
 refine ⟨f1,f3,St.trade (rs1:=[Res.es cells xs (f1++(f2++f3))]) (rs2:=[Res.es (cells.take (k*Shape.size α)) (xs.take k) f1,Res.es (cells.drop ((k+1)*Shape.size α)) (xs.drop (k+1)) f3]) h ?_ ?_ ?_⟩
 ·have:=h.nodup
  rw[flatMap_cons,nodup_append] at this
  have h5:(f1++(f2++f3)).Nodup:=this.1
  have h6:(f1++f3).Sublist (f1++(f2++f3)):=(List.Sublist.refl _).append (sublist_append_right _ _)
  simpa [Res.es] using h6.nodup h5
 ·intro c hc;simp[Res.es] at hc ⊢;rcases hc with hc | hc <;> simp[hc]
 intro r hr
 rcases mem_cons.1 hr with rfl | hr
 ·exact ⟨h1,fun c hc=>hh.2 c (by simp[hc])⟩
 rw[mem_singleton] at hr;subst hr
 exact ⟨h4,fun c hc=>hh.2 c (by simp[hc])⟩
end

theorem ForgetS {y:Yard} (hc:Shape.C w cs y fp) (id:Int) (hid:I64 id) (hw:y.wt≤1048576) :
  Calls prog 225 #[.agg cs.toArray,I id] w fun e w'=>∃ (cs':List Value) (fp':List Nat),e = .returned (.tuple #[.agg cs'.toArray,I (bG y id).2])∧St w w' [Res.own (.agg cs'.toArray) (bG y id).1 fp']:=by
 have hyok:y.ok:=by obtain ⟨v0,v1,g0,g1,rfl,hok,h0,h1,rfl⟩:=hc;exact hok
 have hy1:I64 y.now:=hyok.1
 have hysl:y.shelf.length≤y.wt:=by unfold Yard.wt wtL;omega
 refine fZ func225 rfl ntmps225 cB (wp_seq (aA (sg (eW (cs:=cs) rfl (St.start w) ?_))));intro b1 W2 hb3 st4
 refine sg (gR wB st4 ?_);intro b6 W7 hb8 st9
 refine sg (aT (aC (wp_seq (aA (sg (cT fX rfl rfl (st9.get 1 rfl) (Shape.len hc) (sg (kG func184 rfl rfl ((CopyYardT W7 (jZ hc st9.below) aB).mono ?_)))))))));rintro _ W17 ⟨cs15,fp15,rfl,hk18⟩;refine ⟨_,rfl,?_⟩
 have st19:=St.call st9 hk18
 refine sg (gR wB st19 ?_);intro b21 W22 hb23 st24
 refine sgn (eT (cs:=cs15) fX (dF (st24.get 1 rfl) rfl) rfl rfl st24 rfl ?_);intro W26 st27
 refine aC (wp_seq (aA (rc st27 4 Ag.nil.put.put.put.put.put.put.put.put [] [(7,I (aH y id))] [qw 3 rfl (Shape.len hc),qc func291 rfl (fun W s b=>RunAtS W (jZ hc s.below) id aB)] aD fun f29 W30 h29_ st31 hb32=>(aC (wp_seq (wp_block (wp_seq (aA (rc st31 4 h29_ [] [(16,.bool (!(aM y)))] [qw 3 rfl (Shape.len hc),qc func185 rfl (fun W s b=>YardOkT W (jZ hc s.below) aB),.o] aD fun f34 W35 h34_ st36 hb37=>(aC (uD (h34_.at 16) (fun h38 => ?_) (fun h38 => ?_))))))))))))
 ·refine wp_seq (aA (sg (cT fX rfl (h34_.at 6) (st36.get 0 rfl) (Shape.len (dF (st36.get 1 rfl) rfl)) (sgn (eT (cs:=cs15) fX (dF (st36.f2.get 2 rfl) rfl) (h34_.at 4) rfl st36.f2 rfl ?_)))));intro W42 st43
  refine sg (aT (aC (wr (bH1 fX rfl results225 (h34_.at 4) (st43.get 0 rfl) (Shape.len (dF (st43.get 2 rfl) rfl)) rfl ?_))))
  have hfe:bG y id=(y,8):=by unfold bG;rw[if_pos (bE0 h38)]
  rw[hfe]
  exact ⟨_,_,rfl,st43.f2.d1.d1.d1⟩
 refine wp_seq (aA (rn st36 3 h34_ [] [(21,.bool (decide ((aH y id)<0)))] [.o] aD fun f51 h51_=>(aC (cE (h51_.at 21) (fun h52p => ?_) (fun h52p => ?_)))))
 ·refine wp_seq (aA (sg (cT fX rfl (h51_.at 6) (st36.get 0 rfl) (Shape.len (dF (st36.get 1 rfl) rfl)) (sgn (eT (cs:=cs15) fX (dF (st36.f2.get 2 rfl) rfl) (h51_.at 4) rfl st36.f2 rfl ?_)))));intro W56 st57
  refine sg (aT (aC (wr (bH1 fX rfl results225 (h51_.at 4) (st57.get 0 rfl) (Shape.len (dF (st57.get 2 rfl) rfl)) rfl ?_))))
  have hfe:bG y id=(y,10):=xL (aO8 h38) h52p
  rw[hfe]
  exact ⟨_,_,rfl,st57.f2.d1.d1.d1⟩
 refine wp_seq ?_
 have hY:=kA (aO8 h38)
 have hra:=h52p
 obtain ⟨r,hr⟩:=wU hra
 have hrk:(aH y id).toNat<y.runs.length:=(gsi_.1 hr).1
 have hr8:=hY.runs
 have hs4:=hY.shelf
 have hk8:aH y id=(((aH y id).toNat:Nat):Int):=by omega
 refine aA ?_
 have hk65:=hc
 obtain ⟨v65_0,v65_1,g65_0,g65_1,rfl,hok65,h65_0,h65_1,rfl⟩:=hk65
 have hi9ceb2:(aH y id).toNat<y.runs.length:=(gsi_.1 hr).1
 obtain ⟨b66,o66,cs66,f66,hp66,hr66,hc66,hm66⟩:=idxq h65_1 (i:=(aH y id).toNat) hr
 have hk67:=hc66
 obtain ⟨v67_0,v67_1,g67_0,g67_1,rfl,hok67,h67_0,h67_1,rfl⟩:=hk67
 refine rn st36 8 h51_ [] [(25,.bool (decide (r.state=1)))] [qb 3 rfl 3,qxe hp66 (e:=aH y id) aB,qr hr66 6,.o] aD fun f68 h68_=>(aC (cE (h68_.at 25) (fun h69p => ?_) (fun h69p => ?_)))
 ·refine wp_seq (aA (sg (cT fX rfl (h68_.at 6) (st36.get 0 rfl) (Shape.len (dF (st36.get 1 rfl) rfl)) (sgn (eT (cs:=cs15) fX (dF (st36.f2.get 2 rfl) rfl) (h68_.at 4) rfl st36.f2 rfl ?_)))));intro W73 st74
  refine sg (aT (aC (wr (bH1 fX rfl results225 (h68_.at 4) (st74.get 0 rfl) (Shape.len (dF (st74.get 2 rfl) rfl)) rfl ?_))))
  have hfe:bG y id=(y,13):=by rw[lA (aO8 h38) hra hr,if_pos aB]
  rw[hfe]
  exact ⟨_,_,rfl,st74.f2.d1.d1.d1⟩
 refine wp_skip (wp_seq ?_)
 obtain ⟨v82_0,v82_1,g82_0,g82_1,he82,hok82,st83⟩:=yU st36.f1
 subst he82
 have hq_:=St.ownOpen' st83.f1 cB aB
 obtain ⟨bD,oD,cD,CD,eD,feD,hvD,hcD,hmD,hlD,st87⟩:=hq_
 obtain ⟨fE0,fE1,st88⟩:=st87.f1.es_split hrk
 subst hvD
 rcases nem ((aH y id).toNat+1<cD) with h139p | h139p
 ·refine oU 11 [(none,some 5,.is (Res.es (((CD.drop oD).take (y.runs.length*8)).take ((aH y id).toNat*8)) (y.runs.take (aH y id).toNat) fE0)),(some 0,some 5,.of (ι:=Nat) [34] (fun b170=>[(.slice (some ⟨b170,0,none⟩) 0 0)]) (fun b170=>Res.row (α:=Run) 55 (.slice (some ⟨b170,0,none⟩) 0 0) [] [])),(some 5,none,.of (ι:=Value) [39] (fun v179=>[v179]) (fun v179=>Res.row (α:=Run) 55 v179 ([]++(y.runs.take (aH y id).toNat)) ([]++fE0)))] [(false,.ex (fun (b170:Nat)=>(.slice (some ⟨b170,0,none⟩) 0 0))),(true,.is (.pointer (some ⟨b21,0+3,none⟩))),(true,.is (.slice (some ⟨bD,oD,none⟩) y.runs.length cD)),(true,.is (I (aH y id))),(true,.is (.slice (some ⟨bD,oD,none⟩) (aH y id).toNat cD)),(false,.ex (fun (v179:Value)=>v179)),(true,.is (.pointer (some ⟨b21,0+3,none⟩))),(true,.is (.slice (some ⟨bD,oD,none⟩) y.runs.length cD)),(true,.is (I (aH y id))),(true,.is (I ((aH y id)+1))),(true,.is (.slice (some ⟨bD,oD,none⟩) 0 0))] mix aD aD aD aD (rs0:=[Res.es (((CD.drop oD).take (y.runs.length*8)).take ((aH y id).toNat*8)) (y.runs.take (aH y id).toNat) fE0]) ⟨_,_,rfl,rfl,rfl⟩ st88 st88.below ⟨?_,(fq_ nN (h68_.at 6)),(fun f W hst hbl hd hf=>gD aE2 rfl (hd 1 35 rfl rfl) (hst.get 3 rfl) (i:=3) rfl rfl brq),(mq_ (h68_.at 7)),(fun f W hst hbl hd hf=>yO (h:=(aH y id).toNat) iI (hd 2 36 rfl rfl) (hd 3 37 rfl rfl) aB aB aB brq),?_,(fq_ nN (h68_.at 6)),(fun f W hst hbl hd hf=>gD aE2 rfl (hd 6 40 rfl rfl) (hst.get 3 rfl) (i:=3) rfl rfl brq),(mq_ (h68_.at 7)),(fun f W hst hbl hd hf=>nC (hd 8 42 rfl rfl) rfl bP5 brq),(fun f W hst hbl hd hf=>cE3 (l:=(aH y id).toNat+1) iI (hd 7 41 rfl rfl) (hd 9 43 rfl rfl) aB aB aB brq),trivial⟩ ?_
  ·intro f W ru oth hu hst hbl hd hf
   have hn_:ru=[]:=hu
   subst hn_
   try simp only[cap_,yX] at hst
   refine (cF (cs:=[]) (e:=55) aJ3 (iD tR _) hst ?_);intro b170 W171 hb172 st173
   have st173:=st173.row_empty (α:=Run)
   exact ⟨⟨b170,rfl⟩,⟨_,⟨_,_,rfl,⟨b170,(ce rfl rfl),rfl⟩,rfl⟩,st173⟩,st173.below⟩
  ·intro f W ru oth hu hst hbl hd hf
   obtain ⟨_,_,rfl,rfl,_,_,rfl,⟨b170,he175,rfl⟩,hn_⟩:=hu
   have hn_:_=[]:=hn_
   subst hn_
   have hu175_34:f 34=(.slice (some ⟨b170,0,none⟩) 0 0):=congrArg (fun l=>l.getD 0 undef) he175
   try simp only[cap_,yX] at hst
   have st176:=hst.f3
   refine (lX (α:=Run) (m:=(aH y id).toNat) (o:=oD) tR hu175_34 (hd 4 38 rfl rfl) (by rw[length_take];omega) (fun _=>rfl) (by rw[take_take];congr 1;have hz:(aH y id).toNat*8≤y.runs.length*8:=Nat.mul_le_mul_right _ aB;exact (Nat.min_eq_left hz).symm▸rfl) st176.f1.f2 (by simp only[length_append,length_take,length_nil];unfold maxLen;omega) (by simp only[length_append,length_take,length_nil];omega) ?_);intro v179 W180 st181
   exact ⟨⟨v179,rfl⟩,⟨_,⟨_,_,rfl,⟨v179,(ce rfl rfl),rfl⟩,rfl⟩,st181.f6.f6.f6.f6.f5.f6.f6⟩,st181.f6.f6.f6.f6.f5.f6.f6.below⟩
  intro f189 W190 rs_ hAL_ st193 hbl194 hv191 hf192
  obtain ⟨_,_,rfl,⟨v179,he195,rfl⟩,hn_⟩:=hAL_
  have hn_:_=[]:=hn_
  subst hn_
  have hu195_39:f189 39=v179:=congrArg (fun l=>l.getD 0 undef) he195
  try simp only[cap_,yX] at st193
  have st197:=st193.f2
  refine sg (lX (α:=Run) (m:=y.runs.length - ((aH y id).toNat+1)) (o:=oD+((aH y id).toNat+1)*8) tR hu195_39 (Eq.trans (hv191 10 44 cB rfl) (by rw[show y.runs.length - ((aH y id).toNat+1)=0 by omega])) (by rw[length_drop]) (fun hz=>by omega) (bY8 aB) st197.f2.f2 (by simp only[length_append,length_take,length_nil];unfold maxLen;omega) (by simp only[length_append,length_take,length_nil];omega) ?_);intro v200 W201 st202
  refine sg (cS nN ((hf192 6 rfl).trans (h68_.at 6)) (sgn (lW (v:=v200) aD rfl rfl (Sl.cells (gT (st202.f3.get 1 rfl))) (Sl.one (gT (st202.f3.get 1 rfl))) st202.f3 iZ rfl ?_)));intro W206 st207
  refine aC (wp_seq (wp_seq (aA (sg (aT (aC (wp_block (dJ (fun (m:Nat) (f:Nat→Value) (W:World)=>∃ (i:Nat) (fo210:List Nat),i≤y.shelf.length∧m=y.shelf.length - i∧Ag [(1,I id),(4,pt_ b6),(6,pt_ b21),(8,I (i:Int))] f∧St w W ([Res.bx b21 [I y.now,I y.seq,v82_0,v200] 27,Res.row (α:=Run) 55 v200 (([]++(y.runs.take (aH y id).toNat))++(y.runs.drop ((aH y id).toNat+1))) (([]++fE0)++fE1),Res.bx bD CD eD,Res.own (α:=List (List Entry)) v82_0 (rI id y.shelf i) fo210,Res.bx b6 [I 0,I 0,.slice none 0 0,.slice none 0 0] 27,Res.bx b1 [I y.now,I y.seq,v65_0,v65_1] 27])) (y.shelf.length - 0) ?_ ?_))))))))
  ·exact ⟨0,g82_0,Nat.zero_le _,rfl,(Ag.cons ((hf192 1 rfl).trans (h68_.at 1)) (Ag.cons ((hf192 4 rfl).trans (h68_.at 4)) (Ag.cons ((hf192 6 rfl).trans (h68_.at 6)) (Ag.cons rfl Ag.nil)))),(by rw[zF];exact st207)⟩
  intro m211 f212 W213 hJ214
  obtain ⟨i,fo210,hil,rfl,hA216,st215⟩:=hJ214
  have hfl:=bL9 id y.shelf i
  refine wp_seq (wp_seq (aA (rn st215 5 hA216 [] [(51,.bool (decide ((i:Int)<((rI id y.shelf i).length:Int))))] [qb 0 rfl 2,ql (bO (st215.get 3 rfl)),.o] aD fun f218 h218_=>(aC (cE (h218_.at 51) (fun h219p => ?_) (fun h219p => ?_))))))
  ·refine wp_skip (wp_seq (wp_block (wp_seq ?_)))
   have hq_:=fW (xs:=y.shelf) (i:=i) aB
   obtain ⟨l,hl⟩:=hq_
   have hla:=bD4 (id:=id) hl
   have hl80:=oW (hY.each l (mem_of_getElem? hl))
   have hq_:=St.lendx (α:=List Entry) cB st215.f3 (x:=l) hla
   obtain ⟨b221,e221,pre221,cs221,post221,fi221,fr221,hPA221,hC221,st222⟩:=hq_
   have hq_:=st222.f1.uncs1
   obtain ⟨v221,he221,st227⟩:=hq_;subst he221
   refine aA (sg (cF (cs:=[]) (e:=243) aJ3 (iD jA _) st227 ?_));intro b228 W229 hb230 st231
   have st231:=st231.row_empty (α:=Entry)
   refine sg (aG (v:=(.slice (some ⟨b228,0,none⟩) 0 0)) rfl (aC (wp_seq (wp_seq (aA (sg (aT (aC (wp_block (dJ (fun (m:Nat) (f:Nat→Value) (W:World)=>∃ (j:Nat) (v237:Value),j≤l.length∧m=l.length - j∧Ag [(1,I id),(4,pt_ b6),(6,pt_ b21),(8,I (i:Int)),(9,v237),(10,I (j:Int))] f∧St w W ([Res.row (α:=Entry) 243 v237 (flE id (l.take j)) [],Res.own (α:=List Entry) v221 l fi221,Res.bx b221 (pre221++[v221]++post221) e221,Res.rest (α:=(List Entry)) v82_0 b221 pre221 post221 (rI id y.shelf i) i fr221,Res.bx b21 [I y.now,I y.seq,v82_0,v200] 27,Res.row (α:=Run) 55 v200 (([]++(y.runs.take (aH y id).toNat))++(y.runs.drop ((aH y id).toNat+1))) (([]++fE0)++fE1),Res.bx bD CD eD,Res.bx b6 [I 0,I 0,.slice none 0 0,.slice none 0 0] 27,Res.bx b1 [I y.now,I y.seq,v65_0,v65_1] 27])) (l.length - 0) ?_ ?_))))))))))
   ·exact ⟨0,(.slice (some ⟨b228,0,none⟩) 0 0),Nat.zero_le _,rfl,(h218_.put.put.put.to aD),st231⟩
   intro m238 f239 W240 hJ241
   obtain ⟨j,v237,hjl,rfl,hA243,st242⟩:=hJ241
   have hfn:=bD3 id (l.take j)
   have htl:=length_take_le j l
   refine wp_seq (wp_seq (aA (rn st242 8 hA243 [] [(62,.bool (decide ((j:Int)<(l.length:Int))))] [qb 4 rfl 2,qx hPA221,qp 2 rfl 0,ql (bO (st242.get 1 rfl)),.o] aD fun f245 h245_=>(aC (cE (h245_.at 62) (fun h246p => ?_) (fun h246p => ?_))))))
   ·refine wp_skip (wp_seq (wp_block (wp_seq ?_)))
    have hq_:=fW (xs:=l) (i:=j) aB
    obtain ⟨e,he⟩:=hq_
    refine aA ?_
    have hi1fd33:j<l.length:=(gsi_.1 he).1
    obtain ⟨b248,o248,cs248,f248,hp248,hr248,hc248,hm248⟩:=idxq (bO (st242.get 1 rfl)) (i:=j) he
    have hk249:=hc248
    obtain ⟨he249,rfl,hok249⟩:=hk249
    have he249:_=[I e.prio,I e.seq,I e.run,I e.task]:=he249
    subst he249
    refine rn st242 11 h245_ [] [(75,.bool (!decide (e.run=id)))] [qb 4 rfl 2,qx hPA221,qp 2 rfl 0,qx hp248,qn hr248 2,.o] aD fun f250 h250_=>(aC (eP (h250_.at 75) (fun h251p => ?_) (fun h251p => ?_)))
    ·refine aA (rn st242 9 h250_ [] [(76,v237),(84,.agg #[I e.prio,I e.seq,I e.run,I e.task])] [qb 4 rfl 2,qx hPA221,qp 2 rfl 0,qx hp248,qn hr248 0] aD fun f253 h253_ => ?_)
     have hoke:e.ok:=(hc248).2.2
     refine sg (cF (cs:=[I e.prio,I e.seq,I e.run,I e.task]) (e:=243) (aJ7 (h253_.at 84) aJ3) (jU jA _ _ rfl rfl cB) st242 ?_);intro b254 W255 hb256 st257
     refine sg (lY (ys:=[(⟨e.prio,e.seq,e.run,e.task⟩:Entry)]) jA (h253_.at 76) rfl rfl st257.f1 (Elems.one1 (show Shape.C _ [I e.prio,I e.seq,I e.run,I e.task] e [] from ⟨rfl,rfl,hoke⟩)) (by unfold maxLen;omega) aB ?_);intro v260 W261 st262
     refine sg (aG (v:=v260) rfl (aC (aA (rn st262 3 h253_.put.put.put [10] [(10,I ((j:Int)+1))] [qad (j:Int) 1] aD fun f266 h266_=>(aC ?_)))))
     exact ⟨_,l.length - (j+1),aB,rfl,j+1,v260,aB,rfl,(h266_.to aD),(by rw[flE_t he aB];exact st262)⟩
    refine wp_skip (aA (rn st242 3 h250_ [10] [(10,I ((j:Int)+1))] [qad (j:Int) 1] aD fun f268 h268_=>(aC ?_)))
    exact ⟨_,l.length - (j+1),aB,rfl,j+1,v237,aB,rfl,(h268_.to aD),(by rw[flE_f he aB];exact st242)⟩
   refine wp_exit ?_
   have hje:j=l.length:=by omega
   rw[hje,take_length] at st242
   obtain ⟨fp269,st270⟩:=st242.shut
   refine aA (rn st270 5 h245_ [] [(90,v237),(91,.pointer (some ⟨b221,pre221.length,none⟩))] [qb 4 rfl 2,qx hPA221] aD fun f272 h272_=>(sgn (aS (i:=0) (v:=v237) aD (h272_.at 91) (h272_.at 90) (Sl.cells (bO (st270.f2.get 1 rfl))) (Sl.one (bO (st270.f2.get 1 rfl))) st270.f2 rfl iZ rfl ?_)));intro W274 st275
   refine aC (aA (rn st275 3 h272_ [8] [(8,I ((i:Int)+1))] [qad (i:Int) 1] aD fun f277 h277_=>(aC ?_)))
   have st279:=st275.f1.cs1
   obtain ⟨fp283,st284⟩:=St.give (α:=List Entry) st279.f3.f1.f2
   exact ⟨_,y.shelf.length - (i+1),aB,rfl,i+1,fp283,aB,rfl,(h277_.to aD),(by rw[← aN0 hl];exact st284.f6.f6.f2.f6.f6.f6.d6)⟩
  refine wp_exit (wp_seq (aA (sg (nB (cs:=[I y.now,I y.seq,v82_0,v200]) fX rfl (h218_.at 6) (st215.get 0 rfl) rfl rfl (sgn (gK aD (h218_.at 4) rfl (dQ rfl (dQ rfl (dQ (Sl.one (bO (st215.f4.get 4 rfl))) (dQ (Sl.one (gT (st215.f4.get 2 rfl))) xD)))) st215.f4 iZ rfl ?_))))));intro W295 st296
  refine sg (aT (aC (wr (bH1 fX rfl results225 (h218_.at 4) (st296.get 0 rfl) rfl rfl ?_))))
  have hie:i=y.shelf.length:=by omega
  rw[aN1 hie] at st296
  have hera:([]++(y.runs.take (aH y id).toNat))++(y.runs.drop ((aH y id).toNat+1))=y.runs.eraseIdx (aH y id).toNat:=by rw[nil_append,eraseIdx_eq_take_drop_succ]
  rw[hera] at st296
  have st299:=st296.f2
  obtain ⟨fp301,st300⟩:=st299.shut
  have st303:=nK (x:=(aM8 y id (aH y id).toNat)) st300.f4 hyok
  have hfe:bG y id=((aM8 y id (aH y id).toNat),0):=by rw[lA (aO8 h38) hra hr,if_neg aB]
  rw[hfe]
  exact ⟨_,_,rfl,st303.d1.d1.d1.d1⟩
 refine oU 11 [(none,some 5,.is (Res.es (((CD.drop oD).take (y.runs.length*8)).take ((aH y id).toNat*8)) (y.runs.take (aH y id).toNat) fE0)),(some 0,some 5,.of (ι:=Nat) [34] (fun b339=>[(.slice (some ⟨b339,0,none⟩) 0 0)]) (fun b339=>Res.row (α:=Run) 55 (.slice (some ⟨b339,0,none⟩) 0 0) [] [])),(some 5,none,.of (ι:=Value) [39] (fun v348=>[v348]) (fun v348=>Res.row (α:=Run) 55 v348 ([]++(y.runs.take (aH y id).toNat)) ([]++fE0)))] [(false,.ex (fun (b339:Nat)=>(.slice (some ⟨b339,0,none⟩) 0 0))),(true,.is (.pointer (some ⟨b21,0+3,none⟩))),(true,.is (.slice (some ⟨bD,oD,none⟩) y.runs.length cD)),(true,.is (I (aH y id))),(true,.is (.slice (some ⟨bD,oD,none⟩) (aH y id).toNat cD)),(false,.ex (fun (v348:Value)=>v348)),(true,.is (.pointer (some ⟨b21,0+3,none⟩))),(true,.is (.slice (some ⟨bD,oD,none⟩) y.runs.length cD)),(true,.is (I (aH y id))),(true,.is (I ((aH y id)+1))),(true,.is (.slice (some ⟨bD,oD+((aH y id).toNat+1)*8,none⟩) (y.runs.length - ((aH y id).toNat+1)) (cD - ((aH y id).toNat+1))))] mix aD aD aD aD (rs0:=[Res.es (((CD.drop oD).take (y.runs.length*8)).take ((aH y id).toNat*8)) (y.runs.take (aH y id).toNat) fE0]) ⟨_,_,rfl,rfl,rfl⟩ st88 st88.below ⟨?_,(fq_ nN (h68_.at 6)),(fun f W hst hbl hd hf=>gD aE2 rfl (hd 1 35 rfl rfl) (hst.get 3 rfl) (i:=3) rfl rfl brq),(mq_ (h68_.at 7)),(fun f W hst hbl hd hf=>yO (h:=(aH y id).toNat) iI (hd 2 36 rfl rfl) (hd 3 37 rfl rfl) aB aB aB brq),?_,(fq_ nN (h68_.at 6)),(fun f W hst hbl hd hf=>gD aE2 rfl (hd 6 40 rfl rfl) (hst.get 3 rfl) (i:=3) rfl rfl brq),(mq_ (h68_.at 7)),(fun f W hst hbl hd hf=>nC (hd 8 42 rfl rfl) rfl bP5 brq),(fun f W hst hbl hd hf=>qS (l:=(aH y id).toNat+1) iI (hd 7 41 rfl rfl) (hd 9 43 rfl rfl) aB aB aB brq),trivial⟩ ?_
 ·intro f W ru oth hu hst hbl hd hf
  have hn_:ru=[]:=hu
  subst hn_
  try simp only[cap_,yX] at hst
  refine (cF (cs:=[]) (e:=55) aJ3 (iD tR _) hst ?_);intro b339 W340 hb341 st342
  have st342:=st342.row_empty (α:=Run)
  exact ⟨⟨b339,rfl⟩,⟨_,⟨_,_,rfl,⟨b339,(ce rfl rfl),rfl⟩,rfl⟩,st342⟩,st342.below⟩
 ·intro f W ru oth hu hst hbl hd hf
  obtain ⟨_,_,rfl,rfl,_,_,rfl,⟨b339,he344,rfl⟩,hn_⟩:=hu
  have hn_:_=[]:=hn_
  subst hn_
  have hu344_34:f 34=(.slice (some ⟨b339,0,none⟩) 0 0):=congrArg (fun l=>l.getD 0 undef) he344
  try simp only[cap_,yX] at hst
  have st345:=hst.f3
  refine (lX (α:=Run) (m:=(aH y id).toNat) (o:=oD) tR hu344_34 (hd 4 38 rfl rfl) (by rw[length_take];omega) (fun _=>rfl) (by rw[take_take];congr 1;have hz:(aH y id).toNat*8≤y.runs.length*8:=Nat.mul_le_mul_right _ aB;exact (Nat.min_eq_left hz).symm▸rfl) st345.f1.f2 (by simp only[length_append,length_take,length_nil];unfold maxLen;omega) (by simp only[length_append,length_take,length_nil];omega) ?_);intro v348 W349 st350
  exact ⟨⟨v348,rfl⟩,⟨_,⟨_,_,rfl,⟨v348,(ce rfl rfl),rfl⟩,rfl⟩,st350.f6.f6.f6.f6.f5.f6.f6⟩,st350.f6.f6.f6.f6.f5.f6.f6.below⟩
 intro f358 W359 rs_ hAL_ st362 hbl363 hv360 hf361
 obtain ⟨_,_,rfl,⟨v348,he364,rfl⟩,hn_⟩:=hAL_
 have hn_:_=[]:=hn_
 subst hn_
 have hu364_39:f358 39=v348:=congrArg (fun l=>l.getD 0 undef) he364
 try simp only[cap_,yX] at st362
 have st366:=st362.f2
 refine sg (lX (α:=Run) (m:=y.runs.length - ((aH y id).toNat+1)) (o:=oD+((aH y id).toNat+1)*8) tR hu364_39 (hv360 10 44 cB rfl) (by rw[length_drop]) (fun _=>rfl) (bY8 aB) st366.f2.f2 (by simp only[length_append,length_take,length_nil];unfold maxLen;omega) (by simp only[length_append,length_take,length_nil];omega) ?_);intro v369 W370 st371
 refine sg (cS nN ((hf361 6 rfl).trans (h68_.at 6)) (sgn (lW (v:=v369) aD rfl rfl (Sl.cells (gT (st371.f3.get 1 rfl))) (Sl.one (gT (st371.f3.get 1 rfl))) st371.f3 iZ rfl ?_)));intro W375 st376
 refine aC (wp_seq (wp_seq (aA (sg (aT (aC (wp_block (dJ (fun (m:Nat) (f:Nat→Value) (W:World)=>∃ (i:Nat) (fo379:List Nat),i≤y.shelf.length∧m=y.shelf.length - i∧Ag [(1,I id),(4,pt_ b6),(6,pt_ b21),(8,I (i:Int))] f∧St w W ([Res.bx b21 [I y.now,I y.seq,v82_0,v369] 27,Res.row (α:=Run) 55 v369 (([]++(y.runs.take (aH y id).toNat))++(y.runs.drop ((aH y id).toNat+1))) (([]++fE0)++fE1),Res.bx bD CD eD,Res.own (α:=List (List Entry)) v82_0 (rI id y.shelf i) fo379,Res.bx b6 [I 0,I 0,.slice none 0 0,.slice none 0 0] 27,Res.bx b1 [I y.now,I y.seq,v65_0,v65_1] 27])) (y.shelf.length - 0) ?_ ?_))))))))
 ·exact ⟨0,g82_0,Nat.zero_le _,rfl,(Ag.cons ((hf361 1 rfl).trans (h68_.at 1)) (Ag.cons ((hf361 4 rfl).trans (h68_.at 4)) (Ag.cons ((hf361 6 rfl).trans (h68_.at 6)) (Ag.cons rfl Ag.nil)))),(by rw[zF];exact st376)⟩
 intro m380 f381 W382 hJ383
 obtain ⟨i,fo379,hil,rfl,hA385,st384⟩:=hJ383
 have hfl:=bL9 id y.shelf i
 refine wp_seq (wp_seq (aA (rn st384 5 hA385 [] [(51,.bool (decide ((i:Int)<((rI id y.shelf i).length:Int))))] [qb 0 rfl 2,ql (bO (st384.get 3 rfl)),.o] aD fun f387 h387_=>(aC (cE (h387_.at 51) (fun h388p => ?_) (fun h388p => ?_))))))
 ·refine wp_skip (wp_seq (wp_block (wp_seq ?_)))
  have hq_:=fW (xs:=y.shelf) (i:=i) aB
  obtain ⟨l,hl⟩:=hq_
  have hla:=bD4 (id:=id) hl
  have hl80:=oW (hY.each l (mem_of_getElem? hl))
  have hq_:=St.lendx (α:=List Entry) cB st384.f3 (x:=l) hla
  obtain ⟨b390,e390,pre390,cs390,post390,fi390,fr390,hPA390,hC390,st391⟩:=hq_
  have hq_:=st391.f1.uncs1
  obtain ⟨v390,he390,st396⟩:=hq_;subst he390
  refine aA (sg (cF (cs:=[]) (e:=243) aJ3 (iD jA _) st396 ?_));intro b397 W398 hb399 st400
  have st400:=st400.row_empty (α:=Entry)
  refine sg (aG (v:=(.slice (some ⟨b397,0,none⟩) 0 0)) rfl (aC (wp_seq (wp_seq (aA (sg (aT (aC (wp_block (dJ (fun (m:Nat) (f:Nat→Value) (W:World)=>∃ (j:Nat) (v406:Value),j≤l.length∧m=l.length - j∧Ag [(1,I id),(4,pt_ b6),(6,pt_ b21),(8,I (i:Int)),(9,v406),(10,I (j:Int))] f∧St w W ([Res.row (α:=Entry) 243 v406 (flE id (l.take j)) [],Res.own (α:=List Entry) v390 l fi390,Res.bx b390 (pre390++[v390]++post390) e390,Res.rest (α:=(List Entry)) v82_0 b390 pre390 post390 (rI id y.shelf i) i fr390,Res.bx b21 [I y.now,I y.seq,v82_0,v369] 27,Res.row (α:=Run) 55 v369 (([]++(y.runs.take (aH y id).toNat))++(y.runs.drop ((aH y id).toNat+1))) (([]++fE0)++fE1),Res.bx bD CD eD,Res.bx b6 [I 0,I 0,.slice none 0 0,.slice none 0 0] 27,Res.bx b1 [I y.now,I y.seq,v65_0,v65_1] 27])) (l.length - 0) ?_ ?_))))))))))
  ·exact ⟨0,(.slice (some ⟨b397,0,none⟩) 0 0),Nat.zero_le _,rfl,(h387_.put.put.put.to aD),st400⟩
  intro m407 f408 W409 hJ410
  obtain ⟨j,v406,hjl,rfl,hA412,st411⟩:=hJ410
  have hfn:=bD3 id (l.take j)
  have htl:=length_take_le j l
  refine wp_seq (wp_seq (aA (rn st411 8 hA412 [] [(62,.bool (decide ((j:Int)<(l.length:Int))))] [qb 4 rfl 2,qx hPA390,qp 2 rfl 0,ql (bO (st411.get 1 rfl)),.o] aD fun f414 h414_=>(aC (cE (h414_.at 62) (fun h415p => ?_) (fun h415p => ?_))))))
  ·refine wp_skip (wp_seq (wp_block (wp_seq ?_)))
   have hq_:=fW (xs:=l) (i:=j) aB
   obtain ⟨e,he⟩:=hq_
   refine aA ?_
   have hi1fd33:j<l.length:=(gsi_.1 he).1
   obtain ⟨b417,o417,cs417,f417,hp417,hr417,hc417,hm417⟩:=idxq (bO (st411.get 1 rfl)) (i:=j) he
   have hk418:=hc417
   obtain ⟨he418,rfl,hok418⟩:=hk418
   have he418:_=[I e.prio,I e.seq,I e.run,I e.task]:=he418
   subst he418
   refine rn st411 11 h414_ [] [(75,.bool (!decide (e.run=id)))] [qb 4 rfl 2,qx hPA390,qp 2 rfl 0,qx hp417,qn hr417 2,.o] aD fun f419 h419_=>(aC (eP (h419_.at 75) (fun h420p => ?_) (fun h420p => ?_)))
   ·refine aA (rn st411 9 h419_ [] [(76,v406),(84,.agg #[I e.prio,I e.seq,I e.run,I e.task])] [qb 4 rfl 2,qx hPA390,qp 2 rfl 0,qx hp417,qn hr417 0] aD fun f422 h422_ => ?_)
    have hoke:e.ok:=(hc417).2.2
    refine sg (cF (cs:=[I e.prio,I e.seq,I e.run,I e.task]) (e:=243) (aJ7 (h422_.at 84) aJ3) (jU jA _ _ rfl rfl cB) st411 ?_);intro b423 W424 hb425 st426
    refine sg (lY (ys:=[(⟨e.prio,e.seq,e.run,e.task⟩:Entry)]) jA (h422_.at 76) rfl rfl st426.f1 (Elems.one1 (show Shape.C _ [I e.prio,I e.seq,I e.run,I e.task] e [] from ⟨rfl,rfl,hoke⟩)) (by unfold maxLen;omega) aB ?_);intro v429 W430 st431
    refine sg (aG (v:=v429) rfl (aC (aA (rn st431 3 h422_.put.put.put [10] [(10,I ((j:Int)+1))] [qad (j:Int) 1] aD fun f435 h435_=>(aC ?_)))))
    exact ⟨_,l.length - (j+1),aB,rfl,j+1,v429,aB,rfl,(h435_.to aD),(by rw[flE_t he aB];exact st431)⟩
   refine wp_skip (aA (rn st411 3 h419_ [10] [(10,I ((j:Int)+1))] [qad (j:Int) 1] aD fun f437 h437_=>(aC ?_)))
   exact ⟨_,l.length - (j+1),aB,rfl,j+1,v406,aB,rfl,(h437_.to aD),(by rw[flE_f he aB];exact st411)⟩
  refine wp_exit ?_
  have hje:j=l.length:=by omega
  rw[hje,take_length] at st411
  obtain ⟨fp438,st439⟩:=st411.shut
  refine aA (rn st439 5 h414_ [] [(90,v406),(91,.pointer (some ⟨b390,pre390.length,none⟩))] [qb 4 rfl 2,qx hPA390] aD fun f441 h441_=>(sgn (aS (i:=0) (v:=v406) aD (h441_.at 91) (h441_.at 90) (Sl.cells (bO (st439.f2.get 1 rfl))) (Sl.one (bO (st439.f2.get 1 rfl))) st439.f2 rfl iZ rfl ?_)));intro W443 st444
  refine aC (aA (rn st444 3 h441_ [8] [(8,I ((i:Int)+1))] [qad (i:Int) 1] aD fun f446 h446_=>(aC ?_)))
  have st448:=st444.f1.cs1
  obtain ⟨fp452,st453⟩:=St.give (α:=List Entry) st448.f3.f1.f2
  exact ⟨_,y.shelf.length - (i+1),aB,rfl,i+1,fp452,aB,rfl,(h446_.to aD),(by rw[← aN0 hl];exact st453.f6.f6.f2.f6.f6.f6.d6)⟩
 refine wp_exit (wp_seq (aA (sg (nB (cs:=[I y.now,I y.seq,v82_0,v369]) fX rfl (h387_.at 6) (st384.get 0 rfl) rfl rfl (sgn (gK aD (h387_.at 4) rfl (dQ rfl (dQ rfl (dQ (Sl.one (bO (st384.f4.get 4 rfl))) (dQ (Sl.one (gT (st384.f4.get 2 rfl))) xD)))) st384.f4 iZ rfl ?_))))));intro W464 st465
 refine sg (aT (aC (wr (bH1 fX rfl results225 (h387_.at 4) (st465.get 0 rfl) rfl rfl ?_))))
 have hie:i=y.shelf.length:=by omega
 rw[aN1 hie] at st465
 have hera:([]++(y.runs.take (aH y id).toNat))++(y.runs.drop ((aH y id).toNat+1))=y.runs.eraseIdx (aH y id).toNat:=by rw[nil_append,eraseIdx_eq_take_drop_succ]
 rw[hera] at st465
 have st468:=st465.f2
 obtain ⟨fp470,st469⟩:=st468.shut
 have st472:=nK (x:=(aM8 y id (aH y id).toNat)) st469.f4 hyok
 have hfe:bG y id=((aM8 y id (aH y id).toNat),0):=by rw[lA (aO8 h38) hra hr,if_neg aB]
 rw[hfe]
 exact ⟨_,_,rfl,st472.d1.d1.d1.d1⟩
def eL (c:Int):Reply:=⟨c,0,0,0⟩
noncomputable def doD (y:Yard) (d:Deed):Yard×Reply:=
 if bA d=false then (y,eL 5) else if d.kind=1 then ((bL y d.run d.plan).1,eL (bL y d.run d.plan).2) else if d.kind=2 then gU y d.worker d.draw else if d.kind=3 then (fN y d.run d.task d.try_,eL (eE y d.run d.task d.try_))
 else if d.kind=4 then (pF y d.run d.task d.try_,eL (eE y d.run d.task d.try_)) else if d.kind=5 then ((eN y).1,eL (eN y).2) else if d.kind=6 then ((bW y d.run).1,eL (bW y d.run).2)
 else if d.kind=7 then ((bG y d.run).1,eL (bG y d.run).2) else (dY y,eL (if aM y=true then 0 else 8))
theorem fS {c:Int} (h : -100≤c∧c≤100):(eL c).ok:=by simp only[eL,Reply.ok,I64];omega
theorem deedOk_edges {d:Deed} (h:bA d=true):d.plan.edges.length≤31:=by
 unfold bA at h
 simp only[Bool.and_eq_true,decide_eq_true_eq] at h
 exact h.1.1.2
theorem uE (y:Yard) (id:Int) (p:Plan) : -100≤(bL y id p).2∧(bL y id p).2≤100:=by
 have:=pf_rng p
 unfold bL
 repeat' split
 all_goals first | (simp only;omega) | (show -100≤aK p∧aK p≤100;omega)
theorem aG5 (y:Yard) : -100≤(eN y).2∧(eN y).2≤100:=by
 unfold eN
 repeat' split
 all_goals (simp only;omega)
theorem uL (y:Yard) (id:Int) : -100≤(bW y id).2∧(bW y id).2≤100:=by
 unfold bW
 repeat' split
 all_goals (simp only;omega)
theorem uI (y:Yard) (id:Int) : -100≤(bG y id).2∧(bG y id).2≤100:=by
 unfold bG
 repeat' split
 all_goals (simp only;omega)

theorem own_yi {w W:World} {e:Ending} {x:Yard} {n:Int} (h:∃ (cs':List Value) (fp':List Nat),e = .returned (.tuple #[.agg cs'.toArray,I n])∧St w W [Res.own (.agg cs'.toArray) x fp']):∃ (a:Unit) (vs:List Value) (rs:List Res),True∧e = .returned (wR vs)∧Rks vs [Rk.S x,Rk.I n] rs∧St w W rs:=by
 obtain ⟨cs,fp,he,st⟩:=h
 exact ⟨(),[.agg cs.toArray,I n],[Res.cs cs x fp],trivial,he,⟨[Res.cs cs x fp],[],⟨cs,fp,rfl,rfl⟩,⟨[],[],⟨rfl,rfl⟩,rfl,rfl⟩,rfl⟩,st.cs rfl⟩
structure SubJ (y:Yard) (id:Int) (p:Plan):Prop where
 ss:4≤y.shelf.length
 sq:0≤y.seq∧y.seq≤4000000000
 tl:(cA id p).tasks.length≤12
 tk:(aR (cA id p).tasks 2).length≤12
 ln:(y.shelf.getD (aX (cA id p).id).toNat []).length≤80
 r8:y.runs.length<8
 nw:mM id p=true
 ok:(cE2 y id p).ok
theorem sub_j {y:Yard} {id:Int} {p:Plan} (gp:p.ok) (h0:aM y=true) (h1:inB id 1 9999=true) (h3:aK p=0) (h4:jL y p=true):SubJ y id p:=by
 have hY:=kA h0
 have hplr:=bH9 h3
 have hrq:y.seq≤999999000 - p.tasks∧y.runs.length<8:=by unfold jL at h4;simp at h4;omega
 have hsq:=hY.seq
 have hss:=hY.shelf
 have htl:(cA id p).tasks.length=p.tasks.toNat:=kO p _
 have htk:(aR (cA id p).tasks 2).length≤(cA id p).tasks.length:=iL _ _ _
 have hsh:=iN id
 have hnow:=hY.now
 refine ⟨by omega,by omega,by omega,by omega,Nat.le_trans (mD hY _ (by have:aX (cA id p).id=aX id:=rfl;omega)) cB,hrq.2,by unfold mM;simp[h1,h3],?_⟩
 show I64 _∧I64 _
 simp only[cE2,I64];omega
theorem sub_8 {y:Yard} {id:Int} {p:Plan} (h0:aM y=false):(y,(8:Int))=bL y id p:=by unfold bL;rw[if_pos h0]
theorem sub_5 {y:Yard} {id:Int} {p:Plan} (h0:aM y=true) (h1:inB id 1 9999=false):(y,(5:Int))=bL y id p:=by unfold bL;rw[if_neg (by rw[h0];decide),if_pos h1]
theorem sub_6 {y:Yard} {id:Int} {p:Plan} (h0:aM y=true) (h1:inB id 1 9999=true) (h2:0≤aH y id):(y,(6:Int))=bL y id p:=by unfold bL;rw[if_neg (by rw[h0];decide),if_neg (by rw[h1];decide),if_pos h2]
theorem sub_p {y:Yard} {id:Int} {p:Plan} (h0:aM y=true) (h1:inB id 1 9999=true) (h2:¬ 0≤aH y id) (h3:¬ aK p=0):(y,aK p)=bL y id p:=by unfold bL;rw[if_neg (by rw[h0];decide),if_neg (by rw[h1];decide),if_neg h2,if_pos h3]
theorem sub_7 {y:Yard} {id:Int} {p:Plan} (h0:aM y=true) (h1:inB id 1 9999=true) (h2:¬ 0≤aH y id) (h3:aK p=0) (h4:jL y p=false):(y,(7:Int))=bL y id p:=by unfold bL;rw[if_neg (by rw[h0];decide),if_neg (by rw[h1];decide),if_neg h2,if_neg (by simp[h3]),if_pos h4]
theorem sub_0 {y:Yard} {id:Int} {p:Plan} {q:Int×List (List Entry)} (h0:aM y=true) (h1:inB id 1 9999=true) (h2:¬ 0≤aH y id) (h3:aK p=0) (h4:jL y p=true) (hq:vW (cA id p) (aR (cA id p).tasks 2) y.seq y.shelf q):((⟨y.now,q.1,q.2,y.runs++[cA id p]⟩:Yard),(0:Int))=bL y id p:=by
 unfold bL;rw[if_neg (by rw[h0];decide),if_neg (by rw[h1];decide),if_neg h2,if_neg (by simp[h3]),if_neg (by rw[h4];decide)]
 have hq:q=_:=hq
 rw[hq];rfl
theorem sub_g {y:Yard} {id:Int} {p:Plan} {q:Int×List (List Entry)} (hj:SubJ y id p) (hq:vW (cA id p) (aR (cA id p).tasks 2) y.seq y.shelf q):(⟨y.now,q.1,q.2,y.runs++[cA id p]⟩:Yard).ok:=by
 have hq:q=_:=hq
 rw[hq];exact hj.ok
theorem new_t {P:Program} {F:FuncId} {id:Int} {p:Plan} {ps:List Par} (h:mM id p=true) (C:Ct1 P F ps [.S (aK4 id p),.B (mM id p)]):Ct1 P F ps [.S (cA id p),.B true]:=by rw[cH8 h,h] at C;exact C
theorem Submit_s (y:Yard) (id:Int) (p:Plan) (hw:y.wt≤1048576) (hp:p.wt≤1048576):Ct1 prog 219 [.S y,.I id,.S p] [.S (bL y id p).1,.I (bL y id p).2]:=
 .one (bL y id p) (rk:=fun q=>[.S q.1,.I q.2])<|vc func219 (fun (hg:gin [Par.S y,Par.I id,Par.S p])=>let gy:=hg.1.1
  let gp:p.ok:=hg.2.1.1
  .c func184 (CopyYardR_s y hw) (hg:=⟨gy,trivial⟩) fun _ => .c func185 (lE y hw) (hg:=⟨gy,trivial⟩) fun _ => .v (aM y) (fun h0 => .rt (y,8) ⟨sub_8 h0,gy,trivial⟩) (fun h0=>
  .c func138 (InV id 1 9999) fun _ => .v (inB id 1 9999) (fun h1 => .rt (y,5) ⟨sub_5 h0 h1,gy,trivial⟩) (fun h1=>
  .c func291 (mF y id hw) (hg:=⟨gy,trivial⟩) fun _ => .s ((0:Int)≤aH y id) (fun h2 => .rt (y,6) ⟨sub_6 h0 h1 h2,gy,trivial⟩) (fun h2=>
  .c func325 (pJ p) (hg:=⟨gp,trivial⟩) fun _ => .u (aK p=0) (fun h3 => .c func325 (pJ p) (hg:=⟨gp,trivial⟩) fun _ => .rt (y,aK p) ⟨sub_p h0 h1 h2 h3,gy,trivial⟩) (fun h3=>
  .c func326 (RoomFor_s y p hw) (hg:=⟨gy,gp,trivial⟩) fun _ => .v (jL y p) (fun h4 => .rt (y,7) ⟨sub_7 h0 h1 h2 h3 h4,gy,trivial⟩) (fun h4=>let hj:=sub_j gp h0 h1 h3 h4
  .c func327 (new_t hj.nw (RunNew_s id p)) (hg:=⟨gp,trivial⟩) fun hz=>let gr:(cA id p).ok:=hz.1.1
  .az inferInstance y.runs (cA id p) gr 96 (by have:=hj.r8;unfold maxLen;omega) (by have:=hj.r8;omega) <| .in_ func328 (layD true 13 6 7 y.now y.seq y.shelf zRun (cA id p) hj.ss (Nat.le_trans hj.ln aB) (by have:=hj.tl;omega) hj.sq gr (fun _=>rfl)) fun q hq0=>let hq:vW (cA id p) (aR (cA id p).tasks 2) y.seq y.shelf q:=(by rw[← fresh_zero];exact hq0)
      .zr 7 <| .rt (⟨y.now,q.1,q.2,y.runs++[cA id p]⟩,0) ⟨sub_0 h0 h1 h2 h3 h4 hq,sub_g hj hq,trivial⟩)))))) aD
theorem Forget_s (y:Yard) (id:Int) (hid:I64 id) (hw:y.wt≤1048576):Ct1 prog 225 [.S y,.I id] [.S (bG y id).1,.I (bG y id).2]:=⟨fun w us _ hps=>by
 match us,hps with
 | [_,_],⟨⟨cs,fp,rfl,hc⟩,rfl,_⟩=>exact (ForgetS w hc id hid hw).mono fun e w' h=>own_yi h⟩
theorem dd_wt {d:Deed} (h:bA d=true):d.plan.wt≤1048576:=by have:=deedOk_edges h;unfold Plan.wt;omega
theorem bZ3 {d:Deed} (h:bA d=true):1≤d.kind∧d.kind≤8:=by
 unfold bA at h
 simp only[Bool.and_eq_true] at h
 exact inB_iff.1 h.1.1.1
theorem do_0 {y:Yard} {d:Deed} (h:bA d=false):(y,eL 5)=doD y d:=by unfold doD;rw[if_pos h]
theorem do_1 {y:Yard} {d:Deed} (h:bA d=true) (hk:d.kind=1):((bL y d.run d.plan).1,eL (bL y d.run d.plan).2)=doD y d:=by unfold doD;rw[if_neg (by rw[h];simp),if_pos hk]
theorem do_2 {y:Yard} {d:Deed} (h:bA d=true) (hk:d.kind=2):gU y d.worker d.draw=doD y d:=by unfold doD;rw[if_neg (by rw[h];simp),if_neg aB,if_pos hk]
theorem do_3 {y:Yard} {d:Deed} (h:bA d=true) (hk:d.kind=3):(fN y d.run d.task d.try_,eL (eE y d.run d.task d.try_))=doD y d:=by unfold doD;rw[if_neg (by rw[h];simp),if_neg aB,if_neg aB,if_pos hk]
theorem do_4 {y:Yard} {d:Deed} (h:bA d=true) (hk:d.kind=4):(pF y d.run d.task d.try_,eL (eE y d.run d.task d.try_))=doD y d:=by unfold doD;rw[if_neg (by rw[h];simp),if_neg aB,if_neg aB,if_neg aB,if_pos hk]
theorem do_5 {y:Yard} {d:Deed} (h:bA d=true) (hk:d.kind=5):((eN y).1,eL (eN y).2)=doD y d:=by unfold doD;rw[if_neg (by rw[h];simp),if_neg aB,if_neg aB,if_neg aB,if_neg aB,if_pos hk]
theorem do_6 {y:Yard} {d:Deed} (h:bA d=true) (hk:d.kind=6):((bW y d.run).1,eL (bW y d.run).2)=doD y d:=by unfold doD;rw[if_neg (by rw[h];simp),if_neg aB,if_neg aB,if_neg aB,if_neg aB,if_neg aB,if_pos hk]
theorem do_7 {y:Yard} {d:Deed} (h:bA d=true) (hk:d.kind=7):((bG y d.run).1,eL (bG y d.run).2)=doD y d:=by unfold doD;rw[if_neg (by rw[h];simp),if_neg aB,if_neg aB,if_neg aB,if_neg aB,if_neg aB,if_neg aB,if_pos hk]
theorem do_8 {y:Yard} {d:Deed} (h:bA d=true) (hk:d.kind=8) (c:Int) (hc:(if aM y=true then 0 else 8)=c):(dY y,eL c)=doD y d:=by unfold doD;rw[if_neg (by rw[h];simp),if_neg aB,if_neg aB,if_neg aB,if_neg aB,if_neg aB,if_neg aB,if_neg aB,← hc]
theorem bE3 (y:Yard) (a b c:Int):(eL (eE y a b c)).ok:=fS (by have:=askF_rng y a b c;omega)
theorem Do_s (y:Yard) (d:Deed) (hw:y.wt≤1048576):Ct1 prog 115 [.S y,.S d] [.S (doD y d).1,.S (doD y d).2]:=
 .one (doD y d) (rk:=fun q=>[.S q.1,.S q.2])<|vc func115 (fun (hg:gin [Par.S y,Par.S d])=>let gy:=hg.1.1
  let gd:d.ok:=hg.2.1.1
  .c func217 (bN4 d) (hg:=⟨gd,trivial⟩) fun _ => .v (bA d)
   (fun h => .c func184 (fU y hw) (hg:=⟨gy,trivial⟩) fun _ => .rt (y,eL 5) ⟨do_0 h,gy,fS aB,trivial⟩)
   (fun h=>let hk:=bZ3 h
    .s (d.kind=1)
    (fun h1 => .c func219 (Submit_s y d.run d.plan hw (dd_wt h)) (hg:=⟨gy,gd.2.2.1,trivial⟩) fun hz => .rt ((bL y d.run d.plan).1,eL (bL y d.run d.plan).2) ⟨do_1 h h1,hz.1.1,fS (uE y d.run d.plan),trivial⟩)
    (fun h1 => .s (d.kind=2)
    (fun h2 => .c func220 (Poll_s y d.worker d.draw hw gd.2.2.2.2.2.2) (hg:=⟨gy,trivial⟩) fun hz => .rt (gU y d.worker d.draw) ⟨do_2 h h2,hz.1.1,hz.2.1.1,trivial⟩)
    (fun h2 => .s (d.kind=3)
    (fun h3 => .c func221 (Complete_s y d.run d.task d.try_ hw) (hg:=⟨gy,trivial⟩) fun hz => .rt (fN y d.run d.task d.try_,eL (eE y d.run d.task d.try_)) ⟨do_3 h h3,hz.1.1,bE3 _ _ _ _,trivial⟩)
    (fun h3 => .s (d.kind=4)
    (fun h4 => .c func222 (Fail_s y d.run d.task d.try_ hw) (hg:=⟨gy,trivial⟩) fun hz => .rt (pF y d.run d.task d.try_,eL (eE y d.run d.task d.try_)) ⟨do_4 h h4,hz.1.1,bE3 _ _ _ _,trivial⟩)
    (fun h4 => .s (d.kind=5)
    (fun h5 => .c func223 (Tick_s y hw) (hg:=⟨gy,trivial⟩) fun hz => .rt ((eN y).1,eL (eN y).2) ⟨do_5 h h5,hz.1.1,fS (aG5 y),trivial⟩)
    (fun h5 => .s (d.kind=6)
    (fun h6 => .c func224 (Cancel_s y d.run hw) (hg:=⟨gy,trivial⟩) fun hz => .rt ((bW y d.run).1,eL (bW y d.run).2) ⟨do_6 h h6,hz.1.1,fS (uL y d.run),trivial⟩)
    (fun h6 => .s (d.kind=7)
    (fun h7 => .c func225 (Forget_s y d.run gd.2.1 hw) (hg:=⟨gy,trivial⟩) fun hz => .rt ((bG y d.run).1,eL (bG y d.run).2) ⟨do_7 h h7,hz.1.1,fS (uI y d.run),trivial⟩)
    (fun h7 => .c func226 (Restart_s y hw) (hg:=⟨gy,trivial⟩) fun hz => .c func185 (lE y hw) (hg:=⟨gy,trivial⟩) fun _ => .v (aM y)
     (fun h9 => .rt (dY y,eL 8) ⟨do_8 h aB 8 (by rw[h9];rfl),hz.1.1,fS aB,trivial⟩)
     (fun h9 => .rt (dY y,eL 0) ⟨do_8 h aB 0 (by rw[h9];rfl),hz.1.1,fS aB,trivial⟩)))))))))) aD
section
variable {p q:Entry→Bool} {xs:List Entry} {k m c:Nat} {e:Entry} {g:Nat×Nat×List Entry}
theorem bZ2 (hpq:∀ e,q e = !p e) (h:xs.any p=false):xs=xs.filter q:=by
 symm;rw[filter_eq_self];intro x hx;rw[hpq,Bool.not_eq_true'];simpa using any_eq_false.1 h x hx
theorem dl_some (hpq:∀ e,q e = !p e) (hk:xs[k]? = some e) (h:(xs.take k).any p=false) (hp:p e=true):xs.take k=(xs.take (k+1)).filter q:=by
 rw[← dS hk,filter_append,← bZ2 hpq h];simp[hpq,hp]
theorem dl_any (h:xs[k]? = some e) (h0:(xs.take k).any p=false) (hp:¬ p e=true):(xs.take (k+1)).any p=false:=by
 rw[← dS h,any_append,h0];simp[hp]
def DlF (q:Entry→Bool) (xs:List Entry):Option Nat→Prop
 | none=>xs=xs.filter q
 | some k=>k<xs.length∧xs.take k=(xs.take (k+1)).filter q
structure DlJ (q:Entry→Bool) (xs:List Entry) (g:Nat×Nat×List Entry):Prop where
 lt:g.2.1<g.1
 le:g.1≤xs.length
 len:g.2.2.length=xs.length
 tk:g.2.2.take g.2.1=(xs.take g.1).filter q
 dr:g.2.2.drop g.1=xs.drop g.1
theorem DlJ.at_ (h:DlJ q xs g) (he:g.2.2[g.1]? = some e):xs[g.1]? = some e:=by
 have h1:(g.2.2.drop g.1)[0]? = some e:=by simpa using he
 rw[h.dr] at h1;simpa using h1
theorem DlJ.dr1 (h:DlJ q xs g):g.2.2.drop (g.1+1)=xs.drop (g.1+1):=by
 have:=congrArg (fun l=>l.drop 1) h.dr
 simpa [drop_drop,Nat.add_comm] using this
theorem DlJ.skip (h:DlJ q xs g) (he:g.2.2[g.1]? = some e) (hq:q e=false):DlJ q xs (g.1+1,g.2.1,g.2.2):=by
 have h1:=h.at_ he
 have h2:=(gsi_.1 h1).1
 have h3:=h.lt
 exact ⟨by show g.2.1<g.1+1;omega,h2,h.len,by show g.2.2.take g.2.1=(xs.take (g.1+1)).filter q;rw[← dS h1,filter_append,h.tk];simp[hq],h.dr1⟩
theorem DlJ.keep (h:DlJ q xs g) (he:g.2.2[g.1]? = some e) (hq:q e=true):DlJ q xs (g.1+1,g.2.1+1,g.2.2.set g.2.1 e):=by
 have h1:=h.at_ he
 have h2:=(gsi_.1 h1).1
 have h3:=h.lt
 have h4:=h.len
 refine ⟨by show g.2.1+1<g.1+1;omega,h2,by show (g.2.2.set g.2.1 e).length=_;rw[length_set,h4],?_,?_⟩
 ·show (g.2.2.set g.2.1 e).take (g.2.1+1)=(xs.take (g.1+1)).filter q
  rw[← dS h1,filter_append,← h.tk,← dS (getElem?_set_self (show g.2.1<g.2.2.length by omega)),take_set_of_le (Nat.le_refl _)];simp[hq]
 show (g.2.2.set g.2.1 e).drop (g.1+1)=xs.drop (g.1+1)
 rw[drop_set_of_lt aB];exact h.dr1
theorem DlJ.all (h:DlJ q xs g) (hn:¬ (g.1:Int)<g.2.2.length):g.2.2.take g.2.1=xs.filter q:=by
 have h4:=h.len
 rw[h.tk,take_of_length_le aB]
end
noncomputable def delD (j:Nat) (xs:List Entry) (hl:xs.length≤1048576) (p q:Entry→Bool) (hpq:∀ e,q e = !p e) (call:∀ {A:Type} {R:A→Prop} (e:Entry),Dsh.good e→D prog R→D prog R):D prog (fun _:Unit=>True):=
 .in_ (R':=DlF q xs) func382 (
  .la (Γ:=Nat) (fun k=>k≤xs.length∧(xs.take k).any p=false) (fun k=>xs.length - k) (fun k=>[vI 8 k]) (fun _=>[]) 0 (h:=⟨Nat.zero_le _,rfl⟩) fun k hk t=>
   .s ((k:Int)<xs.length)
    (fun h => .x xs k (h:=by omega) fun e he ge=>call e ge <| .sb (p e)
     (fun hp => .rt (some k) ⟨by omega,dl_some hpq he hk.2 hp⟩)
     (fun hp => .p k 1 (h:=by unfold I64;omega) <| .n t (k+1) [] (h1:=⟨by omega,dl_any he hk.2 (by rw[hp];simp)⟩)))
    (fun h => .rt none (bZ2 hpq (by have:=hk.2;rwa [take_of_length_le aB] at this)))) fun o=>match o with
 | none=>fun ho => .kt ((-1:Int) = -1) rfl <| .g j ho <| .rt () trivial
 | some k=>fun ho=>let hk:k<xs.length:=ho.1
  .kf ((k:Int) = -1) aB <| .p k 1 (h:=by unfold I64;omega) <| .la (Γ:=Nat×Nat×List Entry) (DlJ q xs) (fun g=>xs.length - g.1) (fun g=>[vI 6 g.1,vI 5 g.2.1]) (fun g=>[oO j g.2.2]) (k+1,k,xs) (h:=⟨Nat.lt_succ_self k,hk,rfl,ho.2,rfl⟩) fun g hJ t=>
   let h1:=hJ.lt
   let h2:=hJ.le
   let h3:=hJ.len
   .s ((g.1:Int)<g.2.2.length)
    (fun h => .x g.2.2 g.1 (h:=by omega) fun e he ge=>call e ge <| .v (p e)
     (fun hp => .ex (p:=fun x=>g.2.2[g.2.1]? = some x) ⟨g.2.2[g.2.1]'(by omega),getElem?_eq_getElem _⟩ fun x hx => .d j hx fun _ => .i g.2.1 <| .wt 34 <| .f j g.2.2 e (h:=ge) <| .p g.2.1 1 (h:=by unfold I64;omega) <| .p g.1 1 (h:=by unfold I64;omega) <| .n t (g.1+1,g.2.1+1,g.2.2.set g.2.1 e) [] (h1:=hJ.keep he (by rw[hpq,hp];rfl)) (h2:=by show xs.length - (g.1+1)<_;omega))
     (fun hp => .p g.1 1 (h:=by unfold I64;omega) <| .n t (g.1+1,g.2.1,g.2.2) [] (h1:=hJ.skip he (by rw[hpq,hp];rfl)) (h2:=by show xs.length - (g.1+1)<_;omega)))
    (fun h => .dp inferInstance g.2.2 g.2.1 aB g.2.1 rfl <| .cz inferInstance j g.2.2 g.2.1 aB <| .dz <| .g j (hJ.all h) <| .rt () trivial)
theorem cA5 (y:Yard) (sh:Int) (hw:y.wt≤1048576):Ct1 prog 305 [.S y,.I sh] [.S (aZ y sh)]:=
 .one (aZ y sh) (rk:=fun x=>[.S x])<|vc func305 (fun (hg:gin [Par.S y,Par.I sh])=>let gy:=hg.1.1
  let hsl:=fH y hw
  .c func119 (fV y hw) (hg:=⟨gy,trivial⟩) fun _ => .m (y.shelf.length:Int) 1 (h:=by unfold I64;omega) <| .c func92 (bZ sh 0 ((y.shelf.length:Int) - 1)) fun _ => .v (inB sh 0 ((y.shelf.length:Int) - 1))
   (fun h => .rt y ⟨sw_no h,gy,trivial⟩)
   (fun h => .ex (vH h) fun l hl=>let hll:=lO hl hw
    .d 4 hl fun _ => .ie sh.toNat sh (he:=jW h) <| .in_ func318 (delD 8 l aB (fun e => !fresh y e) (fresh y) (fun e=>(Bool.not_not _).symm)
     (fun e ge d => .in_ (R':=fun _:Unit=>True) func380 (.c func346 (cB2 y e hw) (hg:=⟨gy,ge,trivial⟩) fun _ => .rt () trivial) fun _ _=>d)) fun _ _=>
    .ie sh.toNat sh (he:=jW h) <| .wt 26 <| .f 4 y.shelf (l.filter (fresh y)) (h:=trivial) <|
     .rt ⟨y.now,y.seq,y.shelf.set sh.toNat (l.filter (fresh y)),y.runs⟩ ⟨sw_in h hl,gy,trivial⟩)) aD
noncomputable def delRunInc (xs:List Run) (k:Nat) (hk:k<xs.length) (hxl:xs.length≤1048576) (e1 e2:Int) (h1:e1=k) (h2:e2=(k:Int)+1):Inc prog 317 (fun _:Unit=>True) where
 T:=fun s us K=>match us with
  | [.on (.ce (.rf j h)),.on (.ce (.vl v1)),.on (.ce (.vl v2))]=>match lku s.O j with
   | some (.own i h' xs' _) => .e0 h h' <| .e1 (⟨i,xs'⟩:Dat) ⟨instShapeRun,xs⟩ <| .e0 v1 (I e1) <| .e0 v2 (I e2) <| .fn fun r:Hd×List Nat=>K () (.on (.ce (.rf j r.1))) ⟨s.E,(j,.own instShapeRun r.1 (xs.eraseIdx k) r.2)::cX s.O j,lasting s.B,s.nx⟩
   | _ => .no
  | _ => .no
 ok:=by
  intro w0 W s us K h st fa
  split at h
  ·next j hd v1 v2=>
   split at h
   ·next i h' xs' fp hj=>
    obtain ⟨rfl,h2',h3,h4,h5⟩:=h
    subst h1 h2
    simp only[Dat.mk.injEq] at h2'
    obtain ⟨rfl,h6,h7⟩:=h2'
    obtain ⟨rfl,rfl⟩:=And.intro (eq_of_heq h6) (eq_of_heq h7)
    subst h3 h4
    have st2:=St.take (rs:=[]) (by simpa [Or,S.rs] using st) hj
    rw[append_nil] at st2
    refine (DeleteRun st2 hk hxl).mono ?_
    rintro e W' ⟨v',fp',rfl,st'⟩
    obtain ⟨hd,rfl,_⟩:=Sl.hd (bO (st'.get 0 rfl))
    exact ⟨(),.on (.ce (.rf j hd)),_,trivial,h5 (hd,fp'),rfl,st',fa.lasting⟩
   exact h.elim
  exact h.elim
theorem fg_8 {y:Yard} {id:Int} (h:aM y=false):(y,(8:Int))=bG y id:=by unfold bG;rw[if_pos h]
theorem Forget_i (y:Yard) (id:Int) (hid:I64 id) (hw:y.wt≤1048576):Ct1 prog 211 [.S y,.I id] [.S (bG y id).1,.I (bG y id).2]:=
 .one (bG y id) (rk:=fun q=>[.S q.1,.I q.2])<|vc func211 (fun (hg:gin [Par.S y,Par.I id])=>let gy:=hg.1.1
  let hsl:=fH y hw
  .c func119 (fV y hw) (hg:=⟨gy,trivial⟩) fun _ => .c func232 (lG y id hw) (hg:=⟨gy,trivial⟩) fun _ => .c func118 (lF y hw) (hg:=⟨gy,trivial⟩) fun _ => .v (aM y)
   (fun h => .rt (y,8) ⟨fg_8 h,gy,trivial⟩)
   (fun h => .s (aH y id<0)
    (fun h2 => .rt (y,10) ⟨(xL h h2).symm,gy,trivial⟩)
    (fun h2 => .ex (wU h2) fun r hr=>let hrl:(aH y id).toNat<y.runs.length:=(gsi_.1 hr).1
     .ye hr (aH y id) (he:=sD h2) fun gr => .s (r.state=1)
      (fun h3 => .rt (y,13) ⟨by rw[lA h h2 hr,if_pos h3],gy,trivial⟩)
      (fun h3 => .p (aH y id) 1 (h:=by unfold I64;omega) <| .iv _ func317 (delRunInc y.runs (aH y id).toNat hrl aB (aH y id) (aH y id+1) (sD h2) aB) fun _ _=>
       .g 5 (zF id y.shelf).symm <| .la (Γ:=Nat) (fun k=>k≤y.shelf.length) (fun k=>y.shelf.length - k) (fun k=>[vI 42 k]) (fun k=>[oO 5 (rI id y.shelf k)]) 0 fun k hk t=>
        .s ((k:Int)<y.shelf.length)
         (fun h4 => .ex (p:=fun l=>y.shelf[k]? = some l) ⟨y.shelf[k]'(by omega),getElem?_eq_getElem _⟩ fun l hl=>let hll:=lO hl hw
          .d 5 (bD4 (id:=id) hl) fun _ => .i k <| .in_ func318 (delD 12 l hll (fun e=>decide (e.run=id)) (fun e => !decide (e.run=id)) (fun _=>rfl)
           (fun e ge d => .in_ (R':=fun _:Unit=>True) func319 (.rt () trivial) fun _ _=>d)) fun _ _=>
          .i k <| .wt 55 <| .f 5 (rI id y.shelf k) (flE id l) (h:=trivial) <| .g 5 (aN0 (id:=id) hl) <| .p k 1 (h:=by unfold I64;omega) <| .n t (k+1) [])
         (fun h4 => .g 5 (aN1 (id:=id) (xss:=y.shelf) (show k=y.shelf.length by omega)) <| .rt (aM8 y id (aH y id).toNat,0) ⟨by rw[lA h h2 hr,if_neg h3],gy,trivial⟩)))) ) aD
theorem RunLeft_i (r:Run) (hl:r.plan.edges.length≤1048576) (htl:r.tasks.length≤1048576):Ct1 prog 316 [.S r] [.S (lL r)]:=
 .one (lL r) (rk:=fun x=>[.S x])<|vc func316 (fun (hg:gin [Par.S r])=>let gr:=hg.1.1
  .c func236 (zU r hl htl) (hg:=⟨gr,trivial⟩) fun _ => .c func231 (cA7 r) (hg:=⟨gr,trivial⟩) fun _ => .sb (eX r)
   (fun h => .s (r.state=1)
    (fun h1 => .cm _ func238 (cB0 r (-1) htl) trivial fun _ _ _ _ => .rt ⟨r.id,r.plan,4,hQ r.tasks (-1)⟩ ⟨(bY0 (by unfold aV5;rw[h,decide_eq_true h1];rfl)).symm,⟨gr.1,gr.2.1,by show I64 4;unfold I64;omega⟩,trivial⟩)
    (fun h1 => .rt r ⟨bX9 h1,gr,trivial⟩))
   (fun h => .rt r ⟨bX8 h,gr,trivial⟩)) aD
theorem Cancel_i (y:Yard) (id:Int) (hw:y.wt≤1048576):Ct1 prog 210 [.S y,.I id] [.S (bW y id).1,.I (bW y id).2]:=
 .one (bW y id) (rk:=fun q=>[.S q.1,.I q.2])<|vc func210 (fun (hg:gin [Par.S y,Par.I id])=>let gy:=hg.1.1
  .c func119 (fV y hw) (hg:=⟨gy,trivial⟩) fun _ => .c func232 (lG y id hw) (hg:=⟨gy,trivial⟩) fun _ => .c func118 (lF y hw) (hg:=⟨gy,trivial⟩) fun _ => .v (aM y)
   (fun h => .rt (y,8) ⟨cL4 h,gy,trivial⟩)
   (fun h => .s (aH y id<0)
    (fun h2 => .rt (y,10) ⟨(xY h h2).symm,gy,trivial⟩)
    (fun h2 => .ex (wU h2) fun r hr => .ye hr (aH y id) (he:=sD h2) fun gr=>let hrl:=jT hw hr
     .u (r.state=1)
      (fun h3 => .rt (y,12) ⟨by rw[nJ h h2 hr,if_pos h3],gy,trivial⟩)
      (fun h3 => .d 5 hr fun _ => .ye hr (aH y id) (he:=sD h2) fun _ => .c func316 (RunLeft_i r hrl.2.2 hrl.2.1) (hg:=⟨gr,trivial⟩) fun _ => .ie (aH y id).toNat (aH y id) (he:=sD h2) <| .wt 41 <| .f 5 y.runs (lL r) (h:=bK8 gr) <|
       .rt (bZ6 y (aH y id).toNat r,0) ⟨by rw[nJ h h2 hr,if_neg (by simp[h3])],gy,trivial⟩)))) aD
theorem Submit_i (y:Yard) (id:Int) (p:Plan) (hw:y.wt≤1048576) (hp:p.wt≤1048576):Ct1 prog 205 [.S y,.I id,.S p] [.S (bL y id p).1,.I (bL y id p).2]:=
 .one (bL y id p) (rk:=fun q=>[.S q.1,.I q.2])<|vc func205 (fun (hg:gin [Par.S y,Par.I id,Par.S p])=>let gy:=hg.1.1
  let gp:p.ok:=hg.2.1.1
  .c func119 (CopyYardR_i y hw) (hg:=⟨gy,trivial⟩) fun _ => .c func118 (lF y hw) (hg:=⟨gy,trivial⟩) fun _ => .v (aM y) (fun h0 => .rt (y,8) ⟨sub_8 h0,gy,trivial⟩) (fun h0=>
  .c func92 (bZ id 1 9999) fun _ => .v (inB id 1 9999) (fun h1 => .rt (y,5) ⟨sub_5 h0 h1,gy,trivial⟩) (fun h1=>
  .c func232 (lG y id hw) (hg:=⟨gy,trivial⟩) fun _ => .s ((0:Int)≤aH y id) (fun h2 => .rt (y,6) ⟨sub_6 h0 h1 h2,gy,trivial⟩) (fun h2=>
  .c func302 (kK p) (hg:=⟨gp,trivial⟩) fun _ => .u (aK p=0) (fun h3 => .c func302 (kK p) (hg:=⟨gp,trivial⟩) fun _ => .rt (y,aK p) ⟨sub_p h0 h1 h2 h3,gy,trivial⟩) (fun h3=>
  .c func303 (RoomFor_i y p hw) (hg:=⟨gy,gp,trivial⟩) fun _ => .v (jL y p) (fun h4 => .rt (y,7) ⟨sub_7 h0 h1 h2 h3 h4,gy,trivial⟩) (fun h4=>let hj:=sub_j gp h0 h1 h3 h4
  .c func304 (new_t hj.nw (RunNew_i id p)) (hg:=⟨gp,trivial⟩) fun hz=>let gr:(cA id p).ok:=hz.1.1
  .az inferInstance y.runs (cA id p) gr 96 (by have:=hj.r8;unfold maxLen;omega) (by have:=hj.r8;omega) <| .c func30 (lV (cA id p) 2 (by have:=hj.tl;omega)) (hg:=⟨gr,trivial⟩) fun _ => .in_ func237 (cE5 8 6 7 y.now y.seq y.shelf (cA id p) (aR (cA id p).tasks 2) hj.ss (by have:=hj.ln;have:=hj.tk;omega) hj.sq gr) fun q hq => .zr 7 <| .rt (⟨y.now,q.1,q.2,y.runs++[cA id p]⟩,0) ⟨sub_0 h0 h1 h2 h3 h4 hq,sub_g hj hq,trivial⟩)))))) aD
theorem cL3 {y out:Yard} {n k i:Nat} {r:Run} {t:Task} (hY:YardIs y) (h:RI y out n) (hn:n≤900) (hr:out.runs[k]? = some r) (ht:r.tasks[i]? = some t) (h3:t.state=3) (hR:RunIs r):(r.ok∧r.tasks.length≤12)∧(4≤out.shelf.length∧(out.shelf.getD (aX (cN r i).id).toNat []).length≤1000000∧(0≤out.seq∧out.seq≤4000000000))∧(cN r i).tasks.length≤1000∧(cN r i).ok∧dW out k r (cN r i)=lI out k i:=by
 have h1:=hR.small
 have h2:=(hR.fails ht h3).small
 exact ⟨⟨h1.1,h1.2.1⟩,h.chg hY aB _,by omega,h2.1,(bS0 hr ht h3).symm⟩
structure LtI (y out:Yard) (j k i:Nat) (id tr:Int) (r:Run) (t:Task):Prop where
 p:(cU y)[j]? = some (k,i)
 row:((cU y).map (gN y))[j]? = some [id,(i:Int),tr]
 ix:aH out id=(k:Int)
 hr:out.runs[k]? = some r
 is:RunIs r
 ht:r.tasks[i]? = some t
 ho:fR out id (i:Int) tr=decide (t.state=3)
theorem li_at {y out:Yard} {n j:Nat} {m:Int} (hY:YardIs y) (hm:0≤m∧m≤999999980) (h:RI (pI m y) out n) (hj:j<(cU y).length):∃ q:(Nat×Nat)×(Int×Int)×Run×Task,LtI y out j q.1.1 q.1.2 q.2.1.1 q.2.1.2 q.2.2.1 q.2.2.2:=by
 obtain ⟨k,i,r,t,hp,hr,ht,hrow⟩:=bJ9 hj
 obtain ⟨r2,t2,h1,h2,h3,h4⟩:=h.holds (hY.at hm) hr ht
 exact ⟨((k,i),(r.id,t.try_),r2,t2),⟨hp,hrow,dE (h.ix (hY.at hm) hr),h1,h2,h3,h4⟩⟩
theorem tick_e {y out:Yard} {j:Nat} (h0:aM y=true) (h:¬ 999999980<y.now+1) (ho:out=nS (pI (y.now+1) y) ((cU y).take j)) (hj:¬ j<(cU y).length):(out,(0:Int))=eN y:=by
 unfold eN;rw[if_neg (by rw[h0];simp),if_neg h]
 unfold cD6
 rw[ho,take_of_length_le aB]
theorem Tick_i (y:Yard) (hw:y.wt≤1048576):Ct1 prog 209 [.S y] [.S (eN y).1,.I (eN y).2]:=
 .one (eN y) (rk:=fun q=>[.S q.1,.I q.2])<|vc func209 (fun (hg:gin [Par.S y])=>let gy:=hg.1.1
  .c func119 (fV y hw) (hg:=⟨gy,trivial⟩) fun _ => .c func118 (lF y hw) (hg:=⟨gy,trivial⟩) fun _ => .v (aM y)
   (fun h => .rt (y,8) ⟨bF9 h,gy,trivial⟩)
   (fun h=>let hY:=kA h
    let hn:=hY.now
    .p y.now 1 (h:=by unfold I64;omega) <| .s (999999980<y.now+1)
     (fun h7 => .rt (y,7) ⟨bG0 h h7,gy,trivial⟩)
     (fun h7=>let hln:=cI3 hY
      let hml:((cU y).map (gN y)).length=(cU y).length:=length_map _
      let hm:0≤y.now+1∧y.now+1≤999999980:=aB
      .p y.now 1 (h:=by unfold I64;omega) <| .c func314 (LateOf_i y hY) (hg:=⟨gy,trivial⟩) fun _=>
      .la (Γ:=Nat×Yard) (fun g=>g.1≤(cU y).length∧g.2=nS (pI (y.now+1) y) ((cU y).take g.1)) (fun g=>(cU y).length - g.1) (fun g=>[vI 27 g.1]) (fun g=>oO 7 ((cU y).map (gN y))::ryS g.2 6 4 5) (0,pI (y.now+1) y) (h:=⟨Nat.zero_le _,(uQ _ _).symm⟩) fun g hJ tk=>
       let hRI:RI (pI (y.now+1) y) g.2 200:=(by rw[hJ.2];exact (RI.list (hY.at hm) (l:=cU y) (fun p hp=>aE4 (y:=y) p hp) g.1).mono aB)
       .s ((g.1:Int)<((cU y).map (gN y)).length)
        (fun hlt => .ex (li_at hY hm hRI (show g.1<(cU y).length by omega)) fun q hq=>
         let row:=[q.2.1.1,(q.1.2:Int),q.2.1.2]
         let i0:row[0]? = some q.2.1.1:=rfl
         let i1:row[1]? = some (q.1.2:Int):=rfl
         let i2:row[2]? = some q.2.1.2:=rfl
         .d 7 hq.row fun _ => .i g.1 <| .y i0 fun _ => .y i1 fun _ => .y i2 fun _ => .c func120 (bE7 g.2 q.2.1.1 (q.1.2:Int) q.2.1.2 (Nat.le_trans (hRI.wt (hY.at hm) aB) aB)) (hg:=⟨hRI.ok (hY.at hm) aB,trivial⟩) fun _ => .sb (fR g.2 q.2.1.1 (q.1.2:Int) q.2.1.2)
          (fun hh=>let h3:q.2.2.2.state=3:=of_decide_eq_true (hq.ho.symm.trans hh)
           let hT:=cL3 (hY.at hm) hRI aB hq.hr hq.ht h3 hq.is
           .y i0 fun _ => .c func232 (lG g.2 q.2.1.1 (Nat.le_trans (hRI.wt (hY.at hm) aB) aB)) (hg:=⟨hRI.ok (hY.at hm) aB,trivial⟩) fun _=>
           .in_ func121 (aF1 6 4 5 22 g.2.now g.2.seq g.2.shelf g.2.runs q.1.1 (aH g.2 q.2.1.1) hq.ix q.2.2.1 (cN q.2.2.1 q.1.2) hq.hr aB hT.2.2.1 hT.1.1 hT.2.2.2.1 hT.2.1.1 hT.2.1.2.1 hT.2.1.2.2
            (fun d => .in_ (R':=fun _:Unit=>True) func315 (.y i1 fun _ => .cm _ func123 (bF0 q.2.2.1 (q.1.2:Int) q.2.2.2 aB hq.ht aB) trivial fun _ _ _ _ => .rt () trivial) fun _ _=>d)) fun z hz=>
           .f 7 ((cU y).map (gN y)) row (h:=trivial) <| .g 7 (wN hq.row) <| .p g.1 1 (h:=by unfold I64;omega) <| .n tk (g.1+1,⟨g.2.now,z.1,z.2,g.2.runs.set q.1.1 (cN q.2.2.1 q.1.2)⟩) [] (h1:=⟨by show g.1+1≤_;omega,by show (⟨g.2.now,z.1,z.2,_⟩:Yard)=_;rw[aZ7 hz,hT.2.2.2.2,nR hq.p,← hJ.2]⟩) (h2:=by show (cU y).length - (g.1+1)<_;omega))
          (fun hh=>let h3:¬ q.2.2.2.state=3:=of_decide_eq_false (hq.ho.symm.trans hh)
           .f 7 ((cU y).map (gN y)) row (h:=trivial) <| .g 7 (wN hq.row) <| .p g.1 1 (h:=by unfold I64;omega) <| .n tk (g.1+1,g.2) [] (h1:=⟨by show g.1+1≤_;omega,by show g.2=_;rw[nR hq.p,← hJ.2];exact (aC8 hq.hr hq.ht h3).symm⟩) (h2:=by show (cU y).length - (g.1+1)<_;omega)))
        (fun hge => .rt (g.2,0) ⟨tick_e (j:=g.1) h h7 hJ.2 aB,hRI.ok (hY.at hm) aB,trivial⟩)))) aD
theorem Restart_i (y:Yard) (hw:y.wt≤1048576):Ct1 prog 32 [.S y] [.S (dY y)]:=
 .one (dY y) (rk:=fun x=>[.S x])<|vc func32 (fun (hg:gin [Par.S y])=>let gy:=hg.1.1
  .c func119 (fV y hw) (hg:=⟨gy,trivial⟩) fun _ => .c func118 (lF y hw) (hg:=⟨gy,trivial⟩) fun _ => .v (aM y)
   (fun h => .rt y ⟨by unfold dY;rw[if_neg (by rw[h];simp)],gy,trivial⟩)
   (fun h=>let hY:=kA h
    let h8:=hY.runs
    .la (Γ:=Nat×Yard) (fun g=>g.1≤y.runs.length∧g.2=mW y g.1) (fun g=>y.runs.length - g.1) (fun g=>[vI 17 g.1]) (fun g=>ryS g.2 6 4 5) (0,y) (h:=⟨Nat.zero_le _,rfl⟩) fun g hJ tk=>
     let hRK:RI y g.2 96:=(by rw[hJ.2];exact bH2 hY hJ.1)
     .s ((g.1:Int)<y.runs.length)
      (fun hlt => .x y.runs g.1 (h:=by omega) fun r1 hr1 gr1=>
       let hl12:=(hY.run g.1 r1 hr1).1.small.2.1
       .la (Γ:=Nat×Yard) (fun q=>q.1≤r1.tasks.length∧q.2=rQ (mW y g.1) g.1 q.1) (fun q=>r1.tasks.length - q.1) (fun q=>[vI 25 q.1]) (fun q=>ryS q.2 6 4 5) (0,g.2) (h:=⟨Nat.zero_le _,hJ.2⟩) fun q hq tq=>
        let hRI:RI y q.2 200:=(by rw[hq.2];exact bU9 hY hr1 hq.1)
        .s ((q.1:Int)<r1.tasks.length)
         (fun hl2 => .x r1.tasks q.1 (h:=by omega) fun t1 ht1 gt1 => .ex (p:=fun z:Run×Task=>q.2.runs[g.1]? = some z.1∧RunIs z.1∧z.1.tasks[q.1]? = some z.2∧fR q.2 r1.id (q.1:Int) t1.try_=decide (z.2.state=3)) (by obtain ⟨r2,t2,h1,h2,h3,h4⟩:=hRI.holds hY hr1 ht1;exact ⟨(r2,t2),h1,h2,h3,h4⟩) fun z hz=>
          .c func120 (bE7 q.2 r1.id (q.1:Int) t1.try_ (Nat.le_trans (hRI.wt hY aB) aB)) (hg:=⟨hRI.ok hY aB,trivial⟩) fun _ => .sb (fR q.2 r1.id (q.1:Int) t1.try_)
          (fun hh=>let h3:z.2.state=3:=of_decide_eq_true (hz.2.2.2.symm.trans hh)
           let hT:=cL3 hY hRI aB hz.1 hz.2.2.1 h3 hz.2.1
           .in_ func121 (aF1 6 4 5 20 q.2.now q.2.seq q.2.shelf q.2.runs g.1 (g.1:Int) rfl z.1 (cN z.1 q.1) hz.1 aB hT.2.2.1 hT.1.1 hT.2.2.2.1 hT.2.1.1 hT.2.1.2.1 hT.2.1.2.2
            (fun d => .in_ (R':=fun _:Unit=>True) func122 (.cm _ func123 (bF0 z.1 (q.1:Int) z.2 aB hz.2.2.1 aB) trivial fun _ _ _ _ => .rt () trivial) fun _ _=>d)) fun u hu=>
           .p q.1 1 (h:=by unfold I64;omega) <| .n tq (q.1+1,⟨q.2.now,u.1,u.2,q.2.runs.set g.1 (cN z.1 q.1)⟩) [] (h1:=⟨by show q.1+1≤_;omega,by show (⟨q.2.now,u.1,u.2,_⟩:Yard)=_;rw[aZ7 hu,hT.2.2.2.2,hq.2];rfl⟩) (h2:=by show r1.tasks.length - (q.1+1)<_;omega))
          (fun hh=>let h3:¬ z.2.state=3:=of_decide_eq_false (hz.2.2.2.symm.trans hh)
           .p q.1 1 (h:=by unfold I64;omega) <| .n tq (q.1+1,q.2) [] (h1:=⟨by show q.1+1≤_;omega,by show q.2=lI (rQ (mW y g.1) g.1 q.1) g.1 q.1;rw[← hq.2];exact (aC8 hz.1 hz.2.2.1 h3).symm⟩) (h2:=by show r1.tasks.length - (q.1+1)<_;omega)))
         (fun hl2 => .p g.1 1 (h:=by unfold I64;omega) <| .n tk (g.1+1,q.2) [] (h1:=⟨by show g.1+1≤_;omega,by show q.2=_;rw[hq.2];exact bH3 hr1 aB⟩) (h2:=by show y.runs.length - (g.1+1)<_;omega)))
      (fun hge => .rt g.2 ⟨by unfold dY;rw[if_pos h,hJ.2];congr 1;omega,hRK.ok hY aB,trivial⟩))) aD
theorem aG3 {g:Run→Nat→Run} {y:Yard} {id task try_:Int} {k:Nat} {r:Run} {q:Int×List (List Entry)} (h:eE y id task try_=0) (hk:cI y id=some k) (hr:y.runs[k]? = some r) (hq:vW (g r task.toNat) (fL r (g r task.toNat)) y.seq y.shelf q):((⟨y.now,q.1,q.2,y.runs.set k (g r task.toNat)⟩,eE y id task try_):Yard×Int)=(zW g y id task try_,eE y id task try_):=by
 have hq:q=_:=hq
 subst hq
 rw[pX h hk hr]
 rfl
theorem bS3 {g:Run→Nat→Run} {y:Yard} {id task try_:Int} {k:Nat} {r:Run} {q:Int×List (List Entry)} (hY:YardIs y) (h:eE y id task try_=0) (hk:cI y id=some k) (hr:y.runs[k]? = some r) (hl:(g r task.toNat).tasks.length≤1000) (hq:vW (g r task.toNat) (fL r (g r task.toNat)) y.seq y.shelf q):(⟨y.now,q.1,q.2,y.runs.set k (g r task.toNat)⟩:Yard).ok:=by
 have:=congrArg Prod.fst (aG3 h hk hr hq)
 simp only at this
 rw[this,pX h hk hr]
 exact vP hY hl
theorem bS2 {g:Run→Nat→Run} {y:Yard} {id task try_:Int} (h:¬ eE y id task try_=0):(y,eE y id task try_)=(zW g y id task try_,eE y id task try_):=by rw[pW h]
structure AskJ (y:Yard) (id task:Int) (q:Nat×Run×Task):Prop where
 Y:YardIs y
 ix:cI y id=some q.1
 at_:y.runs[q.1]? = some q.2.1
 R:RunIs q.2.1
 pos:0≤task
 tk:q.2.1.tasks[task.toNat]? = some q.2.2
 run:q.2.2.state=3
theorem cL8 {y:Yard} {id task try_:Int} (h:eE y id task try_=0):∃ q,AskJ y id task q:=by
 obtain ⟨hY,k,r,t,h1,h2,h3,h4,h5,h6⟩:=aP1 h
 exact ⟨(k,r,t),hY,h1,h2,h3,h4,h5,h6⟩
theorem AskJ.small {y:Yard} {id task:Int} {q:Nat×Run×Task} (h:AskJ y id task q):q.2.1.ok∧q.2.1.tasks.length≤12∧4≤y.shelf.length∧(y.shelf.getD (aX q.2.1.id).toNat []).length≤1000000∧(0≤y.seq∧y.seq≤4000000000):=by
 have h1:=h.R.small
 have h2:=(RI.start h.Y).chg h.Y (Nat.zero_le _) q.2.1.id
 exact ⟨h1.1,h1.2.1,h2⟩
theorem Complete_i (y:Yard) (id task try_:Int) (hw:y.wt≤1048576):Ct1 prog 207 [.S y,.I id,.I task,.I try_] [.S (fN y id task try_),.I (eE y id task try_)]:=
 .one (fN y id task try_,eE y id task try_) (rk:=fun q=>[.S q.1,.I q.2])<|vc func207 (fun (hg:gin [Par.S y,Par.I id,Par.I task,Par.I try_])=>let gy:=hg.1.1
  .c func119 (fV y hw) (hg:=⟨gy,trivial⟩) fun _ => .c func310 (cM3 y id task try_ hw) (hg:=⟨gy,trivial⟩) fun _ => .s (eE y id task try_=0)
   (fun h => .ex (cL8 h) fun z hz=>let hs:=hz.small
    let hk:=pG z.2.1 task.toNat
    .c func232 (lG y id hw) (hg:=⟨gy,trivial⟩) fun _ => .in_ func121 (aF1 7 5 6 14 y.now y.seq y.shelf y.runs z.1 (aH y id) (dE hz.ix) z.2.1 (jR z.2.1 task.toNat) hz.at_ aB (by rw[hk.2.2.1];omega) hs.1 (doneR_ok hs.1 _) hs.2.2.1 (by rw[hk.1];exact hs.2.2.2.1) hs.2.2.2.2
     (fun d => .in_ (R':=fun _:Unit=>True) func311 (.cm _ func312 (Done_p z.2.1 task z.2.2 hz.pos hz.tk hz.R) trivial fun _ _ _ _ => .rt () trivial) fun _ _=>d)) fun q hq=>
      .rt (⟨y.now,q.1,q.2,y.runs.set z.1 (jR z.2.1 task.toNat)⟩,eE y id task try_) ⟨aG3 h hz.ix hz.at_ hq,bS3 hz.Y h hz.ix hz.at_ (by rw[hk.2.2.1];omega) hq,trivial⟩)
   (fun h => .rt (y,eE y id task try_) ⟨bS2 h,gy,trivial⟩)) aD
theorem Fail_i (y:Yard) (id task try_:Int) (hw:y.wt≤1048576):Ct1 prog 208 [.S y,.I id,.I task,.I try_] [.S (pF y id task try_),.I (eE y id task try_)]:=
 .one (pF y id task try_,eE y id task try_) (rk:=fun q=>[.S q.1,.I q.2])<|vc func208 (fun (hg:gin [Par.S y,Par.I id,Par.I task,Par.I try_])=>let gy:=hg.1.1
  .c func119 (fV y hw) (hg:=⟨gy,trivial⟩) fun _ => .c func310 (cM3 y id task try_ hw) (hg:=⟨gy,trivial⟩) fun _ => .s (eE y id task try_=0)
   (fun h => .ex (cL8 h) fun z hz=>let hs:=hz.small
    let hk:=rK z.2.1 task.toNat
    .c func232 (lG y id hw) (hg:=⟨gy,trivial⟩) fun _ => .in_ func121 (aF1 7 5 6 14 y.now y.seq y.shelf y.runs z.1 (aH y id) (dE hz.ix) z.2.1 (cN z.2.1 task.toNat) hz.at_ aB (by rw[hk.2.2.1];omega) hs.1 (failsR_ok hs.1 _) hs.2.2.1 (by rw[hk.1];exact hs.2.2.2.1) hs.2.2.2.2
     (fun d => .in_ (R':=fun _:Unit=>True) func313 (.cm _ func123 (bF0 z.2.1 task z.2.2 hz.pos hz.tk aB) trivial fun _ _ _ _ => .rt () trivial) fun _ _=>d)) fun q hq=>
      .rt (⟨y.now,q.1,q.2,y.runs.set z.1 (cN z.2.1 task.toNat)⟩,eE y id task try_) ⟨aG3 h hz.ix hz.at_ hq,bS3 hz.Y h hz.ix hz.at_ (by rw[hk.2.2.1];omega) hq,trivial⟩)
   (fun h => .rt (y,eE y id task try_) ⟨bS2 h,gy,trivial⟩)) aD
theorem pl_robI {y out:Yard} {h:Nat} {o:Int} (hP:PI y out h) (hh:h<4) (ho:0≤o∧o≤3∧o≠(h:Int)):∃ q:List Entry×List Entry,(aZ out o).shelf[o.toNat]? = some q.1∧(aZ out o).shelf[h]? = some q.2∧((aZ out o).shelf.set h (eB q.2 (q.1.take (dA q.1))))[o.toNat]? = some q.1∧q.1.length≤80∧q.2.length≤80 ∧
  (⟨(aZ out o).now,(aZ out o).seq,((aZ out o).shelf.set h (eB q.2 (q.1.take (dA q.1)))).set o.toNat (q.1.drop (dA q.1)),(aZ out o).runs⟩:Yard)=bA7 (aZ out o) h o.toNat:=by
 have hs:=hP.sw (o:=o) aB
 have hne:h≠o.toNat:=by omega
 exact ⟨((aZ out o).shelf.getD o.toNat [],(aZ out o).shelf.getD h []),getD_some aB,getD_some aB,by rw[getElem?_set_ne hne];exact getD_some aB,hs.2 _ aB,hs.2 _ hh,rfl⟩
theorem Poll_i (y:Yard) (w d:Int) (hw:y.wt≤1048576) (hd:I64 d):Ct1 prog 206 [.S y,.I w,.I d] [.S (gU y w d).1,.S (gU y w d).2]:=
 .one (gU y w d) (rk:=fun q=>[.S q.1,.S q.2])<|vc func206 (fun (hg:gin [Par.S y,Par.I w,Par.I d])=>let gy:=hg.1.1
  .c func118 (lF y hw) (hg:=⟨gy,trivial⟩) fun _ => .v (aM y)
   (fun h => .c func119 (fV y hw) (hg:=⟨gy,trivial⟩) fun _ => .rt (y,⟨8,0,0,0⟩) ⟨pl_8 h,gy,aT3 8 aB,trivial⟩)
   (fun hy=>let hY:=kA hy
    .c func92 (bZ w 0 99) fun _ => .v (inB w 0 99)
    (fun h => .c func119 (fV y hw) (hg:=⟨gy,trivial⟩) fun _ => .rt (y,⟨5,0,0,0⟩) ⟨pl_5 hy h,gy,aT3 5 aB,trivial⟩)
    (fun hin=>let hwk:=inB_iff.1 hin
     .q w 4 (h:=by omega) <| .c func305 (cA5 y (w % 4) hw) (hg:=⟨gy,trivial⟩) fun _ => .c func306 (Victims_i (w % 4) d aB hd) fun _=>
     let fin:∀ (m:Nat) (out:Yard),out=fE (w % 4).toNat (aZ y (w % 4)) (bU (w % 4) d)→PI y out (w % 4).toNat→out.ok→D prog (fun q:Yard×Reply=>q=gU y w d∧rgd [Rk.S q.1,Rk.S q.2]):=fun m out ho hP go=>
      let hl:=aE1 hP (show (w % 4).toNat<4 by omega)
      let h80:=hP.each (w % 4).toNat aB
      .ye hl (w % 4) (he:=oF w) fun _ => .c func309 (TakeEntry_i (out.shelf.getD (w % 4).toNat []) aB) fun gt => .v (cC (out.shelf.getD (w % 4).toNat [])).2.2
       (fun hn => .rt (out,⟨9,0,0,0⟩) ⟨by rw[← pl_0 hy hin ho];exact (aM1 (cD5 hn)).symm,go,aT3 9 aB,trivial⟩)
       (fun hn=>let hcs:=bS6 hn
        .ex (pl_at hY hP (show (cC (out.shelf.getD (w % 4).toNat [])).1∈(out.shelf.getD (w % 4).toNat []) by rw[hcs];exact mem_cons_self)) fun q hq=>
        let hnow:0≤out.now∧out.now≤999999980:=(by rw[hP.now];exact hY.now)
        let hrl:(cC (out.shelf.getD (w % 4).toNat [])).2.1.length≤80:=(by have h_:=h80;rw[hcs] at h_;simp only[length_cons] at h_;omega)
        let htr:=hq.is.tries hq.ht
        let h1:I64 (q.2.2.try_+1):=(by unfold I64;omega)
        let h2:I64 (out.now+q.2.1.plan.wait):=(by unfold I64;omega)
        .d 5 hl fun _ => .ie (w % 4).toNat (w % 4) (he:=oF w) <| .w1 <| .f 5 out.shelf (cC (out.shelf.getD (w % 4).toNat [])).2.1 (h:=trivial) <|
        .c func232 (lG ⟨out.now,out.seq,out.shelf.set (w % 4).toNat (cC (out.shelf.getD (w % 4).toNat [])).2.1,out.runs⟩ (cC (out.shelf.getD (w % 4).toNat [])).1.run (Nat.le_trans (hP.wtS hY hrl) aB)) (hg:=⟨go,trivial⟩) fun _=>
        .ye hq.hr (aH ⟨out.now,out.seq,out.shelf.set (w % 4).toNat (cC (out.shelf.getD (w % 4).toNat [])).2.1,out.runs⟩ (cC (out.shelf.getD (w % 4).toNat [])).1.run) (he:=dE hq.ix) fun _ => .d 6 hq.hr fun gr => .lq 17 6 <| .d (m+11) hq.ht fun gu => .ie (cC (out.shelf.getD (w % 4).toNat [])).1.task.toNat (cC (out.shelf.getD (w % 4).toNat [])).1.task (he:=by have:=hq.h0;omega) <|
        .p q.2.2.try_ 1 (h:=h1) <| .p out.now q.2.1.plan.wait (h:=h2) <| .wt 999 <| .f (m+11) q.2.1.tasks ⟨3,q.2.2.need,q.2.2.try_+1,out.now+q.2.1.plan.wait⟩ (h:=st_ok gu h1 h2) <| .f 6 out.runs (kB q.2.1 (cC (out.shelf.getD (w % 4).toNat [])).1.task.toNat q.2.2 out.now) (h:=gr) <|
        .rt (⟨out.now,out.seq,out.shelf.set (w % 4).toNat (cC (out.shelf.getD (w % 4).toNat [])).2.1,out.runs.set q.1 (kB q.2.1 (cC (out.shelf.getD (w % 4).toNat [])).1.task.toNat q.2.2 out.now)⟩,⟨0,(cC (out.shelf.getD (w % 4).toNat [])).1.run,(cC (out.shelf.getD (w % 4).toNat [])).1.task,q.2.2.try_+1⟩)
         ⟨by rw[← pl_0 hy hin ho];exact (aV6 hcs hq.ix hq.hr hq.ht).symm,go,bO6 (by unfold I64;omega) gt.1.1.2.2.1 gt.1.1.2.2.2 h1,trivial⟩)
     .la (Γ:=Nat×Yard) (fun g=>g.1≤3∧g.2=fE (w % 4).toNat (aZ y (w % 4)) ((bU (w % 4) d).take g.1)) (fun g=>3 - g.1) (fun g=>[vI 42 g.1]) (fun g=>ryS g.2 7 5 6) (0,aZ y (w % 4)) (h:=⟨Nat.zero_le _,(aA5 _ _ _).symm⟩) fun g hJ tk=>
      let hP:PI y g.2 (w % 4).toNat:=(by rw[hJ.2];exact bV4 hY w d g.1)
      let hl:=aE1 hP (show (w % 4).toNat<4 by omega)
      let go:g.2.ok:=hP.ok hY
      .s ((g.1:Int)<(bU (w % 4) d).length)
       (fun hlt => .ex (p:=fun o=>(bU (w % 4) d)[g.1]? = some o) ⟨_,getElem?_eq_getElem (show g.1<(bU (w % 4) d).length by omega)⟩ fun o hk=>
        let hor:=oQ (home:=w % 4) (draw:=d) aB o (mem_of_getElem? hk)
        .ex (pl_robI hP (show (w % 4).toNat<4 by omega) (show 0≤o∧o≤3∧o≠(((w % 4).toNat:Nat):Int) by omega)) fun q hq=>
        .y hk fun _ => .ye hl (w % 4) (he:=oF w) fun _ => .s ((0:Int)<((g.2.shelf.getD (w % 4).toNat []).length:Int))
        (fun hem=>fin 12 g.2 (by rw[hJ.2];exact (aI3 (by rw[← hJ.2];exact bW2 aB)).symm) hP go)
        (fun hem => .c func305 (cA5 g.2 o (Nat.le_trans (hP.wt hY) aB)) (hg:=⟨go,trivial⟩) fun gs=>
         .ye hq.1 o (he:=by omega) fun _ => .c func307 (HalfOf_i q.1 (by have:=hq.2.2.2.1;omega)) fun _=>
         .d 12 hq.2.1 fun _ => .ie (w % 4).toNat (w % 4) (he:=oF w) <| .c func308 (Merged_i q.2 (q.1.take (dA q.1)) (by have:=hq.2.2.2.2.1;omega) (by have:=hq.2.2.2.1;rw[length_take];omega)) fun _ => .ie (w % 4).toNat (w % 4) (he:=oF w) <| .wt 75 <| .f 12 (aZ g.2 o).shelf (eB q.2 (q.1.take (dA q.1))) (h:=trivial) <|
         .d 12 hq.2.2.1 fun _ => .ie o.toNat o (he:=by omega) <| .w1 <| .f 12 ((aZ g.2 o).shelf.set (w % 4).toNat (eB q.2 (q.1.take (dA q.1)))) (q.1.drop (dA q.1)) (h:=trivial) <|
         .p g.1 1 (h:=by unfold I64;omega) <| .n tk (g.1+1,⟨(aZ g.2 o).now,(aZ g.2 o).seq,((aZ g.2 o).shelf.set (w % 4).toNat (eB q.2 (q.1.take (dA q.1)))).set o.toNat (q.1.drop (dA q.1)),(aZ g.2 o).runs⟩) [(5,12),(6,13)]
          (h1:=⟨by show g.1+1≤3;have:(bU (w % 4) d).length=3:=rfl;omega,by rw[aT0 hk (by rw[← hJ.2];exact nil0 aB),← hJ.2];exact hq.2.2.2.2.2⟩) (h2:=by show 3 - (g.1+1)<_;have:(bU (w % 4) d).length=3:=rfl;omega)))
       (fun hlt=>fin 9 g.2 (by rw[hJ.2];exact aI4 (by have:(bU (w % 4) d).length=3:=rfl;omega)) hP go)))) aD
theorem Do_i (y:Yard) (d:Deed) (hw:y.wt≤1048576):Ct1 prog 106 [.S y,.S d] [.S (doD y d).1,.S (doD y d).2]:=
 .one (doD y d) (rk:=fun q=>[.S q.1,.S q.2])<|vc func106 (fun (hg:gin [Par.S y,Par.S d])=>let gy:=hg.1.1
  let gd:d.ok:=hg.2.1.1
  .c func151 (bN5 d) (hg:=⟨gd,trivial⟩) fun _ => .v (bA d)
   (fun h => .c func119 (fV y hw) (hg:=⟨gy,trivial⟩) fun _ => .rt (y,eL 5) ⟨do_0 h,gy,fS aB,trivial⟩)
   (fun h=>let hk:=bZ3 h
    .s (d.kind=1)
    (fun h1 => .c func205 (Submit_i y d.run d.plan hw (dd_wt h)) (hg:=⟨gy,gd.2.2.1,trivial⟩) fun hz => .rt ((bL y d.run d.plan).1,eL (bL y d.run d.plan).2) ⟨do_1 h h1,hz.1.1,fS (uE y d.run d.plan),trivial⟩)
    (fun h1 => .s (d.kind=2)
    (fun h2 => .c func206 (Poll_i y d.worker d.draw hw gd.2.2.2.2.2.2) (hg:=⟨gy,trivial⟩) fun hz => .rt (gU y d.worker d.draw) ⟨do_2 h h2,hz.1.1,hz.2.1.1,trivial⟩)
    (fun h2 => .s (d.kind=3)
    (fun h3 => .c func207 (Complete_i y d.run d.task d.try_ hw) (hg:=⟨gy,trivial⟩) fun hz => .rt (fN y d.run d.task d.try_,eL (eE y d.run d.task d.try_)) ⟨do_3 h h3,hz.1.1,bE3 _ _ _ _,trivial⟩)
    (fun h3 => .s (d.kind=4)
    (fun h4 => .c func208 (Fail_i y d.run d.task d.try_ hw) (hg:=⟨gy,trivial⟩) fun hz => .rt (pF y d.run d.task d.try_,eL (eE y d.run d.task d.try_)) ⟨do_4 h h4,hz.1.1,bE3 _ _ _ _,trivial⟩)
    (fun h4 => .s (d.kind=5)
    (fun h5 => .c func209 (Tick_i y hw) (hg:=⟨gy,trivial⟩) fun hz => .rt ((eN y).1,eL (eN y).2) ⟨do_5 h h5,hz.1.1,fS (aG5 y),trivial⟩)
    (fun h5 => .s (d.kind=6)
    (fun h6 => .c func210 (Cancel_i y d.run hw) (hg:=⟨gy,trivial⟩) fun hz => .rt ((bW y d.run).1,eL (bW y d.run).2) ⟨do_6 h h6,hz.1.1,fS (uL y d.run),trivial⟩)
    (fun h6 => .s (d.kind=7)
    (fun h7 => .c func211 (Forget_i y d.run gd.2.1 hw) (hg:=⟨gy,trivial⟩) fun hz => .rt ((bG y d.run).1,eL (bG y d.run).2) ⟨do_7 h h7,hz.1.1,fS (uI y d.run),trivial⟩)
    (fun h7 => .c func32 (Restart_i y hw) (hg:=⟨gy,trivial⟩) fun hz => .c func118 (lF y hw) (hg:=⟨gy,trivial⟩) fun _ => .v (aM y)
     (fun h9 => .rt (dY y,eL 8) ⟨do_8 h aB 8 (by rw[h9];rfl),hz.1.1,fS aB,trivial⟩)
     (fun h9 => .rt (dY y,eL 0) ⟨do_8 h aB 0 (by rw[h9];rfl),hz.1.1,fS aB,trivial⟩)))))))))) aD
section
variable {P:Program} {n:Nat} {f:Nat→Value} {W w0:World} {rs:List Res} {Q:Exit→Act→World→Prop} {K:Value→World→Prop}
 {d:Option Tmp} {ty:TypeId} {pos:String} {af:Array Go.Edge} {g:Option (Nat×Bool)} {α:Type} [Shape α]
theorem Elems.reps {W:World} {zs:List Value} {z:α} (h:Shape.C W zs z []):∀ m,Elems W ((List.range (m*zs.length)).map (fun j=>zs.toArray[j % zs.toArray.size]!)) (List.replicate m z) []
 | 0=>by rw[Nat.zero_mul];exact ⟨rfl,rfl⟩
 | m+1=>by
  have ih:=Elems.reps h m
  have e:(List.range ((m+1)*zs.length)).map (fun j=>zs.toArray[j % zs.toArray.size]!)=(List.range (m*zs.length)).map (fun j=>zs.toArray[j % zs.toArray.size]!)++zs:=by
   rw[Nat.succ_mul,range_add,map_append,map_map]
   congr 1
   apply ext_getElem
   ·simp
   intro j h1 h2
   simp only[getElem_map,getElem_range,Function.comp,size_toArray]
   rw[Nat.mul_comm,Nat.mul_add_mod,Nat.mod_eq_of_lt h2]
   simp[h2]
  rw[e,replicate_succ']
  exact ih.append (Elems.single h)
end
theorem restartY_wt {y:Yard} (h:aM y=true):(dY y).wt≤100000:=by
 have hY:=kA h
 unfold dY
 rw[h,if_pos rfl]
 exact (RI.outer hY _ (Nat.le_refl _)).wt hY (by have:=hY.runs;omega)
theorem wD {y:Yard} {s:List (List Entry)} {rr:List Run} {a b:Int} (h4:s.length=4) (he:∀ j,j<4→(s.getD j []).length≤1000) (h8:rr.length≤8) (hr:∀ r∈rr,r.wt≤42):(⟨a,b,s,rr⟩:Yard).wt≤100000:=by
 have hs:=wH (fun z:List Entry=>z.length) 1000 s (fun z hz=>by
  obtain ⟨j,hj,rfl⟩:=getElem_of_mem hz
  have:=he j aB
  rw[getD_eq_getElem?_getD,getElem?_eq_getElem hj] at this
  simpa using this)
 have hq:=wH (fun z:Run=>z.wt) 42 rr hr
 rw[h4] at hs
 have:rr.length*42≤8*42:=Nat.mul_le_mul_right _ h8
 unfold Yard.wt wtL
 simp only
 omega
theorem aO1 {y:Yard} (hY:YardIs y) {k:Nat} {r r':Run} (hr:y.runs[k]? = some r) (hl:r'.tasks.length≤12) (hw:r'.wt≤42):(dW y k r r').wt≤100000:=by
 have h4:=hY.shelf
 have hsr:=iN r'.id
 have hfl:=pC r r'
 refine wD (y:=y) ?_ ?_ ?_ ?_
 ·rw[nU];exact h4
 ·intro j hj
  by_cases e:j=(aX r'.id).toNat
  ·subst e
   rw[nV _ _ _ _ _ _ aB]
   have:=mD hY (aX r'.id).toNat aB
   omega
  rw[nD _ _ _ j e]
  have:=mD hY j hj
  omega
 ·rw[length_set];exact hY.runs
 intro q hq
 rcases mem_or_eq_of_mem_set hq with h | rfl
 ·exact wS hY q h
 exact hw
theorem doneR_wt {r:Run} (h:RunIs r) (i:Nat):(jR r i).tasks.length≤12∧(jR r i).wt≤42:=by
 obtain ⟨h1,h2,h3,h4⟩:=pG r i
 have hs:=h.small
 have hw:=h.wt
 unfold Run.wt at hw ⊢
 rw[h2,h3]
 omega
theorem completeY_wt {y:Yard} (id task try_:Int) {B:Nat} (hB:100000≤B) (hw:y.wt≤B):(fN y id task try_).wt≤B:=by
 unfold fN
 by_cases h:eE y id task try_=0
 ·obtain ⟨hY,k,r,t,hk,hr,hR,h0,ht,h3⟩:=aP1 h
  rw[pX h hk hr]
  obtain ⟨h1,h2⟩:=doneR_wt hR task.toNat
  have:=aO1 hY hr h1 h2
  omega
 rw[pW h];exact hw
theorem startT_wt {r:Run} (i:Nat) (t:Task) (now:Int):(kB r i t now).wt=r.wt:=by unfold kB Run.wt;simp
theorem given_wt {y out:Yard} {home:Nat} (hY:YardIs y) (h:PI y out home):(sL out home).1.wt≤100000:=by
 have hb:=h.wt hY
 unfold sL
 split
 ·exact hb
 next e rest he=>
 split
 ·exact hb
 next k hk=>
 split
 ·exact hb
 next r hr=>
 split
 ·exact hb
 next t ht=>
 have hrest:rest.length≤80:=by
  by_cases hh:home<4
  ·have:=h.each home hh;rw[he] at this;simp only[length_cons] at this;omega
  rw[getD_eq_getElem?_getD,getElem?_eq_none (by have:=h.len;omega)] at he;cases he
 refine aZ4 (y:=y) (by rw[length_set];exact h.len) (oI h.each hrest h.len) (by rw[length_set,h.runs];exact hY.runs) ?_
 intro q hq
 rcases mem_or_eq_of_mem_set hq with h1 | rfl
 ·rw[h.runs] at h1;exact wS hY q h1
 rw[startT_wt]
 rw[h.runs] at hr
 exact wS hY r (mem_of_getElem? hr)
theorem polled_wt {y:Yard} (worker draw:Int) {B:Nat} (hB:100000≤B) (hw:y.wt≤B):(gU y worker draw).1.wt≤B:=by
 unfold gU
 split
 ·exact hw
 next h1=>
 split
 ·exact hw
 next h2=>
 have hY:=kA (y:=y) (by simpa using h1)
 have hi:=inB_iff'.1 (show inB worker 0 99=true by simpa using h2)
 have hh:(((worker % 4).toNat:Nat):Int)=worker % 4:=by omega
 have hPI:=PI.all hY (home:=(worker % 4).toNat) aB (l:=bU (worker % 4) draw) (by rw[hh];exact oQ aB) (PI.start hY aB)
 rw[hh] at hPI
 have:=given_wt hY hPI
 omega
theorem failsR_wt {r:Run} (h:RunIs r) {i:Nat} {t:Task} (ht:r.tasks[i]? = some t) (h3:t.state=3):(cN r i).tasks.length≤12∧(cN r i).wt≤42:=by
 have hR:=h.fails ht h3
 exact ⟨hR.small.2.1,hR.wt⟩
theorem failY_wt {y:Yard} (id task try_:Int) {B:Nat} (hB:100000≤B) (hw:y.wt≤B):(pF y id task try_).wt≤B:=by
 by_cases hA0:eE y id task try_=0
 ·obtain ⟨hY,k,r,t,hix,hr,hRI,h0,hti,h3⟩:=aP1 hA0
  have hd:=failsR_wt hRI hti h3
  have e:pF y id task try_=dW y k r (cN r task.toNat):=pX hA0 hix hr
  rw[e]
  exact Nat.le_trans (aO1 hY hr hd.1 hd.2) hB
 have e:pF y id task try_=y:=pW hA0
 rw[e];exact hw
theorem submitted_wt {y:Yard} (id:Int) (p:Plan) {B:Nat} (hB:100000≤B) (hw:y.wt≤B):(bL y id p).1.wt≤B:=by
 unfold bL
 split
 ·exact hw
 next h1=>
 split
 ·exact hw
 split
 ·exact hw
 split
 ·exact hw
 next h4=>
 split
 ·exact hw
 next h5=>
 have hY:=kA (by simpa using h1)
 have hpf:aK p=0:=by simpa using h4
 have hpr:=bH9 hpf
 have hroom:jL y p=true:=by simpa using h5
 have hr8:y.runs.length<8:=by unfold jL at hroom;simp at hroom;omega
 refine Nat.le_trans (wD (y:=y) ?_ ?_ ?_ ?_) hB
 ·rw[nU];exact hY.shelf
 ·intro j hj
  by_cases e:j=(aX id).toNat
  ·subst e
   rw[nV _ _ _ _ _ _ (by have:=hY.shelf;omega)]
   have h7:(aR (cA id p).tasks 2).length≤(cA id p).tasks.length:=iL _ _ _
   have h8:(cA id p).tasks.length=p.tasks.toNat:=kO p _
   have h9:=mD hY (aX id).toNat hj
   omega
  rw[nD _ _ _ j e]
  have:=mD hY j hj
  omega
 ·rw[length_append,length_singleton];omega
 intro r hr
 rcases mem_append.1 hr with hr | hr
 ·obtain ⟨j,hj⟩:=mem_iff_getElem?.1 hr
  exact (hY.run j r hj).1.wt
 rw[mem_singleton] at hr;subst hr
 have h8:(cA id p).tasks.length=p.tasks.toNat:=kO p _
 show (cA id p).plan.wt+(cA id p).tasks.length≤42
 have:(cA id p).plan.wt=p.edges.length:=rfl
 omega
theorem ticked_wt {y:Yard} {B:Nat} (hB:100000≤B) (hw:y.wt≤B):(eN y).1.wt≤B:=by
 unfold eN
 split
 ·exact hw
 next h1=>
 split
 ·exact hw
 have hY:=kA (by simpa using h1)
 have hn:=hY.now
 have hr:=hY.runs
 have hl:=tJ hY y.runs.length
 have hY1:YardIs (pI (y.now+1) y):=hY.at aB
 have h2:=RI.list hY1 (l:=cU y) aE4 (cU y).length
 rw[take_length] at h2
 exact Nat.le_trans (h2.wt hY1 (by show (lK y y.runs.length).length≤1000;omega)) hB
theorem goneR_wt (r:Run):(lL r).wt=r.wt:=by
 unfold lL
 split
 ·show r.plan.wt+(hQ r.tasks (-1)).length=_
  rw[aL5];rfl
 rfl
theorem cancelled_wt {y:Yard} (id:Int) {B:Nat} (hB:100000≤B) (hw:y.wt≤B):(bW y id).1.wt≤B:=by
 unfold bW
 split
 ·exact hw
 next h1=>
 split
 ·next r hr=>
  split
  ·exact hw
  split
  ·exact hw
  have hY:=kA (by simpa using h1)
  refine Nat.le_trans (wD (y:=y) hY.shelf (fun j hj=>by have:=mD hY j hj;omega) (by rw[length_set];exact hY.runs) ?_) hB
  intro q hq
  rcases mem_or_eq_of_mem_set hq with hq | hq
  ·obtain ⟨j,hj⟩:=mem_iff_getElem?.1 hq
   exact (hY.run j q hj).1.wt
  subst hq
  rw[goneR_wt]
  exact (hY.run _ r hr).1.wt
 exact hw
theorem forgotten_wt {y:Yard} (id:Int) {B:Nat} (hB:100000≤B) (hw:y.wt≤B):(bG y id).1.wt≤B:=by
 unfold bG
 split
 ·exact hw
 next h1=>
 split
 ·next r hr=>
  split
  ·exact hw
  split
  ·exact hw
  have hY:=kA (by simpa using h1)
  refine Nat.le_trans (wD (y:=y) (by rw[length_map];exact hY.shelf) (fun j hj => ?_) ?_ ?_) hB
  ·have h2:=mD hY j hj
   have h4:=hY.shelf
   rw[getD_eq_getElem?_getD,getElem?_map]
   rw[getD_eq_getElem?_getD] at h2
   cases hq:y.shelf[j]? with
   | none=>simp
   | some l=>
    rw[hq] at h2
    have:=bD3 id l
    simp at h2 ⊢;omega
  ·have:=length_eraseIdx_le y.runs (aH y id).toNat
   have:=hY.runs
   omega
  intro q hq
  obtain ⟨j,hj⟩:=mem_iff_getElem?.1 (mem_of_mem_eraseIdx hq)
  exact (hY.run j q hj).1.wt
 exact hw
theorem bQ0 {y:Yard} (d:Deed) {B:Nat} (hB:100000≤B) (hw:y.wt≤B):(doD y d).1.wt≤B:=by
 unfold doD
 split
 ·exact hw
 split
 ·exact submitted_wt _ _ hB hw
 split
 ·exact polled_wt _ _ hB hw
 split
 ·exact completeY_wt _ _ _ hB hw
 split
 ·exact failY_wt _ _ _ hB hw
 split
 ·exact ticked_wt hB hw
 split
 ·exact cancelled_wt _ hB hw
 split
 ·exact forgotten_wt _ hB hw
 show (dY y).wt≤B
 cases h:aM y with
 | true=>exact Nat.le_trans (restartY_wt h) hB
 | false=>
  have:dY y=y:=by unfold dY;rw[h];rfl
  rw[this];exact hw
noncomputable def doSt (a:Yard×List Reply) (d:Deed):Yard×List Reply:=((doD a.1 d).1,a.2++[(doD a.1 d).2])
noncomputable def doL (y:Yard) (ds:List Deed):Yard×List Reply:=ds.foldl doSt (y,[])
theorem doL_to {y:Yard} {ds:List Deed} {k:Nat} {d:Deed} (h:ds[k]? = some d):doL y (ds.take (k+1))=doSt (doL y (ds.take k)) d:=by
 unfold doL;rw[← dS h,foldl_append];rfl
theorem doF_wt (ds:List Deed):∀ a:Yard×List Reply,a.1.wt≤1048576→(ds.foldl doSt a).1.wt≤1048576:=by
 induction ds with
 | nil=>exact fun a h=>h
 | cons d ds ih=>exact fun a h=>ih _ (bQ0 d aB h)
theorem doL_wt {y:Yard} (ds:List Deed) (h:y.wt≤1048576):(doL y ds).1.wt≤1048576:=doF_wt ds (y,[]) h
theorem doF_len (ds:List Deed):∀ a:Yard×List Reply,(ds.foldl doSt a).2.length=a.2.length+ds.length:=by
 induction ds with
 | nil=>exact fun a=>rfl
 | cons d ds ih=>intro a;rw[foldl_cons,ih];simp only[doSt,length_append,length_cons,length_nil];omega
theorem doL_len (y:Yard) (ds:List Deed):(doL y ds).2.length=ds.length:=by unfold doL;rw[doF_len];simp
structure DaJ (y:Yard) (ds:List Deed) (g:Nat×Yard×List Reply):Prop where
 le:g.1≤ds.length
 eq:g.2=doL y (ds.take g.1)
 ok:g.2.1.ok
theorem DaJ.wt {y:Yard} {ds:List Deed} {g:Nat×Yard×List Reply} (h:DaJ y ds g) (hw:y.wt≤1048576):g.2.1.wt≤1048576:=by rw[h.eq];exact doL_wt _ hw
theorem DaJ.len {y:Yard} {ds:List Deed} {g:Nat×Yard×List Reply} (h:DaJ y ds g):g.2.2.length≤ds.length:=by rw[h.eq,doL_len,length_take];omega
theorem DaJ.next {y:Yard} {ds:List Deed} {g:Nat×Yard×List Reply} {d:Deed} (h:DaJ y ds g) (hd:ds[g.1]? = some d) (ho:(doD g.2.1 d).1.ok):DaJ y ds (g.1+1,(doD g.2.1 d).1,g.2.2++[(doD g.2.1 d).2]):=
 ⟨(gsi_.1 hd).1,by show _=doL y (ds.take (g.1+1));rw[doL_to hd,← h.eq];rfl,ho⟩
def gO:ByteArray:=⟨#[109,97,114,107]⟩
def moR (y0:Yard) (rm:ByteArray→Yard×Int×Bool) (d:Disk):Yard×Int×Bool:=if fAt d.files gO<0 then (y0,0,true) else rm (cW d.files gO)
theorem MarkOfS (y0:Yard) (rm:ByteArray→Yard×Int×Bool) (d:Disk) (hl:d.files.length≤1048576) (hN:Ct1 prog 125 [] [.S y0]) (hR:Ct1 prog 126 [.T (cW d.files gO)] [.S (rm (cW d.files gO)).1,.I (rm (cW d.files gO)).2.1,.B (rm (cW d.files gO)).2.2]):Ct1 prog 34 [.S d] [.S (moR y0 rm d).1,.I (moR y0 rm d).2.1,.B (moR y0 rm d).2.2]:=
 .one (moR y0 rm d) (rk:=fun a=>[.S a.1,.I a.2.1,.B a.2.2])<|vc func34 (fun (hg:gin [Par.S d]) => .c func108 (tV d gO hl) (hg:=⟨hg.1.1,trivial⟩) fun _ => .s (fAt d.files gO<0)
  (fun h => .c func125 hN (hg:=trivial) fun gd => .rt (y0,0,true) ⟨by unfold moR;rw[if_pos h],gd.1.1,trivial⟩)
  (fun h => .c func110 (zS d gO hl) (hg:=⟨hg.1.1,trivial⟩) fun _ => .c func126 hR (hg:=trivial) fun gd => .rt (rm (cW d.files gO)) ⟨by unfold moR;rw[if_neg h],gd.1.1,trivial⟩)) aD
theorem MarkOfI (y0:Yard) (rm:ByteArray→Yard×Int×Bool) (d:Disk) (hA:Ct1 prog 94 [.S d,.T gO] [.I (fAt d.files gO)]) (hF:Ct1 prog 86 [.S d,.T gO] [.T (cW d.files gO)]) (hN:Ct1 prog 102 [] [.S y0]) (hR:Ct1 prog 103 [.T (cW d.files gO)] [.S (rm (cW d.files gO)).1,.I (rm (cW d.files gO)).2.1,.B (rm (cW d.files gO)).2.2]):Ct1 prog 25 [.S d] [.S (moR y0 rm d).1,.I (moR y0 rm d).2.1,.B (moR y0 rm d).2.2]:=
 .one (moR y0 rm d) (rk:=fun a=>[.S a.1,.I a.2.1,.B a.2.2])<|vc func25 (fun (hg:gin [Par.S d]) => .c func94 hA (hg:=⟨hg.1.1,trivial⟩) fun _ => .s (fAt d.files gO<0)
  (fun h => .c func102 hN (hg:=trivial) fun gd => .rt (y0,0,true) ⟨by unfold moR;rw[if_pos h],gd.1.1,trivial⟩)
  (fun h => .c func86 hF (hg:=⟨hg.1.1,trivial⟩) fun _ => .c func103 hR (hg:=trivial) fun gd => .rt (rm (cW d.files gO)) ⟨by unfold moR;rw[if_neg h],gd.1.1,trivial⟩)) aD
theorem bU6 {s:ByteArray} (h:¬ (s.size≤60000∧(iK s).1.bad=false∧(iK s).1.at_=s.size∧aM (iK s).2=true)):(yard0,false)=eQ s:=by unfold eQ;rw[if_neg h]
section
variable {A:Type} {R:A→Prop}
noncomputable def cmSh (x:LIn) (h:x.in_) (k:D prog R):D prog R := .cm 350 func350 (show Cm prog 350 [] (inferInstance:Dsh LIn) x (fun _:Unit=>True) (fun _=>(dL linR x).1) (fun _=>[.L (dL linR x).2]) by rw[← shelfL_eq];exact ShelfL x h) trivial fun _ _ _ _=>k
noncomputable def cmRn (x:LIn) (h:x.in_) (k:D prog R):D prog R := .cm 351 func351 (RunL x h) trivial fun _ _ _ _=>k
end
noncomputable def rsEnd (s:ByteArray) (hs:s.size≤60000) (w:LIn×List Run) (y:Yard) (hok:y.ok) (e:(w.1,y)=iK s):D prog (fun a:Yard×Bool=>a=eQ s∧rgd [Rk.S a.1,Rk.B a.2]):=
 let e1:(iK s).1=w.1:=by rw[← e]
 let e2:(iK s).2=y:=by rw[← e]
 .sb w.1.bad (fun hb => .rt (yard0,false) ⟨bU6 (fun h=>by rw[e1,hb] at h;exact absurd h.2.1 (by simp)),cZ,trivial⟩)
  (fun hb => .u ((w.1.at_:Int)=s.size)
   (fun hn => .rt (yard0,false) ⟨bU6 (fun h=>hn (by rw[← e1,h.2.2.1])),cZ,trivial⟩)
   (fun he => .c func185 (YardOkSD y (by have:=bF4 (s:=s) aB (by rw[e1];exact hb);rw[e2] at this;omega)) (hg:=⟨hok,trivial⟩) fun _ => .v (aM y)
    (fun h2 => .rt (yard0,false) ⟨bU6 (fun h=>by rw[e2,h2] at h;exact absurd h.2.2.2 (by simp)),cZ,trivial⟩)
    (fun h2 => .rt (y,true) ⟨by unfold eQ;rw[if_pos ⟨hs,by rw[e1];exact hb,by rw[e1];omega,by rw[e2];exact h2⟩,e2],hok,trivial⟩)))
noncomputable def cF5 (s:ByteArray) (hs:s.size≤60000) (now seq m:Int) (ss:List (List Entry)) (hok:I64 now∧I64 seq) (hm:m≤1000000000) (x4:LIn) (hi:x4.in_) (e:∀ w,w=bF LIn.bad (iE linR) x4 m.toNat→(w.1,(⟨now,seq,ss,w.2⟩:Yard))=iK s):D prog (fun a:Yard×Bool=>a=eQ s∧rgd [Rk.S a.1,Rk.B a.2]):=
 .r0 (inferInstance:Shape Run) 55 <| .lx (Γ:=Nat×LIn×List Run) (fun g=>MJ LIn.bad (iE linR) LIn.in_ x4 m g) (fun g=>m.toNat - g.1) [0,2,4,5,7] [0,2] [] (fun g=>[vI 8 g.1]) (fun g=>[oR 4 55 g.2.2,oB 3 [.v (I now),.v (I seq),.r 2,.r 4],oB 1 (lbx g.2.1)]) (0,x4,[]) (MJ.start hi) []
  (fun g hJ t => .s ((g.1:Int)<m)
   (fun h => .sb (!g.2.1.bad)
    (fun hb=>cmRn g.2.1 hJ.inn <| .a g.2.2 (iE linR g.2.1).2 96 (hy:=cF4 linB _ hJ.inn) (h63:=by have:=hJ.len;have:=hJ.le;unfold maxLen;omega) (hby:=by have:=hJ.len;have:=hJ.le;omega) <| .p g.1 1 (h:=by unfold I64;omega) <|
     .n t (g.1+1,(iE linR g.2.1).1,g.2.2++[(iE linR g.2.1).2]) [] (hJ.next (bA5 linB) h (bnT hb)) (by dsimp only;omega))
    (fun hb => .xt (fun w:LIn×List Run=>w=bF LIn.bad (iE linR) x4 m.toNat) (g.2.1,g.2.2) (hJ.stop (bnF hb)) []))
   (fun h => .xt (fun w:LIn×List Run=>w=bF LIn.bad (iE linR) x4 m.toNat) (g.2.1,g.2.2) (hJ.all h) []))
  (fun w:LIn×List Run=>w=bF LIn.bad (iE linR) x4 m.toNat) 2 [0,2,4,5] [0,2] [] (fun _=>[]) (fun w=>[oR 4 55 w.2,oB 3 [.v (I now),.v (I seq),.r 2,.r 4],oB 1 (lbx w.1)])
  fun w hw=>rsEnd s hs w ⟨now,seq,ss,w.2⟩ hok (e w hw)
theorem ReadYardS (s:ByteArray) (hs:s.size≤1048576):Ct1 prog 242 [.T s] [.S (eQ s).1,.B (eQ s).2]:=
 .one (eQ s) (rk:=fun a=>[.S a.1,.B a.2])<|vc func242 (fun hg => .s ((60000:Int)<s.size)
  (fun h => .rt (yard0,false) ⟨bU6 (fun h2=>by omega),cZ,trivial⟩)
  (fun h0=>
   let x0:LIn:=⟨s,0,false⟩
   let x1:=(aI x0).1
   let x2:=(aI x1).1
   let i0:x0.in_:=⟨hs,Nat.zero_le _⟩
   let i1:=bI i0
   let i2:=bI i1
   cmL x0 i0<|cmL x1 i1 <| .r0 (inferInstance:Shape (List Entry)) 217 <|
   .lx (Γ:=Nat×LIn×List (List Entry)) (fun g=>MJ LIn.bad (dL linR) LIn.in_ x2 4 g) (fun g=>(4:Int).toNat - g.1) [0,2,4,5] [0] [] (fun g=>[vI 6 g.1]) (fun g=>[oR 2 217 g.2.2,oB 3 [.v (I (aI x0).2),.v (I (aI x1).2),.r 2,.v (.slice none 0 0)],oB 1 (lbx g.2.1)]) (0,x2,[]) (MJ.start i2) []
    (fun g hJ t => .s ((g.1:Int)<4)
     (fun h => .sb (!g.2.1.bad)
      (fun hb=>cmSh g.2.1 hJ.inn <| .a g.2.2 (dL linR g.2.1).2 24 (hy:=trivial) (h63:=by have:=hJ.len;have:=hJ.le;unfold maxLen;omega) (hby:=by have:=hJ.len;have:=hJ.le;omega) <| .p g.1 1 (h:=by unfold I64;omega) <|
       .n t (g.1+1,(dL linR g.2.1).1,g.2.2++[(dL linR g.2.1).2]) [] (hJ.next (kQ linB) h (bnT hb)) (by dsimp only;omega))
      (fun hb => .xt (fun z:LIn×List (List Entry)=>z=bF LIn.bad (dL linR) x2 4) (g.2.1,g.2.2) (hJ.stop (bnF hb)) []))
     (fun h => .xt (fun z:LIn×List (List Entry)=>z=bF LIn.bad (dL linR) x2 4) (g.2.1,g.2.2) (hJ.all h) []))
    (fun z:LIn×List (List Entry)=>z=bF LIn.bad (dL linR) x2 4) 0 [0,2,4,5] [0] [] (fun _=>[]) (fun z=>[oR 2 217 z.2,oB 3 [.v (I (aI x0).2),.v (I (aI x1).2),.r 2,.v (.slice none 0 0)],oB 1 (lbx z.1)])
    fun z hz=>
     let i3:z.1.in_:=by rw[hz];exact (nF (kQ linB) i2 4).1
     cmL z.1 i3 <| .s ((8:Int)<(aI z.1).2)
      (fun h8=>cF5 s aB (aI x0).2 (aI x1).2 (aI z.1).2 z.2 ⟨bX _,bX _⟩ (qA _) ⟨(aI z.1).1.s,(aI z.1).1.at_,true⟩ (bI i3) (fun w hw=>by
       show _=(fun z:LIn×List (List Entry)=>(fun w:LIn×List Run=>(w.1,(⟨(aI x0).2,(aI x1).2,z.2,w.2⟩:Yard))) (bF LIn.bad (iE linR) (aQ7 8 (aI z.1).2 (aI z.1).1) (aI z.1).2.toNat)) (bF LIn.bad (dL linR) x2 4)
       rw[← hz]
       show _=(fun w:LIn×List Run=>(w.1,(⟨(aI x0).2,(aI x1).2,z.2,w.2⟩:Yard))) (bF LIn.bad (iE linR) (aQ7 8 (aI z.1).2 (aI z.1).1) (aI z.1).2.toNat)
       rw[bP3 h8,← hw]))
      (fun h8=>cF5 s aB (aI x0).2 (aI x1).2 (aI z.1).2 z.2 ⟨bX _,bX _⟩ (qA _) (aI z.1).1 (bI i3) (fun w hw=>by
       show _=(fun z:LIn×List (List Entry)=>(fun w:LIn×List Run=>(w.1,(⟨(aI x0).2,(aI x1).2,z.2,w.2⟩:Yard))) (bF LIn.bad (iE linR) (aQ7 8 (aI z.1).2 (aI z.1).1) (aI z.1).2.toNat)) (bF LIn.bad (dL linR) x2 4)
       rw[← hz]
       show _=(fun w:LIn×List Run=>(w.1,(⟨(aI x0).2,(aI x1).2,z.2,w.2⟩:Yard))) (bF LIn.bad (iE linR) (aQ7 8 (aI z.1).2 (aI z.1).1) (aI z.1).2.toNat)
       rw[bP4 h8,← hw])))) aD
noncomputable def moC (d:Disk):Yard×Int×Bool:=moR yardNew (rmS eQ) d
theorem file_wt_le {d:Disk} {f:File} (h:f∈d.files):f.wt≤d.wt:=by
 have:=aD3 (g:=fun q:File=>q.wt) h
 unfold Disk.wt wtL
 omega
theorem qG (d:Disk):d.files.length≤d.wt:=by unfold Disk.wt wtL;omega
theorem pZ (d:Disk) (nm:ByteArray):(cW d.files nm).size≤d.wt:=by
 unfold cW
 split
 ·exact Nat.zero_le _
 cases h:d.files[(fAt d.files nm).toNat]? with
 | none=>exact Nat.zero_le _
 | some f=>
  have:=file_wt_le (mem_of_getElem? h)
  show f.data.size≤_
  unfold File.wt at this
  omega
theorem readYS_wt {s:ByteArray} (h:(eQ s).2=true):(eQ s).1.wt≤s.size:=by
 unfold eQ at h ⊢
 split at h
 ·next hc=>rw[if_pos hc];exact bF4 aB hc.2.1
 cases h
theorem MarkOfID (d:Disk) (hw:d.wt≤1048576):Ct1 prog 25 [.S d] [.S (moC d).1,.I (moC d).2.1,.B (moC d).2.2]:=by
 have hs:(cW d.files gO).size≤1048576:=Nat.le_trans (pZ d gO) hw
 have hl:d.files.length≤1048576:=Nat.le_trans (qG d) hw
 have hR:=ReadMarkI eG jC (cW d.files gO) hs (fun t ht=>ReadYardI t ht) (fun t ht h=>Nat.le_trans (readYI_wt h) ht) (fun y hy=>aY2 y hy) (fun y hy=>yardT_size hy)
 rw[rm_eq] at hR
 exact MarkOfI yardNew (rmS eQ) d (tW d gO) (zT d gO hl) YardNewD hR
theorem MarkOfSD (d:Disk) (hw:d.wt≤1048576):Ct1 prog 34 [.S d] [.S (moC d).1,.I (moC d).2.1,.B (moC d).2.2]:=by
 have hs:(cW d.files gO).size≤1048576:=Nat.le_trans (pZ d gO) hw
 have hl:d.files.length≤1048576:=Nat.le_trans (qG d) hw
 exact MarkOfS yardNew (rmS eQ) d hl YardNewSD (ReadMarkS eQ (cW d.files gO) hs (fun t ht=>ReadYardS t ht))
noncomputable def moY (d:Disk):Yard:=(moC d).1
noncomputable def moN (d:Disk):Int:=(moC d).2.1
noncomputable def moB (d:Disk):Bool:=(moC d).2.2
noncomputable def repSt (y:Yard) (n:Note):Yard:=(doD y n.deed).1
noncomputable def uV (y:Yard) (ns:List Note):Yard:=ns.foldl repSt y
theorem repY_to {y:Yard} {ns:List Note} {k:Nat} {n:Note} (h:ns[k]? = some n):uV y (ns.take (k+1))=(doD (uV y (ns.take k)) n.deed).1:=by
 unfold uV;rw[← dS h,foldl_append];rfl
theorem bB0:∀ (ns:List Note) {y:Yard},y.wt≤1048576→(uV y ns).wt≤1048576
 | [],y,h=>h
 | n::ns,y,h=>bB0 ns (y:=repSt y n) (bQ0 n.deed aB h)
structure RpJ (y:Yard) (ns:List Note) (g:Nat×Yard):Prop where
 le:g.1≤ns.length
 eq:g.2=uV y (ns.take g.1)
 ok:g.2.ok
theorem RpJ.wt {y:Yard} {ns:List Note} {g:Nat×Yard} (h:RpJ y ns g) (hw:y.wt≤1048576):g.2.wt≤1048576:=by rw[h.eq];exact bB0 _ hw
theorem RpJ.all {y:Yard} {ns:List Note} {g:Nat×Yard} (h:RpJ y ns g) (hk:¬ (g.1:Int)<ns.length):g.2=uV y ns:=by rw[h.eq,take_of_length_le aB]
theorem RpJ.next {y:Yard} {ns:List Note} {g:Nat×Yard} {n:Note} (h:RpJ y ns g) (hn:ns[g.1]? = some n) (ho:(doD g.2 n.deed).1.ok):RpJ y ns (g.1+1,(doD g.2 n.deed).1):=
 ⟨(gsi_.1 hn).1,by show _=uV y (ns.take (g.1+1));rw[repY_to hn,← h.eq],ho⟩
theorem Replay_i (y:Yard) (ns:List Note) (hw:y.wt≤1048576) (hl:ns.length≤1048576):Ct1 prog 88 [.S y,.L ns] [.S (uV y ns)]:=
 .one (uV y ns) (rk:=fun q=>[.S q])<|vc func88 (fun (hg:gin [Par.S y,Par.L ns])=>let gy:=hg.1.1
  .c func119 (fV y hw) (hg:=⟨gy,trivial⟩) fun _=>
   .l (Γ:=Nat×Yard) (RpJ y ns) (fun g=>ns.length - g.1) [4,5,10,11] [4] [2] (fun g=>[vI 12 g.1]) (fun g=>ryS g.2 7 5 6) (0,y) (h:=⟨Nat.zero_le _,rfl,gy⟩) fun g hJ tk=>let hwg:=hJ.wt hw
    .s ((g.1:Int)<ns.length)
     (fun h => .x ns g.1 (h:=by omega) fun n hn gn=>let gn:n.ok:=gn
      .c func106 (Do_i g.2 n.deed hwg) (hg:=⟨hJ.ok,gn.2,trivial⟩) fun hz => .p g.1 1 (h:=by unfold I64;omega) <|
      .n tk (g.1+1,(doD g.2 n.deed).1) [(5,11),(6,12)] (h1:=hJ.next hn hz.1.1) (h2:=by show ns.length - (g.1+1)<_;omega))
     (fun h => .rt g.2 ⟨hJ.all h,hJ.ok,trivial⟩)) aD
theorem Replay_s (y:Yard) (ns:List Note) (hw:y.wt≤1048576) (hl:ns.length≤1048576):Ct1 prog 163 [.S y,.L ns] [.S (uV y ns)]:=
 .one (uV y ns) (rk:=fun q=>[.S q])<|vc func163 (fun (hg:gin [Par.S y,Par.L ns])=>let gy:=hg.1.1
  .c func184 (fU y hw) (hg:=⟨gy,trivial⟩) fun _=>
   .l (Γ:=Nat×Yard) (RpJ y ns) (fun g=>ns.length - g.1) [1,4,5] [4] [2] (fun g=>[vI 6 g.1]) (fun g=>ryS g.2 7 5 6) (0,y) (h:=⟨Nat.zero_le _,rfl,gy⟩) fun g hJ tk=>let hwg:=hJ.wt hw
    .s ((g.1:Int)<ns.length)
     (fun h => .x ns g.1 (h:=by omega) fun n hn gn=>let gn:n.ok:=gn
      .c func115 (Do_s g.2 n.deed hwg) (hg:=⟨hJ.ok,gn.2,trivial⟩) fun hz => .p g.1 1 (h:=by unfold I64;omega) <|
      .n tk (g.1+1,(doD g.2 n.deed).1) [(5,10),(6,11)] (h1:=hJ.next hn hz.1.1) (h2:=by show ns.length - (g.1+1)<_;omega))
     (fun h => .rt g.2 ⟨hJ.all h,hJ.ok,trivial⟩)) aD
noncomputable def iP (d:Disk):List Note:=jG ([],moN d) (fF (cW d.files logN)).1
def oZ (q:Int) (ns:List Note):Int:=match ns.getLast? with | some n=>n.seq | none=>q
noncomputable def eF (d:Disk):Yard×Int×Bool:=if moB d=true∧bY d=true then (uV (moY d) (iP d),oZ (moN d) (iP d),true) else (yard0,0,false)
theorem bB1 {d:Disk} (h:¬ (moB d=true∧bY d=true)):(yard0,0,false)=eF d:=by unfold eF;rw[if_neg h]
theorem bV1 {d:Disk} {q:Int} (h1:moB d=true) (h2:bY d=true) (hq:q=oZ (moN d) (iP d)):(uV (moY d) (iP d),q,true)=eF d:=by unfold eF;rw[if_pos ⟨h1,h2⟩,hq]
theorem aU6 {q:Int} {ns:List Note} {n:Note} (h:ns[ns.length - 1]? = some n):n.seq=oZ q ns:=by
 unfold oZ
 rw[getLast?_eq_getElem?,h]
theorem aU8 {q:Int} {ns:List Note} (h:¬ (0:Int)<ns.length):q=oZ q ns:=by
 have:ns=[]:=eq_nil_of_length_eq_zero aB
 subst this;rfl
theorem bP1 (d:Disk):(moY d).wt≤60100:=by
 unfold moY moC moR
 split
 ·exact (by decide:yardNew.wt≤60100)
 unfold rmS
 split
 ·next hc=>
  have h1:=readYS_wt hc.2.2.2.2.2
  have h2:=hc.2.2.2.1
  rw[ByteArray.size_extract] at h1
  simp only;omega
 exact (by decide:yard0.wt≤60100)
theorem cI2 (d:Disk):I64 (moN d):=by
 unfold moN moC moR
 split
 ·exact z64
 unfold rmS
 split
 ·exact bL5 _ _
 exact z64
theorem wV (d:Disk):(iP d).length≤60000∧∀ n∈iP d,n.ok∧1≤n.seq∧n.seq≤1000000000:=by
 have h1:=aJ9 (cW d.files logN)
 have h2:=aH2 (fF (cW d.files logN)).1 ([],moN d)
 refine ⟨by have:=h2.2;simp only[length_nil] at this;unfold iP;omega,fun n hn => ?_⟩
 rcases h2.1 n hn with h | h
 ·cases h
 exact h1.1 n h
theorem aT5 (s:ByteArray):∀ n∈(fF s).1,n.deed.plan.edges.length≤1048576:=by
 have key:∀ (bs:List ByteArray) (a:List Note×Int),(∀ n∈a.1,n.deed.plan.edges.length≤31)→∀ n∈(kU a bs).1,n.deed.plan.edges.length≤31:=by
  intro bs
  induction bs with
  | nil=>exact fun a h=>h
  | cons b bs ih=>
   intro a h
   rw[oX]
   split
   ·next hn=>
    refine ih _ fun n hm => ?_
    rcases mem_append.1 hm with hm | hm
    ·exact h n hm
    rw[mem_singleton] at hm;rw[hm];exact (uX hn.1).2.2.1
   exact h
 intro n hn
 have:=key (iB s).1 ([],0) (fun n h=>by cases h) n hn
 omega
theorem Recovered_i (d:Disk) (hw:d.wt≤1048576):Ct1 prog 20 [.S d] [.S (eF d).1,.I (eF d).2.1,.B (eF d).2.2]:=
 .one (eF d) (rk:=fun q=>[.S q.1,.I q.2.1,.B q.2.2])<|vc func20 (fun (hg:gin [Par.S d])=>let hl:d.files.length≤1048576:=Nat.le_trans (qG d) hw
  let hs:(cW d.files logN).size≤1048576:=Nat.le_trans (pZ d logN) hw
  .c func25 (show Ct1 prog 25 [.S d] [.S (moY d),.I (moN d),.B (moB d)] from MarkOfID d hw) (hg:=⟨hg.1.1,trivial⟩) fun gm=>let gy:(moY d).ok:=gm.1.1
  .v (moB d)
   (fun h => .rt (yard0,0,false) ⟨bB1 (fun hc=>by rw[h] at hc;cases hc.1),cZ,trivial⟩)
   (fun h1 => .c func84 (aF4 d) (hg:=⟨hg.1.1,trivial⟩) fun _ => .v (bY d)
    (fun h => .rt (yard0,0,false) ⟨bB1 (fun hc=>by rw[h] at hc;cases hc.2),cZ,trivial⟩)
    (fun h2 => .c func86 (zT d logN hl) (hg:=⟨hg.1.1,trivial⟩) fun _ => .c func85 (aY8 (cW d.files logN) hs) fun _=>
     .c func87 (Since_i (fF (cW d.files logN)).1 (moN d) (cI2 d) (by have:=(aJ9 (cW d.files logN)).2.1;omega) (aT5 _)) fun _=>
     let fin:∀ q:Int,q=oZ (moN d) (iP d)→D prog (fun a:Yard×Int×Bool=>a=eF d∧rgd [Rk.S a.1,Rk.I a.2.1,Rk.B a.2.2]):=fun q hq => .c func88 (Replay_i (moY d) (iP d) (by have:=bP1 d;omega) (by have:=(wV d).1;omega)) (hg:=⟨gy,trivial⟩) fun gr => .rt (uV (moY d) (iP d),q,true) ⟨bV1 h1 h2 hq,gr.1.1,trivial⟩
     .s ((0:Int)<(iP d).length)
      (fun h3 => .m (iP d).length 1 (h:=by unfold I64;have:=(wV d).1;omega) <| .xe (iP d) ((iP d).length - 1) (((iP d).length:Int) - 1) (h:=by omega) (he:=by omega) fun n hn gn=>fin n.seq (aU6 hn))
      (fun h3=>fin (moN d) (aU8 h3))))) aD
theorem Recovered_s (d:Disk) (hw:d.wt≤1048576):Ct1 prog 59 [.S d] [.S (eF d).1,.I (eF d).2.1,.B (eF d).2.2]:=
 .one (eF d) (rk:=fun q=>[.S q.1,.I q.2.1,.B q.2.2])<|vc func59 (fun (hg:gin [Par.S d])=>let hl:d.files.length≤1048576:=Nat.le_trans (qG d) hw
  let hs:(cW d.files logN).size≤1048576:=Nat.le_trans (pZ d logN) hw
  .c func34 (show Ct1 prog 34 [.S d] [.S (moY d),.I (moN d),.B (moB d)] from MarkOfSD d hw) (hg:=⟨hg.1.1,trivial⟩) fun gm=>let gy:(moY d).ok:=gm.1.1
  .c func116 (qM d) (hg:=⟨hg.1.1,trivial⟩) fun _ => .v (bY d)
   (fun h => .rt (yard0,0,false) ⟨bB1 (fun hc=>by rw[h] at hc;cases hc.2),cZ,trivial⟩)
   (fun h2 => .v (moB d)
    (fun h => .rt (yard0,0,false) ⟨bB1 (fun hc=>by rw[h] at hc;cases hc.1),cZ,trivial⟩)
    (fun h1 => .c func110 (zS d logN hl) (hg:=⟨hg.1.1,trivial⟩) fun _ => .c func109 (aY7 (cW d.files logN) hs) fun _=>
     .c func162 (Since_s (fF (cW d.files logN)).1 (moN d) (cI2 d) (by have:=(aJ9 (cW d.files logN)).2.1;omega) (aT5 _)) fun _=>
     let fin:∀ q:Int,q=oZ (moN d) (iP d)→D prog (fun a:Yard×Int×Bool=>a=eF d∧rgd [Rk.S a.1,Rk.I a.2.1,Rk.B a.2.2]):=fun q hq => .c func163 (Replay_s (moY d) (iP d) (by have:=bP1 d;omega) (by have:=(wV d).1;omega)) (hg:=⟨gy,trivial⟩) fun gr => .rt (uV (moY d) (iP d),q,true) ⟨bV1 h1 h2 hq,gr.1.1,trivial⟩
     .s ((0:Int)<(iP d).length)
      (fun h3 => .m (iP d).length 1 (h:=by unfold I64;have:=(wV d).1;omega) <| .xe (iP d) ((iP d).length - 1) (((iP d).length:Int) - 1) (h:=by omega) (he:=by omega) fun n hn gn=>fin n.seq (aU6 hn))
      (fun h3=>fin (moN d) (aU8 h3))))) aD
noncomputable def callT (e:Engine) (d:Deed):ByteArray:=dC (gV ⟨e.next,d⟩)
section
variable {e:Engine} {d:Deed}
variable (h0:engOk e=true)
include h0
variable (h1:¬ e.state=3)
include h1
variable (h2:¬ e.state=2)
include h2
variable (h3:¬ callT e d=⟨#[]⟩)
include h3
variable (h4:¬ (e.waits.length:Int)=60)
include h4
variable (h5:e.broken=false)
include h5
end
theorem aW0 (t:ByteArray):(dC t).size≤1000000000:=by
 unfold dC
 split
 ·next h=>
  have:=inB_iff'.1 h
  have:=eR (t.size:Int)
  have:=tN (cP t)
  rw[ByteArray.size_append,ByteArray.size_append]
  omega
 exact Nat.zero_le _
theorem bJ8:logN.size≤maxLen:=by unfold maxLen;decide
def startD:Deed:=⟨8,0,zP,0,0,0,0⟩
theorem tB:startD.ok:=⟨by show I64 8;unfold I64;omega,z64,oN,z64,z64,z64,z64⟩
def eng0:Engine:=⟨yard0,⟨[]⟩,0,0,[],0,false⟩
theorem tP:eng0.ok:=⟨cZ,z64,z64,z64⟩
noncomputable def xV (d:Disk):Disk:=if 0≤fAt d.files logN then (fC d logN (fF (cW d.files logN)).2).1 else d
noncomputable def rU (d:Disk):Disk×Bool:=jF (xV d) logN (dC (gV ⟨(eF d).2.1+1,startD⟩))
noncomputable def aC2 (d:Disk):Engine:=⟨(doD (eF d).1 startD).1,(rU d).1,(eF d).2.1+2,0,[],1,false⟩
noncomputable def mN (d:Disk):Engine×Bool:=if ¬ ((eF d).2.2=true∧¬ (999999997:Int)<(eF d).2.1) then (eng0,false) else if (rU d).2=false then (eng0,false) else (aC2 d,true)
theorem bD9 {d:Disk} (h:¬ ((eF d).2.2=true∧¬ (999999997:Int)<(eF d).2.1)):(eng0,false)=mN d:=by unfold mN;rw[if_pos h]
theorem boo_w {d:Disk} (h1:(eF d).2.2=true) (h2:¬ (999999997:Int)<(eF d).2.1) (h:(rU d).2=false):(eng0,false)=mN d:=by unfold mN;rw[if_neg (fun hc=>hc ⟨h1,h2⟩),if_pos h]
theorem boo_0 {d:Disk} (h1:(eF d).2.2=true) (h2:¬ (999999997:Int)<(eF d).2.1) (h:(rU d).2=true):(aC2 d,true)=mN d:=by unfold mN;rw[if_neg (fun hc=>hc ⟨h1,h2⟩),if_neg (by rw[h];simp)]
theorem recW (d:Disk):(eF d).1.wt≤1048576:=by
 unfold eF
 split
 ·exact bB0 _ (by have:=bP1 d;omega)
 exact (by decide:yard0.wt≤1048576)
theorem recQ {d:Disk} (h:(eF d).2.2=true):0≤(eF d).2.1:=by
 unfold eF at h ⊢
 split
 ·simp only
  have hq:0≤moN d:=by
   unfold moN moC moR
   split
   ·exact Int.le_refl _
   unfold rmS
   split
   ·next hc=>
    have:=(zC hc.1).1
    simp only;omega
   exact Int.le_refl _
  unfold oZ
  split
  ·next n hn=>
   have:=(wV d).2 n (mem_of_getLast? hn)
   omega
  exact hq
 next hc=>rw[if_neg hc] at h;cases h
theorem cut_len (d:Disk) (nm:ByteArray) (n:Int) (hl:d.files.length≤1048576):(fC d nm n).1.files.length≤1048576:=by
 unfold fC
 split
 ·unfold cutD
  simp only
  split
  ·rw[length_set];exact hl
  exact hl
 exact hl
theorem cK8 {d:Disk} (h:0≤fAt d.files logN):(fC d logN (fF (cW d.files logN)).2).1=xV d:=by unfold xV;rw[if_pos h]
theorem cK9 {d:Disk} (h:¬ 0≤fAt d.files logN):d=xV d:=by unfold xV;rw[if_neg h]
theorem bM8 (d:Disk) (hl:d.files.length≤1048576):(xV d).files.length≤1048576:=by
 unfold xV
 split
 ·exact cut_len _ _ _ hl
 exact hl
theorem aH5 {d:Disk} (h:(eF d).2.2=true) (h2:¬ (999999997:Int)<(eF d).2.1):I64 ((eF d).2.1+1)∧I64 ((eF d).2.1+2):=by
 have:=recQ h
 unfold I64;omega
theorem aX9 {d:Disk} (h:(eF d).2.2=true) (h2:¬ (999999997:Int)<(eF d).2.1) (gy:(doD (eF d).1 startD).1.ok):(aC2 d).ok:=⟨gy,(aH5 h h2).2,z64,by show I64 1;unfold I64;omega⟩
theorem Boot_i (d:Disk) (hw:d.wt≤1048576):Ct1 prog 26 [.S d] [.S (mN d).1,.B (mN d).2]:=
 .one (mN d) (rk:=fun q=>[.S q.1,.B q.2])<|vc func26 (fun (hg:gin [Par.S d])=>let hl:d.files.length≤1048576:=Nat.le_trans (qG d) hw
  let hs:(cW d.files logN).size≤1048576:=Nat.le_trans (pZ d logN) hw
  .c func20 (Recovered_i d hw) (hg:=⟨hg.1.1,trivial⟩) fun gr=>let gy:(eF d).1.ok:=gr.1.1
  .v (eF d).2.2 (fun h => .rt (eng0,false) ⟨bD9 (fun hc=>by rw[h] at hc;cases hc.1),tP,trivial⟩) (fun h1=>
  .s ((999999997:Int)<(eF d).2.1) (fun h => .rt (eng0,false) ⟨bD9 (fun hc=>hc.2 h),tP,trivial⟩) (fun h2=>
  let fin:∀ x:Disk,x=xV d→D prog (fun a:Engine×Bool=>a=mN d∧rgd [Rk.S a.1,Rk.B a.2]):=fun x hx => .p (eF d).2.1 1 (h:=(aH5 h1 h2).1) <| .c func105 (aP7 ⟨(eF d).2.1+1,startD⟩) (hg:=⟨⟨(aH5 h1 h2).1,tB⟩,trivial⟩) fun _ => .c func104 (aZ0 (gV ⟨(eF d).2.1+1,startD⟩) (by have:=aK0 ⟨(eF d).2.1+1,startD⟩;omega)) fun _=>
   .c func96 (show Ct1 prog 96 [.S x,.T logN,.T (dC (gV ⟨(eF d).2.1+1,startD⟩))] [.S (rU d).1,.B (rU d).2] by subst hx;exact WriteFileI (xV d) logN _ (bM8 d hl) bJ8 (aW0 _)) fun _ => .v (rU d).2
    (fun h => .rt (eng0,false) ⟨boo_w h1 h2 h,tP,trivial⟩)
    (fun h3 => .c func106 (Do_i (eF d).1 startD (recW d)) (hg:=⟨gy,tB,trivial⟩) fun hz => .p (eF d).2.1 2 (h:=(aH5 h1 h2).2) <| .rt (aC2 d,true) ⟨boo_0 h1 h2 h3,aX9 h1 h2 hz.1.1,trivial⟩)
  .c func89 (qN d aB) (hg:=⟨hg.1.1,trivial⟩) fun _ => .sh 6 <| .c func94 (tW d logN) (hg:=⟨hg.1.1,trivial⟩) fun _ => .s ((0:Int)≤fAt d.files logN)
   (fun h3 => .c func86 (zT d logN hl) (hg:=⟨hg.1.1,trivial⟩) fun _ => .c func85 (aY8 (cW d.files logN) hs) fun _ => .c func95 (CutFileI d logN (fF (cW d.files logN)).2 hl) (hg:=⟨hg.1.1,trivial⟩) fun _=>fin (fC d logN (fF (cW d.files logN)).2).1 (cK8 h3))
   (fun h3=>fin d (cK9 h3))))) aD
theorem Boot_s (d:Disk) (hw:d.wt≤1048576):Ct1 prog 27 [.S d] [.S (mN d).1,.B (mN d).2]:=
 .one (mN d) (rk:=fun q=>[.S q.1,.B q.2])<|vc func27 (fun (hg:gin [Par.S d])=>let hl:d.files.length≤1048576:=Nat.le_trans (qG d) hw
  let hs:(cW d.files logN).size≤1048576:=Nat.le_trans (pZ d logN) hw
  .c func59 (Recovered_s d hw) (hg:=⟨hg.1.1,trivial⟩) fun gr=>let gy:(eF d).1.ok:=gr.1.1
  .v (eF d).2.2 (fun h => .rt (eng0,false) ⟨bD9 (fun hc=>by rw[h] at hc;cases hc.1),tP,trivial⟩) (fun h1=>
  .s ((999999997:Int)<(eF d).2.1) (fun h => .rt (eng0,false) ⟨bD9 (fun hc=>hc.2 h),tP,trivial⟩) (fun h2=>
  let fin:∀ x:Disk,x=xV d→D prog (fun a:Engine×Bool=>a=mN d∧rgd [Rk.S a.1,Rk.B a.2]):=fun x hx => .p (eF d).2.1 1 (h:=(aH5 h1 h2).1) <| .c func114 (aP6 ⟨(eF d).2.1+1,startD⟩) (hg:=⟨⟨(aH5 h1 h2).1,tB⟩,trivial⟩) fun _ => .c func113 (aY9 (gV ⟨(eF d).2.1+1,startD⟩) (by have:=aK0 ⟨(eF d).2.1+1,startD⟩;omega)) fun _=>
   .c func112 (show Ct1 prog 112 [.S x,.T logN,.T (dC (gV ⟨(eF d).2.1+1,startD⟩))] [.S (rU d).1,.B (rU d).2] by subst hx;exact WriteFileS (xV d) logN _ (bM8 d hl) bJ8 (aW0 _)) fun _ => .v (rU d).2
    (fun h => .rt (eng0,false) ⟨boo_w h1 h2 h,tP,trivial⟩)
    (fun h3 => .p (eF d).2.1 2 (h:=(aH5 h1 h2).2) <| .c func115 (Do_s (eF d).1 startD (recW d)) (hg:=⟨gy,tB,trivial⟩) fun hz => .rt (aC2 d,true) ⟨boo_0 h1 h2 h3,aX9 h1 h2 hz.1.1,trivial⟩)
  .c func107 (jB d aB) (hg:=⟨hg.1.1,trivial⟩) fun _ => .sh 6 <| .c func108 (tV d logN aB) fun _ => .s ((0:Int)≤fAt d.files logN)
   (fun h3 => .c func110 (zS d logN hl) fun _ => .c func109 (aY7 (cW d.files logN) hs) fun _ => .c func111 (CutFileS d logN (fF (cW d.files logN)).2 hl) fun _=>fin (fC d logN (fF (cW d.files logN)).2).1 (cK8 h3))
   (fun h3=>fin d (cK9 h3))))) aD
noncomputable def oK (d:Disk):Engine:=(mN d).1
noncomputable def uA (d:Disk):Bool:=(mN d).2
theorem boo_wt (d:Disk) (hw:d.wt≤1048576):(oK d).wt≤3000000:=by
 have hz:eng0.wt≤3000000:=by decide
 unfold oK mN
 repeat' split
 all_goals first | exact hz | skip
 have h1:(aC2 d).yard.wt≤1048576:=bQ0 startD cB (recW d)
 have hc:(xV d).wt≤1048576:=by
  unfold xV
  split
  ·rcases cut_s d logN (fF (cW d.files logN)).2 with h | h
   ·rw[h];exact hw
   have:=bG5 h;omega
  exact hw
 have h2:(aC2 d).disk.wt≤1048576:=by
  show (rU d).1.wt≤_
  unfold rU
  rcases bR4 (xV d) logN (dC (gV ⟨(eF d).2.1+1,startD⟩)) with h | h
  ·rw[h];exact hc
  have:=bG5 h;omega
 have h3:(aC2 d).waits.length=0:=rfl
 simp only
 unfold Engine.wt
 omega
theorem cM6 {d:Disk} (hc:Shape.C w cs d fp) (hw:d.wt≤1048576):Calls prog 26 #[.agg cs.toArray] w fun r W=>∃ (cs':List Value) (fp':List Nat),r = .returned (.tuple #[.agg cs'.toArray,.bool (uA d)])∧St w W [Res.own (.agg cs'.toArray) (oK d) fp']:=
 ((Boot_i d hw).run w [.agg cs.toArray] trivial ⟨⟨cs,fp,rfl,hc⟩,trivial⟩).mono fun r W ⟨_,vs,rs,_,he,hr,st⟩=>own_2 he hr st
theorem BootSC {d:Disk} (hc:Shape.C w cs d fp) (hw:d.wt≤1048576):Calls prog 27 #[.agg cs.toArray] w fun r W=>∃ (cs':List Value) (fp':List Nat),r = .returned (.tuple #[.agg cs'.toArray,.bool (uA d)])∧St w W [Res.own (.agg cs'.toArray) (oK d) fp']:=
 ((Boot_s d hw).run w [.agg cs.toArray] trivial ⟨⟨cs,fp,rfl,hc⟩,trivial⟩).mono fun r W ⟨_,vs,rs,_,he,hr,st⟩=>own_2 he hr st
theorem markEdgeS_n {w W0:World} {rs:List Res} {v:Value} {xs:List Edge} {fp:List Nat} (hst:St w W0 (Res.own v xs fp::rs)) (k:Int) (h0:0≤k) (hk:k+(cL aN xs:Nat)≤4611686018427387904) :
  Calls prog 175 #[v,I k] W0 fun e w'=>∃ fp',e = .returned (I (k+(cL aN xs:Nat)))∧St w w' (Res.own v (mkL jP aN xs k) fp'::rs):=by
 have hcap:=(bO (hst.get 0 rfl)).len_le
 refine fZ func175 rfl ntmps175 cB (wp_seq (aA (sg (aT (aC (wp_seq (wp_seq (aA (sg (aT (aC (wp_block (dJ (fun (m:Nat) (f:Nat→Value) (W:World)=>∃ (i:Nat) (K:Int) (fo5:List Nat),i≤xs.length∧K=k+(cL aN (xs.take i):Nat)∧m=xs.length - i∧Ag [(0,v),(1,I K),(5,I (i:Int))] f∧St w W (Res.own (α:=List Edge) v (mkL jP aN (xs.take i) k++xs.drop i) fo5::rs)) (xs.length - 0) ?_ ?_)))))))))))))
 ·exact ⟨0,k,fp,Nat.zero_le _,(by simp[cL]),rfl,(Ag.nil.put.put.put.put.to aD),(by simpa [mkL] using hst)⟩
 intro m6 f7 W8 hJ9
 obtain ⟨i,K,fo5,hi,hK,rfl,hA11,st10⟩:=hJ9
 have hlx:(mkL jP aN (xs.take i) k++xs.drop i).length=xs.length:=by rw[length_append,dG,length_take,length_drop];omega
 refine wp_seq (wp_seq (aA (rn st10 4 hA11 [] [(9,.bool (decide ((i:Int)<((mkL jP aN (xs.take i) k++xs.drop i).length:Int))))] [ql (bO (st10.get 0 rfl)),.o] aD fun f13 h13_=>(aC (cE (h13_.at 9) (fun h14p => ?_) (fun h14p => ?_))))))
 ·refine wp_skip (wp_seq (wp_block (wp_seq (aA (rn st10 3 h13_ [] [(12,v),(13,I (i:Int)),(14,I K)] [] aD fun f16 h16_ => ?_)))))
  have hq_:=fW (xs:=xs) (i:=i) aB
  obtain ⟨y,hy⟩:=hq_
  have hcs:=gH aN hy
  have hcl:=eC aN xs (i+1)
  have hne:aN y=2:=rfl
  have hb17:Bd K (1+(1+(0))):=⟨by omega,by omega⟩
  have hq_:=St.lendx (α:=Edge) cB st10 (x:=y) (qY hy)
  obtain ⟨b18,e18,pre18,cs18,post18,fi18,fr18,hPA18,hC18,st19⟩:=hq_
  obtain ⟨he18,hf18,hok18⟩:=hC18;have he18:_=[I y.from_,I y.to_]:=he18;subst he18
  refine sg (eU bG6 (h16_.at 12) hPA18 (h16_.at 13) rfl (sg (cS aW7 rfl (sgn (aS (i:=0) (v:=I K) aD rfl (h16_.at 14) rfl rfl st19.d1 rfl iZ rfl ?_)))));intro W26 st27
  refine aC (wp_seq (aA ?_))
  have hb29:=hb17.up
  refine rn st27 3 h16_.put.put [1] [(1,I (K+1))] [.ad K 1 hb29.i64] aD fun f30 h30_=>(aC (wp_seq (aA (rn st27 5 h30_ [] [(21,I (K+1)),(23,.pointer (some ⟨b18,pre18.length+1,none⟩))] [qx hPA18] aD fun f32 h32_=>(sgn (aS (i:=1) (v:=I (K+1)) aD (h32_.at 23) (h32_.at 21) rfl rfl st27 rfl iZ rfl ?_))))));intro W33 st34
  refine aC (aA ?_)
  have hb36:=hb29.up
  refine rn st34 3 h32_ [1] [(1,I ((K+1)+1))] [.ad (K+1) 1 hb36.i64] aD fun f37 h37_=>(aC (aA (rn st34 3 h37_ [5] [(5,I ((i:Int)+1))] [qad (i:Int) 1] aD fun f39 h39_=>(aC ?_))))
  have st40:=st34.cs0 (cs:=[I K,I (K+1)]) (x:=(⟨K,K+1⟩:Edge)) ⟨rfl,rfl,bB6⟩
  obtain ⟨fp45,st46⟩:=St.give (α:=Edge) st40.f2.f1.f2
  exact ⟨_,xs.length - (i+1),aB,rfl,i+1,(K+1)+1,fp45,aB,aB,rfl,(h39_.to aD),(by rw[← oA hy hK];exact st46)⟩
 refine wp_exit (wp_seq (aA (sg (aE (h13_.at 1) (sg (aG (v:=I K) rfl (aC (wr (jH results175 rfl ?_)))))))))
 obtain rfl:i=xs.length:=by omega
 have hca:=lD aN xs _ rfl
 rw[vD rfl] at st10
 exact ⟨_,fI aB,st10⟩
theorem heldEdgeS_n {v:Value} {x:List Edge} {fp:List Nat} {k:Int} (h:Sl w v (mkL jP aN x k) fp) (h0:0≤k) (hk:k+(cL aN x:Nat)≤4611686018427387904) :
  Calls prog 251 #[v,I k] w (rI_ (k+(cL aN x:Nat)) w):=by
 have hcap:=h.len_le
 rw[dG] at hcap
 have hml:(mkL jP aN x k).length=x.length:=dG _ _
 refine fZ func251 rfl ntmps251 cB (wp_seq (aA (sg (aT (aC (wp_seq (wp_seq (aA (sg (aT (aC (wp_block (dJ (fun (m:Nat) (f:Nat→Value) (W:World)=>∃ (i:Nat) (K:Int),i≤x.length∧K=k+(cL aN (x.take i):Nat)∧m=x.length - i∧Ag [(0,v),(1,I K),(5,I (i:Int))] f∧St w W ([])) (x.length - 0) ?_ ?_)))))))))))))
 ·exact ⟨0,k,Nat.zero_le _,(by simp[cL]),rfl,(Ag.nil.put.put.put.put.to aD),(St.start w)⟩
 intro m5 f6 W7 hJ8
 obtain ⟨i,K,hi,hK,rfl,hA10,st9⟩:=hJ8
 refine wp_seq (wp_seq (aA (rn st9 4 hA10 [] [(9,.bool (decide ((i:Int)<((mkL jP aN x k).length:Int))))] [ql h,.o] aD fun f12 h12_=>(aC (cE (h12_.at 9) (fun h13p => ?_) (fun h13p => ?_))))))
 ·refine wp_skip (wp_seq (wp_block (wp_seq (wp_seq (aA (sg (aE (h12_.at 0) (sg (aE (h12_.at 5) ?_)))))))))
  have hq_:=fW (xs:=x) (i:=i) aB
  obtain ⟨y,hy⟩:=hq_
  have hcs:=gH aN hy
  have hcl:=eC aN x (i+1)
  have hne:aN y=2:=rfl
  have hb17:Bd K (1+(1+(0))):=⟨by omega,by omega⟩
  obtain ⟨b16,o16,cs16,f16,hp16,hr16,hc16,hm16⟩:=aL9 h hy hK
  have hk18:=hc16
  obtain ⟨he18,rfl,hok18⟩:=hk18
  have he18:_=[I K,I (K+1)]:=he18;subst he18
  refine rn st9 5 h12_.put.put [] [(18,.bool (!decide (K=K)))] [qx hp16,qr hr16 0,.o] aD fun f20 h20_=>(aC (eP (h20_.at 18) (fun h21p => ?_) (fun h21p => ?_)))
  ·exact absurd rfl h21p
  refine wp_skip (wp_seq (aA ?_))
  have hb23:=hb17.up
  refine rn st9 3 h20_ [1] [(1,I (K+1))] [.ad K 1 hb23.i64] aD fun f24 h24_=>(aC (wp_seq (wp_seq (aA (sg (aE (h24_.at 0) (sg (aE (h24_.at 5) (rn st9 5 h24_.put.put [] [(27,.bool (!decide ((K+1)=(K+1))))] [qx hp16,qr hr16 1,.o] aD fun f29 h29_=>(aC (eP (h29_.at 27) (fun h30p => ?_) (fun h30p => ?_))))))))))))
  ·exact absurd rfl h30p
  refine wp_skip (aA ?_)
  have hb32:=hb23.up
  refine rn st9 3 h29_ [1] [(1,I ((K+1)+1))] [.ad (K+1) 1 hb32.i64] aD fun f33 h33_=>(aC (aA (rn st9 3 h33_ [5] [(5,I ((i:Int)+1))] [qad (i:Int) 1] aD fun f35 h35_=>(aC ?_))))
  exact ⟨_,x.length - (i+1),aB,rfl,i+1,(K+1)+1,aB,aB,rfl,(h35_.to aD),st9⟩
 refine wp_exit (wp_seq (aA (sg (aE (h12_.at 1) (sg (aG (v:=I K) rfl (aC (wr (jH results251 rfl ?_)))))))))
 obtain rfl:i=x.length:=by omega
 have hca:=lD aN x _ rfl
 exact ⟨fI aB,st9.bare⟩
theorem markEntryS_n {w W0:World} {rs:List Res} {v:Value} {xs:List Entry} {fp:List Nat} (hst:St w W0 (Res.own v xs fp::rs)) (k:Int) (h0:0≤k) (hk:k+(cL aF xs:Nat)≤4611686018427387904) :
  Calls prog 248 #[v,I k] W0 fun e w'=>∃ fp',e = .returned (I (k+(cL aF xs:Nat)))∧St w w' (Res.own v (mkL dH aF xs k) fp'::rs):=by
 have hcap:=(bO (hst.get 0 rfl)).len_le
 refine fZ func248 rfl ntmps248 cB (wp_seq (aA (sg (aT (aC (wp_seq (wp_seq (aA (sg (aT (aC (wp_block (dJ (fun (m:Nat) (f:Nat→Value) (W:World)=>∃ (i:Nat) (K:Int) (fo5:List Nat),i≤xs.length∧K=k+(cL aF (xs.take i):Nat)∧m=xs.length - i∧Ag [(0,v),(1,I K),(5,I (i:Int))] f∧St w W (Res.own (α:=List Entry) v (mkL dH aF (xs.take i) k++xs.drop i) fo5::rs)) (xs.length - 0) ?_ ?_)))))))))))))
 ·exact ⟨0,k,fp,Nat.zero_le _,(by simp[cL]),rfl,(Ag.nil.put.put.put.put.to aD),(by simpa [mkL] using hst)⟩
 intro m6 f7 W8 hJ9
 obtain ⟨i,K,fo5,hi,hK,rfl,hA11,st10⟩:=hJ9
 have hlx:(mkL dH aF (xs.take i) k++xs.drop i).length=xs.length:=by rw[length_append,dG,length_take,length_drop];omega
 refine wp_seq (wp_seq (aA (rn st10 4 hA11 [] [(9,.bool (decide ((i:Int)<((mkL dH aF (xs.take i) k++xs.drop i).length:Int))))] [ql (bO (st10.get 0 rfl)),.o] aD fun f13 h13_=>(aC (cE (h13_.at 9) (fun h14p => ?_) (fun h14p => ?_))))))
 ·refine wp_skip (wp_seq (wp_block (wp_seq (aA (rn st10 3 h13_ [] [(12,v),(13,I (i:Int)),(14,I K)] [] aD fun f16 h16_ => ?_)))))
  have hq_:=fW (xs:=xs) (i:=i) aB
  obtain ⟨y,hy⟩:=hq_
  have hcs:=gH aF hy
  have hcl:=eC aF xs (i+1)
  have hne:aF y=4:=rfl
  have hb17:Bd K (1+(1+(1+(1+(0))))):=⟨by omega,by omega⟩
  have hq_:=St.lendx (α:=Entry) cB st10 (x:=y) (qY hy)
  obtain ⟨b18,e18,pre18,cs18,post18,fi18,fr18,hPA18,hC18,st19⟩:=hq_
  obtain ⟨he18,hf18,hok18⟩:=hC18;have he18:_=[I y.prio,I y.seq,I y.run,I y.task]:=he18;subst he18
  refine sg (eU sl_EntryS (h16_.at 12) hPA18 (h16_.at 13) rfl (sg (cS fa_Entry_0 rfl (sgn (aS (i:=0) (v:=I K) aD rfl (h16_.at 14) rfl rfl st19.d1 rfl iZ rfl ?_)))));intro W26 st27
  refine aC (wp_seq (aA ?_))
  have hb29:=hb17.up
  refine rn st27 3 h16_.put.put [1] [(1,I (K+1))] [.ad K 1 hb29.i64] aD fun f30 h30_=>(aC (wp_seq (aA (rn st27 5 h30_ [] [(21,I (K+1)),(23,.pointer (some ⟨b18,pre18.length+1,none⟩))] [qx hPA18] aD fun f32 h32_=>(sgn (aS (i:=1) (v:=I (K+1)) aD (h32_.at 23) (h32_.at 21) rfl rfl st27 rfl iZ rfl ?_))))));intro W33 st34
  refine aC (wp_seq (aA ?_))
  have hb36:=hb29.up
  refine rn st34 3 h32_ [1] [(1,I ((K+1)+1))] [.ad (K+1) 1 hb36.i64] aD fun f37 h37_=>(aC (wp_seq (aA (rn st34 5 h37_ [] [(28,I ((K+1)+1)),(30,.pointer (some ⟨b18,pre18.length+2,none⟩))] [qx hPA18] aD fun f39 h39_=>(sgn (aS (i:=2) (v:=I ((K+1)+1)) aD (h39_.at 30) (h39_.at 28) rfl rfl st34 rfl iZ rfl ?_))))));intro W40 st41
  refine aC (wp_seq (aA ?_))
  have hb43:=hb36.up
  refine rn st41 3 h39_ [1] [(1,I (((K+1)+1)+1))] [.ad ((K+1)+1) 1 hb43.i64] aD fun f44 h44_=>(aC (wp_seq (aA (lw h44_ [(0,v),(1,I (((K+1)+1)+1)),(5,I (i:Int))] aD fun h47_=>(rn st41 5 h47_ [] [(35,I (((K+1)+1)+1)),(37,.pointer (some ⟨b18,pre18.length+3,none⟩))] [qx hPA18] aD fun f46 h46_=>(sgn (aS (i:=3) (v:=I (((K+1)+1)+1)) aD (h46_.at 37) (h46_.at 35) rfl rfl st41 rfl iZ rfl ?_)))))));intro W48 st49
  refine aC (aA ?_)
  have hb51:=hb43.up
  refine rn st49 3 h46_ [1] [(1,I ((((K+1)+1)+1)+1))] [.ad (((K+1)+1)+1) 1 hb51.i64] aD fun f52 h52_=>(aC (aA (rn st49 3 h52_ [5] [(5,I ((i:Int)+1))] [qad (i:Int) 1] aD fun f54 h54_=>(aC ?_))))
  have st55:=st49.cs0 (cs:=[I K,I (K+1),I ((K+1)+1),I (((K+1)+1)+1)]) (x:=(⟨K,K+1,(K+1)+1,((K+1)+1)+1⟩:Entry)) ⟨rfl,rfl,bB6⟩
  obtain ⟨fp60,st61⟩:=St.give (α:=Entry) st55.f2.f1.f2
  exact ⟨_,xs.length - (i+1),aB,rfl,i+1,(((K+1)+1)+1)+1,fp60,aB,aB,rfl,(h54_.to aD),(by rw[← oA hy hK];exact st61)⟩
 refine wp_exit (wp_seq (aA (sg (aE (h13_.at 1) (sg (aG (v:=I K) rfl (aC (wr (jH results248 rfl ?_)))))))))
 obtain rfl:i=xs.length:=by omega
 have hca:=lD aF xs _ rfl
 rw[vD rfl] at st10
 exact ⟨_,fI aB,st10⟩
theorem heldEntryS_n {v:Value} {x:List Entry} {fp:List Nat} {k:Int} (h:Sl w v (mkL dH aF x k) fp) (h0:0≤k) (hk:k+(cL aF x:Nat)≤4611686018427387904) :
  Calls prog 250 #[v,I k] w (rI_ (k+(cL aF x:Nat)) w):=by
 have hcap:=h.len_le
 rw[dG] at hcap
 have hml:(mkL dH aF x k).length=x.length:=dG _ _
 refine fZ func250 rfl ntmps250 cB (wp_seq (aA (sg (aT (aC (wp_seq (wp_seq (aA (sg (aT (aC (wp_block (dJ (fun (m:Nat) (f:Nat→Value) (W:World)=>∃ (i:Nat) (K:Int),i≤x.length∧K=k+(cL aF (x.take i):Nat)∧m=x.length - i∧Ag [(0,v),(1,I K),(5,I (i:Int))] f∧St w W ([])) (x.length - 0) ?_ ?_)))))))))))))
 ·exact ⟨0,k,Nat.zero_le _,(by simp[cL]),rfl,(Ag.nil.put.put.put.put.to aD),(St.start w)⟩
 intro m5 f6 W7 hJ8
 obtain ⟨i,K,hi,hK,rfl,hA10,st9⟩:=hJ8
 refine wp_seq (wp_seq (aA (rn st9 4 hA10 [] [(9,.bool (decide ((i:Int)<((mkL dH aF x k).length:Int))))] [ql h,.o] aD fun f12 h12_=>(aC (cE (h12_.at 9) (fun h13p => ?_) (fun h13p => ?_))))))
 ·refine wp_skip (wp_seq (wp_block (wp_seq (wp_seq (aA (sg (aE (h12_.at 0) (sg (aE (h12_.at 5) ?_)))))))))
  have hq_:=fW (xs:=x) (i:=i) aB
  obtain ⟨y,hy⟩:=hq_
  have hcs:=gH aF hy
  have hcl:=eC aF x (i+1)
  have hne:aF y=4:=rfl
  have hb17:Bd K (1+(1+(1+(1+(0))))):=⟨by omega,by omega⟩
  obtain ⟨b16,o16,cs16,f16,hp16,hr16,hc16,hm16⟩:=aL9 h hy hK
  have hk18:=hc16
  obtain ⟨he18,rfl,hok18⟩:=hk18
  have he18:_=[I K,I (K+1),I ((K+1)+1),I (((K+1)+1)+1)]:=he18;subst he18
  refine rn st9 5 h12_.put.put [] [(18,.bool (!decide (K=K)))] [qx hp16,qr hr16 0,.o] aD fun f20 h20_=>(aC (eP (h20_.at 18) (fun h21p => ?_) (fun h21p => ?_)))
  ·exact absurd rfl h21p
  refine wp_skip (wp_seq (aA ?_))
  have hb23:=hb17.up
  refine rn st9 3 h20_ [1] [(1,I (K+1))] [.ad K 1 hb23.i64] aD fun f24 h24_=>(aC (wp_seq (wp_seq (aA (sg (aE (h24_.at 0) (sg (aE (h24_.at 5) (rn st9 5 h24_.put.put [] [(27,.bool (!decide ((K+1)=(K+1))))] [qx hp16,qr hr16 1,.o] aD fun f29 h29_=>(aC (eP (h29_.at 27) (fun h30p => ?_) (fun h30p => ?_))))))))))))
  ·exact absurd rfl h30p
  refine wp_skip (wp_seq (aA ?_))
  have hb32:=hb23.up
  refine rn st9 3 h29_ [1] [(1,I ((K+1)+1))] [.ad (K+1) 1 hb32.i64] aD fun f33 h33_=>(aC (wp_seq (wp_seq (aA (sg (aE (h33_.at 0) (sg (aE (h33_.at 5) (lw h33_.put.put [(0,v),(1,I ((K+1)+1)),(5,I (i:Int)),(30,v),(31,I (i:Int))] aD fun h39_=>(rn st9 5 h39_ [] [(36,.bool (!decide (((K+1)+1)=((K+1)+1))))] [qx hp16,qr hr16 2,.o] aD fun f38 h38_=>(aC (eP (h38_.at 36) (fun h40p => ?_) (fun h40p => ?_)))))))))))))
  ·exact absurd rfl h40p
  refine wp_skip (wp_seq (aA ?_))
  have hb42:=hb32.up
  refine rn st9 3 h38_ [1] [(1,I (((K+1)+1)+1))] [.ad ((K+1)+1) 1 hb42.i64] aD fun f43 h43_=>(aC (wp_seq (wp_seq (aA (sg (aE (h43_.at 0) (sg (aE (h43_.at 5) (rn st9 5 h43_.put.put [] [(45,.bool (!decide ((((K+1)+1)+1)=(((K+1)+1)+1))))] [qx hp16,qr hr16 3,.o] aD fun f48 h48_=>(aC (eP (h48_.at 45) (fun h49p => ?_) (fun h49p => ?_))))))))))))
  ·exact absurd rfl h49p
  refine wp_skip (aA ?_)
  have hb51:=hb42.up
  refine rn st9 3 h48_ [1] [(1,I ((((K+1)+1)+1)+1))] [.ad (((K+1)+1)+1) 1 hb51.i64] aD fun f52 h52_=>(aC (aA (rn st9 3 h52_ [5] [(5,I ((i:Int)+1))] [qad (i:Int) 1] aD fun f54 h54_=>(aC ?_))))
  exact ⟨_,x.length - (i+1),aB,rfl,i+1,(((K+1)+1)+1)+1,aB,aB,rfl,(h54_.to aD),st9⟩
 refine wp_exit (wp_seq (aA (sg (aE (h12_.at 1) (sg (aG (v:=I K) rfl (aC (wr (jH results250 rfl ?_)))))))))
 obtain rfl:i=x.length:=by omega
 have hca:=lD aF x _ rfl
 exact ⟨fI aB,st9.bare⟩
theorem markTaskS_n {w W0:World} {rs:List Res} {v:Value} {xs:List Task} {fp:List Nat} (hst:St w W0 (Res.own v xs fp::rs)) (k:Int) (h0:0≤k) (hk:k+(cL bB xs:Nat)≤4611686018427387904) :
  Calls prog 249 #[v,I k] W0 fun e w'=>∃ fp',e = .returned (I (k+(cL bB xs:Nat)))∧St w w' (Res.own v (mkL jN bB xs k) fp'::rs):=by
 have hcap:=(bO (hst.get 0 rfl)).len_le
 refine fZ func249 rfl ntmps249 cB (wp_seq (aA (sg (aT (aC (wp_seq (wp_seq (aA (sg (aT (aC (wp_block (dJ (fun (m:Nat) (f:Nat→Value) (W:World)=>∃ (i:Nat) (K:Int) (fo5:List Nat),i≤xs.length∧K=k+(cL bB (xs.take i):Nat)∧m=xs.length - i∧Ag [(0,v),(1,I K),(5,I (i:Int))] f∧St w W (Res.own (α:=List Task) v (mkL jN bB (xs.take i) k++xs.drop i) fo5::rs)) (xs.length - 0) ?_ ?_)))))))))))))
 ·exact ⟨0,k,fp,Nat.zero_le _,(by simp[cL]),rfl,(Ag.nil.put.put.put.put.to aD),(by simpa [mkL] using hst)⟩
 intro m6 f7 W8 hJ9
 obtain ⟨i,K,fo5,hi,hK,rfl,hA11,st10⟩:=hJ9
 have hlx:(mkL jN bB (xs.take i) k++xs.drop i).length=xs.length:=by rw[length_append,dG,length_take,length_drop];omega
 refine wp_seq (wp_seq (aA (rn st10 4 hA11 [] [(9,.bool (decide ((i:Int)<((mkL jN bB (xs.take i) k++xs.drop i).length:Int))))] [ql (bO (st10.get 0 rfl)),.o] aD fun f13 h13_=>(aC (cE (h13_.at 9) (fun h14p => ?_) (fun h14p => ?_))))))
 ·refine wp_skip (wp_seq (wp_block (wp_seq (aA (rn st10 3 h13_ [] [(12,v),(13,I (i:Int)),(14,I K)] [] aD fun f16 h16_ => ?_)))))
  have hq_:=fW (xs:=xs) (i:=i) aB
  obtain ⟨y,hy⟩:=hq_
  have hcs:=gH bB hy
  have hcl:=eC bB xs (i+1)
  have hne:bB y=4:=rfl
  have hb17:Bd K (1+(1+(1+(1+(0))))):=⟨by omega,by omega⟩
  have hq_:=St.lendx (α:=Task) cB st10 (x:=y) (qY hy)
  obtain ⟨b18,e18,pre18,cs18,post18,fi18,fr18,hPA18,hC18,st19⟩:=hq_
  obtain ⟨he18,hf18,hok18⟩:=hC18;have he18:_=[I y.state,I y.need,I y.try_,I y.until_]:=he18;subst he18
  refine sg (eU sl_TaskS (h16_.at 12) hPA18 (h16_.at 13) rfl (sg (cS fa_Task_0 rfl (sgn (aS (i:=0) (v:=I K) aD rfl (h16_.at 14) rfl rfl st19.d1 rfl iZ rfl ?_)))));intro W26 st27
  refine aC (wp_seq (aA ?_))
  have hb29:=hb17.up
  refine rn st27 3 h16_.put.put [1] [(1,I (K+1))] [.ad K 1 hb29.i64] aD fun f30 h30_=>(aC (wp_seq (aA (rn st27 5 h30_ [] [(21,I (K+1)),(23,.pointer (some ⟨b18,pre18.length+1,none⟩))] [qx hPA18] aD fun f32 h32_=>(sgn (aS (i:=1) (v:=I (K+1)) aD (h32_.at 23) (h32_.at 21) rfl rfl st27 rfl iZ rfl ?_))))));intro W33 st34
  refine aC (wp_seq (aA ?_))
  have hb36:=hb29.up
  refine rn st34 3 h32_ [1] [(1,I ((K+1)+1))] [.ad (K+1) 1 hb36.i64] aD fun f37 h37_=>(aC (wp_seq (aA (rn st34 5 h37_ [] [(28,I ((K+1)+1)),(30,.pointer (some ⟨b18,pre18.length+2,none⟩))] [qx hPA18] aD fun f39 h39_=>(sgn (aS (i:=2) (v:=I ((K+1)+1)) aD (h39_.at 30) (h39_.at 28) rfl rfl st34 rfl iZ rfl ?_))))));intro W40 st41
  refine aC (wp_seq (aA ?_))
  have hb43:=hb36.up
  refine rn st41 3 h39_ [1] [(1,I (((K+1)+1)+1))] [.ad ((K+1)+1) 1 hb43.i64] aD fun f44 h44_=>(aC (wp_seq (aA (lw h44_ [(0,v),(1,I (((K+1)+1)+1)),(5,I (i:Int))] aD fun h47_=>(rn st41 5 h47_ [] [(35,I (((K+1)+1)+1)),(37,.pointer (some ⟨b18,pre18.length+3,none⟩))] [qx hPA18] aD fun f46 h46_=>(sgn (aS (i:=3) (v:=I (((K+1)+1)+1)) aD (h46_.at 37) (h46_.at 35) rfl rfl st41 rfl iZ rfl ?_)))))));intro W48 st49
  refine aC (aA ?_)
  have hb51:=hb43.up
  refine rn st49 3 h46_ [1] [(1,I ((((K+1)+1)+1)+1))] [.ad (((K+1)+1)+1) 1 hb51.i64] aD fun f52 h52_=>(aC (aA (rn st49 3 h52_ [5] [(5,I ((i:Int)+1))] [qad (i:Int) 1] aD fun f54 h54_=>(aC ?_))))
  have st55:=st49.cs0 (cs:=[I K,I (K+1),I ((K+1)+1),I (((K+1)+1)+1)]) (x:=(⟨K,K+1,(K+1)+1,((K+1)+1)+1⟩:Task)) ⟨rfl,rfl,bB6⟩
  obtain ⟨fp60,st61⟩:=St.give (α:=Task) st55.f2.f1.f2
  exact ⟨_,xs.length - (i+1),aB,rfl,i+1,(((K+1)+1)+1)+1,fp60,aB,aB,rfl,(h54_.to aD),(by rw[← oA hy hK];exact st61)⟩
 refine wp_exit (wp_seq (aA (sg (aE (h13_.at 1) (sg (aG (v:=I K) rfl (aC (wr (jH results249 rfl ?_)))))))))
 obtain rfl:i=xs.length:=by omega
 have hca:=lD bB xs _ rfl
 rw[vD rfl] at st10
 exact ⟨_,fI aB,st10⟩
theorem heldTaskS_n {v:Value} {x:List Task} {fp:List Nat} {k:Int} (h:Sl w v (mkL jN bB x k) fp) (h0:0≤k) (hk:k+(cL bB x:Nat)≤4611686018427387904) :
  Calls prog 252 #[v,I k] w (rI_ (k+(cL bB x:Nat)) w):=by
 have hcap:=h.len_le
 rw[dG] at hcap
 have hml:(mkL jN bB x k).length=x.length:=dG _ _
 refine fZ func252 rfl ntmps252 cB (wp_seq (aA (sg (aT (aC (wp_seq (wp_seq (aA (sg (aT (aC (wp_block (dJ (fun (m:Nat) (f:Nat→Value) (W:World)=>∃ (i:Nat) (K:Int),i≤x.length∧K=k+(cL bB (x.take i):Nat)∧m=x.length - i∧Ag [(0,v),(1,I K),(5,I (i:Int))] f∧St w W ([])) (x.length - 0) ?_ ?_)))))))))))))
 ·exact ⟨0,k,Nat.zero_le _,(by simp[cL]),rfl,(Ag.nil.put.put.put.put.to aD),(St.start w)⟩
 intro m5 f6 W7 hJ8
 obtain ⟨i,K,hi,hK,rfl,hA10,st9⟩:=hJ8
 refine wp_seq (wp_seq (aA (rn st9 4 hA10 [] [(9,.bool (decide ((i:Int)<((mkL jN bB x k).length:Int))))] [ql h,.o] aD fun f12 h12_=>(aC (cE (h12_.at 9) (fun h13p => ?_) (fun h13p => ?_))))))
 ·refine wp_skip (wp_seq (wp_block (wp_seq (wp_seq (aA (sg (aE (h12_.at 0) (sg (aE (h12_.at 5) ?_)))))))))
  have hq_:=fW (xs:=x) (i:=i) aB
  obtain ⟨y,hy⟩:=hq_
  have hcs:=gH bB hy
  have hcl:=eC bB x (i+1)
  have hne:bB y=4:=rfl
  have hb17:Bd K (1+(1+(1+(1+(0))))):=⟨by omega,by omega⟩
  obtain ⟨b16,o16,cs16,f16,hp16,hr16,hc16,hm16⟩:=aL9 h hy hK
  have hk18:=hc16
  obtain ⟨he18,rfl,hok18⟩:=hk18
  have he18:_=[I K,I (K+1),I ((K+1)+1),I (((K+1)+1)+1)]:=he18;subst he18
  refine rn st9 5 h12_.put.put [] [(18,.bool (!decide (K=K)))] [qx hp16,qr hr16 0,.o] aD fun f20 h20_=>(aC (eP (h20_.at 18) (fun h21p => ?_) (fun h21p => ?_)))
  ·exact absurd rfl h21p
  refine wp_skip (wp_seq (aA ?_))
  have hb23:=hb17.up
  refine rn st9 3 h20_ [1] [(1,I (K+1))] [.ad K 1 hb23.i64] aD fun f24 h24_=>(aC (wp_seq (wp_seq (aA (sg (aE (h24_.at 0) (sg (aE (h24_.at 5) (rn st9 5 h24_.put.put [] [(27,.bool (!decide ((K+1)=(K+1))))] [qx hp16,qr hr16 1,.o] aD fun f29 h29_=>(aC (eP (h29_.at 27) (fun h30p => ?_) (fun h30p => ?_))))))))))))
  ·exact absurd rfl h30p
  refine wp_skip (wp_seq (aA ?_))
  have hb32:=hb23.up
  refine rn st9 3 h29_ [1] [(1,I ((K+1)+1))] [.ad (K+1) 1 hb32.i64] aD fun f33 h33_=>(aC (wp_seq (wp_seq (aA (sg (aE (h33_.at 0) (sg (aE (h33_.at 5) (lw h33_.put.put [(0,v),(1,I ((K+1)+1)),(5,I (i:Int)),(30,v),(31,I (i:Int))] aD fun h39_=>(rn st9 5 h39_ [] [(36,.bool (!decide (((K+1)+1)=((K+1)+1))))] [qx hp16,qr hr16 2,.o] aD fun f38 h38_=>(aC (eP (h38_.at 36) (fun h40p => ?_) (fun h40p => ?_)))))))))))))
  ·exact absurd rfl h40p
  refine wp_skip (wp_seq (aA ?_))
  have hb42:=hb32.up
  refine rn st9 3 h38_ [1] [(1,I (((K+1)+1)+1))] [.ad ((K+1)+1) 1 hb42.i64] aD fun f43 h43_=>(aC (wp_seq (wp_seq (aA (sg (aE (h43_.at 0) (sg (aE (h43_.at 5) (rn st9 5 h43_.put.put [] [(45,.bool (!decide ((((K+1)+1)+1)=(((K+1)+1)+1))))] [qx hp16,qr hr16 3,.o] aD fun f48 h48_=>(aC (eP (h48_.at 45) (fun h49p => ?_) (fun h49p => ?_))))))))))))
  ·exact absurd rfl h49p
  refine wp_skip (aA ?_)
  have hb51:=hb42.up
  refine rn st9 3 h48_ [1] [(1,I ((((K+1)+1)+1)+1))] [.ad (((K+1)+1)+1) 1 hb51.i64] aD fun f52 h52_=>(aC (aA (rn st9 3 h52_ [5] [(5,I ((i:Int)+1))] [qad (i:Int) 1] aD fun f54 h54_=>(aC ?_))))
  exact ⟨_,x.length - (i+1),aB,rfl,i+1,(((K+1)+1)+1)+1,aB,aB,rfl,(h54_.to aD),st9⟩
 refine wp_exit (wp_seq (aA (sg (aE (h12_.at 1) (sg (aG (v:=I K) rfl (aC (wr (jH results252 rfl ?_)))))))))
 obtain rfl:i=x.length:=by omega
 have hca:=lD bB x _ rfl
 exact ⟨fI aB,st9.bare⟩
theorem markRunS_n {w W0:World} {rs:List Res} {v:Value} {xs:List Run} {fp:List Nat} (hst:St w W0 (Res.own v xs fp::rs)) (k:Int) (h0:0≤k) (hk:k+(cL bR xs:Nat)≤4611686018427387904) :
  Calls prog 133 #[v,I k] W0 fun e w'=>∃ fp',e = .returned (I (k+(cL bR xs:Nat)))∧St w w' (Res.own v (mkL mA bR xs k) fp'::rs):=by
 have hcap:=(bO (hst.get 0 rfl)).len_le
 refine fZ func133 rfl ntmps133 cB (wp_seq (aA (sg (aT (aC (wp_seq (wp_seq (aA (sg (aT (aC (wp_block (dJ (fun (m:Nat) (f:Nat→Value) (W:World)=>∃ (i:Nat) (K:Int) (fo5:List Nat),i≤xs.length∧K=k+(cL bR (xs.take i):Nat)∧m=xs.length - i∧Ag [(0,v),(1,I K),(5,I (i:Int))] f∧St w W (Res.own (α:=List Run) v (mkL mA bR (xs.take i) k++xs.drop i) fo5::rs)) (xs.length - 0) ?_ ?_)))))))))))))
 ·exact ⟨0,k,fp,Nat.zero_le _,(by simp[cL]),rfl,(Ag.nil.put.put.put.put.to aD),(by simpa [mkL] using hst)⟩
 intro m6 f7 W8 hJ9
 obtain ⟨i,K,fo5,hi,hK,rfl,hA11,st10⟩:=hJ9
 have hlx:(mkL mA bR (xs.take i) k++xs.drop i).length=xs.length:=by rw[length_append,dG,length_take,length_drop];omega
 refine wp_seq (wp_seq (aA (rn st10 4 hA11 [] [(9,.bool (decide ((i:Int)<((mkL mA bR (xs.take i) k++xs.drop i).length:Int))))] [ql (bO (st10.get 0 rfl)),.o] aD fun f13 h13_=>(aC (cE (h13_.at 9) (fun h14p => ?_) (fun h14p => ?_))))))
 ·refine wp_skip (wp_seq (wp_block (wp_seq (aA (rn st10 3 h13_ [] [(12,v),(13,I (i:Int)),(14,I K)] [] aD fun f16 h16_ => ?_)))))
  have hq_:=fW (xs:=xs) (i:=i) aB
  obtain ⟨y,hy⟩:=hq_
  have hcs:=gH bR hy
  have hcl:=eC bR xs (i+1)
  have hne:bR y=6+cL aN y.plan.edges+cL bB y.tasks:=rfl
  have hb17:Bd K (1+(1+(1+(1+(1+((cL aN y.plan.edges)+(1+((cL bB y.tasks)+(0))))))))):=⟨by omega,by omega⟩
  have hq_:=St.lendx (α:=Run) cB st10 (x:=y) (qY hy)
  obtain ⟨b18,e18,pre18,cs18,post18,fi18,fr18,hPA18,hC18,st19⟩:=hq_
  have st24:=st19.f1.uncs rfl
  obtain ⟨v25_0,v25_1,g25_0,g25_1,he25,hok25,st26⟩:=open_Run st24
  subst he25
  refine sg (eU iI (h16_.at 12) hPA18 (h16_.at 13) rfl (sg (cS fa_Run_0 rfl (sgn (aS (i:=0) (v:=I K) aD rfl (h16_.at 14) rfl rfl st26.f2 rfl iZ rfl ?_)))));intro W32 st33
  refine aC (wp_seq (aA ?_))
  have hb35:=hb17.up
  refine rn st33 3 h16_.put.put [1] [(1,I (K+1))] [.ad K 1 hb35.i64] aD fun f36 h36_=>(aC (wp_seq (aA (rn st33 6 h36_ [] [(21,I (K+1)),(24,.pointer (some ⟨b18,pre18.length+1,none⟩))] [qx hPA18] aD fun f38 h38_=>(sgn (aS (i:=1) (v:=I (K+1)) aD (h38_.at 24) (h38_.at 21) rfl rfl st33 rfl iZ rfl ?_))))));intro W39 st40
  refine aC (wp_seq (aA ?_))
  have hb42:=hb35.up
  refine rn st40 3 h38_ [1] [(1,I ((K+1)+1))] [.ad (K+1) 1 hb42.i64] aD fun f43 h43_=>(aC (wp_seq (aA (rn st40 6 h43_ [] [(29,I ((K+1)+1)),(32,.pointer (some ⟨b18,pre18.length+2,none⟩))] [qx hPA18] aD fun f45 h45_=>(sgn (aS (i:=2) (v:=I ((K+1)+1)) aD (h45_.at 32) (h45_.at 29) rfl rfl st40 rfl iZ rfl ?_))))));intro W46 st47
  refine aC (wp_seq (aA ?_))
  have hb49:=hb42.up
  refine rn st47 3 h45_ [1] [(1,I (((K+1)+1)+1))] [.ad ((K+1)+1) 1 hb49.i64] aD fun f50 h50_=>(aC (wp_seq (aA (lw h50_ [(0,v),(1,I (((K+1)+1)+1)),(5,I (i:Int))] aD fun h53_=>(rn st47 6 h53_ [] [(37,I (((K+1)+1)+1)),(40,.pointer (some ⟨b18,pre18.length+3,none⟩))] [qx hPA18] aD fun f52 h52_=>(sgn (aS (i:=3) (v:=I (((K+1)+1)+1)) aD (h52_.at 40) (h52_.at 37) rfl rfl st47 rfl iZ rfl ?_)))))));intro W54 st55
  refine aC (wp_seq (aA ?_))
  have hb57:=hb49.up
  refine rn st55 3 h52_ [1] [(1,I ((((K+1)+1)+1)+1))] [.ad (((K+1)+1)+1) 1 hb57.i64] aD fun f58 h58_=>(aC (wp_seq (aA (rn st55 6 h58_ [] [(45,I ((((K+1)+1)+1)+1)),(48,.pointer (some ⟨b18,pre18.length+4,none⟩))] [qx hPA18] aD fun f60 h60_=>(sgn (aS (i:=4) (v:=I ((((K+1)+1)+1)+1)) aD (h60_.at 48) (h60_.at 45) rfl rfl st55 rfl iZ rfl ?_))))));intro W61 st62
  refine aC (wp_seq (aA ?_))
  have hb64:=hb57.up
  refine rn st62 3 h60_ [1] [(1,I (((((K+1)+1)+1)+1)+1))] [.ad ((((K+1)+1)+1)+1) 1 hb64.i64] aD fun f65 h65_=>(aC (wp_seq (aA (rn st62 7 h65_ [] [(56,v25_0),(57,I (((((K+1)+1)+1)+1)+1))] [qx hPA18,qp 0 rfl 5] aD fun f67 h67_ => ?_))))
  have hb73:=hb64.upc
  refine sg (cK func175 rfl (h67_.at 56) (h67_.at 57) ((markEdgeS_n st62.f1 (((((K+1)+1)+1)+1)+1) hb64.lo hb64.hi).mono ?_));rintro _ W68 ⟨fp71,rfl,st70⟩;refine ⟨_,rfl,?_⟩
  refine sg (aG (v:=I ((((((K+1)+1)+1)+1)+1)+(cL aN y.plan.edges:Nat))) rfl (aC (wp_seq (aA (rn st70 5 h67_.put.put [] [(61,I ((((((K+1)+1)+1)+1)+1)+(cL aN y.plan.edges:Nat))),(63,.pointer (some ⟨b18,pre18.length+6,none⟩))] [qx hPA18] aD fun f77 h77_=>(sgn (aS (i:=6) (v:=I ((((((K+1)+1)+1)+1)+1)+(cL aN y.plan.edges:Nat))) aD (h77_.at 63) (h77_.at 61) rfl rfl st70.f1 rfl iZ rfl ?_)))))));intro W79 st80
  refine aC (wp_seq (aA ?_))
  have hb82:=hb73.up
  refine rn st80 3 h77_ [1] [(1,I (((((((K+1)+1)+1)+1)+1)+(cL aN y.plan.edges:Nat))+1))] [.ad ((((((K+1)+1)+1)+1)+1)+(cL aN y.plan.edges:Nat)) 1 hb82.i64] aD fun f83 h83_=>(aC (aA (lw h83_ [(0,v),(1,I (((((((K+1)+1)+1)+1)+1)+(cL aN y.plan.edges:Nat))+1)),(5,I (i:Int))] aD fun h86_=>(rn st80 6 h86_ [] [(70,v25_1),(71,I (((((((K+1)+1)+1)+1)+1)+(cL aN y.plan.edges:Nat))+1))] [qx hPA18,qp 0 rfl 7] aD fun f85 h85_ => ?_))))
  have hb92:=hb82.upc
  refine sg (cK func249 rfl (h85_.at 70) (h85_.at 71) ((markTaskS_n st80.f2 (((((((K+1)+1)+1)+1)+1)+(cL aN y.plan.edges:Nat))+1) hb82.lo hb82.hi).mono ?_));rintro _ W87 ⟨fp90,rfl,st89⟩;refine ⟨_,rfl,?_⟩
  refine sg (aG (v:=I ((((((((K+1)+1)+1)+1)+1)+(cL aN y.plan.edges:Nat))+1)+(cL bB y.tasks:Nat))) rfl (aC (aA (rn st89 3 h85_.put.put [5] [(5,I ((i:Int)+1))] [qad (i:Int) 1] aD fun f96 h96_=>(aC ?_)))))
  have st98:=shut_Run (x:=(⟨K,⟨K+1,(K+1)+1,((K+1)+1)+1,(((K+1)+1)+1)+1,mkL jP aN y.plan.edges (((((K+1)+1)+1)+1)+1)⟩,(((((K+1)+1)+1)+1)+1)+(cL aN y.plan.edges:Nat),mkL jN bB y.tasks (((((((K+1)+1)+1)+1)+1)+(cL aN y.plan.edges:Nat))+1)⟩:Run)) st89.f2 bB6
  try dsimp only at st98
  have st100:=st98.cs rfl
  obtain ⟨fp104,st105⟩:=St.give (α:=Run) st100.f2.f1.f2
  exact ⟨_,xs.length - (i+1),aB,rfl,i+1,(((((((K+1)+1)+1)+1)+1)+(cL aN y.plan.edges:Nat))+1)+(cL bB y.tasks:Nat),fp104,aB,aB,rfl,(h96_.to aD),(by rw[← oA hy hK];exact st105)⟩
 refine wp_exit (wp_seq (aA (sg (aE (h13_.at 1) (sg (aG (v:=I K) rfl (aC (wr (jH results133 rfl ?_)))))))))
 obtain rfl:i=xs.length:=by omega
 have hca:=lD bR xs _ rfl
 rw[vD rfl] at st10
 exact ⟨_,fI aB,st10⟩
theorem heldRunS_n {v:Value} {x:List Run} {fp:List Nat} {k:Int} (h:Sl w v (mkL mA bR x k) fp) (h0:0≤k) (hk:k+(cL bR x:Nat)≤4611686018427387904) :
  Calls prog 135 #[v,I k] w (rI_ (k+(cL bR x:Nat)) w):=by
 have hcap:=h.len_le
 rw[dG] at hcap
 have hml:(mkL mA bR x k).length=x.length:=dG _ _
 refine fZ func135 rfl ntmps135 cB (wp_seq (aA (sg (aT (aC (wp_seq (wp_seq (aA (sg (aT (aC (wp_block (dJ (fun (m:Nat) (f:Nat→Value) (W:World)=>∃ (i:Nat) (K:Int),i≤x.length∧K=k+(cL bR (x.take i):Nat)∧m=x.length - i∧Ag [(0,v),(1,I K),(5,I (i:Int))] f∧St w W ([])) (x.length - 0) ?_ ?_)))))))))))))
 ·exact ⟨0,k,Nat.zero_le _,(by simp[cL]),rfl,(Ag.nil.put.put.put.put.to aD),(St.start w)⟩
 intro m5 f6 W7 hJ8
 obtain ⟨i,K,hi,hK,rfl,hA10,st9⟩:=hJ8
 refine wp_seq (wp_seq (aA (rn st9 4 hA10 [] [(9,.bool (decide ((i:Int)<((mkL mA bR x k).length:Int))))] [ql h,.o] aD fun f12 h12_=>(aC (cE (h12_.at 9) (fun h13p => ?_) (fun h13p => ?_))))))
 ·refine wp_skip (wp_seq (wp_block (wp_seq (wp_seq (aA (sg (aE (h12_.at 0) (sg (aE (h12_.at 5) ?_)))))))))
  have hq_:=fW (xs:=x) (i:=i) aB
  obtain ⟨y,hy⟩:=hq_
  have hcs:=gH bR hy
  have hcl:=eC bR x (i+1)
  have hne:bR y=6+cL aN y.plan.edges+cL bB y.tasks:=rfl
  have hb17:Bd K (1+(1+(1+(1+(1+((cL aN y.plan.edges)+(1+((cL bB y.tasks)+(0))))))))):=⟨by omega,by omega⟩
  obtain ⟨b16,o16,cs16,f16,hp16,hr16,hc16,hm16⟩:=aL9 h hy hK
  have hk18:=hc16
  obtain ⟨v18_0,v18_1,g18_0,g18_1,he18,hok18,h18_0,h18_1,rfl⟩:=hk18
  have he18:_=[I K,I (K+1),I ((K+1)+1),I (((K+1)+1)+1),I ((((K+1)+1)+1)+1),v18_0,I ((((((K+1)+1)+1)+1)+1)+(cL aN y.plan.edges:Nat)),v18_1]:=he18;subst he18
  have h18_0:Sl _ v18_0 (mkL jP aN y.plan.edges (((((K+1)+1)+1)+1)+1)) _:=h18_0
  have h18_1:Sl _ v18_1 (mkL jN bB y.tasks (((((((K+1)+1)+1)+1)+1)+(cL aN y.plan.edges:Nat))+1)) _:=h18_1
  refine rn st9 5 h12_.put.put [] [(18,.bool (!decide (K=K)))] [qx hp16,qr hr16 0,.o] aD fun f20 h20_=>(aC (eP (h20_.at 18) (fun h21p => ?_) (fun h21p => ?_)))
  ·exact absurd rfl h21p
  refine wp_skip (wp_seq (aA ?_))
  have hb23:=hb17.up
  refine rn st9 3 h20_ [1] [(1,I (K+1))] [.ad K 1 hb23.i64] aD fun f24 h24_=>(aC (wp_seq (wp_seq (aA (sg (aE (h24_.at 0) (sg (aE (h24_.at 5) (rn st9 6 h24_.put.put [] [(28,.bool (!decide ((K+1)=(K+1))))] [qx hp16,qr hr16 1,.o] aD fun f29 h29_=>(aC (eP (h29_.at 28) (fun h30p => ?_) (fun h30p => ?_))))))))))))
  ·exact absurd rfl h30p
  refine wp_skip (wp_seq (aA ?_))
  have hb32:=hb23.up
  refine rn st9 3 h29_ [1] [(1,I ((K+1)+1))] [.ad (K+1) 1 hb32.i64] aD fun f33 h33_=>(aC (wp_seq (wp_seq (aA (sg (aE (h33_.at 0) (sg (aE (h33_.at 5) (lw h33_.put.put [(0,v),(1,I ((K+1)+1)),(5,I (i:Int)),(31,v),(32,I (i:Int))] aD fun h39_=>(rn st9 6 h39_ [] [(38,.bool (!decide (((K+1)+1)=((K+1)+1))))] [qx hp16,qr hr16 2,.o] aD fun f38 h38_=>(aC (eP (h38_.at 38) (fun h40p => ?_) (fun h40p => ?_)))))))))))))
  ·exact absurd rfl h40p
  refine wp_skip (wp_seq (aA ?_))
  have hb42:=hb32.up
  refine rn st9 3 h38_ [1] [(1,I (((K+1)+1)+1))] [.ad ((K+1)+1) 1 hb42.i64] aD fun f43 h43_=>(aC (wp_seq (wp_seq (aA (sg (aE (h43_.at 0) (sg (aE (h43_.at 5) (rn st9 6 h43_.put.put [] [(48,.bool (!decide ((((K+1)+1)+1)=(((K+1)+1)+1))))] [qx hp16,qr hr16 3,.o] aD fun f48 h48_=>(aC (eP (h48_.at 48) (fun h49p => ?_) (fun h49p => ?_))))))))))))
  ·exact absurd rfl h49p
  refine wp_skip (wp_seq (aA ?_))
  have hb51:=hb42.up
  refine rn st9 3 h48_ [1] [(1,I ((((K+1)+1)+1)+1))] [.ad (((K+1)+1)+1) 1 hb51.i64] aD fun f52 h52_=>(aC (wp_seq (wp_seq (aA (sg (aE (h52_.at 0) (sg (aE (h52_.at 5) (rn st9 6 h52_.put.put [] [(58,.bool (!decide (((((K+1)+1)+1)+1)=((((K+1)+1)+1)+1))))] [qx hp16,qr hr16 4,.o] aD fun f57 h57_=>(aC (eP (h57_.at 58) (fun h58p => ?_) (fun h58p => ?_))))))))))))
  ·exact absurd rfl h58p
  refine wp_skip (wp_seq (aA ?_))
  have hb60:=hb51.up
  refine rn st9 3 h57_ [1] [(1,I (((((K+1)+1)+1)+1)+1))] [.ad ((((K+1)+1)+1)+1) 1 hb60.i64] aD fun f61 h61_=>(aC (wp_seq (aA (sg (aE (h61_.at 0) (sg (aE (h61_.at 5) (lw h61_.put.put [(0,v),(1,I (((((K+1)+1)+1)+1)+1)),(5,I (i:Int)),(61,v),(62,I (i:Int))] aD fun h67_=>(rn st9 5 h67_ [] [(66,v18_0),(67,I (((((K+1)+1)+1)+1)+1))] [qx hp16,qr hr16 5] aD fun f66 h66_ => ?_)))))))))
  have hb72:=hb60.upc
  refine sg (cK func251 rfl (h66_.at 66) (h66_.at 67) ((heldEdgeS_n W7 (x:=y.plan.edges) (h18_0.below st9.below) hb60.lo hb60.hi).mono ?_));rintro _ W68 ⟨rfl,hk69⟩;refine ⟨_,rfl,?_⟩
  have st70:=St.call st9 hk69
  refine sg (aG (v:=I ((((((K+1)+1)+1)+1)+1)+(cL aN y.plan.edges:Nat))) rfl (aC (wp_seq (wp_seq (aA (sg (aE (v:=I ((((((K+1)+1)+1)+1)+1)+(cL aN y.plan.edges:Nat))) rfl (sg (gP rfl rfl (aC (cE rfl (fun h77p => ?_) (fun h77p => ?_))))))))))))
  ·exact absurd h77p (Int.not_lt.2 hb72.1)
  refine wp_skip (wp_seq (wp_seq (aA (sg (aE (h66_.at 0) (sg (aE (h66_.at 5) (rn st70 5 h66_.put.put.put.put.put.put [] [(77,.bool (!decide ((((((((K+1)+1)+1)+1)+1)+(cL aN y.plan.edges:Nat)):Int)=((((((K+1)+1)+1)+1)+1)+(cL aN y.plan.edges:Nat)))))] [qx hp16,qr hr16 6,.o] aD fun f82 h82_=>(aC (eP (h82_.at 77) (fun h83p => ?_) (fun h83p => ?_)))))))))))
  ·exact absurd rfl h83p
  refine wp_skip (wp_seq (aA ?_))
  have hb85:=hb72.up
  refine rn st70 3 h82_ [1] [(1,I (((((((K+1)+1)+1)+1)+1)+(cL aN y.plan.edges:Nat))+1))] [.ad ((((((K+1)+1)+1)+1)+1)+(cL aN y.plan.edges:Nat)) 1 hb85.i64] aD fun f86 h86_=>(aC (wp_seq (aA (sg (aE (h86_.at 0) (sg (aE (h86_.at 5) (rn st70 4 h86_.put.put [] [(84,v18_1),(85,I (((((((K+1)+1)+1)+1)+1)+(cL aN y.plan.edges:Nat))+1))] [qx hp16,qr hr16 7] aD fun f91 h91_ => ?_))))))))
  have hb96:=hb85.upc
  refine sg (cK func252 rfl (h91_.at 84) (h91_.at 85) ((heldTaskS_n W68 (x:=y.tasks) (h18_1.below st70.below) hb85.lo hb85.hi).mono ?_));rintro _ W92 ⟨rfl,hk93⟩;refine ⟨_,rfl,?_⟩
  have st94:=St.call st70 hk93
  refine sg (aG (v:=I ((((((((K+1)+1)+1)+1)+1)+(cL aN y.plan.edges:Nat))+1)+(cL bB y.tasks:Nat))) rfl (aC (wp_seq (aA (sg (aE (v:=I ((((((((K+1)+1)+1)+1)+1)+(cL aN y.plan.edges:Nat))+1)+(cL bB y.tasks:Nat))) rfl (sg (gP rfl rfl (aC (cE rfl (fun h101p => ?_) (fun h101p => ?_)))))))))))
  ·exact absurd h101p (Int.not_lt.2 hb96.1)
  refine wp_skip (aA (lw h91_.put.put.put.put [(0,v),(1,I ((((((((K+1)+1)+1)+1)+1)+(cL aN y.plan.edges:Nat))+1)+(cL bB y.tasks:Nat))),(5,I (i:Int))] aD fun h104_=>(rn st94 3 h104_ [5] [(5,I ((i:Int)+1))] [qad (i:Int) 1] aD fun f103 h103_=>(aC ?_))))
  exact ⟨_,x.length - (i+1),aB,rfl,i+1,(((((((K+1)+1)+1)+1)+1)+(cL aN y.plan.edges:Nat))+1)+(cL bB y.tasks:Nat),aB,aB,rfl,(h103_.to aD),st94⟩
 refine wp_exit (wp_seq (aA (sg (aE (h12_.at 1) (sg (aG (v:=I K) rfl (aC (wr (jH results135 rfl ?_)))))))))
 obtain rfl:i=x.length:=by omega
 have hca:=lD bR x _ rfl
 exact ⟨fI aB,st9.bare⟩
theorem markEntrySS_n {w W0:World} {rs:List Res} {v:Value} {xs:List (List Entry)} {fp:List Nat} (hst:St w W0 (Res.own v xs fp::rs)) (k:Int) (h0:0≤k) (hk:k+(cL (cL aF) xs:Nat)≤4611686018427387904) :
  Calls prog 132 #[v,I k] W0 fun e w'=>∃ fp',e = .returned (I (k+(cL (cL aF) xs:Nat)))∧St w w' (Res.own v (mkL (mkL dH aF) (cL aF) xs k) fp'::rs):=by
 have hcap:=(bO (hst.get 0 rfl)).len_le
 refine fZ func132 rfl ntmps132 cB (wp_seq (aA (sg (aT (aC (wp_seq (wp_seq (aA (sg (aT (aC (wp_block (dJ (fun (m:Nat) (f:Nat→Value) (W:World)=>∃ (i:Nat) (K:Int) (fo5:List Nat),i≤xs.length∧K=k+(cL (cL aF) (xs.take i):Nat)∧m=xs.length - i∧Ag [(0,v),(1,I K),(5,I (i:Int))] f∧St w W (Res.own (α:=List (List Entry)) v (mkL (mkL dH aF) (cL aF) (xs.take i) k++xs.drop i) fo5::rs)) (xs.length - 0) ?_ ?_)))))))))))))
 ·exact ⟨0,k,fp,Nat.zero_le _,(by simp[cL]),rfl,(Ag.nil.put.put.put.put.to aD),(by simpa [mkL] using hst)⟩
 intro m6 f7 W8 hJ9
 obtain ⟨i,K,fo5,hi,hK,rfl,hA11,st10⟩:=hJ9
 have hlx:(mkL (mkL dH aF) (cL aF) (xs.take i) k++xs.drop i).length=xs.length:=by rw[length_append,dG,length_take,length_drop];omega
 refine wp_seq (wp_seq (aA (rn st10 4 hA11 [] [(9,.bool (decide ((i:Int)<((mkL (mkL dH aF) (cL aF) (xs.take i) k++xs.drop i).length:Int))))] [ql (bO (st10.get 0 rfl)),.o] aD fun f13 h13_=>(aC (cE (h13_.at 9) (fun h14p => ?_) (fun h14p => ?_))))))
 ·refine wp_skip (wp_seq (wp_block (aA (sg (aE (h13_.at 0) (sg (aE (h13_.at 5) ?_)))))))
  have hq_:=fW (xs:=xs) (i:=i) aB
  obtain ⟨y,hy⟩:=hq_
  have hcs:=gH (cL aF) hy
  have hcl:=eC (cL aF) xs (i+1)
  have hne:cL aF y=cL aF y:=rfl
  have hb17:Bd K ((cL aF y)+(0)):=⟨by omega,by omega⟩
  have hq_:=St.lendx (α:=List Entry) cB st10 (x:=y) (qY hy)
  obtain ⟨b18,e18,pre18,cs18,post18,fi18,fr18,hPA18,hC18,st19⟩:=hq_
  have hq_:=st19.f1.uncs1
  obtain ⟨v18,he18,st24⟩:=hq_;subst he18
  refine rn st24 3 h13_.put.put [] [(15,v18),(16,I K)] [qx hPA18,qp 1 rfl 0] aD fun f26 h26_ => ?_
  have hb31:=hb17.upc
  refine sg (cK func248 rfl (h26_.at 15) (h26_.at 16) ((markEntryS_n st24 K hb17.lo hb17.hi).mono ?_));rintro _ W27 ⟨fp30,rfl,st29⟩;refine ⟨_,rfl,?_⟩
  refine sg (aG (v:=I (K+(cL aF y:Nat))) rfl (aC (aA (rn st29 3 h26_.put.put [5] [(5,I ((i:Int)+1))] [qad (i:Int) 1] aD fun f35 h35_=>(aC ?_)))))
  have st36:=st29.cs1
  obtain ⟨fp40,st41⟩:=St.give (α:=List Entry) st36.f2.f1.f2
  exact ⟨_,xs.length - (i+1),aB,rfl,i+1,K+(cL aF y:Nat),fp40,aB,aB,rfl,(h35_.to aD),(by rw[← oA hy hK];exact st41)⟩
 refine wp_exit (wp_seq (aA (sg (aE (h13_.at 1) (sg (aG (v:=I K) rfl (aC (wr (jH results132 rfl ?_)))))))))
 obtain rfl:i=xs.length:=by omega
 have hca:=lD (cL aF) xs _ rfl
 rw[vD rfl] at st10
 exact ⟨_,fI aB,st10⟩
theorem heldEntrySS_n {v:Value} {x:List (List Entry)} {fp:List Nat} {k:Int} (h:Sl w v (mkL (mkL dH aF) (cL aF) x k) fp) (h0:0≤k) (hk:k+(cL (cL aF) x:Nat)≤4611686018427387904) :
  Calls prog 134 #[v,I k] w (rI_ (k+(cL (cL aF) x:Nat)) w):=by
 have hcap:=h.len_le
 rw[dG] at hcap
 have hml:(mkL (mkL dH aF) (cL aF) x k).length=x.length:=dG _ _
 refine fZ func134 rfl ntmps134 cB (wp_seq (aA (sg (aT (aC (wp_seq (wp_seq (aA (sg (aT (aC (wp_block (dJ (fun (m:Nat) (f:Nat→Value) (W:World)=>∃ (i:Nat) (K:Int),i≤x.length∧K=k+(cL (cL aF) (x.take i):Nat)∧m=x.length - i∧Ag [(0,v),(1,I K),(5,I (i:Int))] f∧St w W ([])) (x.length - 0) ?_ ?_)))))))))))))
 ·exact ⟨0,k,Nat.zero_le _,(by simp[cL]),rfl,(Ag.nil.put.put.put.put.to aD),(St.start w)⟩
 intro m5 f6 W7 hJ8
 obtain ⟨i,K,hi,hK,rfl,hA10,st9⟩:=hJ8
 refine wp_seq (wp_seq (aA (rn st9 4 hA10 [] [(9,.bool (decide ((i:Int)<((mkL (mkL dH aF) (cL aF) x k).length:Int))))] [ql h,.o] aD fun f12 h12_=>(aC (cE (h12_.at 9) (fun h13p => ?_) (fun h13p => ?_))))))
 ·refine wp_skip (wp_seq (wp_block (wp_seq (aA (sg (aE (h12_.at 0) (sg (aE (h12_.at 5) ?_))))))))
  have hq_:=fW (xs:=x) (i:=i) aB
  obtain ⟨y,hy⟩:=hq_
  have hcs:=gH (cL aF) hy
  have hcl:=eC (cL aF) x (i+1)
  have hne:cL aF y=cL aF y:=rfl
  have hb17:Bd K ((cL aF y)+(0)):=⟨by omega,by omega⟩
  obtain ⟨b16,o16,cs16,f16,hp16,hr16,hc16,hm16⟩:=aL9 h hy hK
  obtain ⟨v18,rfl,h19⟩:=hc16
  have h19:Sl _ v18 (mkL dH aF y K) f16:=h19
  refine rn st9 3 h12_.put.put [] [(15,v18),(16,I K)] [qx hp16,qr hr16 0] aD fun f21 h21_ => ?_
  have hb26:=hb17.upc
  refine sg (cK func250 rfl (h21_.at 15) (h21_.at 16) ((heldEntryS_n W7 (x:=y) (h19.below st9.below) hb17.lo hb17.hi).mono ?_));rintro _ W22 ⟨rfl,hk23⟩;refine ⟨_,rfl,?_⟩
  have st24:=St.call st9 hk23
  refine sg (aG (v:=I (K+(cL aF y:Nat))) rfl (aC (wp_seq (aA (sg (aE (v:=I (K+(cL aF y:Nat))) rfl (sg (gP rfl rfl (aC (cE rfl (fun h31p => ?_) (fun h31p => ?_)))))))))))
  ·exact absurd h31p (Int.not_lt.2 hb26.1)
  refine wp_skip (aA (rn st24 3 h21_.put.put.put.put [5] [(5,I ((i:Int)+1))] [qad (i:Int) 1] aD fun f33 h33_=>(aC ?_)))
  exact ⟨_,x.length - (i+1),aB,rfl,i+1,K+(cL aF y:Nat),aB,aB,rfl,(h33_.to aD),st24⟩
 refine wp_exit (wp_seq (aA (sg (aE (h12_.at 1) (sg (aG (v:=I K) rfl (aC (wr (jH results134 rfl ?_)))))))))
 obtain rfl:i=x.length:=by omega
 have hca:=lD (cL aF) x _ rfl
 exact ⟨fI aB,st9.bare⟩
theorem markYard_n {w W0:World} {rs:List Res} {x:Yard} {cs:List Value} {fp:List Nat} (hst:St w W0 (Res.own (.agg cs.toArray) x fp::rs)) (k:Int) (h0:0≤k) (hk:k+(bH x:Nat)≤4611686018427387904) :
  Calls prog 39 #[.agg cs.toArray,I k] W0 fun e w'=>∃ fp',e = .returned (I (k+(bH x:Nat)))∧St w w' (Res.own (.agg cs.toArray) (xE x k) fp'::rs):=by
 have hk2:=hk
 unfold bH at hk2
 refine fZ func39 rfl ntmps39 cB ?_
 have hb1:Bd k ((cL (cL aF) x.shelf)+((cL bR x.runs)+(0))):=⟨by omega,by omega⟩
 refine wp_seq (aA (sg (eW (cs:=cs) rfl hst ?_)));intro b2 W3 hb4 st5
 refine sg (aT (aC (wp_seq (aA ?_))))
 obtain ⟨v11_0,v11_1,g11_0,g11_1,he11,hok11,st12⟩:=yU st5.f1
 subst he11
 refine rn st12 3 Ag.nil.put.put.put.put [] [(6,v11_0),(7,I k)] [qb 2 rfl 2] aD fun f15 h15_ => ?_
 have hb20:=hb1.upc
 refine sg (cK func132 rfl (h15_.at 6) (h15_.at 7) ((markEntrySS_n st12 k hb1.lo hb1.hi).mono ?_));rintro _ W16 ⟨fp19,rfl,st18⟩;refine ⟨_,rfl,?_⟩
 refine sg (aG (v:=I (k+(cL (cL aF) x.shelf:Nat))) rfl (aC (wp_seq (aA (rn st18 3 h15_.put.put [] [(10,v11_1),(11,I (k+(cL (cL aF) x.shelf:Nat)))] [qb 2 rfl 3] aD fun f24 h24_ => ?_)))))
 have hb30:=hb20.upc
 refine sg (cK func133 rfl (h24_.at 10) (h24_.at 11) ((markRunS_n st18.f1 (k+(cL (cL aF) x.shelf:Nat)) hb20.lo hb20.hi).mono ?_));rintro _ W25 ⟨fp28,rfl,st27⟩;refine ⟨_,rfl,?_⟩
 refine sg (aG (v:=I ((k+(cL (cL aF) x.shelf:Nat))+(cL bR x.runs:Nat))) rfl (aC (wp_seq (aA (sg (aE (v:=I ((k+(cL (cL aF) x.shelf:Nat))+(cL bR x.runs:Nat))) rfl (sg (aG (v:=I ((k+(cL (cL aF) x.shelf:Nat))+(cL bR x.runs:Nat))) rfl (aC (wr (jH results39 rfl ?_)))))))))))
 have st36:=nK (x:=(xE x k)) st27.f1 hok11
 exact ⟨_,fI (by unfold bH;push_cast;omega),st36.d1⟩
theorem heldYard_n {x:Yard} {k:Int} (hc:Shape.C w cs (xE x k) fp) (h0:0≤k) (hk:k+(bH x:Nat)≤4611686018427387904) :
  Calls prog 40 #[.agg cs.toArray,I k] w (rI_ (k+(bH x:Nat)) w):=by
 have hk2:=hk
 have hnt:bH x=cL (cL aF) x.shelf+cL bR x.runs:=rfl
 refine fZ func40 rfl ntmps40 cB ?_
 have hb1:Bd k ((cL (cL aF) x.shelf)+((cL bR x.runs)+(0))):=⟨by omega,by omega⟩
 refine wp_seq (aA (sg (eW (cs:=cs) rfl (St.start w) ?_)));intro b2 W3 hb4 st5
 refine sg (aT (aC (wp_seq (aA ?_))))
 have hk10:=hc
 obtain ⟨v10_0,v10_1,g10_0,g10_1,he10,hok10,h10_0,h10_1,rfl⟩:=hk10
 have he10:_=[I x.now,I x.seq,v10_0,v10_1]:=he10;subst he10
 have h10_0:Sl _ v10_0 (mkL (mkL dH aF) (cL aF) x.shelf k) _:=h10_0
 have h10_1:Sl _ v10_1 (mkL mA bR x.runs (k+(cL (cL aF) x.shelf:Nat))) _:=h10_1
 refine rn st5 3 Ag.nil.put.put.put.put [] [(6,v10_0),(7,I k)] [qb 0 rfl 2] aD fun f11 h11_ => ?_
 have hb16:=hb1.upc
 refine sg (cK func134 rfl (h11_.at 6) (h11_.at 7) ((heldEntrySS_n W3 (x:=x.shelf) (h10_0.below st5.below) hb1.lo hb1.hi).mono ?_));rintro _ W12 ⟨rfl,hk13⟩;refine ⟨_,rfl,?_⟩
 have st14:=St.call st5 hk13
 refine sg (aG (v:=I (k+(cL (cL aF) x.shelf:Nat))) rfl (aC (wp_seq (wp_seq (aA (sg (aE (v:=I (k+(cL (cL aF) x.shelf:Nat))) rfl (sg (gP rfl rfl (aC (cE rfl (fun h21p => ?_) (fun h21p => ?_))))))))))))
 ·exact absurd h21p (Int.not_lt.2 hb16.1)
 refine wp_skip (wp_seq (aA (rn st14 3 h11_.put.put.put.put [] [(12,v10_1),(13,I (k+(cL (cL aF) x.shelf:Nat)))] [qb 0 rfl 3] aD fun f23 h23_ => ?_)))
 have hb28:=hb16.upc
 refine sg (cK func135 rfl (h23_.at 12) (h23_.at 13) ((heldRunS_n W12 (x:=x.runs) (h10_1.below st14.below) hb16.lo hb16.hi).mono ?_));rintro _ W24 ⟨rfl,hk25⟩;refine ⟨_,rfl,?_⟩
 have st26:=St.call st14 hk25
 refine sg (aG (v:=I ((k+(cL (cL aF) x.shelf:Nat))+(cL bR x.runs:Nat))) rfl (aC (wp_seq (wp_seq (aA (sg (aE (v:=I ((k+(cL (cL aF) x.shelf:Nat))+(cL bR x.runs:Nat))) rfl (sg (gP rfl rfl (aC (cE rfl (fun h33p => ?_) (fun h33p => ?_))))))))))))
 ·exact absurd h33p (Int.not_lt.2 hb28.1)
 refine wp_skip (wp_seq (aA (sg (aE (v:=I ((k+(cL (cL aF) x.shelf:Nat))+(cL bR x.runs:Nat))) rfl (sg (aG (v:=I ((k+(cL (cL aF) x.shelf:Nat))+(cL bR x.runs:Nat))) rfl (aC (wr (jH results40 rfl ?_)))))))))
 exact ⟨fI aB,st26.bare⟩
theorem markWaitS_n {w W0:World} {rs:List Res} {v:Value} {xs:List Wait} {fp:List Nat} (hst:St w W0 (Res.own v xs fp::rs)) (k:Int) (h0:0≤k) (hk:k+(cL bJ xs:Nat)≤4611686018427387904) :
  Calls prog 144 #[v,I k] W0 fun e w'=>∃ fp',e = .returned (I (k+(cL bJ xs:Nat)))∧St w w' (Res.own v (mkL kX bJ xs k) fp'::rs):=by
 have hcap:=(bO (hst.get 0 rfl)).len_le
 refine fZ func144 rfl ntmps144 cB (wp_seq (aA (sg (aT (aC (wp_seq (wp_seq (aA (sg (aT (aC (wp_block (dJ (fun (m:Nat) (f:Nat→Value) (W:World)=>∃ (i:Nat) (K:Int) (fo5:List Nat),i≤xs.length∧K=k+(cL bJ (xs.take i):Nat)∧m=xs.length - i∧Ag [(0,v),(1,I K),(5,I (i:Int))] f∧St w W (Res.own (α:=List Wait) v (mkL kX bJ (xs.take i) k++xs.drop i) fo5::rs)) (xs.length - 0) ?_ ?_)))))))))))))
 ·exact ⟨0,k,fp,Nat.zero_le _,(by simp[cL]),rfl,(Ag.nil.put.put.put.put.to aD),(by simpa [mkL] using hst)⟩
 intro m6 f7 W8 hJ9
 obtain ⟨i,K,fo5,hi,hK,rfl,hA11,st10⟩:=hJ9
 have hlx:(mkL kX bJ (xs.take i) k++xs.drop i).length=xs.length:=by rw[length_append,dG,length_take,length_drop];omega
 refine wp_seq (wp_seq (aA (rn st10 4 hA11 [] [(9,.bool (decide ((i:Int)<((mkL kX bJ (xs.take i) k++xs.drop i).length:Int))))] [ql (bO (st10.get 0 rfl)),.o] aD fun f13 h13_=>(aC (cE (h13_.at 9) (fun h14p => ?_) (fun h14p => ?_))))))
 ·refine wp_skip (wp_seq (wp_block (wp_seq (aA (rn st10 3 h13_ [] [(12,v),(13,I (i:Int)),(14,I K)] [] aD fun f16 h16_ => ?_)))))
  have hq_:=fW (xs:=xs) (i:=i) aB
  obtain ⟨y,hy⟩:=hq_
  have hcs:=gH bJ hy
  have hcl:=eC bJ xs (i+1)
  have hne:bJ y=5:=rfl
  have hb17:Bd K (1+(1+(1+(1+(1+(0)))))):=⟨by omega,by omega⟩
  have hq_:=St.lendx (α:=Wait) cB st10 (x:=y) (qY hy)
  obtain ⟨b18,e18,pre18,cs18,post18,fi18,fr18,hPA18,hC18,st19⟩:=hq_
  obtain ⟨he18,hf18,hok18⟩:=hC18;have he18:_=[I y.call,I y.reply.code,I y.reply.run,I y.reply.task,I y.reply.try_]:=he18;subst he18
  refine sg (eU sl_WaitS (h16_.at 12) hPA18 (h16_.at 13) rfl (sg (cS fa_Wait_0 rfl (sgn (aS (i:=0) (v:=I K) aD rfl (h16_.at 14) rfl rfl st19.d1 rfl iZ rfl ?_)))));intro W26 st27
  refine aC (wp_seq (aA ?_))
  have hb29:=hb17.up
  refine rn st27 3 h16_.put.put [1] [(1,I (K+1))] [.ad K 1 hb29.i64] aD fun f30 h30_=>(aC (wp_seq (aA (rn st27 6 h30_ [] [(21,I (K+1)),(24,.pointer (some ⟨b18,pre18.length+1,none⟩))] [qx hPA18] aD fun f32 h32_=>(sgn (aS (i:=1) (v:=I (K+1)) aD (h32_.at 24) (h32_.at 21) rfl rfl st27 rfl iZ rfl ?_))))));intro W33 st34
  refine aC (wp_seq (aA ?_))
  have hb36:=hb29.up
  refine rn st34 3 h32_ [1] [(1,I ((K+1)+1))] [.ad (K+1) 1 hb36.i64] aD fun f37 h37_=>(aC (wp_seq (aA (rn st34 6 h37_ [] [(29,I ((K+1)+1)),(32,.pointer (some ⟨b18,pre18.length+2,none⟩))] [qx hPA18] aD fun f39 h39_=>(sgn (aS (i:=2) (v:=I ((K+1)+1)) aD (h39_.at 32) (h39_.at 29) rfl rfl st34 rfl iZ rfl ?_))))));intro W40 st41
  refine aC (wp_seq (aA ?_))
  have hb43:=hb36.up
  refine rn st41 3 h39_ [1] [(1,I (((K+1)+1)+1))] [.ad ((K+1)+1) 1 hb43.i64] aD fun f44 h44_=>(aC (wp_seq (aA (lw h44_ [(0,v),(1,I (((K+1)+1)+1)),(5,I (i:Int))] aD fun h47_=>(rn st41 6 h47_ [] [(37,I (((K+1)+1)+1)),(40,.pointer (some ⟨b18,pre18.length+3,none⟩))] [qx hPA18] aD fun f46 h46_=>(sgn (aS (i:=3) (v:=I (((K+1)+1)+1)) aD (h46_.at 40) (h46_.at 37) rfl rfl st41 rfl iZ rfl ?_)))))));intro W48 st49
  refine aC (wp_seq (aA ?_))
  have hb51:=hb43.up
  refine rn st49 3 h46_ [1] [(1,I ((((K+1)+1)+1)+1))] [.ad (((K+1)+1)+1) 1 hb51.i64] aD fun f52 h52_=>(aC (wp_seq (aA (rn st49 6 h52_ [] [(45,I ((((K+1)+1)+1)+1)),(48,.pointer (some ⟨b18,pre18.length+4,none⟩))] [qx hPA18] aD fun f54 h54_=>(sgn (aS (i:=4) (v:=I ((((K+1)+1)+1)+1)) aD (h54_.at 48) (h54_.at 45) rfl rfl st49 rfl iZ rfl ?_))))));intro W55 st56
  refine aC (aA ?_)
  have hb58:=hb51.up
  refine rn st56 3 h54_ [1] [(1,I (((((K+1)+1)+1)+1)+1))] [.ad ((((K+1)+1)+1)+1) 1 hb58.i64] aD fun f59 h59_=>(aC (aA (rn st56 3 h59_ [5] [(5,I ((i:Int)+1))] [qad (i:Int) 1] aD fun f61 h61_=>(aC ?_))))
  have st62:=st56.cs0 (cs:=[I K,I (K+1),I ((K+1)+1),I (((K+1)+1)+1),I ((((K+1)+1)+1)+1)]) (x:=(⟨K,⟨K+1,(K+1)+1,((K+1)+1)+1,(((K+1)+1)+1)+1⟩⟩:Wait)) ⟨rfl,rfl,bB6⟩
  obtain ⟨fp67,st68⟩:=St.give (α:=Wait) st62.f2.f1.f2
  exact ⟨_,xs.length - (i+1),aB,rfl,i+1,((((K+1)+1)+1)+1)+1,fp67,aB,aB,rfl,(h61_.to aD),(by rw[← oA hy hK];exact st68)⟩
 refine wp_exit (wp_seq (aA (sg (aE (h13_.at 1) (sg (aG (v:=I K) rfl (aC (wr (jH results144 rfl ?_)))))))))
 obtain rfl:i=xs.length:=by omega
 have hca:=lD bJ xs _ rfl
 rw[vD rfl] at st10
 exact ⟨_,fI aB,st10⟩
theorem heldWaitS_n {v:Value} {x:List Wait} {fp:List Nat} {k:Int} (h:Sl w v (mkL kX bJ x k) fp) (h0:0≤k) (hk:k+(cL bJ x:Nat)≤4611686018427387904) :
  Calls prog 146 #[v,I k] w (rI_ (k+(cL bJ x:Nat)) w):=by
 have hcap:=h.len_le
 rw[dG] at hcap
 have hml:(mkL kX bJ x k).length=x.length:=dG _ _
 refine fZ func146 rfl ntmps146 cB (wp_seq (aA (sg (aT (aC (wp_seq (wp_seq (aA (sg (aT (aC (wp_block (dJ (fun (m:Nat) (f:Nat→Value) (W:World)=>∃ (i:Nat) (K:Int),i≤x.length∧K=k+(cL bJ (x.take i):Nat)∧m=x.length - i∧Ag [(0,v),(1,I K),(5,I (i:Int))] f∧St w W ([])) (x.length - 0) ?_ ?_)))))))))))))
 ·exact ⟨0,k,Nat.zero_le _,(by simp[cL]),rfl,(Ag.nil.put.put.put.put.to aD),(St.start w)⟩
 intro m5 f6 W7 hJ8
 obtain ⟨i,K,hi,hK,rfl,hA10,st9⟩:=hJ8
 refine wp_seq (wp_seq (aA (rn st9 4 hA10 [] [(9,.bool (decide ((i:Int)<((mkL kX bJ x k).length:Int))))] [ql h,.o] aD fun f12 h12_=>(aC (cE (h12_.at 9) (fun h13p => ?_) (fun h13p => ?_))))))
 ·refine wp_skip (wp_seq (wp_block (wp_seq (wp_seq (aA (sg (aE (h12_.at 0) (sg (aE (h12_.at 5) ?_)))))))))
  have hq_:=fW (xs:=x) (i:=i) aB
  obtain ⟨y,hy⟩:=hq_
  have hcs:=gH bJ hy
  have hcl:=eC bJ x (i+1)
  have hne:bJ y=5:=rfl
  have hb17:Bd K (1+(1+(1+(1+(1+(0)))))):=⟨by omega,by omega⟩
  obtain ⟨b16,o16,cs16,f16,hp16,hr16,hc16,hm16⟩:=aL9 h hy hK
  have hk18:=hc16
  obtain ⟨he18,rfl,hok18⟩:=hk18
  have he18:_=[I K,I (K+1),I ((K+1)+1),I (((K+1)+1)+1),I ((((K+1)+1)+1)+1)]:=he18;subst he18
  refine rn st9 5 h12_.put.put [] [(18,.bool (!decide (K=K)))] [qx hp16,qr hr16 0,.o] aD fun f20 h20_=>(aC (eP (h20_.at 18) (fun h21p => ?_) (fun h21p => ?_)))
  ·exact absurd rfl h21p
  refine wp_skip (wp_seq (aA ?_))
  have hb23:=hb17.up
  refine rn st9 3 h20_ [1] [(1,I (K+1))] [.ad K 1 hb23.i64] aD fun f24 h24_=>(aC (wp_seq (wp_seq (aA (sg (aE (h24_.at 0) (sg (aE (h24_.at 5) (rn st9 6 h24_.put.put [] [(28,.bool (!decide ((K+1)=(K+1))))] [qx hp16,qr hr16 1,.o] aD fun f29 h29_=>(aC (eP (h29_.at 28) (fun h30p => ?_) (fun h30p => ?_))))))))))))
  ·exact absurd rfl h30p
  refine wp_skip (wp_seq (aA ?_))
  have hb32:=hb23.up
  refine rn st9 3 h29_ [1] [(1,I ((K+1)+1))] [.ad (K+1) 1 hb32.i64] aD fun f33 h33_=>(aC (wp_seq (wp_seq (aA (sg (aE (h33_.at 0) (sg (aE (h33_.at 5) (lw h33_.put.put [(0,v),(1,I ((K+1)+1)),(5,I (i:Int)),(31,v),(32,I (i:Int))] aD fun h39_=>(rn st9 6 h39_ [] [(38,.bool (!decide (((K+1)+1)=((K+1)+1))))] [qx hp16,qr hr16 2,.o] aD fun f38 h38_=>(aC (eP (h38_.at 38) (fun h40p => ?_) (fun h40p => ?_)))))))))))))
  ·exact absurd rfl h40p
  refine wp_skip (wp_seq (aA ?_))
  have hb42:=hb32.up
  refine rn st9 3 h38_ [1] [(1,I (((K+1)+1)+1))] [.ad ((K+1)+1) 1 hb42.i64] aD fun f43 h43_=>(aC (wp_seq (wp_seq (aA (sg (aE (h43_.at 0) (sg (aE (h43_.at 5) (rn st9 6 h43_.put.put [] [(48,.bool (!decide ((((K+1)+1)+1)=(((K+1)+1)+1))))] [qx hp16,qr hr16 3,.o] aD fun f48 h48_=>(aC (eP (h48_.at 48) (fun h49p => ?_) (fun h49p => ?_))))))))))))
  ·exact absurd rfl h49p
  refine wp_skip (wp_seq (aA ?_))
  have hb51:=hb42.up
  refine rn st9 3 h48_ [1] [(1,I ((((K+1)+1)+1)+1))] [.ad (((K+1)+1)+1) 1 hb51.i64] aD fun f52 h52_=>(aC (wp_seq (wp_seq (aA (sg (aE (h52_.at 0) (sg (aE (h52_.at 5) (rn st9 6 h52_.put.put [] [(58,.bool (!decide (((((K+1)+1)+1)+1)=((((K+1)+1)+1)+1))))] [qx hp16,qr hr16 4,.o] aD fun f57 h57_=>(aC (eP (h57_.at 58) (fun h58p => ?_) (fun h58p => ?_))))))))))))
  ·exact absurd rfl h58p
  refine wp_skip (aA ?_)
  have hb60:=hb51.up
  refine rn st9 3 h57_ [1] [(1,I (((((K+1)+1)+1)+1)+1))] [.ad ((((K+1)+1)+1)+1) 1 hb60.i64] aD fun f61 h61_=>(aC (aA (lw h61_ [(0,v),(1,I (((((K+1)+1)+1)+1)+1)),(5,I (i:Int))] aD fun h64_=>(rn st9 3 h64_ [5] [(5,I ((i:Int)+1))] [qad (i:Int) 1] aD fun f63 h63_=>(aC ?_)))))
  exact ⟨_,x.length - (i+1),aB,rfl,i+1,((((K+1)+1)+1)+1)+1,aB,aB,rfl,(h63_.to aD),st9⟩
 refine wp_exit (wp_seq (aA (sg (aE (h12_.at 1) (sg (aG (v:=I K) rfl (aC (wr (jH results146 rfl ?_)))))))))
 obtain rfl:i=x.length:=by omega
 have hca:=lD bJ x _ rfl
 exact ⟨fI aB,st9.bare⟩
theorem markFileS_n {w W0:World} {rs:List Res} {v:Value} {xs:List File} {fp:List Nat} (hst:St w W0 (Res.own v xs fp::rs)) (k:Int) (h0:0≤k) (hk:k+(cL aY xs:Nat)≤4611686018427387904) :
  Calls prog 131 #[v,I k] W0 fun e w'=>∃ fp',e = .returned (I (k+(cL aY xs:Nat)))∧St w w' (Res.own v (mkL jO aY xs k) fp'::rs):=by
 have hcap:=(bO (hst.get 0 rfl)).len_le
 refine fZ func131 rfl ntmps131 cB (wp_seq (aA (sg (aT (aC (wp_seq (wp_seq (aA (sg (aT (aC (wp_block (dJ (fun (m:Nat) (f:Nat→Value) (W:World)=>∃ (i:Nat) (K:Int) (fo5:List Nat),i≤xs.length∧K=k+(cL aY (xs.take i):Nat)∧m=xs.length - i∧Ag [(0,v),(1,I K),(5,I (i:Int))] f∧St w W (Res.own (α:=List File) v (mkL jO aY (xs.take i) k++xs.drop i) fo5::rs)) (xs.length - 0) ?_ ?_)))))))))))))
 ·exact ⟨0,k,fp,Nat.zero_le _,(by simp[cL]),rfl,(Ag.nil.put.put.put.put.to aD),(by simpa [mkL] using hst)⟩
 intro m6 f7 W8 hJ9
 obtain ⟨i,K,fo5,hi,hK,rfl,hA11,st10⟩:=hJ9
 have hlx:(mkL jO aY (xs.take i) k++xs.drop i).length=xs.length:=by rw[length_append,dG,length_take,length_drop];omega
 refine wp_seq (wp_seq (aA (rn st10 4 hA11 [] [(9,.bool (decide ((i:Int)<((mkL jO aY (xs.take i) k++xs.drop i).length:Int))))] [ql (bO (st10.get 0 rfl)),.o] aD fun f13 h13_=>(aC (cE (h13_.at 9) (fun h14p => ?_) (fun h14p => ?_))))))
 ·refine wp_skip (wp_seq (wp_block (wp_seq (aA (rn st10 3 h13_ [] [(12,v),(13,I (i:Int)),(14,I K)] [] aD fun f16 h16_ => ?_)))))
  have hq_:=fW (xs:=xs) (i:=i) aB
  obtain ⟨y,hy⟩:=hq_
  have hcs:=gH aY hy
  have hcl:=eC aY xs (i+1)
  have hne:aY y=3:=rfl
  have hb17:Bd K (1+(1+(1+(0)))):=⟨by omega,by omega⟩
  have hq_:=St.lendx (α:=File) cB st10 (x:=y) (qY hy)
  obtain ⟨b18,e18,pre18,cs18,post18,fi18,fr18,hPA18,hC18,st19⟩:=hq_
  obtain ⟨he18,hf18,hok18⟩:=hC18;have he18:_=[.string y.name,.string y.data,I y.safe]:=he18;subst he18
  refine rc st19.d1 3 h16_ [] [(15,.string (jM K)),(17,.pointer (some ⟨b18,pre18.length,none⟩))] [qc func247 rfl (fun W s b=>rA W K aB),qx hPA18] aD fun f25 W26 h25_ st27 hb28=>(sgn (aS (i:=0) (v := .string (jM K)) aD (h25_.at 17) (h25_.at 15) rfl rfl st27 rfl iZ rfl ?_));intro W29 st30
  refine aC (wp_seq (aA ?_))
  have hb32:=hb17.up
  refine rn st30 3 h25_ [1] [(1,I (K+1))] [.ad K 1 hb32.i64] aD fun f33 h33_=>(aC (wp_seq (aA (rc st30 6 h33_ [] [(23,.string (jM (K+1))),(25,.pointer (some ⟨b18,pre18.length+1,none⟩))] [qc func247 rfl (fun W s b=>rA W (K+1) aB),qx hPA18] aD fun f35 W36 h35_ st37 hb38=>(sgn (aS (i:=1) (v := .string (jM (K+1))) aD (h35_.at 25) (h35_.at 23) rfl rfl st37 rfl iZ rfl ?_))))));intro W39 st40
  refine aC (wp_seq (aA ?_))
  have hb42:=hb32.up
  refine rn st40 3 h35_ [1] [(1,I ((K+1)+1))] [.ad (K+1) 1 hb42.i64] aD fun f43 h43_=>(aC (wp_seq (aA (rn st40 5 h43_ [] [(30,I ((K+1)+1)),(32,.pointer (some ⟨b18,pre18.length+2,none⟩))] [qx hPA18] aD fun f45 h45_=>(sgn (aS (i:=2) (v:=I ((K+1)+1)) aD (h45_.at 32) (h45_.at 30) rfl rfl st40 rfl iZ rfl ?_))))));intro W46 st47
  refine aC (aA ?_)
  have hb49:=hb42.up
  refine rn st47 3 h45_ [1] [(1,I (((K+1)+1)+1))] [.ad ((K+1)+1) 1 hb49.i64] aD fun f50 h50_=>(aC (aA (lw h50_ [(0,v),(1,I (((K+1)+1)+1)),(5,I (i:Int))] aD fun h53_=>(rn st47 3 h53_ [5] [(5,I ((i:Int)+1))] [qad (i:Int) 1] aD fun f52 h52_=>(aC ?_)))))
  have st54:=st47.cs0 (cs:=[.string (jM K),.string (jM (K+1)),I ((K+1)+1)]) (x:=(⟨jM K,jM (K+1),(K+1)+1⟩:File)) ⟨rfl,rfl,(by refine ⟨aK6 ?_,aK6 ?_,?_⟩ <;> (first | omega | (simp only[I64];omega)))⟩
  obtain ⟨fp59,st60⟩:=St.give (α:=File) st54.f2.f1.f2
  exact ⟨_,xs.length - (i+1),aB,rfl,i+1,((K+1)+1)+1,fp59,aB,aB,rfl,(h52_.to aD),(by rw[← oA hy hK];exact st60)⟩
 refine wp_exit (wp_seq (aA (sg (aE (h13_.at 1) (sg (aG (v:=I K) rfl (aC (wr (jH results131 rfl ?_)))))))))
 obtain rfl:i=xs.length:=by omega
 have hca:=lD aY xs _ rfl
 rw[vD rfl] at st10
 exact ⟨_,fI aB,st10⟩
theorem heldFileS_n {v:Value} {x:List File} {fp:List Nat} {k:Int} (h:Sl w v (mkL jO aY x k) fp) (h0:0≤k) (hk:k+(cL aY x:Nat)≤4611686018427387904) :
  Calls prog 260 #[v,I k] w (rI_ (k+(cL aY x:Nat)) w):=by
 have hcap:=h.len_le
 rw[dG] at hcap
 have hml:(mkL jO aY x k).length=x.length:=dG _ _
 refine fZ func260 rfl ntmps260 cB (wp_seq (aA (sg (aT (aC (wp_seq (wp_seq (aA (sg (aT (aC (wp_block (dJ (fun (m:Nat) (f:Nat→Value) (W:World)=>∃ (i:Nat) (K:Int),i≤x.length∧K=k+(cL aY (x.take i):Nat)∧m=x.length - i∧Ag [(0,v),(1,I K),(5,I (i:Int))] f∧St w W ([])) (x.length - 0) ?_ ?_)))))))))))))
 ·exact ⟨0,k,Nat.zero_le _,(by simp[cL]),rfl,(Ag.nil.put.put.put.put.to aD),(St.start w)⟩
 intro m5 f6 W7 hJ8
 obtain ⟨i,K,hi,hK,rfl,hA10,st9⟩:=hJ8
 refine wp_seq (wp_seq (aA (rn st9 4 hA10 [] [(9,.bool (decide ((i:Int)<((mkL jO aY x k).length:Int))))] [ql h,.o] aD fun f12 h12_=>(aC (cE (h12_.at 9) (fun h13p => ?_) (fun h13p => ?_))))))
 ·refine wp_skip (wp_seq (wp_block (wp_seq (wp_seq ?_))))
  have hq_:=fW (xs:=x) (i:=i) aB
  obtain ⟨y,hy⟩:=hq_
  have hcs:=gH aY hy
  have hcl:=eC aY x (i+1)
  have hne:aY y=3:=rfl
  have hb16:Bd K (1+(1+(1+(0)))):=⟨by omega,by omega⟩
  obtain ⟨b15,o15,cs15,f15,hp15,hr15,hc15,hm15⟩:=aL9 h hy hK
  have hk17:=hc15
  obtain ⟨he17,rfl,hok17⟩:=hk17
  have he17:_=[.string (jM K),.string (jM (K+1)),I ((K+1)+1)]:=he17;subst he17
  refine rd st9 h12_ [] [(19,.bool (!decide ((jM K)=(jM K))))] [qx hp15,qr hr15 0,qc func247 rfl (fun W s b=>rA W K aB),.o] aD aD fun f18 W19 h18_ st20 hb21=>(eP (h18_.at 19) (fun h22p => ?_) (fun h22p => ?_))
  ·exact absurd rfl h22p
  refine wp_skip (wp_seq (aA ?_))
  have hb24:=hb16.up
  refine rn st20 3 h18_ [1] [(1,I (K+1))] [.ad K 1 hb24.i64] aD fun f25 h25_=>(aC (wp_seq (wp_seq (rd st20 h25_ [] [(29,.bool (!decide ((jM (K+1))=(jM (K+1)))))] [qx hp15,qr hr15 1,qc func247 rfl (fun W s b=>rA W (K+1) aB),.o] aD aD fun f28 W29 h28_ st30 hb31=>(eP (h28_.at 29) (fun h32p => ?_) (fun h32p => ?_))))))
  ·exact absurd rfl h32p
  refine wp_skip (wp_seq (aA ?_))
  have hb34:=hb24.up
  refine rn st30 3 h28_ [1] [(1,I ((K+1)+1))] [.ad (K+1) 1 hb34.i64] aD fun f35 h35_=>(aC (wp_seq (wp_seq (aA (sg (aE (h35_.at 0) (sg (aE (h35_.at 5) (rn st30 5 h35_.put.put [] [(38,.bool (!decide (((K+1)+1)=((K+1)+1))))] [qx hp15,qr hr15 2,.o] aD fun f40 h40_=>(aC (eP (h40_.at 38) (fun h41p => ?_) (fun h41p => ?_))))))))))))
  ·exact absurd rfl h41p
  refine wp_skip (aA ?_)
  have hb43:=hb34.up
  refine rn st30 3 h40_ [1] [(1,I (((K+1)+1)+1))] [.ad ((K+1)+1) 1 hb43.i64] aD fun f44 h44_=>(aC (aA (lw h44_ [(0,v),(1,I (((K+1)+1)+1)),(5,I (i:Int))] aD fun h47_=>(rn st30 3 h47_ [5] [(5,I ((i:Int)+1))] [qad (i:Int) 1] aD fun f46 h46_=>(aC ?_)))))
  exact ⟨_,x.length - (i+1),aB,rfl,i+1,((K+1)+1)+1,aB,aB,rfl,(h46_.to aD),st30⟩
 refine wp_exit (wp_seq (aA (sg (aE (h12_.at 1) (sg (aG (v:=I K) rfl (aC (wr (jH results260 rfl ?_)))))))))
 obtain rfl:i=x.length:=by omega
 have hca:=lD aY x _ rfl
 exact ⟨fI aB,st9.bare⟩
theorem aL0 {w W0:World} {rs:List Res} {x:Disk} {cs:List Value} {fp:List Nat} (hst:St w W0 (Res.own (.agg cs.toArray) x fp::rs)) (k:Int) (h0:0≤k) (hk:k+(bT x:Nat)≤4611686018427387904) :
  Calls prog 38 #[.agg cs.toArray,I k] W0 fun e w'=>∃ fp',e = .returned (I (k+(bT x:Nat)))∧St w w' (Res.own (.agg cs.toArray) (xF x k) fp'::rs):=by
 have hk2:=hk
 unfold bT at hk2
 refine fZ func38 rfl ntmps38 cB ?_
 have hb1:Bd k ((cL aY x.files)+(0)):=⟨by omega,by omega⟩
 refine wp_seq (aA (sg (eW (cs:=cs) rfl hst ?_)));intro b2 W3 hb4 st5
 refine sg (aT (aC (wp_seq (aA ?_))))
 obtain ⟨v11_0,g11_0,he11,hok11,st12⟩:=aT9 st5.f1
 subst he11
 refine rn st12 3 Ag.nil.put.put.put.put [] [(6,v11_0),(7,I k)] [qb 1 rfl 0] aD fun f14 h14_ => ?_
 have hb19:=hb1.upc
 refine sg (cK func131 rfl (h14_.at 6) (h14_.at 7) ((markFileS_n st12 k hb1.lo hb1.hi).mono ?_));rintro _ W15 ⟨fp18,rfl,st17⟩;refine ⟨_,rfl,?_⟩
 refine sg (aG (v:=I (k+(cL aY x.files:Nat))) rfl (aC (wp_seq (aA (sg (aE (v:=I (k+(cL aY x.files:Nat))) rfl (sg (aG (v:=I (k+(cL aY x.files:Nat))) rfl (aC (wr (jH results38 rfl ?_)))))))))))
 have st24:=aS7 (x:=(xF x k)) st17 hok11
 exact ⟨_,fI (by unfold bT;push_cast;omega),st24.d1⟩
theorem heldDisk_n {x:Disk} {k:Int} (hc:Shape.C w cs (xF x k) fp) (h0:0≤k) (hk:k+(bT x:Nat)≤4611686018427387904) :
  Calls prog 145 #[.agg cs.toArray,I k] w (rI_ (k+(bT x:Nat)) w):=by
 have hk2:=hk
 have hnt:bT x=cL aY x.files:=rfl
 refine fZ func145 rfl ntmps145 cB ?_
 have hb1:Bd k ((cL aY x.files)+(0)):=⟨by omega,by omega⟩
 refine wp_seq (aA (sg (eW (cs:=cs) rfl (St.start w) ?_)));intro b2 W3 hb4 st5
 refine sg (aT (aC (wp_seq (aA ?_))))
 have hk10:=hc
 obtain ⟨v10_0,g10_0,he10,hok10,h10_0,rfl⟩:=hk10
 have he10:_=[v10_0]:=he10;subst he10
 have h10_0:Sl _ v10_0 (mkL jO aY x.files k) _:=h10_0
 refine rn st5 3 Ag.nil.put.put.put.put [] [(6,v10_0),(7,I k)] [qb 0 rfl 0] aD fun f11 h11_ => ?_
 have hb16:=hb1.upc
 refine sg (cK func260 rfl (h11_.at 6) (h11_.at 7) ((heldFileS_n W3 (x:=x.files) (h10_0.below st5.below) hb1.lo hb1.hi).mono ?_));rintro _ W12 ⟨rfl,hk13⟩;refine ⟨_,rfl,?_⟩
 have st14:=St.call st5 hk13
 refine sg (aG (v:=I (k+(cL aY x.files:Nat))) rfl (aC (wp_seq (wp_seq (aA (sg (aE (v:=I (k+(cL aY x.files:Nat))) rfl (sg (gP rfl rfl (aC (cE rfl (fun h21p => ?_) (fun h21p => ?_))))))))))))
 ·exact absurd h21p (Int.not_lt.2 hb16.1)
 refine wp_skip (wp_seq (aA (sg (aE (v:=I (k+(cL aY x.files:Nat))) rfl (sg (aG (v:=I (k+(cL aY x.files:Nat))) rfl (aC (wr (jH results145 rfl ?_)))))))))
 exact ⟨fI aB,st14.bare⟩
theorem markEngine_n {w W0:World} {rs:List Res} {x:Engine} {cs:List Value} {fp:List Nat} (hst:St w W0 (Res.own (.agg cs.toArray) x fp::rs)) (k:Int) (h0:0≤k) (hk:k+(cG x:Nat)≤4611686018427387904) :
  Calls prog 45 #[.agg cs.toArray,I k] W0 fun e w'=>∃ fp',e = .returned (I (k+(cG x:Nat)))∧St w w' (Res.own (.agg cs.toArray) (oC x k) fp'::rs):=by
 have hk2:=hk
 unfold cG at hk2
 refine fZ func45 rfl ntmps45 cB ?_
 have hb1:Bd k ((bH x.yard)+((bT x.disk)+((cL bJ x.waits)+(0)))):=⟨by omega,by omega⟩
 refine wp_seq (aA (sg (eW (cs:=cs) rfl hst ?_)));intro b2 W3 hb4 st5
 refine sg (aT (aC (wp_seq (aA ?_))))
 obtain ⟨v11_0,v11_1,v11_2,v11_3,g11_0,g11_1,g11_2,g11_3,he11,hok11,st12⟩:=open_Engine st5.f1
 subst he11
 refine rn st12 3 Ag.nil.put.put.put.put [] [(6,.agg #[I x.yard.now,I x.yard.seq,v11_0,v11_1]),(7,I k)] [qb 4 rfl 0] aD fun f17 h17_ => ?_
 have st24:=nK (x:=x.yard) st12.f1.f1 bB6
 have hb26:=hb1.upc
 refine sg (cK func39 rfl (h17_.at 6) (h17_.at 7) ((markYard_n st24 k hb1.lo hb1.hi).mono ?_));rintro _ W18 ⟨fp21,rfl,st20⟩;refine ⟨_,rfl,?_⟩
 obtain ⟨vq27_0,vq27_1,fq27_0,fq27_1,heq27,hokq27,st28⟩:=yU st20
 have ev27_0:=Option.some.inj (congrArg (fun l:List Value=>l[2]?) heq27);subst ev27_0
 have ev27_1:=Option.some.inj (congrArg (fun l:List Value=>l[3]?) heq27);subst ev27_1
 refine sg (aG (v:=I (k+(bH x.yard:Nat))) rfl (aC (wp_seq (aA (rn st28 3 h17_.put.put [] [(10,.agg #[v11_2]),(11,I (k+(bH x.yard:Nat)))] [qb 4 rfl 4] aD fun f32 h32_ => ?_)))))
 have st38:=aS7 (x:=x.disk) st28.f2 bB6
 have hb40:=hb26.upc
 refine sg (cK func38 rfl (h32_.at 10) (h32_.at 11) ((aL0 st38 (k+(bH x.yard:Nat)) hb26.lo hb26.hi).mono ?_));rintro _ W33 ⟨fp36,rfl,st35⟩;refine ⟨_,rfl,?_⟩
 obtain ⟨vq41_0,fq41_0,heq41,hokq41,st42⟩:=aT9 st35
 have ev41_0:=Option.some.inj (congrArg (fun l:List Value=>l[0]?) heq41);subst ev41_0
 refine sg (aG (v:=I ((k+(bH x.yard:Nat))+(bT x.disk:Nat))) rfl (aC (wp_seq (aA (rn st42 3 h32_.put.put [] [(14,v11_3),(15,I ((k+(bH x.yard:Nat))+(bT x.disk:Nat)))] [qb 4 rfl 7] aD fun f46 h46_ => ?_)))))
 have hb52:=hb40.upc
 refine sg (cK func144 rfl (h46_.at 14) (h46_.at 15) ((markWaitS_n st42.f3 ((k+(bH x.yard:Nat))+(bT x.disk:Nat)) hb40.lo hb40.hi).mono ?_));rintro _ W47 ⟨fp50,rfl,st49⟩;refine ⟨_,rfl,?_⟩
 refine sg (aG (v:=I (((k+(bH x.yard:Nat))+(bT x.disk:Nat))+(cL bJ x.waits:Nat))) rfl (aC (wp_seq (aA (sg (aE (v:=I (((k+(bH x.yard:Nat))+(bT x.disk:Nat))+(cL bJ x.waits:Nat))) rfl (sg (aG (v:=I (((k+(bH x.yard:Nat))+(bT x.disk:Nat))+(cL bJ x.waits:Nat))) rfl (aC (wr (jH results45 rfl ?_)))))))))))
 have st60:=shut_Engine (x:=(oC x k)) st49.f1.f3.f3 hok11
 exact ⟨_,fI (by unfold cG;push_cast;omega),st60.d1⟩
theorem xJ {x:Engine} {k:Int} (hc:Shape.C w cs (oC x k) fp) (h0:0≤k) (hk:k+(cG x:Nat)≤4611686018427387904) :
  Calls prog 46 #[.agg cs.toArray,I k] w (rI_ (k+(cG x:Nat)) w):=by
 have hk2:=hk
 have hnt:cG x=bH x.yard+bT x.disk+cL bJ x.waits:=rfl
 refine fZ func46 rfl ntmps46 cB ?_
 have hb1:Bd k ((bH x.yard)+((bT x.disk)+((cL bJ x.waits)+(0)))):=⟨by omega,by omega⟩
 refine wp_seq (aA (sg (eW (cs:=cs) rfl (St.start w) ?_)));intro b2 W3 hb4 st5
 refine sg (aT (aC (wp_seq (aA ?_))))
 have hk10:=hc
 obtain ⟨v10_0,v10_1,v10_2,v10_3,g10_0,g10_1,g10_2,g10_3,he10,hok10,h10_0,h10_1,h10_2,h10_3,rfl⟩:=hk10
 have he10:_=[I x.yard.now,I x.yard.seq,v10_0,v10_1,v10_2,I x.next,I x.calls,v10_3,I x.state,.bool x.broken]:=he10;subst he10
 have h10_0:Sl _ v10_0 (mkL (mkL dH aF) (cL aF) x.yard.shelf k) _:=h10_0
 have h10_1:Sl _ v10_1 (mkL mA bR x.yard.runs (k+(cL (cL aF) x.yard.shelf:Nat))) _:=h10_1
 have h10_2:Sl _ v10_2 (mkL jO aY x.disk.files (k+(bH x.yard:Nat))) _:=h10_2
 have h10_3:Sl _ v10_3 (mkL kX bJ x.waits ((k+(bH x.yard:Nat))+(bT x.disk:Nat))) _:=h10_3
 refine rn st5 3 Ag.nil.put.put.put.put [] [(6,.agg #[I x.yard.now,I x.yard.seq,v10_0,v10_1]),(7,I k)] [qb 0 rfl 0] aD fun f11 h11_ => ?_
 have hb16:=hb1.upc
 refine sg (cK func40 rfl (h11_.at 6) (h11_.at 7) ((heldYard_n W3 (x:=x.yard) (show Shape.C _ [I x.yard.now,I x.yard.seq,v10_0,v10_1] (oC x k).yard _ from ⟨_,_,_,_,rfl,bB6,(h10_0.below st5.below),(h10_1.below st5.below),rfl⟩) hb1.lo hb1.hi).mono ?_));rintro _ W12 ⟨rfl,hk13⟩;refine ⟨_,rfl,?_⟩
 have st14:=St.call st5 hk13
 refine sg (aG (v:=I (k+(bH x.yard:Nat))) rfl (aC (wp_seq (wp_seq (aA (sg (aE (v:=I (k+(bH x.yard:Nat))) rfl (sg (gP rfl rfl (aC (cE rfl (fun h21p => ?_) (fun h21p => ?_))))))))))))
 ·exact absurd h21p (Int.not_lt.2 hb16.1)
 refine wp_skip (wp_seq (aA (rn st14 3 h11_.put.put.put.put [] [(12,.agg #[v10_2]),(13,I (k+(bH x.yard:Nat)))] [qb 0 rfl 4] aD fun f23 h23_ => ?_)))
 have hb28:=hb16.upc
 refine sg (cK func145 rfl (h23_.at 12) (h23_.at 13) ((heldDisk_n W12 (x:=x.disk) (show Shape.C _ [v10_2] (oC x k).disk _ from ⟨_,_,rfl,bB6,(h10_2.below st14.below),rfl⟩) hb16.lo hb16.hi).mono ?_));rintro _ W24 ⟨rfl,hk25⟩;refine ⟨_,rfl,?_⟩
 have st26:=St.call st14 hk25
 refine sg (aG (v:=I ((k+(bH x.yard:Nat))+(bT x.disk:Nat))) rfl (aC (wp_seq (wp_seq (aA (sg (aE (v:=I ((k+(bH x.yard:Nat))+(bT x.disk:Nat))) rfl (sg (gP rfl rfl (aC (cE rfl (fun h33p => ?_) (fun h33p => ?_))))))))))))
 ·exact absurd h33p (Int.not_lt.2 hb28.1)
 refine wp_skip (wp_seq (aA (lw h23_.put.put.put.put [(1,I ((k+(bH x.yard:Nat))+(bT x.disk:Nat))),(2,pt_ b2)] aD fun h36_=>(rn st26 3 h36_ [] [(18,v10_3),(19,I ((k+(bH x.yard:Nat))+(bT x.disk:Nat)))] [qb 0 rfl 7] aD fun f35 h35_ => ?_))))
 have hb41:=hb28.upc
 refine sg (cK func146 rfl (h35_.at 18) (h35_.at 19) ((heldWaitS_n W24 (x:=x.waits) (h10_3.below st26.below) hb28.lo hb28.hi).mono ?_));rintro _ W37 ⟨rfl,hk38⟩;refine ⟨_,rfl,?_⟩
 have st39:=St.call st26 hk38
 refine sg (aG (v:=I (((k+(bH x.yard:Nat))+(bT x.disk:Nat))+(cL bJ x.waits:Nat))) rfl (aC (wp_seq (wp_seq (aA (sg (aE (v:=I (((k+(bH x.yard:Nat))+(bT x.disk:Nat))+(cL bJ x.waits:Nat))) rfl (sg (gP rfl rfl (aC (cE rfl (fun h46p => ?_) (fun h46p => ?_))))))))))))
 ·exact absurd h46p (Int.not_lt.2 hb41.1)
 refine wp_skip (wp_seq (aA (sg (aE (v:=I (((k+(bH x.yard:Nat))+(bT x.disk:Nat))+(cL bJ x.waits:Nat))) rfl (sg (aG (v:=I (((k+(bH x.yard:Nat))+(bT x.disk:Nat))+(cL bJ x.waits:Nat))) rfl (aC (wr (jH results46 rfl ?_)))))))))
 exact ⟨fI aB,st39.bare⟩
theorem boot_law (cs0:List Value) (x0:Disk) (fp0:List Nat) (hc0:Shape.C w cs0 x0 fp0) :
  Calls prog 13 #[.agg cs0.toArray] w fun e w'=>e = .returned (.bool true)∧Below w.heap.size w w':=by
 have hwm:x0.wt≤1048576→(oK x0).wt≤3000000:=boo_wt x0
 refine bP9 func13 rfl ntmps13 cB (wp_seq (aA (sg (eW (cs:=cs0) rfl (St.start w) ?_))));intro b1 W2 hb3 st4
 refine sg (aT (aC (wp_seq (aA (sg (aT (aC (wp_seq (aA (rc st4 4 Ag.nil.put.put.put.put [3] [(3,I (szL 1048576 x0.wt))] [qw 0 rfl (Shape.len hc0),qc func33 rfl (fun W s b=>szDisk_n W (jZ hc0 s.below) 1048576 aB aB)] aD fun f11 W12 h11_ st13 hb14=>(aC (wp_seq (wp_seq ?_)))))))))))))
 refine aA (sg (aE (h11_.at 3) (sg (gP rfl rfl (aC (cE rfl (fun h17p => ?_) (fun h17p => ?_)))))))
 ·have h17q:=bN7 h17p aB
  refine wp_seq (aA (sg (aT (aC (wr (jH results13 rfl ?_))))))
  exact ⟨rfl,st13.below⟩
 have h17q:=bN8 h17p aB
 refine wp_skip (wp_seq (aA (sg (cT xH rfl (h11_.at 1) (st13.get 0 rfl) (Shape.len hc0) (sg (kG func35 rfl rfl ((wF W12 (jZ hc0 st13.below) (by first | exact hw | omega | (simp only[Plan.wt,Run.wt,Yard.wt,Deed.wt,Note.wt,File.wt,Disk.wt,Engine.wt,WorldD.wt,ActD.wt,Span.wt,Crew.wt] at *;omega))).mono ?_)))))));rintro _ W24 ⟨cs22,fp22,rfl,hk25⟩;refine ⟨_,rfl,?_⟩
 have st26:=St.call st13 hk25
 refine sg (kG func27 rfl rfl ((BootSC W24 (dF (st26.get 0 rfl) rfl) aB).mono ?_));rintro _ W30 ⟨cs28,fp28,rfl,hk31⟩;refine ⟨_,rfl,?_⟩
 have st32:=St.call st26 hk31
 refine rn st32 3 h11_.put.put.put.put.put [] [(23,.agg cs28.toArray),(24,.bool (uA x0))] [] aD fun f35 h35_=>(sg (gR yD st32 ?_));intro b36 W37 hb38 st39
 refine sgn (eT (cs:=cs28) nM (dF (st39.get 1 rfl) rfl) rfl (h35_.at 23) st39 rfl ?_);intro W41 st42
 refine sg (aG (h35_.at 24) (aC (wp_seq (aA (sg (cT xH rfl (h35_.at 1) (st42.get 3 rfl) (Shape.len hc0) (sg (kG func35 rfl rfl ((wF W41 (jZ hc0 st42.below) (by first | exact hw | omega | (simp only[Plan.wt,Run.wt,Yard.wt,Deed.wt,Note.wt,File.wt,Disk.wt,Engine.wt,WorldD.wt,ActD.wt,Span.wt,Crew.wt] at *;omega))).mono ?_)))))))));rintro _ W49 ⟨cs47,fp47,rfl,hk50⟩;refine ⟨_,rfl,?_⟩
 have st51:=St.call st42 hk50
 refine sg (gR zz_Disk st51 ?_);intro b53 W54 hb55 st56
 refine sgn (eT (cs:=cs47) aE3 (dF (st56.get 1 rfl) rfl) rfl rfl st56 rfl ?_);intro W58 st59
 refine aC (wp_seq (aA (sg (cT aE3 rfl rfl (st59.get 0 rfl) (Shape.len (dF (st59.get 1 rfl) rfl)) (sg (kG func26 rfl rfl ((cM6 W58 (dF (st59.get 1 rfl) rfl) aB).mono ?_)))))));rintro _ W64 ⟨cs62,fp62,rfl,hk65⟩;refine ⟨_,rfl,?_⟩
 have st66:=St.call st59 hk65
 refine lw h35_.put.put.put.put.put.put.put [(1,pt_ b1),(4,pt_ b36),(5,.bool (uA x0)),(6,pt_ b53),(29,.tuple #[.agg cs62.toArray,.bool (uA x0)])] aD fun h70_=>(rn st66 3 h70_ [] [(30,.agg cs62.toArray),(31,.bool (uA x0))] [] aD fun f69 h69_=>(sg (gR yD st66 ?_)));intro b71 W72 hb73 st74
 refine sgn (eT (cs:=cs62) nM (dF (st74.get 1 rfl) rfl) rfl (h69_.at 30) st74 rfl ?_);intro W76 st77
 refine sg (aG (h69_.at 31) (aC (wp_seq (wp_seq (aA ?_)))))
 rcases bd (!(eqB (oK x0) (oK x0))) with h81 | h81
 ·refine rc st77 7 h69_.put.put [] [(36,.bool false),(37,.bool (uA x0)),(38,.bool (uA x0))] [qw 0 rfl (Shape.len (dF (st77.get 1 rfl) rfl)),qw 4 rfl (Shape.len (dF (st77.get 5 rfl) rfl)),qc func44 rfl (fun W s b=>vN W (dF (s.get 1 rfl) rfl) (dF (s.get 5 rfl) rfl)),qk h81] aD fun f82 W83 h82_ st84 hb85=>(sgo 36 rfl cB (cC9 (h82_.at 36) rfl) (wJ underlying4 (h82_.at 37) (h82_.at 38) (sg (lM (h82_.at 36) rfl (aC (uD rfl (fun h88 => ?_) (fun h88 => ?_)))))))
  ·exact absurd (bE0 h88) (by simp)
  refine wp_skip (wp_seq (wp_seq (oU 3 [(some 2,none,.of (ι:=List Value×List Nat) [43] (fun ⟨cs89,fp89⟩=>[.agg cs89.toArray]) (fun ⟨cs89,fp89⟩=>Res.own (α:=Disk) (.agg cs89.toArray) x0 fp89))] [(true,.is (.agg cs47.toArray)),(true,.is (.agg cs0.toArray)),(false,.ex (fun (cs89:List Value) => .agg cs89.toArray))] mix aD aD aD aD (rs0:=[]) rfl st84 (Below.refl _ _) ⟨(fun f W hst hbl hd hf=>cT aE3 rfl ((hf 6 rfl).trans (h82_.at 6)) (hst.get 2 rfl) (Shape.len (dF (hst.get 3 rfl) rfl)) brq),(fun f W hst hbl hd hf=>cT xH rfl ((hf 1 rfl).trans (h82_.at 1)) (hst.get 7 rfl) (Shape.len hc0) brq),?_,trivial⟩ ?_)))
  ·intro f W ru oth hu hst hbl hd hf
   have hn_:ru=[]:=hu
   subst hn_
   try simp only[cap_,yX] at hst
   refine (kG func35 rfl (hd 1 42 rfl rfl) ((wF W (jZ hc0 hst.below) (by first | exact hw | omega | (simp only[Plan.wt,Run.wt,Yard.wt,Deed.wt,Note.wt,File.wt,Disk.wt,Engine.wt,WorldD.wt,ActD.wt,Span.wt,Crew.wt] at *;omega))).mono ?_));rintro _ W91 ⟨cs89,fp89,rfl,hk92⟩;refine ⟨_,rfl,?_⟩
   have st93:=St.call hst hk92
   exact ⟨⟨cs89,rfl⟩,⟨_,⟨_,_,rfl,⟨(cs89,fp89),(ce rfl rfl),rfl⟩,rfl⟩,st93⟩,(hbl.trans (Below.mono hk92.below hbl.size))⟩
  intro f95 W96 rs_ hAL_ st99 hbl100 hv97 hf98
  obtain ⟨_,_,rfl,⟨⟨cs89,fp89⟩,he101,rfl⟩,hn_⟩:=hAL_
  have hn_:_=[]:=hn_
  subst hn_
  have hu101_43:f95 43 = .agg cs89.toArray:=congrArg (fun l=>l.getD 0 undef) he101
  try simp only[cap_,yX] at st99
  refine rc st99 2 (Ag.cons (show f95 1=pt_ b1 from ((hf98 1 rfl).trans (h82_.at 1))) (Ag.cons (show f95 4=pt_ b36 from ((hf98 4 rfl).trans (h82_.at 4))) (Ag.cons (show f95 5 = .bool (uA x0) from ((hf98 5 rfl).trans (h82_.at 5))) (Ag.cons (show f95 6=pt_ b53 from ((hf98 6 rfl).trans (h82_.at 6))) (Ag.cons (show f95 7=pt_ b71 from ((hf98 7 rfl).trans (h82_.at 7))) (Ag.cons (show f95 8 = .bool (uA x0) from ((hf98 8 rfl).trans (h82_.at 8))) (Ag.cons (show f95 41 = .agg cs47.toArray from (hv97 0 41 cB rfl)) (Ag.cons (show f95 43 = .agg cs89.toArray from hu101_43) Ag.nil)))))))) [] [(45,.bool (!(eqB x0 x0)))] [qc func37 rfl (fun W s b=>eqDisk_n W (dF (s.get 4 rfl) rfl) (dF (s.get 0 rfl) rfl)),.o] aD fun f104 W105 h104_ st106 hb107=>(aC (uD (h104_.at 45) (fun h108 => ?_) (fun h108 => ?_)))
  ·exact absurd (bE0 h108) (by rw[lB rfl];decide)
  refine wp_skip (wp_seq (aA (sg (aT (aC (wp_seq (aA (sg (cT aE3 rfl (h104_.at 6) (st106.get 3 rfl) (Shape.len (dF (st106.get 4 rfl) rfl)) (sg (aE (v:=I 1) rfl (sg (cK func38 rfl rfl rfl ((aL0 st106.f4 1 aB (by have:=bV7 x0;omega)).mono ?_))))))))))))));rintro _ W113 ⟨fp116,rfl,st115⟩;refine ⟨_,rfl,?_⟩
  refine sg (aG (v:=I (1+(bT x0:Nat))) rfl (aC (wp_seq (wp_seq (aA ?_)))))
  rcases nem ((1+(bT x0:Nat))<0) with h121p | h121p
  ·have h121:=decide_eq_false h121p
   refine rc st115 11 h104_.put.put.put.put.put [] [(57,.bool false),(58,.bool (uA x0)),(59,.bool (uA x0))] [qk h121,qw 2 rfl (Shape.len (dF (st115.get 3 rfl) rfl)),qw 5 rfl (Shape.len (dF (st115.get 6 rfl) rfl)),qc func44 rfl (fun W s b=>vN W (dF (s.get 3 rfl) rfl) (dF (s.get 6 rfl) rfl)),qk h81] aD fun f122 W123 h122_ st124 hb125=>(sgo 57 rfl cB (cC9 (h122_.at 57) rfl) (wJ underlying4 (h122_.at 58) (h122_.at 59) (sg (lM (h122_.at 57) rfl (aC (sx_f rfl h88 (wp_skip (wp_seq (aA (sg (aT (aC (wp_seq (aA ?_))))))))))))))
   refine sg (cT nM rfl (h122_.at 7) (st124.get 2 rfl) (Shape.len (dF (st124.get 3 rfl) rfl)) (sg (aE (v:=I 1) rfl (sg (cK func45 rfl rfl rfl ((markEngine_n st124.f3 1 aB (by have:=yV (oK x0);omega)).mono ?_))))));rintro _ W132 ⟨fp135,rfl,st134⟩;refine ⟨_,rfl,?_⟩
   refine sg (aG (v:=I (1+(cG (oK x0):Nat))) rfl (aC (wp_seq (aA (sg (aT (aC (wp_seq (aA (sg (cT nM rfl (h122_.at 7) (st134.get 3 rfl) (Shape.len (dF (st134.get 0 rfl) rfl)) (sg (aE (v:=I 1) rfl (sg (cK func46 rfl rfl rfl ((xJ W132 (x:=(oK x0)) (dF (st134.get 0 rfl) rfl) aB (by have:=yV (oK x0);omega)).mono ?_))))))))))))))));rintro _ W143 ⟨rfl,hk144⟩;refine ⟨_,rfl,?_⟩
   have st145:=St.call st134 hk144
   refine sg (aG (v:=I (1+(cG (oK x0):Nat))) rfl (aC (wp_seq (wp_seq (aA (sg (aE (v:=I (1+(cG (oK x0):Nat))) rfl (sg (gP rfl rfl (aC (cE rfl (fun h151p => ?_) (fun h151p => ?_))))))))))))
   ·have h151:=decide_eq_true h151p
    omega
   have h151:=decide_eq_false h151p
   refine wp_skip (wp_seq (wp_seq (aA (lw h122_.put.put.put.put.put.put.put.put.put.put.put.put.put.put [(1,pt_ b1),(4,pt_ b36),(5,.bool (uA x0)),(7,pt_ b71),(10,I (1+(cG (oK x0):Nat))),(11,I (1+(cG (oK x0):Nat)))] aD fun h154_=>(rn st145 3 h154_ [] [(72,.bool (!decide (((1+(cG (oK x0):Nat)):Int)=(1+(cG (oK x0):Nat)))))] [.o] aD fun f153 h153_=>(aC (eP (h153_.at 72) (fun h155p => ?_) (fun h155p => ?_))))))))
   ·have h155:=nd_t h155p
    exact absurd rfl h155p
   have h155:=nd_f h155p
   refine wp_skip (wp_seq (aA (sg (cT xH rfl (h153_.at 1) (st145.get 8 rfl) (Shape.len hc0) (sg (kG func35 rfl rfl ((wF W143 (jZ hc0 st145.below) (by first | exact hw | omega | (simp only[Plan.wt,Run.wt,Yard.wt,Deed.wt,Note.wt,File.wt,Disk.wt,Engine.wt,WorldD.wt,ActD.wt,Span.wt,Crew.wt] at *;omega))).mono ?_)))))));rintro _ W160 ⟨cs158,fp158,rfl,hk161⟩;refine ⟨_,rfl,?_⟩
   have st162:=St.call st145 hk161
   refine sg (kG func26 rfl rfl ((cM6 W160 (dF (st162.get 0 rfl) rfl) aB).mono ?_));rintro _ W166 ⟨cs164,fp164,rfl,hk167⟩;refine ⟨_,rfl,?_⟩
   have st168:=St.call st162 hk167
   refine rn st168 3 h153_.put.put.put [] [(77,.agg cs164.toArray),(78,.bool (uA x0))] [] aD fun f171 h171_=>(sg (gR yD st168 ?_));intro b172 W173 hb174 st175
   refine sgn (eT (cs:=cs164) nM (dF (st175.get 1 rfl) rfl) rfl (h171_.at 77) st175 rfl ?_);intro W177 st178
   refine sg (aG (h171_.at 78) (aC (wp_seq (wp_seq (aA (rc st178 7 h171_.put.put [] [(83,.bool false),(84,.bool (uA x0)),(85,.bool (uA x0))] [qw 0 rfl (Shape.len (dF (st178.get 1 rfl) rfl)),qw 8 rfl (Shape.len (dF (st178.get 9 rfl) rfl)),qc func44 rfl (fun W s b=>vN W (dF (s.get 1 rfl) rfl) (dF (s.get 9 rfl) rfl)),qk h81] aD fun f182 W183 h182_ st184 hb185=>(sgo 83 rfl cB (cC9 (h182_.at 83) rfl) (wJ underlying4 (h182_.at 84) (h182_.at 85) (sg (lM (h182_.at 83) rfl (aC (sx_f rfl h88 (wp_skip (wp_seq ?_))))))))))))))
   refine aA (sg (aT (aC (wp_seq (aA (sg (cT nM rfl (h182_.at 7) (st184.get 6 rfl) (Shape.len (dF (st184.get 3 rfl) rfl)) (sg (aE (v:=I 1) rfl (sg (cK func46 rfl rfl rfl ((xJ W183 (x:=(oK x0)) (dF (st184.get 3 rfl) rfl) aB (by have:=yV (oK x0);omega)).mono ?_))))))))))));rintro _ W192 ⟨rfl,hk193⟩;refine ⟨_,rfl,?_⟩
   have st194:=St.call st184 hk193
   refine sg (aG (v:=I (1+(cG (oK x0):Nat))) rfl (aC (wp_seq (wp_seq (aA (sg (aE (v:=I (1+(cG (oK x0):Nat))) rfl (sg (gP rfl rfl (aC (sx_f rfl h151 (wp_skip (wp_seq (wp_seq ?_))))))))))))))
   refine aA (lw h182_.put.put.put.put.put.put.put.put.put [(10,I (1+(cG (oK x0):Nat))),(11,I (1+(cG (oK x0):Nat)))] aD fun h202_=>(rn st194 3 h202_ [] [(95,.bool false)] [qk h155] aD fun f201 h201_=>(aC (sx_f (h201_.at 95) rfl (wp_skip (wp_seq (aA (sg (aT (aC (wr (jH results13 rfl ?_))))))))))))
   exact ⟨rfl,st194.below⟩
  have h121:=decide_eq_true h121p
  omega
 exact absurd (bE0 h81) (by rw[lB rfl];decide)
end Go.Proofs.YtanpcpoogkdlaaaGreat
namespace Go.Proofs.YtanpcpoogkdlaaaGreat
set_option linter.unusedSimpArgs false
set_option linter.unusedVariables false
set_option maxRecDepth 100000
set_option maxHeartbeats 2000000
open Go.ChangeShapes Go.WideShapes Go.ChangeAt Go.RowKit Go.Deep
def aP5 (t:TypeId) (α:Type) [Shape α]:Prop:=∀ {H:Type} (enc:TypeId×Value→H) (w:World) (fuel:Nat) (cs:List Value) (x:DataW H×List MemPlace),
 DataW.trod enc Tryz.prog w 0 (fun _=>true) true fuel t cs=some x→∃ (a:α) (fp:List Nat),Shape.C w cs a fp

theorem wf_I64 {n:Int} (h:(Lit.int .i64 n).wf=true):I64 n:=by
 have:=bounds_i64 h
 exact this

theorem opens_slice {t e:TypeId} {α:Type} [Shape α] (ht:Tryz.prog.underlying t=some (.slice e)) (hC:Tryz.prog.cellsOf e=Shape.size α) (hp:0<Shape.size α) (he:aP5 e α):aP5 t (List α):=by
 intro H enc w fuel cs x h
 rcases open_slice ht h with ⟨rfl,_⟩ | ⟨a,len,cap,m,n,D,Pl,rfl,_,hl,hm,hmm,_,hi⟩
 ·exact ⟨[],[],_,rfl,none,0,rfl,Nat.le_refl _,by omega,.inl ⟨rfl,rfl⟩⟩
 simp only[if_true] at hmm
 subst hmm
 unfold maxLen at hm
 have key:∀ k,k≤len→0<len→∃ (xs:List α) (fp:List Nat),xs.length=k∧a.spot=none∧SlAt w a.block a.off xs fp:=by
  intro k
  induction k with
  | zero=>
   intro _ hlp
   obtain ⟨cs',hc,_⟩:=hi 0 aB
   obtain ⟨_,hcl,hat⟩:=World.cells?_some hc
   rw[hC] at hcl hat
   have h0:=hat 0 hp
   have:a.spot=none:=by
    have hlt:0<cs'.length:=by omega
    rw[List.getElem?_eq_getElem hlt] at h0
    simpa [Addr.add] using World.cell?_spot h0
   exact ⟨[],[],rfl,this,rfl⟩
  | succ k ih=>
   intro hk hlp
   obtain ⟨xs,fp,hxl,hsp,hS⟩:=ih aB hlp
   obtain ⟨cs',hc,ht'⟩:=hi k aB
   obtain ⟨_,hcl,hat⟩:=World.cells?_some hc
   rw[hC] at hcl hat
   obtain ⟨x,f,hx⟩:=he enc w n cs' _ ht'
   refine ⟨xs++[x],fp++f,by simp[hxl],hsp,SlAt.snoc hS ?_ hx⟩
   intro j v hj
   have hjl:j<cs'.length:=(gsi_.1 hj).1
   have:=hat j aB
   rw[hj] at this
   rw[← this,hxl]
   obtain ⟨ab,ao,asp⟩:=a
   simp only at hsp
   subst hsp
   rw[Addr.add_mid,Addr.add_mid]
 by_cases hlp:0<len
 ·obtain ⟨xs,fp,hxl,hsp,hS⟩:=key len (Nat.le_refl _) hlp
  obtain ⟨ab,ao,asp⟩:=a
  simp only at hsp
  subst hsp
  subst hxl
  have hne:xs≠[]:=by rintro rfl;simp at hlp
  refine ⟨xs,ab::fp,_,rfl,_,m,rfl,hl,hm,.inr ⟨ab,ao,fp,hne,rfl,rfl,?_,hS⟩⟩
  cases xs with
  | nil=>exact absurd rfl hne
  | cons x xs=>
   obtain ⟨cs',f1,f2,hr,hc,_,_⟩:=hS
   have hl':=Shape.len hc
   have h0:=hr 0 _ (List.getElem?_eq_getElem aB)
   exact World.block_lt_of_cell? w _ h0
 obtain rfl:len=0:=by omega
 exact ⟨[],[],_,rfl,_,m,rfl,by simp,hm,.inl ⟨rfl,rfl⟩⟩

theorem xC:aP5 9 ByteArray:=by
 intro H enc w fuel cs x h
 obtain ⟨s,rfl,_,hs⟩:=DataW.trod_string Tryz.underlying9 h
 exact ⟨s,[],rfl,rfl,hs⟩

theorem uC {H:Type} {enc:TypeId×Value→H} {W W':World} (hl:laidOutB Tryz.prog=true) (hb:Below W.heap.size W W'):∀ {ts:List TypeId} {vs:List Value} {ds:List (DataW H)} {p:List MemPlace},
  (∀ t∈ts,Tryz.prog.readableRec t=true∧t<Tryz.prog.types.size)→DataW.TrodAll enc Tryz.prog W 0 (fun _=>true) true ts vs ds p→(∀ x∈p,x.block<W.heap.size) →
  DataW.TrodAll enc Tryz.prog W' 0 (fun b=>decide (b<W.heap.size)) true ts vs ds p
 | [],_,_,_,_,h,_=>by
  obtain ⟨rfl,rfl,rfl⟩:=trodAll_nil h
  exact trodAll_mk0
 | t::ts,_,_,_,ht,h,hp=>by
  obtain ⟨v1,vs1,d1,ds1,p1,q1,rfl,rfl,rfl,h1,r1⟩:=trodAll_cons h
  exact trodAll_cons_mk (Below.trod hl (ht t (by simp)).1 (ht t (by simp)).2 h1 hb (fun x hx=>hp x (by simp[hx]))) (uC hl hb (fun t' h'=>ht t' (by simp[h'])) r1 (fun x hx=>hp x (by simp[hx])))

theorem open_param_struct {H:Type} {enc:TypeId×Value→H} {W:World} {base:Nat} {t:TypeId} {fs:Array Field} {α:Type} [Shape α] (ht:Tryz.prog.underlying t=some (.struct fs)) (ho:aP5 t α) {v:Value} {d:DataW H} {p:List MemPlace}
  (hv:Value.okWide Tryz.prog W .any base t v) (h:DataW.Trod enc Tryz.prog W 0 (fun _=>true) true t v d p):∃ (cs:List Value) (x:α) (fp:List Nat),v = .agg cs.toArray∧Shape.C W cs x fp:=by
 obtain ⟨cs,rfl,hsz⟩:=okWide_struct ht hv
 obtain ⟨fuel,hf⟩:=h
 obtain ⟨x,fp,hc⟩:=ho enc W fuel _ _ hf
 exact ⟨cs.toList,x,fp,rfl,hc⟩
theorem ownKnobTry:ownKnob Tryz.prog.godebug=none:=by kernel_rfl
theorem laidOutTry:laidOutB Tryz.prog=true:=by kernel_rfl
end Go.Proofs.YtanpcpoogkdlaaaGreat
namespace Go.Proofs.YtanpcpoogkdlaaaGreat
set_option linter.unusedSimpArgs false
set_option linter.unusedVariables false
set_option maxRecDepth 100000
set_option maxHeartbeats 2000000
open Go.ChangeShapes Go.WideShapes Go.ChangeAt Go.RowKit Go.Deep
theorem opens_File:aP5 253 File:=by
 intro H enc w fuel cs x h
 obtain ⟨xs,n,_,hx,hl,hlen,hf⟩:=DataW.trod_struct Tryz.underlying253 h
 have hl':cs.length=3:=hl
 have hlen':xs.length=3:=hlen
 match cs,hl',xs,hlen' with
 | [c0,c1,c2],_,[y0,y1,y2],_=>
  obtain ⟨s0,fs0,e0,_,ws0⟩:=xC enc w n _ _ (hf 0 _ rfl)
  have e0':[c0]=[.string s0]:=e0
  obtain rfl:=List.singleton_inj.1 e0'
  obtain ⟨s1,fs1,e1,_,ws1⟩:=xC enc w n _ _ (hf 1 _ rfl)
  have e1':[c1]=[.string s1]:=e1
  obtain rfl:=List.singleton_inj.1 e1'
  obtain ⟨n2,e2,_,w2⟩:=DataW.trod_int Tryz.underlying3 (hf 2 _ rfl)
  have e2':[c2]=[I n2]:=e2
  obtain rfl:=List.singleton_inj.1 e2'
  exact ⟨⟨s0,s1,n2⟩,[],rfl,rfl,⟨ws0,ws1,wf_I64 w2⟩⟩
theorem opens_FileS:aP5 58 (List File):=opens_slice Tryz.underlying58 aD cB opens_File
theorem opens_Disk:aP5 60 Disk:=by
 intro H enc w fuel cs x h
 obtain ⟨xs,n,_,hx,hl,hlen,hf⟩:=DataW.trod_struct Tryz.underlying60 h
 have hl':cs.length=1:=hl
 have hlen':xs.length=1:=hlen
 match cs,hl',xs,hlen' with
 | [c0],_,[y0],_=>
  obtain ⟨l0,g0,u0,e0,s0⟩:=opens_FileS enc w n _ _ (hf 0 _ rfl)
  have e0':[c0]=[u0]:=e0
  obtain rfl:=List.singleton_inj.1 e0'
  exact ⟨⟨l0⟩,_,_,g0,rfl,trivial,s0,rfl⟩
end Go.Proofs.YtanpcpoogkdlaaaGreat
