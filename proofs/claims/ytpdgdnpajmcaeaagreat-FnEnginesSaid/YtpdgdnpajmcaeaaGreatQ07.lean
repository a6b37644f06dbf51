/-
  Late tasks, time that goes on, runs that are left, of the reference; told to the reader.
  Shelves that are swept, tasks that are started, polls, of the reference; told to the reader.
  Runs that are forgotten, of the reference; told to the reader, one region by hand.
  A deed that is done, of the reference; told to the reader.
  slices.DeleteFunc, told as a reader; shelves that are swept, of the program.
  Runs that are forgotten, of the program; told to the reader.
  Runs that are changed where they lie, of the program; told to the reader.
  A deed that is done, of the program; told to the reader.
  A made slice, all zeros, of elements of several cells.
  A new crew, of both.
  What a crew's turn makes of it, and many turns; how heavy it becomes. Theory alone.
  Orders of spans: what is asked of them; the weight of a yard behind a deed. Theory alone.
  All deeds of a list, and what stays, of both; told to the reader.
  Notes replayed, and what is recovered from a disk, of both; told to the reader.
  A call to an engine, of both; told to the reader.
  What a mark on a disk holds: a good yard's text, or the beginning of one. Plain theory.
  Disks whose marks are good, through all that an engine does. Plain theory.
  An engine commits, is shut, breaks, of both; told to the reader.
  Engines that stay right: what is asked, written, marked, shut. Plain theory.
  A new engine, of both; told to the reader.
  Deeds and engines that are drawn. Told to the reader.
  Engines that are drawn. Told to the reader.
  What a right engine does when it is asked: plain theory.
  The laws' comparisons of yards, told to the reader.
  The law on drawn engines, told to the reader.
  What is handed to a law, taken out of the row's reading: it is data in memory, as the walks want it.
  A law's argument that is a slice of bytes, taken out of the row's reading.
-/
import Derived.ProofKit
import Derived.OpenShut
import Derived.Test.YtpdgdnpajmcaeaaGreatQ01
import Derived.Test.YtpdgdnpajmcaeaaGreatQ02
import Derived.Test.YtpdgdnpajmcaeaaGreatQ03
import Derived.Test.YtpdgdnpajmcaeaaGreatQ04
import Derived.Test.YtpdgdnpajmcaeaaGreatQ05
import Derived.Test.YtpdgdnpajmcaeaaGreatQ06
set_option linter.unusedSimpArgs false
set_option linter.unusedVariables false
namespace Go.Proofs.YtpdgdnpajmcaeaaGreat
set_option maxRecDepth 100000
set_option maxHeartbeats 2000000
open Go.RowKit Go.Proofs.Tryz List
structure LtA (y out:Yard) (j k i:Nat) (id tr:Int) (r:Run) (t:Task):Prop where
 p:(bX y)[j]? = some (k,i)
 row:((bX y).map (fB y))[j]? = some [id,(i:Int),tr]
 ix:aF out id=(k:Int)
 hr:out.runs[k]? = some r
 is:RunIs r
 ht:r.tasks[i]? = some t
theorem lt_at {y out:Yard}{n j:Nat}(hY:YardIs y) (h:RI y out n) (hj:j<(bX y).length):∃q:(Nat×Nat)×(Int×Int)×Run×Task,LtA y out j q.1.1 q.1.2 q.2.1.1 q.2.1.2 q.2.2.1 q.2.2.2:=by
 obtain⟨k,i,r,t,hp,hr,ht,hrow⟩:=bC3 hj;obtain⟨r2,t2,h1,h2,h3,h4⟩:=h.holds hY hr ht;exact⟨((k,i),(r.id,t.try_),r2,t2),⟨hp,hrow,cE (h.ix hY hr),h1,h2,h3⟩⟩
theorem cA6 {y:Yard}(hY:YardIs y):(bX y).length<=96:=by have:=qX hY y.runs.length;have:=hY.runs;show (gN y y.runs.length).length<=96;omega
theorem aX4 {y:Yard}(h:aG y=false):(y,(8:Int))=dA y:=by unfold dA;rw[if_pos h]
theorem aX5 {y:Yard}(h0:aG y=true) (h:999999980<y.now+1):(y,(7:Int))=dA y:=by unfold dA;rw[if_neg (by rw[h0];simp),if_pos h]
theorem ticked_0 {y out:Yard}{j:Nat}(h0:aG y=true) (h:¬999999980<y.now+1) (hY:YardIs y) (ho:out=jR y ((bX y).take j)) (hj:¬j<(bX y).length):((⟨out.now+1,out.seq,out.shelf,out.runs⟩:Yard),(0:Int))=dA y:=by
 unfold dA;rw[if_neg (by rw[h0];simp),if_neg h];unfold aX6;rw[aK7,<- (RI.list hY zK j).now,<- ho,ho,take_of_length_le aA];rfl
theorem Tick_s (y:Yard) (hw:y.wt<=1048576):Ct1 prog 180 [.S y] [.S (dA y).1,.I (dA y).2]:=
 .one (dA y) (rk:=fun q=>[.S q.1,.I q.2])<|vc func180 (fun (hg:gin [Par.S y])=>let gy:=hg.1.1
  .c func61 (eI y hw) (hg:=⟨gy,trivial⟩) fun _=>.c func72 (jM y hw) (hg:=⟨gy,trivial⟩) fun _=>.v (aG y)
   (fun h=>.rt (y,8) ⟨aX4 h,gy,trivial⟩)
   (fun h=>let hY:=iA h
    let hn:=hY.now
    .p y.now 1<|.s (999999980<y.now+1)
     (fun h7=>.rt (y,7) ⟨aX5 h h7,gy,trivial⟩)
     (fun h7=>let hln:=cA6 hY
      let hml:((bX y).map (fB y)).length=(bX y).length:=length_map _
      .c func217 (LateOf_s y hY) (hg:=⟨gy,trivial⟩) fun _=>
      .l (Γ:=Nat×Yard) (fun g=>g.1<=(bX y).length/\g.2=jR y ((bX y).take g.1)) (fun g=>(bX y).length-g.1) [2,4,5] [3,7] [] (fun g=>[vI 6 g.1]) (fun g=>ryS g.2 6 4 5) (0,y) (h:=⟨Nat.zero_le _,(sL y _).symm⟩) fun g hJ tk=>
       let hRI:RI y g.2 200:=(by rw[hJ.2];exact(RI.list hY zK g.1).mono aA)
       .s ((g.1:Int)<((bX y).map (fB y)).length)
        (fun hlt=>.ex (lt_at hY hRI (show g.1<(bX y).length by omega)) fun q hq=>
         let r2:=q.2.2.1
         .y hq.row fun _=>.y (show [q.2.1.1,(q.1.2:Int),q.2.1.2][0]? = some q.2.1.1 from rfl) fun gi=>.c func119 (jO g.2 q.2.1.1 (Nat.le_trans (hRI.wt hY aA) aA)) (hg:=⟨hRI.ok hY aA,trivial⟩) fun _=>
         .ye hq.hr (aF g.2 q.2.1.1) (he:=hq.ix) fun gr=>.y hq.row fun _=>.y (show [q.2.1.1,(q.1.2:Int),q.2.1.2][1]? = some (q.1.2:Int) from rfl) fun _=>.y hq.ht fun _=>.s (q.2.2.2.state=3)
          (fun h3=>let hT:=aM3 hY hRI aA hq.hr hq.ht h3 hq.is
           .ye hq.hr (aF g.2 q.2.1.1) (he:=hq.ix) fun gr=>.y hq.row fun _=>.y (show [q.2.1.1,(q.1.2:Int),q.2.1.2][1]? = some (q.1.2:Int) from rfl) fun _=>
           .c func199 (tN q.2.2.1 (q.1.2:Int) (aE9 hq.is).1 (aE9 hq.is).2) (hg:=⟨gr,trivial⟩) fun hf=>
           .cw _ func216 (aW0 g.2 (aF g.2 q.2.1.1) q.1.1 q.2.2.1 (bV q.2.2.1 (q.1.2:Int)) hq.ix hq.hr hT.1.1 hT.2.1 hT.1.2.1 hT.1.2.2 hf.1.1 hT.2.2.1) ⟨trivial,trivial⟩ fun _ _ hz=>
           .p g.1 1<|.n tk (g.1+1,cR g.2 q.1.1 q.2.2.1 (bV q.2.2.1 (q.1.2:Int))) [(4,26),(5,27)] (h1:=⟨by show g.1+1<=_;omega,by show cR g.2 q.1.1 q.2.2.1 (bV q.2.2.1 (q.1.2:Int))=_;rw[hT.2.2.2,lU hq.p,hJ.2]⟩) (h2:=by show (bX y).length-(g.1+1)<_;omega))
          (fun h3=>.p g.1 1<|.n tk (g.1+1,g.2) [] (h1:=⟨by show g.1+1<=_;omega,by show g.2=_;rw[lU hq.p,<- hJ.2];exact(yW hq.hr hq.ht h3).symm⟩) (h2:=by show (bX y).length-(g.1+1)<_;omega)))
        (fun hge=>let hnow:=hRI.now
         .p g.2.now 1<|.rt (⟨g.2.now+1,g.2.seq,g.2.shelf,g.2.runs⟩,0) ⟨ticked_0 h h7 hY hJ.2 aA,⟨by show I64 (g.2.now+1);unfold I64;omega,(show Yard.ok g.2 from hRI.ok hY aA).2⟩,trivial⟩)))) aB
theorem bQ0 {r:Run}(h:dP r=false):r=fQ r:=by unfold fQ pV;rw[h];rfl
theorem bQ1 {r:Run}(h:¬r.state=1):r=fQ r:=by unfold fQ pV;rw[decide_eq_false h,Bool.and_false];rfl
theorem gone_1 {r:Run}(h0:dP r=true) (h:r.state=1):(⟨r.id,r.plan,4,cU r.tasks⟩:Run)=fQ r:=by
 rw[zN (by unfold pV;rw[h0,decide_eq_true h];rfl),leave_all ((runIs.1 h0).no5 h)]
theorem RunLeft_s (r:Run) (hl:r.plan.edges.length<=1048576) (htl:r.tasks.length<=1048576):Ct1 prog 201 [.S r] [.S (fQ r)]:=
 .one (fQ r) (rk:=fun x=>[.S x])<|vc func201 (fun (hg:gin [Par.S r])=>let gr:=hg.1.1
  .c func115 (lR r hl htl) (hg:=⟨gr,trivial⟩) fun _=>.c func118 (aW2 r) (hg:=⟨gr,trivial⟩) fun _=>.v (dP r)
   (fun h=>.rt r ⟨bQ0 h,gr,trivial⟩)
   (fun h=>.u (r.state=1)
    (fun h1=>.rt r ⟨bQ1 h1,gr,trivial⟩)
    (fun h1=>.co _ func224 (bT3 r 4 (by unfold I64;omega) htl gr) trivial fun _ _ hq=>.rt ⟨r.id,r.plan,4,cU r.tasks⟩ ⟨gone_1 h h1,hq.1.1,trivial⟩))) aB
theorem cD6 {y:Yard}{id:Int}(h:aG y=false):(y,(8:Int))=bK y id:=by unfold bK;rw[if_pos h]
theorem pO {y:Yard}{id:Int}(h:¬aF y id<0):aF y id=((aF y id).toNat:Int):=by omega
theorem Cancel_s (y:Yard) (id:Int) (hw:y.wt<=1048576):Ct1 prog 181 [.S y,.I id] [.S (bK y id).1,.I (bK y id).2]:=
 .one (bK y id) (rk:=fun q=>[.S q.1,.I q.2])<|vc func181 (fun (hg:gin [Par.S y,Par.I id])=>let gy:=hg.1.1
  .c func61 (eI y hw) (hg:=⟨gy,trivial⟩) fun _=>.c func119 (jO y id hw) (hg:=⟨gy,trivial⟩) fun _=>.c func72 (jM y hw) (hg:=⟨gy,trivial⟩) fun _=>.v (aG y)
   (fun h=>.rt (y,8) ⟨cD6 h,gy,trivial⟩)
   (fun h=>.s (aF y id<0)
    (fun h2=>.rt (y,10) ⟨(vN h h2).symm,gy,trivial⟩)
    (fun h2=>.ex (uH h2) fun r hr=>.ye hr (aF y id) (he:=pO h2) fun gr=>let hrl:=gJ hw hr
     .u (r.state=1)
      (fun h3=>.rt (y,12) ⟨by rw[lM h h2 hr,if_pos h3],gy,trivial⟩)
      (fun h3=>.d 5 hr fun _=>.ie (aF y id).toNat (aF y id) (he:=pO h2)<|.c func201 (RunLeft_s r hrl.2.2 hrl.2.1) (hg:=⟨gr,trivial⟩) fun _=>.ie (aF y id).toNat (aF y id) (he:=pO h2)<|.wt 41<|.f 5 y.runs (fQ r) (h:=bD6 gr) <|
       .rt (bR7 y (aF y id).toNat r,0) ⟨by rw[lM h h2 hr,if_neg (by simp[h3])],gy,trivial⟩)))) aB
theorem flt_t {α:Type}{p:α->Bool}{l:List α}{k:Nat}{e:α}(h:l[k]? = some e) (hp:p e=true):(l.take k).filter p++[e]=(l.take (k+1)).filter p:=by
 rw[<- cX h,filter_append,filter_cons_of_pos hp];rfl
theorem flt_f {α:Type}{p:α->Bool}{l:List α}{k:Nat}{e:α}(h:l[k]? = some e) (hp:p e=false):(l.take k).filter p=(l.take (k+1)).filter p:=by
 rw[<- cX h,filter_append,filter_cons_of_neg (by rw[hp];simp)];simp
theorem flt_all {α:Type}{p:α->Bool}{l:List α}{k:Nat}(h:¬(k:Int)<l.length):(l.take k).filter p=l.filter p:=by rw[take_of_length_le aA]
theorem flt_len {α:Type}{p:α->Bool}{l:List α}{k:Nat}:((l.take k).filter p).length<=l.length:=Nat.le_trans (length_filter_le _ _) (by rw[length_take];omega)
theorem sw_no {y:Yard}{sh:Int}(h:inB sh 0 ((y.shelf.length:Int)-1)=false):y=aT y sh:=by unfold aT;rw[if_neg (by rw[h];simp)]
theorem sw_in {y:Yard}{sh:Int}{l:List Entry}(h:inB sh 0 ((y.shelf.length:Int)-1)=true) (hl:y.shelf[sh.toNat]? = some l):(⟨y.now,y.seq,y.shelf.set sh.toNat (l.filter (fresh y)),y.runs⟩:Yard)=aT y sh:=by
 unfold aT;rw[if_pos h,getD_eq_getElem?_getD,hl];rfl
theorem bS6 (y:Yard) (sh:Int) (hw:y.wt<=1048576):Ct1 prog 210 [.S y,.I sh] [.S (aT y sh)]:=
 .one (aT y sh) (rk:=fun x=>[.S x])<|vc func210 (fun (hg:gin [Par.S y,Par.I sh])=>let gy:=hg.1.1
  let hsl:=dJ y hw
  .c func61 (eI y hw) (hg:=⟨gy,trivial⟩) fun _=>.m (y.shelf.length:Int) 1 (h:=by unfold I64;omega)<|.c func38 (InV sh 0 ((y.shelf.length:Int)-1)) fun _=>.v (inB sh 0 ((y.shelf.length:Int)-1))
   (fun h=>.rt y ⟨sw_no h,gy,trivial⟩)
   (fun h=>.ex (tA h) fun l hl=>let hll:=iK hl hw
    .e Entry<|.l (Γ:=Nat) (fun k=>k<=l.length) (fun k=>l.length-k) [1,2,4,5] [2,3,4,5,6] [0,1] (fun k=>[vR 6 7,vI 7 k]) (fun k=>[oR 7 121 ((l.take k).filter (fresh y))]) 0 fun k hk tk=>
     let hfl:((l.take k).filter (fresh y)).length<=l.length:=flt_len
     .ye hl sh (he:=hQ h) fun _=>.s ((k:Int)<l.length)
      (fun h2=>.ye hl sh (he:=hQ h) fun _=>.x l k (h:=by omega) fun e he ge=>.c func173 (bT5 y e hw) (hg:=⟨gy,ge,trivial⟩) fun _=>.sb (fresh y e)
       (fun h3=>.ye hl sh (he:=hQ h) fun _=>.y he fun _=>.a ((l.take k).filter (fresh y)) e 32 (hy:=ge) (hby:=by omega)<|.g 7 (flt_t he h3)<|.p k 1<|.n tk (k+1) [])
       (fun h3=>.g 7 (flt_f he h3)<|.p k 1<|.n tk (k+1) []))
      (fun h2=>.g 7 (flt_all (p:=fresh y) h2)<|.sh 7<|.d 4 hl fun _=>.ie sh.toNat sh (he:=hQ h)<|.wt 55<|.f 4 y.shelf (l.filter (fresh y)) (h:=trivial) <|
       .rt ⟨y.now,y.seq,y.shelf.set sh.toNat (l.filter (fresh y)),y.runs⟩ ⟨sw_in h hl,gy,trivial⟩))) aB
theorem st_ok {r:Run}{t:Task}{now:Int}(g:t.ok) (h:I64 (t.try_+1)) (h2:I64 (now+r.plan.wait)):Task.ok ⟨3,t.need,t.try_+1,now+r.plan.wait⟩:=⟨by show I64 3;unfold I64;omega,g.2.1,h,h2⟩
theorem Started_s (r:Run) (task now:Int) (t:Task) (h0:0<=task) (ht:r.tasks[task.toNat]? = some t) (hn:0<=now/\now<=999999980) (hR:RunIs r):Ct1 prog 200 [.S r,.I task,.I now] [.S (eW r task.toNat t now)]:=
 vc func200 (fun (hg:gin [Par.S r,Par.I task,Par.I now])=>let gr:=hg.1.1
  let htr:=hR.tries ht
  let h1:I64 (t.try_+1):=(by unfold I64;omega)
  let h2:I64 (now+r.plan.wait):=(by unfold I64;omega)
  .c func115 (lR r (aE9 hR).1 (aE9 hR).2) (hg:=⟨gr,trivial⟩) fun _=>.ye ht task (he:=by omega) fun gt=>.p t.try_ 1 (h:=h1)<|.p now r.plan.wait (h:=h2) <|
   .d 5 ht fun _=>.ie task.toNat task (he:=by omega)<|.wt 32<|.f 5 r.tasks ⟨3,t.need,t.try_+1,now+r.plan.wait⟩ (h:=st_ok gt h1 h2)<|.rt () ⟨trivial,gr,trivial⟩) aB
def yS (home:Int):List Int:=[(home+1) % 4,(home+2) % 4,(home+3) % 4]
theorem oth_sp {home draw d:Int}(hd:d=max draw 0 % 3):(yS home).drop d.toNat++(yS home).take d.toNat=bL home draw:=oth_vict hd
theorem Victims_s (home draw:Int) (hh:0<=home/\home<=3) (hd:I64 draw):Ct1 prog 211 [.I home,.I draw] [.L (bL home draw)]:=
 .one (bL home draw) (rk:=fun l=>[.L l])<|vc func211 (fun hg=>
  let fin:∀d:Int,d=max draw 0->D prog (fun l:List Int=>l=bL home draw/\rgd [Rk.L l]):=fun d he=>
   let h0:0<=d/\d<=9223372036854775807:=(by unfold I64 at hd;omega)
   let hl3:(yS home).length=3:=rfl
   .e Int<|.l (Γ:=Nat) (fun k=>1<=k/\k<=4) (fun k=>4-k) [777777,12] [777777] [777777] (fun k=>[vI 6 k,vR 5 0]) (fun k=>[oR 0 3 (kH home k)]) 1 (h:=⟨Nat.le_refl _,by omega⟩) fun k hk t=>
    let hol:(kH home k).length<=3:=(by unfold kH;rw[length_take];simp only[length_cons,length_nil];omega)
    .s ((k:Int)<4)
    (fun h=>.p home (k:Int) (h:=by unfold I64;omega)<|.q (home+k) 4 (h:=by omega)<|.a (kH home k) ((home+k) % 4) 8 (hy:=by show I64 _;unfold I64;omega) (hby:=by omega)<|.g 0 (oth_to (home:=home) hk.1 aA).symm<|.p k 1<|.n t (k+1) [] (h1:=⟨by omega,by omega⟩))
    (fun h=>.sh 0<|.g 0 (show kH home k=yS home by rw[show k=4 by omega];rfl)<|.q d 3 (h:=by omega) <|
     .dp inferInstance (yS home) (d % 3).toNat aA (d % 3) aA<|.tk inferInstance (yS home) (d % 3).toNat aA (d % 3) aA<|.e Int<|.as (inferInstance:Shape Int) gK [] ((yS home).drop (d % 3).toNat) 8 (by rw[length_drop,hl3];simp only[length_nil];unfold maxLen;omega) (by rw[length_drop,hl3];simp only[length_nil];omega)<|.re inferInstance 2 0 (yS home) (d % 3).toNat aA<|.as (inferInstance:Shape Int) gK ((yS home).drop (d % 3).toNat) ((yS home).take (d % 3).toNat) 8 (by rw[length_drop,length_take,hl3];unfold maxLen;omega) (by rw[length_drop,length_take,hl3];omega) <|
     .rt ((yS home).drop (d % 3).toNat++(yS home).take (d % 3).toNat) ⟨oth_sp (by rw[he]),trivial⟩)
  .c func25 (rJ home 0 3) fun _=>.rv 9 (I home) (y:=I (fR home 0 3)) (cE1 hh)<|.s (draw<0)
   (fun h=>fin 0 aA)
   (fun h=>fin draw aA)) aB
theorem bK4 {xs:List Entry}(h:(bP xs).2.2=true):xs=(bP xs).1::(bP xs).2.1:=by
 cases xs with
 | nil=>cases h
 | cons e l=>rfl
theorem bW0 {xs:List Entry}(h:(bP xs).2.2=false):xs=[]:=by
 cases xs with
 | nil=>rfl
 | cons e l=>cases h
theorem lZ (worker:Int):worker % 4=(((worker % 4).toNat:Nat):Int):=by omega
theorem bN7 {y:Yard}(hY:YardIs y) (w draw:Int) (k:Nat):PI y (dN (w % 4).toNat (aT y (w % 4)) ((bL (w % 4) draw).take k)) (w % 4).toNat:=by
 have h:=PI.take hY (home:=(w % 4).toNat) aA (l:=bL (w % 4) draw) (fun o ho=>by have:=kL (home:=w % 4) aA o ho;omega) k
 rwa [<- lZ]at h
theorem zI {y out:Yard}{h:Nat}(hP:PI y out h) (hh:h<4):out.shelf[h]? = some (out.shelf.getD h []):=getD_some (by have:=hP.len;omega)
theorem pl_rob {y out:Yard}{h:Nat}{o:Int}(hP:PI y out h) (hh:h<4) (ho:0<=o/\o<=3/\o≠(h:Int)):∃q:List Entry×List Entry,(aT out o).shelf[o.toNat]? = some q.1/\((aT out o).shelf.set o.toNat (q.1.drop (bH q.1)))[h]? = some q.2/\q.1.length<=80/\q.2.length<=80 /\
  (⟨(aT out o).now,(aT out o).seq,((aT out o).shelf.set o.toNat (q.1.drop (bH q.1))).set h (cP q.2 (q.1.take (bH q.1))),(aT out o).runs⟩:Yard)=yP (aT out o) h o.toNat:=by
 have hs:=hP.sw (o:=o) aA;have hne:h≠o.toNat:=by omega
 refine⟨((aT out o).shelf.getD o.toNat [],(aT out o).shelf.getD h []),getD_some aA,?_,hs.2 _ aA,hs.2 _ hh,?_⟩
 ·rw[getElem?_set_ne (fun e=>hne e.symm)];exact getD_some aA
 rw[robY_comm hne];rfl
theorem pl_8 {y:Yard}{w d:Int}(h:aG y=false):(y,(⟨8,0,0,0⟩:Reply))=eL y w d:=by unfold eL;rw[if_pos (by rw[h];simp)]
theorem pl_5 {y:Yard}{w d:Int}(h0:aG y=true) (h:inB w 0 99=false):(y,(⟨5,0,0,0⟩:Reply))=eL y w d:=by unfold eL;rw[if_neg (by rw[h0];simp),if_pos (by rw[h];simp)]
theorem pl_0 {y out:Yard}{w d:Int}(h0:aG y=true) (h:inB w 0 99=true) (ho:out=dN (w % 4).toNat (aT y (w % 4)) (bL (w % 4) d)):mY out (w % 4).toNat=eL y w d:=by unfold eL;rw[if_neg (by rw[h0];simp),if_neg (by rw[h];simp),<- ho]
structure PlA (y out:Yard) (home:Nat) (e:Entry) (k:Nat) (r:Run) (t:Task):Prop where
 ix:bS out e.run=some k
 hr:out.runs[k]? = some r
 h0:0<=e.task
 ht:r.tasks[e.task.toNat]? = some t
 is:RunIs r
theorem pl_at {y out:Yard}{h:Nat}{e:Entry}(hY:YardIs y) (hP:PI y out h) (he:e∈out.shelf.getD h []):∃q:Nat×Run×Task,PlA y out h e q.1 q.2.1 q.2.2:=by
 obtain⟨k,r,t,hix,hry,h0,hti,h2⟩:=fresh_at (hP.fresh e he);exact⟨(k,r,t),⟨(runIx_runs hP.runs _).trans hix,by rw[hP.runs];exact hry,h0,hti,(hY.run k r hry).1⟩⟩
theorem bH3 {a b c d:Int}(ha:I64 a) (hb:I64 b) (hc:I64 c) (hd:I64 d):Reply.ok ⟨a,b,c,d⟩:=⟨ha,hb,hc,hd⟩
theorem aM4 (a:Int) (h:0<=a/\a<=100):Reply.ok ⟨a,0,0,0⟩:=bH3 (by unfold I64;omega) (by unfold I64;omega) (by unfold I64;omega) (by unfold I64;omega)
theorem Poll_s (y:Yard) (w d:Int) (hw:y.wt<=1048576) (hd:I64 d):Ct1 prog 177 [.S y,.I w,.I d] [.S (eL y w d).1,.S (eL y w d).2]:=
 .one (eL y w d) (rk:=fun q=>[.S q.1,.S q.2])<|vc func177 (fun (hg:gin [Par.S y,Par.I w,Par.I d])=>let gy:=hg.1.1
  .c func72 (jM y hw) (hg:=⟨gy,trivial⟩) fun _=>.v (aG y)
   (fun h=>.c func61 (eI y hw) (hg:=⟨gy,trivial⟩) fun _=>.rt (y,⟨8,0,0,0⟩) ⟨pl_8 h,gy,aM4 8 aA,trivial⟩)
   (fun hy=>let hY:=iA hy
    .c func38 (InV w 0 99) fun _=>.v (inB w 0 99)
    (fun h=>.c func61 (eI y hw) (hg:=⟨gy,trivial⟩) fun _=>.rt (y,⟨5,0,0,0⟩) ⟨pl_5 hy h,gy,aM4 5 aA,trivial⟩)
    (fun hin=>let hwk:=inB_iff.1 hin
     .q w 4 (h:=by omega)<|.c func210 (bS6 y (w % 4) hw) (hg:=⟨gy,trivial⟩) fun _=>.c func211 (Victims_s (w % 4) d aA hd) fun _=>
     let fin:∀(m:Nat) (out:Yard),out=dN (w % 4).toNat (aT y (w % 4)) (bL (w % 4) d)->PI y out (w % 4).toNat->out.ok->D prog (fun q:Yard×Reply=>q=eL y w d/\rgd [Rk.S q.1,Rk.S q.2]):=fun m out ho hP go=>
      let hl:=zI hP (show (w % 4).toNat<4 by omega)
      let h80:=hP.each (w % 4).toNat aA
      .ye hl (w % 4) (he:=lZ w) fun _=>.c func214 (TakeEntry_s (out.shelf.getD (w % 4).toNat []) aA) fun gt=>.v (bP (out.shelf.getD (w % 4).toNat [])).2.2
       (fun hn=>.rt (out,⟨9,0,0,0⟩) ⟨by rw[<- pl_0 hy hin ho];exact(aF9 (bW0 hn)).symm,go,aM4 9 aA,trivial⟩)
       (fun hn=>let hcs:=bK4 hn
        .ex (pl_at hY hP (show (bP (out.shelf.getD (w % 4).toNat [])).1∈out.shelf.getD (w % 4).toNat [] by rw[hcs];exact mem_cons_self)) fun q hq=>
        let hnow:0<=out.now/\out.now<=999999980:=(by rw[hP.now];exact hY.now)
        let hrl:(bP (out.shelf.getD (w % 4).toNat [])).2.1.length<=80:=(by have h_:=h80;rw[hcs]at h_;simp only[length_cons]at h_;omega)
        .d 5 hl fun _=>.ie (w % 4).toNat (w % 4) (he:=lZ w)<|.wt 109<|.f 5 out.shelf (bP (out.shelf.getD (w % 4).toNat [])).2.1 (h:=trivial) <|
        .c func119 (jO ⟨out.now,out.seq,out.shelf.set (w % 4).toNat (bP (out.shelf.getD (w % 4).toNat [])).2.1,out.runs⟩ (bP (out.shelf.getD (w % 4).toNat [])).1.run (Nat.le_trans (hP.wtS hY hrl) aA)) (hg:=⟨go,trivial⟩) fun _=>
        .d 6 hq.hr fun gr=>.ie q.1 (aF ⟨out.now,out.seq,out.shelf.set (w % 4).toNat (bP (out.shelf.getD (w % 4).toNat [])).2.1,out.runs⟩ (bP (out.shelf.getD (w % 4).toNat [])).1.run) (he:=cE hq.ix) <|
        .c func200 (Started_s q.2.1 (bP (out.shelf.getD (w % 4).toNat [])).1.task out.now q.2.2 hq.h0 hq.ht hnow hq.is) (hg:=⟨gr,trivial⟩) fun gs=>
        .ie q.1 (aF ⟨out.now,out.seq,out.shelf.set (w % 4).toNat (bP (out.shelf.getD (w % 4).toNat [])).2.1,out.runs⟩ (bP (out.shelf.getD (w % 4).toNat [])).1.run) (he:=cE hq.ix)<|.wt 126<|.f 6 out.runs (eW q.2.1 (bP (out.shelf.getD (w % 4).toNat [])).1.task.toNat q.2.2 out.now) (h:=gs.1.1) <|
        let hr2:(out.runs.set q.1 (eW q.2.1 (bP (out.shelf.getD (w % 4).toNat [])).1.task.toNat q.2.2 out.now))[q.1]? = some (eW q.2.1 (bP (out.shelf.getD (w % 4).toNat [])).1.task.toNat q.2.2 out.now):=getElem?_set_self (gsi_.1 hq.hr).1
        let ht2:(eW q.2.1 (bP (out.shelf.getD (w % 4).toNat [])).1.task.toNat q.2.2 out.now).tasks[(bP (out.shelf.getD (w % 4).toNat [])).1.task.toNat]? = some ⟨3,q.2.2.need,q.2.2.try_+1,out.now+q.2.1.plan.wait⟩:=getElem?_set_self (gsi_.1 hq.ht).1
        .d 6 hr2 fun _=>.d m ht2 fun gu=>.ie q.1 (aF ⟨out.now,out.seq,out.shelf.set (w % 4).toNat (bP (out.shelf.getD (w % 4).toNat [])).2.1,out.runs⟩ (bP (out.shelf.getD (w % 4).toNat [])).1.run) (he:=cE hq.ix)<|.ie (bP (out.shelf.getD (w % 4).toNat [])).1.task.toNat (bP (out.shelf.getD (w % 4).toNat [])).1.task (he:=by have:=hq.h0;omega) <|
        .f m (eW q.2.1 (bP (out.shelf.getD (w % 4).toNat [])).1.task.toNat q.2.2 out.now).tasks ⟨3,q.2.2.need,q.2.2.try_+1,out.now+q.2.1.plan.wait⟩ (h:=gu)<|.g m (uB ht2)<|.f 6 (out.runs.set q.1 (eW q.2.1 (bP (out.shelf.getD (w % 4).toNat [])).1.task.toNat q.2.2 out.now)) (eW q.2.1 (bP (out.shelf.getD (w % 4).toNat [])).1.task.toNat q.2.2 out.now) (h:=gs.1.1)<|.g 6 (uB hr2) <|
        .rt (⟨out.now,out.seq,out.shelf.set (w % 4).toNat (bP (out.shelf.getD (w % 4).toNat [])).2.1,out.runs.set q.1 (eW q.2.1 (bP (out.shelf.getD (w % 4).toNat [])).1.task.toNat q.2.2 out.now)⟩,⟨0,(bP (out.shelf.getD (w % 4).toNat [])).1.run,(bP (out.shelf.getD (w % 4).toNat [])).1.task,q.2.2.try_+1⟩)
         ⟨by rw[<- pl_0 hy hin ho];exact(aO0 hcs hq.ix hq.hr hq.ht).symm,go,bH3 (by unfold I64;omega) gt.1.1.2.2.1 gt.1.1.2.2.2 (show Task.ok _ from gu).2.2.1,trivial⟩)
     .l (Γ:=Nat×Yard) (fun g=>g.1<=3/\g.2=dN (w % 4).toNat (aT y (w % 4)) ((bL (w % 4) d).take g.1)) (fun g=>3-g.1) [6,7,8,9,10] [3,4,8] [] (fun g=>[vI 11 g.1]) (fun g=>ryS g.2 7 5 6) (0,aT y (w % 4)) (h:=⟨Nat.zero_le _,(xX _ _ _).symm⟩) fun g hJ tk=>
      let hP:PI y g.2 (w % 4).toNat:=(by rw[hJ.2];exact bN7 hY w d g.1)
      let hl:=zI hP (show (w % 4).toNat<4 by omega)
      let go:g.2.ok:=hP.ok hY
      .s ((g.1:Int)<(bL (w % 4) d).length)
       (fun hlt=>.ye hl (w % 4) (he:=lZ w) fun _=>.s (((g.2.shelf.getD (w % 4).toNat []).length:Int)=0)
        (fun hem=>.ex (p:=fun o=>(bL (w % 4) d)[g.1]? = some o) ⟨_,getElem?_eq_getElem (show g.1<(bL (w % 4) d).length by omega)⟩ fun o hk=>
         let hor:=kL (home:=w % 4) (draw:=d) aA o (mem_of_getElem? hk)
         .ex (pl_rob hP (show (w % 4).toNat<4 by omega) (show 0<=o/\o<=3/\o≠(((w % 4).toNat:Nat):Int) by omega)) fun q hq=>
         .y hk fun _=>.c func210 (bS6 g.2 o (Nat.le_trans (hP.wt hY) aA)) (hg:=⟨go,trivial⟩) fun gs=>
         .y hk fun _=>.ye hq.1 o (he:=by omega) fun _=>.c func212 (HalfOf_s q.1 (by have:=hq.2.2.1;omega)) fun _=>
         .d 12 hq.1 fun _=>.y hk fun _=>.ie o.toNat o (he:=by omega)<|.wt 78<|.f 12 (aT g.2 o).shelf (q.1.drop (bH q.1)) (h:=trivial) <|
         .d 12 hq.2.1 fun _=>.ie (w % 4).toNat (w % 4) (he:=lZ w)<|.c func213 (Merged_s q.2 (q.1.take (bH q.1)) (by have:=hq.2.2.2.1;omega) (by have:=hq.2.2.1;rw[length_take];omega)) fun _=>.ie (w % 4).toNat (w % 4) (he:=lZ w)<|.wt 51<|.f 12 ((aT g.2 o).shelf.set o.toNat (q.1.drop (bH q.1))) (cP q.2 (q.1.take (bH q.1))) (h:=trivial) <|
         .p g.1 1<|.n tk (g.1+1,⟨(aT g.2 o).now,(aT g.2 o).seq,((aT g.2 o).shelf.set o.toNat (q.1.drop (bH q.1))).set (w % 4).toNat (cP q.2 (q.1.take (bH q.1))),(aT g.2 o).runs⟩) [(5,12),(6,13)]
          (h1:=⟨by show g.1+1<=3;have:(bL (w % 4) d).length=3:=rfl;omega,by rw[aM1 hk (by rw[<- hJ.2];exact nil0 hem),<- hJ.2];exact hq.2.2.2.2⟩) (h2:=by show 3-(g.1+1)<_;have:(bL (w % 4) d).length=3:=rfl;omega))
        (fun hem=>fin 24 g.2 (by rw[hJ.2];exact(aC6 (by rw[<- hJ.2];exact bO5 hem)).symm) hP go))
       (fun hlt=>fin 22 g.2 (by rw[hJ.2];exact aC7 (by have:(bL (w % 4) d).length=3:=rfl;omega)) hP go)))) aB
def aD1:Code->Nat->List Oper
 | .region id ops _,k=>cond (Nat.beq id k) ops.toList []
 | .seq a b,k=>aD1 a k++aD1 b k
 | .cond _ a b,k=>aD1 a k++aD1 b k
 | .block _ c,k=>aD1 c k
 | .loop c,k=>aD1 c k
 | _,_=>[]
theorem fr_keep {E:List (Nat×SV)}{f f':Nat->Value}{p:Nat->Bool}(h:Fr E f) (hf:∀t,p t=true->f' t=f t):Fr (E.filter fun q=>p q.1) f':=by
 intro t x hx;have key:∀{E:List (Nat×SV)},lku (E.filter fun q=>p q.1) t=some x->p t=true/\lku E t=some x:=by
  intro E
  induction E with
  | nil=>intro h;cases h
  | cons q E ih=>
   intro h;obtain⟨a,v⟩:=q;rw[filter_cons]at h;unfold lku;split at h
   ·next hp=>
    unfold lku at h;cases hb:Nat.beq t a with
    | true=>rw[hb]at h;rw[Nat.eq_of_beq_eq_true hb];exact⟨hp,h⟩
    | false=>rw[hb]at h;exact ih h
   next hp=>
   obtain⟨h1,h2⟩:=ih h;refine⟨h1,?_⟩;cases hb:Nat.beq t a with
   | true=>rw[Nat.eq_of_beq_eq_true hb]at h1;exact absurd h1 hp
   | false=>exact h2
 obtain⟨h1,h2⟩:=key hx;rw[hf t h1];exact h t x h2
theorem bN3 {f:Nat->Value}{d:Option Tmp}{v:Value}{t:Nat}(h:(match d with | some d=> !Nat.beq d t | none=>true)=true):dF f d v t=f t:=by
 cases d with
 | none=>rfl
 | some d=>
  simp only[dF,upd];cases hb:Nat.beq t d with
  | false=>rfl
  | true=>rw[Nat.eq_of_beq_eq_true hb]at h;simp[Nat.beq_refl]at h
noncomputable def fgOps:List Oper:=aD1 (Tryz.f182.body.getD .skip) 9
section
variable {P:Program}{n:Nat}{f:Nat->Value}{W:World}{Q:Exit->Act->World->Prop}{d:Option Tmp}{ty:TypeId}{pos:String}{af:Array Go.Edge}{g:Option (Nat×Bool)}{K:Value->World->Prop}{α:Type}[Shape α]
theorem stp_xs {t t':TypeId}{x y:Operand}{b o m c l:Nat}{e:Int}(hT:SlOk P t t' α) (hx:ev n f x = .slice (some ⟨b,o,none⟩) m c) (hy:ev n f y=I e) (he:e=l) (hl:l<=m) (hc:m<=c) (k:K (sliced (some ⟨b,o,none⟩) l m c (Shape.size α)) W):Stp P n ⟨d,.slice t x (some y) none none,ty,pos,af,g⟩ f W Q K:=by
 subst he;have hel:P.elem t=t':=by simp[Program.elem,hT.desc]
 have hu:P.underlying t=some (.slice (P.elem t)):=by rw[hel];exact hT.desc
 refine Stp.run (W':=W) (v:=sliced (some ⟨b,o,none⟩) l m c (Shape.size α)) ?_ k;simp only[execOp,hx,hy,Sem.run_bind,Option.map_none,Option.map_some];rw[run_sliceAt_slice (h:=hu),run_slice_l (ht:=hu) (h0:=by omega) (h1:=by omega),hel,eT hT.size];simp
theorem sliced_ad {b o l m c z:Nat}(hl:l<=m) (hc:m<=c):∃ad:Addr,sliced (some ⟨b,o,none⟩) l m c z = .slice (some ad) (m-l) (c-l)/\(0<m-l->ad=⟨b,o+l*z,none⟩):=by
 by_cases h:c=l
 ·exact⟨⟨b,o,none⟩,by simp[sliced,h],fun hh=>by omega⟩
 exact⟨_,nE aA,fun _=>rfl⟩
end
noncomputable def fgR (rs:List Run) (k:Nat) (e:Int) (he:e=k) (hk:k<rs.length) (hl:rs.length<=1048576):Rgn prog (Tryz.f182.ntmps) fgOps.toArray true where
 T:=fun s K=>match lku s.E 6,lku s.E 7 with
  | some (.on (.ce (.pt jb b q o))),some v7=>.e0 q 0<|.e0 o 0<|.e0 v7.val (I e)<|match lku s.O jb with
   | some (.bx b' pre [c0,c1,c2,.rf jr h] post t)=>.e0 b' b<|.e0 pre []<|.e0 post []<|.e0 t 27<|match lku (bB s.O jb) jr with
    | some (.own i h' xs fp)=>.e0 h' h<|.e1 (⟨i,xs⟩:Dat) ⟨instShapeRun,rs⟩<|.fn fun G:Hd×List Nat=>
      K ⟨s.E.filter fun q=>gL fgOps q.1,(jb,.bx b [] [c0,c1,c2,.rf jr G.1] [] t)::(jr,.row instShapeRun 125 G.1 (([]++rs.take k)++rs.drop (k+1)) G.2)::bB (bB s.O jb) jr,lasting s.B,s.nx⟩
    | _=>.no
   | _=>.no
  | _,_=>.no
 ok:=by
  intro w0 W s f K id Q h den kk;split at h
  ·next jb b q o v7 hE6 hE7=>
   obtain⟨rfl,rfl,h7,h⟩:=h;split at h
   ·next b' pre c0 c1 c2 jr hd post t hjb=>
    obtain⟨rfl,rfl,rfl,rfl,h⟩:=h;split at h
    ·next i hd' xs fp hjr=>
     obtain⟨rfl,h2,h⟩:=h;simp only[Dat.mk.injEq]at h2;obtain⟨rfl,h6,h7'⟩:=h2;obtain⟨rfl,rfl⟩:=And.intro (eq_of_heq h6) (eq_of_heq h7');have hf6:f 6 = .pointer (some ⟨b',0+0,none⟩):=den.fr 6 _ hE6;have hf7:f 7=I (k:Int):=(den.fr 7 _ hE7).trans (h7.trans (by rw[he]));have st0:St w0 W (Or s.O++[]):=by simpa [Or,S.rs] using den.st
     have st1:=st0.take hjb;have st2:St w0 W (Res.own hd'.val xs fp::(Or (bB (bB s.O jb) jr)++[Res.bx b' [c0.val,c1.val,c2.val,hd'.val] 27])):=by
      have:St w0 W (Res.bx b' [c0.val,c1.val,c2.val,hd'.val] 27::(Or (bB s.O jb)++[])):=st1;rw[append_nil]at this;exact(this.perm (perm_append_comm (l₁:=Or (bB s.O jb)) (l₂:=[_]))).take hjr
     have st3:St w0 W ([Res.own hd'.val xs fp,Res.bx b' [c0.val,c1.val,c2.val,hd'.val] 27]++Or (bB (bB s.O jb) jr)):=
      st2.perm (List.Perm.cons _ (perm_append_comm (l₁:=[_]) (l₂:=Or (bB (bB s.O jb) jr))))
     have st4:=st3.all_in;obtain⟨bD,oD,cD,CD,eD,feD,hvD,hcD,hmD,hlD,st87⟩:=St.ownOpen' st4 eZ aA;obtain⟨fE0,fE1,st88⟩:=st87.f1.es_split hk;rw[hvD]at st88;obtain⟨ad,hxe,had⟩:=sliced_ad (b:=bD) (o:=oD) (z:=Shape.size Run) (show k+1<=xs.length by omega) hcD;refine qN 11 [(none,some 5,.is (Res.es (((CD.drop oD).take (xs.length*8)).take (k*8)) (xs.take k) fE0)),(some 0,some 5,.of (ι:=Nat) [34] (fun b170=>[(.slice (some ⟨b170,0,none⟩) 0 0)]) (fun b170=>Res.row (α:=Run) 125 (.slice (some ⟨b170,0,none⟩) 0 0) [] [])),(some 5,none,.of (ι:=Value) [39] (fun v179=>[v179]) (fun v179=>Res.row (α:=Run) 125 v179 ([]++(xs.take k)) ([]++fE0)))] [(false,.ex (fun (b170:Nat)=>(.slice (some ⟨b170,0,none⟩) 0 0))),(true,.is (.pointer (some ⟨b',0+3,none⟩))),(true,.is (.slice (some ⟨bD,oD,none⟩) xs.length cD)),(true,.is (I (k:Int))),(true,.is (.slice (some ⟨bD,oD,none⟩) k cD)),(false,.ex (fun (v179:Value)=>v179)),(true,.is (.pointer (some ⟨b',0+3,none⟩))),(true,.is (.slice (some ⟨bD,oD,none⟩) xs.length cD)),(true,.is (I (k:Int))),(true,.is (I ((k:Int)+1))),(true,.is (sliced (some ⟨bD,oD,none⟩) (k+1) xs.length cD (Shape.size Run)))] mix aB aB aB aB (rs0:=[Res.es (((CD.drop oD).take (xs.length*8)).take (k*8)) (xs.take k) fE0]) ⟨_,_,rfl,rfl,rfl⟩ st88 st88.below ⟨?_,(fun f W hst hbl hd hf=>eV wS ((hf 6 rfl).trans hf6) brq),(fun f W hst hbl hd hf=>iJ bP3 rfl (hd 1 35 rfl rfl) (hst.get 2 rfl) (i:=3) rfl rfl brq),(fun f W hst hbl hd hf=>bY (v:=I (k:Int)) ((hf 7 rfl).trans hf7) brq),(fun f W hst hbl hd hf=>aB3 (h:=k) jA (hd 2 36 rfl rfl) (hd 3 37 rfl rfl) aA aA aA brq),?_,(fun f W hst hbl hd hf=>eV wS ((hf 6 rfl).trans hf6) brq),(fun f W hst hbl hd hf=>iJ bP3 rfl (hd 6 40 rfl rfl) (hst.get 2 rfl) (i:=3) rfl rfl brq),(fun f W hst hbl hd hf=>bY (v:=I (k:Int)) ((hf 7 rfl).trans hf7) brq),(fun f W hst hbl hd hf=>nY (hd 8 42 rfl rfl) rfl (by unfold I64;omega) brq),(fun f W hst hbl hd hf=>stp_xs (l:=k+1) jA (hd 7 41 rfl rfl) (hd 9 43 rfl rfl) aA aA aA brq),trivial⟩ ?_
     ·intro f W ru oth hu hst hbl hd hf;have hn_:ru=[]:=hu;subst hn_
      try simp only[cap_,bB4]at hst
      refine(fE (cs:=[]) (e:=125) pnil (run_buildSlice0 aV6 _) hst ?_);intro b170 W171 hb172 st173;have st173:=st173.row_empty (α:=Run);exact⟨⟨b170,rfl⟩,⟨_,⟨_,_,rfl,⟨b170,(ce rfl rfl),rfl⟩,rfl⟩,st173⟩,st173.below⟩
     ·intro f W ru oth hu hst hbl hd hf;obtain⟨_,_,rfl,rfl,_,_,rfl,⟨b170,he175,rfl⟩,hn_⟩:=hu;have hn_:_=[]:=hn_;subst hn_;have hu175_34:f 34=(.slice (some ⟨b170,0,none⟩) 0 0):=congrArg (fun l=>l.getD 0 undef) he175
      try simp only[cap_,bB4]at hst
      have st176:=hst.f3;refine(rZ (α:=Run) (m:=k) (o:=oD) aV6 hu175_34 (hd 4 38 rfl rfl) (by rw[length_take];omega) (fun _=>rfl) (by rw[take_take];congr 1;have hz:k*8<=xs.length*8:=Nat.mul_le_mul_right _ aA;exact(Nat.min_eq_left hz).symm▸rfl) st176.f1.f2 (by simp only[length_append,length_take,length_nil];unfold maxLen;omega) (by simp only[length_append,length_take,length_nil];omega) ?_);intro v179 W180 st181;exact⟨⟨v179,rfl⟩,⟨_,⟨_,_,rfl,⟨v179,(ce rfl rfl),rfl⟩,rfl⟩,st181.f2.f1⟩,st181.f2.f1.below⟩
     intro f189 W190 rs_ hAL_ st193 hbl194 hv191 hf192;obtain⟨_,_,rfl,⟨v179,he195,rfl⟩,hn_⟩:=hAL_;have hn_:_=[]:=hn_;subst hn_;have hu195_39:f189 39=v179:=congrArg (fun l=>l.getD 0 undef) he195
     try simp only[cap_,bB4]at st193
     have st197:=st193.f2;refine sg (rZ (α:=Run) (m:=xs.length-(k+1)) (o:=oD+(k+1)*8) aV6 hu195_39 (Eq.trans (hv191 10 44 eZ rfl) hxe) (by rw[length_drop]) had (es_tail aA) st197.f2.f2 (by simp only[length_append,length_take,length_nil];unfold maxLen;omega) (by simp only[length_append,length_take,length_nil];omega) ?_);intro v200 W201 st202;refine sg (eV wS ((hf192 6 rfl).trans hf6) (sgn (rW (v:=v200) aB rfl rfl (Sl.cells (gO (st202.f2.get 1 rfl))) (Sl.one (gO (st202.f2.get 1 rfl))) st202.f2 nbq_ rfl ?_)));intro W206 st207;refine bO ?_;obtain⟨hd2,rfl,_⟩:=Sl.hd (gO (st207.get 1 rfl));refine kk _ _ _ (h (hd2,([]++fE0)++fE1)) ⟨fr_keep den.fr fun t ht=>?_,?_,den.fa.lasting⟩
     ·unfold gL at ht;rw[all_eq_true]at ht;have h1:gL (fgOps.take 11) t=true:=by
       unfold gL;rw[all_eq_true];exact fun o ho=>ht o (mem_of_mem_take ho)
      rw[<- hf192 t h1];have h2:∀(k:Nat) (o:Oper),fgOps[k]? = some o->(match o.dst with | some d=> !Nat.beq d t | none=>true)=true:=fun k o ho=>ht o (mem_of_getElem? ho)
      exact(bN3 (h2 12 _ rfl)).trans (bN3 (h2 11 _ rfl))
     have:=st207.d2;exact St.all_out (a:=[_,_]) this
    exact h.elim
   exact h.elim
  exact h.elim
theorem fg_er (rs:List Run) (k:Nat):([]++rs.take k)++rs.drop (k+1)=rs.eraseIdx k:=by rw[nil_append,eraseIdx_eq_take_drop_succ]
theorem fg_8s {y:Yard}{id:Int}(h:aG y=false):(y,(8:Int))=aZ y id:=by unfold aZ;rw[if_pos h]
theorem fg_13 {y:Yard}{id:Int}{r:Run}(h0:aG y=true) (h:¬aF y id<0) (hr:y.runs[(aF y id).toNat]? = some r) (h1:r.state=1):(y,(13:Int))=aZ y id:=by rw[lJ h0 h hr,if_pos h1]
theorem fg_0 {y:Yard}{id:Int}{r:Run}(h0:aG y=true) (h:¬aF y id<0) (hr:y.runs[(aF y id).toNat]? = some r) (h1:¬r.state=1):(bE2 y id (aF y id).toNat,(0:Int))=aZ y id:=by rw[lJ h0 h hr,if_neg h1]
theorem Forget_s (y:Yard) (id:Int) (hid:I64 id) (hw:y.wt<=1048576):Ct1 prog 182 [.S y,.I id] [.S (aZ y id).1,.I (aZ y id).2]:=
 .one (aZ y id) (rk:=fun q=>[.S q.1,.I q.2])<|vc func182 (fun (hg:gin [Par.S y,Par.I id])=>let gy:=hg.1.1
  let hsl:=dJ y hw
  .c func61 (eI y hw) (hg:=⟨gy,trivial⟩) fun _=>.c func119 (jO y id hw) (hg:=⟨gy,trivial⟩) fun _=>.c func72 (jM y hw) (hg:=⟨gy,trivial⟩) fun _=>.v (aG y)
   (fun h=>.rt (y,8) ⟨fg_8s h,gy,trivial⟩)
   (fun h=>.s (aF y id<0)
    (fun h2=>.rt (y,10) ⟨(uV h h2).symm,gy,trivial⟩)
    (fun h2=>.ex (uH h2) fun r hr=>let hrl:(aF y id).toNat<y.runs.length:=(gsi_.1 hr).1
     .ye hr (aF y id) (he:=by omega) fun gr=>.s (r.state=1)
      (fun h3=>.rt (y,13) ⟨fg_13 h h2 hr h3,gy,trivial⟩)
      (fun h3=>.hr (fgR y.runs (aF y id).toNat (aF y id) aA hrl aA)<|.g 5 (fg_er y.runs (aF y id).toNat)<|.sh 5 <|
       .la (Γ:=Nat) (fun i=>i<=y.shelf.length) (fun i=>y.shelf.length-i) (fun i=>[vI 8 i]) (fun i=>[oO 4 (rN id y.shelf i)]) 0 (h:=Nat.zero_le _) fun i hi tk=>let hfl:=fgTo_len id y.shelf i
        .s ((i:Int)<(rN id y.shelf i).length)
         (fun h4=>.ex (p:=fun l=>y.shelf[i]? = some l) ⟨_,getElem?_eq_getElem aA⟩ fun l hl=>let hll:=iK hl hw
          .e Entry<|.l (Γ:=Nat) (fun j=>j<=l.length) (fun j=>l.length-j) [777777,9,54] [777777] [777777] (fun j=>[vI 10 j,vR 9 10]) (fun j=>[oR 10 121 (flE id (l.take j))]) 0 (h:=Nat.zero_le _) fun j hj tj=>let hfe:=bQ4 id (l.take j)
           .y (uY (id:=id) hl) fun _=>.s ((j:Int)<l.length)
            (fun h5=>.y (uY (id:=id) hl) fun _=>.x l j (h:=by omega) fun e he ge=>.u (e.run=id)
             (fun h6=>.y (uY (id:=id) hl) fun _=>.y he fun _=>.a (flE id (l.take j)) e 32 (hy:=ge) (h63:=by rw[length_take]at hfe;unfold maxLen;omega) (hby:=by rw[length_take]at hfe;omega)<|.g 10 (flE_t he h6).symm<|.p j 1<|.n tj (j+1) [])
             (fun h6=>.g 10 (flE_f he h6).symm<|.p j 1<|.n tj (j+1) []))
            (fun h5=>.sh 10<|.g 10 (show flE id (l.take j)=flE id l by rw[take_of_length_le aA])<|.d 4 (uY (id:=id) hl) fun _=>.i i<|.wt 52<|.f 4 (rN id y.shelf i) (flE id l) (h:=trivial)<|.g 4 (bE5 (id:=id) hl)<|.p i 1<|.n tk (i+1) []))
         (fun h4=>.g 4 (bE6 (id:=id) (xss:=y.shelf) (i:=i) aA)<|.rt (bE2 y id (aF y id).toNat,0) ⟨fg_0 h h2 hr h3,gy,trivial⟩)))) ) aB
structure SubJ (y:Yard) (id:Int) (p:Plan):Prop where
 ss:4<=y.shelf.length
 sq:0<=y.seq/\y.seq<=4000000000
 tl:(aX id p).tasks.length<=12
 tk:(aH (aX id p).tasks 2).length<=12
 ln:(y.shelf.getD (aU (aX id p).id).toNat []).length<=80
 r8:y.runs.length<8
 nw:kR id p=true
 ok:(bW6 y id p).ok
theorem sub_j {y:Yard}{id:Int}{p:Plan}(gp:p.ok) (h0:aG y=true) (h1:inB id 1 9999=true) (h3:aC p=0) (h4:gE y p=true):SubJ y id p:=by
 have hY:=iA h0;have hplr:=aZ7 h3;have hrq:y.seq<=999999000-p.tasks/\y.runs.length<8:=by unfold gE at h4;simp at h4;omega
 have hsq:=hY.seq;have hss:=hY.shelf;have htl:(aX id p).tasks.length=p.tasks.toNat:=fJ p _;have htk:(aH (aX id p).tasks 2).length<=(aX id p).tasks.length:=eP _ _ _;have hsh:=eQ id;have hnow:=hY.now;refine⟨by omega,by omega,by omega,by omega,Nat.le_trans (kK hY _ (by have:aU (aX id p).id=aU id:=rfl;omega)) eZ,hrq.2,by unfold kR;simp[h1,h3],?_⟩;show I64 _/\I64 _;simp only[bW6,I64];omega
theorem sub_8 {y:Yard}{id:Int}{p:Plan}(h0:aG y=false):(y,(8:Int))=aV y id p:=by unfold aV;rw[if_pos h0]
theorem sub_5 {y:Yard}{id:Int}{p:Plan}(h0:aG y=true) (h1:inB id 1 9999=false):(y,(5:Int))=aV y id p:=by unfold aV;rw[if_neg (by rw[h0];decide),if_pos h1]
theorem sub_6 {y:Yard}{id:Int}{p:Plan}(h0:aG y=true) (h1:inB id 1 9999=true) (h2:0<=aF y id):(y,(6:Int))=aV y id p:=by unfold aV;rw[if_neg (by rw[h0];decide),if_neg (by rw[h1];decide),if_pos h2]
theorem sub_p {y:Yard}{id:Int}{p:Plan}(h0:aG y=true) (h1:inB id 1 9999=true) (h2:¬0<=aF y id) (h3:¬aC p=0):(y,aC p)=aV y id p:=by unfold aV;rw[if_neg (by rw[h0];decide),if_neg (by rw[h1];decide),if_neg h2,if_pos h3]
theorem sub_7 {y:Yard}{id:Int}{p:Plan}(h0:aG y=true) (h1:inB id 1 9999=true) (h2:¬0<=aF y id) (h3:aC p=0) (h4:gE y p=false):(y,(7:Int))=aV y id p:=by unfold aV;rw[if_neg (by rw[h0];decide),if_neg (by rw[h1];decide),if_neg h2,if_neg (by simp[h3]),if_pos h4]
theorem sub_0 {y:Yard}{id:Int}{p:Plan}{q:Int×List (List Entry)}(h0:aG y=true) (h1:inB id 1 9999=true) (h2:¬0<=aF y id) (h3:aC p=0) (h4:gE y p=true) (hq:tM (aX id p) (aH (aX id p).tasks 2) y.seq y.shelf q):((⟨y.now,q.1,q.2,y.runs++[aX id p]⟩:Yard),(0:Int))=aV y id p:=by
 unfold aV;rw[if_neg (by rw[h0];decide),if_neg (by rw[h1];decide),if_neg h2,if_neg (by simp[h3]),if_neg (by rw[h4];decide)];have hq:q=_:=hq;rw[hq];rfl
theorem sub_g {y:Yard}{id:Int}{p:Plan}{q:Int×List (List Entry)}(hj:SubJ y id p) (hq:tM (aX id p) (aH (aX id p).tasks 2) y.seq y.shelf q):(⟨y.now,q.1,q.2,y.runs++[aX id p]⟩:Yard).ok:=by
 have hq:q=_:=hq;rw[hq];exact hj.ok
theorem new_t {P:Program}{F:FuncId}{id:Int}{p:Plan}{ps:List Par}(h:kR id p=true) (C:Ct1 P F ps [.S (aE0 id p),.B (kR id p)]):Ct1 P F ps [.S (aX id p),.B true]:=by rw[bZ7 h,h]at C;exact C
theorem Submit_s (y:Yard) (id:Int) (p:Plan) (hw:y.wt<=1048576) (hp:p.wt<=1048576):Ct1 prog 176 [.S y,.I id,.S p] [.S (aV y id p).1,.I (aV y id p).2]:=
 .one (aV y id p) (rk:=fun q=>[.S q.1,.I q.2])<|vc func176 (fun (hg:gin [Par.S y,Par.I id,Par.S p])=>let gy:=hg.1.1
  let gp:p.ok:=hg.2.1.1
  .c func61 (CopyYardR_s y hw) (hg:=⟨gy,trivial⟩) fun _=>.c func72 (jM y hw) (hg:=⟨gy,trivial⟩) fun _=>.v (aG y) (fun h0=>.rt (y,8) ⟨sub_8 h0,gy,trivial⟩) (fun h0=>
  .c func38 (InV id 1 9999) fun _=>.v (inB id 1 9999) (fun h1=>.rt (y,5) ⟨sub_5 h0 h1,gy,trivial⟩) (fun h1=>
  .c func119 (jO y id hw) (hg:=⟨gy,trivial⟩) fun _=>.s ((0:Int)<=aF y id) (fun h2=>.rt (y,6) ⟨sub_6 h0 h1 h2,gy,trivial⟩) (fun h2=>
  .c func170 (mR p) (hg:=⟨gp,trivial⟩) fun _=>.u (aC p=0) (fun h3=>.c func170 (mR p) (hg:=⟨gp,trivial⟩) fun _=>.rt (y,aC p) ⟨sub_p h0 h1 h2 h3,gy,trivial⟩) (fun h3=>
  .c func208 (RoomFor_s y p hw) (hg:=⟨gy,gp,trivial⟩) fun _=>.v (gE y p) (fun h4=>.rt (y,7) ⟨sub_7 h0 h1 h2 h3 h4,gy,trivial⟩) (fun h4=>let hj:=sub_j gp h0 h1 h3 h4
  .c func197 (new_t hj.nw (RunNew_s id p)) (hg:=⟨gp,trivial⟩) fun hz=>let gr:(aX id p).ok:=hz.1.1
  .az inferInstance y.runs (aX id p) gr 96 (by have:=hj.r8;unfold maxLen;omega) (by have:=hj.r8;omega)<|.in_ func209 (layD true 13 6 7 y.now y.seq y.shelf zRun (aX id p) hj.ss (Nat.le_trans hj.ln aA) (by have:=hj.tl;omega) hj.sq gr (fun _=>rfl)) fun q hq0=>let hq:tM (aX id p) (aH (aX id p).tasks 2) y.seq y.shelf q:=(by rw[<- fresh_zero];exact hq0)
      .zr 7<|.rt (⟨y.now,q.1,q.2,y.runs++[aX id p]⟩,0) ⟨sub_0 h0 h1 h2 h3 h4 hq,sub_g hj hq,trivial⟩)))))) aB
theorem dd_wt {d:Deed}(h:aQ d=true):d.plan.wt<=1048576:=by have:=deedOk_edges h;unfold Plan.wt;omega
theorem bR5 {d:Deed}(h:aQ d=true):1<=d.kind/\d.kind<=8:=by
 unfold aQ at h;simp only[Bool.and_eq_true]at h;exact inB_iff.1 h.1.1.1
theorem do_0 {y:Yard}{d:Deed}(h:aQ d=false):(y,dK 5)=doD y d:=by unfold doD;rw[if_pos h]
theorem do_1 {y:Yard}{d:Deed}(h:aQ d=true) (hk:d.kind=1):((aV y d.run d.plan).1,dK (aV y d.run d.plan).2)=doD y d:=by unfold doD;rw[if_neg (by rw[h];simp),if_pos hk]
theorem do_2 {y:Yard}{d:Deed}(h:aQ d=true) (hk:d.kind=2):eL y d.worker d.draw=doD y d:=by unfold doD;rw[if_neg (by rw[h];simp),if_neg aA,if_pos hk]
theorem do_3 {y:Yard}{d:Deed}(h:aQ d=true) (hk:d.kind=3):(dV y d.run d.task d.try_,dK (dD y d.run d.task d.try_))=doD y d:=by unfold doD;rw[if_neg (by rw[h];simp),if_neg aA,if_neg aA,if_pos hk]
theorem do_4 {y:Yard}{d:Deed}(h:aQ d=true) (hk:d.kind=4):(mC y d.run d.task d.try_,dK (dD y d.run d.task d.try_))=doD y d:=by unfold doD;rw[if_neg (by rw[h];simp),if_neg aA,if_neg aA,if_neg aA,if_pos hk]
theorem do_5 {y:Yard}{d:Deed}(h:aQ d=true) (hk:d.kind=5):((dA y).1,dK (dA y).2)=doD y d:=by unfold doD;rw[if_neg (by rw[h];simp),if_neg aA,if_neg aA,if_neg aA,if_neg aA,if_pos hk]
theorem do_6 {y:Yard}{d:Deed}(h:aQ d=true) (hk:d.kind=6):((bK y d.run).1,dK (bK y d.run).2)=doD y d:=by unfold doD;rw[if_neg (by rw[h];simp),if_neg aA,if_neg aA,if_neg aA,if_neg aA,if_neg aA,if_pos hk]
theorem do_7 {y:Yard}{d:Deed}(h:aQ d=true) (hk:d.kind=7):((aZ y d.run).1,dK (aZ y d.run).2)=doD y d:=by unfold doD;rw[if_neg (by rw[h];simp),if_neg aA,if_neg aA,if_neg aA,if_neg aA,if_neg aA,if_neg aA,if_pos hk]
theorem do_8 {y:Yard}{d:Deed}(h:aQ d=true) (hk:d.kind=8) (c:Int) (hc:(if aG y=true then 0 else 8)=c):(cM y,dK c)=doD y d:=by unfold doD;rw[if_neg (by rw[h];simp),if_neg aA,if_neg aA,if_neg aA,if_neg aA,if_neg aA,if_neg aA,if_neg aA,<- hc]
theorem aV5 (y:Yard) (a b c:Int):(dK (dD y a b c)).ok:=eF (by have:=askF_rng y a b c;omega)
theorem Do_s (y:Yard) (d:Deed) (hw:y.wt<=1048576):Ct1 prog 128 [.S y,.S d] [.S (doD y d).1,.S (doD y d).2]:=
 .one (doD y d) (rk:=fun q=>[.S q.1,.S q.2])<|vc func128 (fun (hg:gin [Par.S y,Par.S d])=>let gy:=hg.1.1
  let gd:d.ok:=hg.2.1.1
  .c func175 (bG1 d) (hg:=⟨gd,trivial⟩) fun _=>.v (aQ d)
   (fun h=>.c func61 (eI y hw) (hg:=⟨gy,trivial⟩) fun _=>.rt (y,dK 5) ⟨do_0 h,gy,eF aA,trivial⟩)
   (fun h=>let hk:=bR5 h
    .s (d.kind=1)
    (fun h1=>.c func176 (Submit_s y d.run d.plan hw (dd_wt h)) (hg:=⟨gy,gd.2.2.1,trivial⟩) fun hz=>.rt ((aV y d.run d.plan).1,dK (aV y d.run d.plan).2) ⟨do_1 h h1,hz.1.1,eF (rV y d.run d.plan),trivial⟩)
    (fun h1=>.s (d.kind=2)
    (fun h2=>.c func177 (Poll_s y d.worker d.draw hw gd.2.2.2.2.2.2) (hg:=⟨gy,trivial⟩) fun hz=>.rt (eL y d.worker d.draw) ⟨do_2 h h2,hz.1.1,hz.2.1.1,trivial⟩)
    (fun h2=>.s (d.kind=3)
    (fun h3=>.c func178 (Complete_s y d.run d.task d.try_ hw) (hg:=⟨gy,trivial⟩) fun hz=>.rt (dV y d.run d.task d.try_,dK (dD y d.run d.task d.try_)) ⟨do_3 h h3,hz.1.1,aV5 _ _ _ _,trivial⟩)
    (fun h3=>.s (d.kind=4)
    (fun h4=>.c func179 (Fail_s y d.run d.task d.try_ hw) (hg:=⟨gy,trivial⟩) fun hz=>.rt (mC y d.run d.task d.try_,dK (dD y d.run d.task d.try_)) ⟨do_4 h h4,hz.1.1,aV5 _ _ _ _,trivial⟩)
    (fun h4=>.s (d.kind=5)
    (fun h5=>.c func180 (Tick_s y hw) (hg:=⟨gy,trivial⟩) fun hz=>.rt ((dA y).1,dK (dA y).2) ⟨do_5 h h5,hz.1.1,eF (aA5 y),trivial⟩)
    (fun h5=>.s (d.kind=6)
    (fun h6=>.c func181 (Cancel_s y d.run hw) (hg:=⟨gy,trivial⟩) fun hz=>.rt ((bK y d.run).1,dK (bK y d.run).2) ⟨do_6 h h6,hz.1.1,eF (sI y d.run),trivial⟩)
    (fun h6=>.s (d.kind=7)
    (fun h7=>.c func182 (Forget_s y d.run gd.2.1 hw) (hg:=⟨gy,trivial⟩) fun hz=>.rt ((aZ y d.run).1,dK (aZ y d.run).2) ⟨do_7 h h7,hz.1.1,eF (sD y d.run),trivial⟩)
    (fun h7=>.c func183 (Restart_s y hw) (hg:=⟨gy,trivial⟩) fun hz=>.c func72 (jM y hw) (hg:=⟨gy,trivial⟩) fun _=>.v (aG y)
     (fun h9=>.rt (cM y,dK 8) ⟨do_8 h aA 8 (by rw[h9];rfl),hz.1.1,eF aA,trivial⟩)
     (fun h9=>.rt (cM y,dK 0) ⟨do_8 h aA 0 (by rw[h9];rfl),hz.1.1,eF aA,trivial⟩)))))))))) aB
section
variable {p q:Entry->Bool}{xs:List Entry}{k m c:Nat}{e:Entry}{g:Nat×Nat×List Entry}
theorem bR4 (hpq:∀e,q e = !p e) (h:xs.any p=false):xs=xs.filter q:=by
 symm;rw[filter_eq_self];intro x hx;rw[hpq,Bool.not_eq_true'];simpa using any_eq_false.1 h x hx
theorem dl_some (hpq:∀e,q e = !p e) (hk:xs[k]? = some e) (h:(xs.take k).any p=false) (hp:p e=true):xs.take k=(xs.take (k+1)).filter q:=by
 rw[<- cX hk,filter_append,<- bR4 hpq h];simp[hpq,hp]
theorem dl_any (h:xs[k]? = some e) (h0:(xs.take k).any p=false) (hp:¬p e=true):(xs.take (k+1)).any p=false:=by
 rw[<- cX h,any_append,h0];simp[hp]
def DlF (q:Entry->Bool) (xs:List Entry):Option Nat->Prop
 | none=>xs=xs.filter q
 | some k=>k<xs.length/\xs.take k=(xs.take (k+1)).filter q
structure DlJ (q:Entry->Bool) (xs:List Entry) (g:Nat×Nat×List Entry):Prop where
 lt:g.2.1<g.1
 le:g.1<=xs.length
 len:g.2.2.length=xs.length
 tk:g.2.2.take g.2.1=(xs.take g.1).filter q
 dr:g.2.2.drop g.1=xs.drop g.1
theorem DlJ.at_ (h:DlJ q xs g) (he:g.2.2[g.1]? = some e):xs[g.1]? = some e:=by
 have h1:(g.2.2.drop g.1)[0]? = some e:=by simpa using he
 rw[h.dr]at h1;simpa using h1
theorem DlJ.dr1 (h:DlJ q xs g):g.2.2.drop (g.1+1)=xs.drop (g.1+1):=by
 have:=congrArg (fun l=>l.drop 1) h.dr;simpa [drop_drop,Nat.add_comm] using this
theorem DlJ.skip (h:DlJ q xs g) (he:g.2.2[g.1]? = some e) (hq:q e=false):DlJ q xs (g.1+1,g.2.1,g.2.2):=by
 have h1:=h.at_ he;have h2:=(gsi_.1 h1).1;have h3:=h.lt;exact⟨by show g.2.1<g.1+1;omega,h2,h.len,by show g.2.2.take g.2.1=(xs.take (g.1+1)).filter q;rw[<- cX h1,filter_append,h.tk];simp[hq],h.dr1⟩
theorem DlJ.keep (h:DlJ q xs g) (he:g.2.2[g.1]? = some e) (hq:q e=true):DlJ q xs (g.1+1,g.2.1+1,g.2.2.set g.2.1 e):=by
 have h1:=h.at_ he;have h2:=(gsi_.1 h1).1;have h3:=h.lt;have h4:=h.len;refine⟨by show g.2.1+1<g.1+1;omega,h2,by show (g.2.2.set g.2.1 e).length=_;rw[length_set,h4],?_,?_⟩
 ·show (g.2.2.set g.2.1 e).take (g.2.1+1)=(xs.take (g.1+1)).filter q;rw[<- cX h1,filter_append,<- h.tk,<- cX (getElem?_set_self (show g.2.1<g.2.2.length by omega)),take_set_of_le (Nat.le_refl _)];simp[hq]
 show (g.2.2.set g.2.1 e).drop (g.1+1)=xs.drop (g.1+1);rw[drop_set_of_lt aA];exact h.dr1
theorem DlJ.all (h:DlJ q xs g) (hn:¬(g.1:Int)<g.2.2.length):g.2.2.take g.2.1=xs.filter q:=by
 have h4:=h.len;rw[h.tk,take_of_length_le aA]
end
noncomputable def delD (j:Nat) (xs:List Entry) (hl:xs.length<=1048576) (p q:Entry->Bool) (hpq:∀e,q e = !p e) (call:∀{A:Type}{R:A->Prop}(e:Entry),Dsh.good e->D prog R->D prog R):D prog (fun _:Unit=>True):=
 .in_ (R':=DlF q xs) func194 (
  .la (Γ:=Nat) (fun k=>k<=xs.length/\(xs.take k).any p=false) (fun k=>xs.length-k) (fun k=>[vI 8 k]) (fun _=>[]) 0 (h:=⟨Nat.zero_le _,rfl⟩) fun k hk t=>
   .s ((k:Int)<xs.length)
    (fun h=>.x xs k (h:=by omega) fun e he ge=>call e ge<|.sb (p e)
     (fun hp=>.rt (some k) ⟨by omega,dl_some hpq he hk.2 hp⟩)
     (fun hp=>.p k 1<|.n t (k+1) [] (h1:=⟨by omega,dl_any he hk.2 (by rw[hp];simp)⟩)))
    (fun h=>.rt none (bR4 hpq (by have:=hk.2;rwa [take_of_length_le aA]at this)))) fun o=>match o with
 | none=>fun ho=>.kt ((-1:Int) = -1) rfl<|.g j ho<|.rt () trivial
 | some k=>fun ho=>let hk:k<xs.length:=ho.1
  .kf ((k:Int) = -1) aA<|.p k 1<|.la (Γ:=Nat×Nat×List Entry) (DlJ q xs) (fun g=>xs.length-g.1) (fun g=>[vI 6 g.1,vI 5 g.2.1]) (fun g=>[oO j g.2.2]) (k+1,k,xs) (h:=⟨Nat.lt_succ_self k,hk,rfl,ho.2,rfl⟩) fun g hJ t=>
   let h1:=hJ.lt
   let h2:=hJ.le
   let h3:=hJ.len
   .s ((g.1:Int)<g.2.2.length)
    (fun h=>.x g.2.2 g.1 (h:=by omega) fun e he ge=>call e ge<|.v (p e)
     (fun hp=>.ex (p:=fun x=>g.2.2[g.2.1]? = some x) ⟨g.2.2[g.2.1]'(by omega),getElem?_eq_getElem _⟩ fun x hx=>.d j hx fun _=>.i g.2.1<|.wt 34<|.f j g.2.2 e (h:=ge)<|.p g.2.1 1<|.p g.1 1<|.n t (g.1+1,g.2.1+1,g.2.2.set g.2.1 e) [] (h1:=hJ.keep he (by rw[hpq,hp];rfl)) (h2:=by show xs.length-(g.1+1)<_;omega))
     (fun hp=>.p g.1 1<|.n t (g.1+1,g.2.1,g.2.2) [] (h1:=hJ.skip he (by rw[hpq,hp];rfl)) (h2:=by show xs.length-(g.1+1)<_;omega)))
    (fun h=>.dp inferInstance g.2.2 g.2.1 aA g.2.1 rfl<|.cz inferInstance j g.2.2 g.2.1 aA<|.dz<|.g j (hJ.all h)<|.rt () trivial)
theorem bS7 (y:Yard) (sh:Int) (hw:y.wt<=1048576):Ct1 prog 137 [.S y,.I sh] [.S (aT y sh)]:=
 .one (aT y sh) (rk:=fun x=>[.S x])<|vc func137 (fun (hg:gin [Par.S y,Par.I sh])=>let gy:=hg.1.1
  let hsl:=dJ y hw
  .c func59 (eJ y hw) (hg:=⟨gy,trivial⟩) fun _=>.m (y.shelf.length:Int) 1 (h:=by unfold I64;omega)<|.c func29 (bR sh 0 ((y.shelf.length:Int)-1)) fun _=>.v (inB sh 0 ((y.shelf.length:Int)-1))
   (fun h=>.rt y ⟨sw_no h,gy,trivial⟩)
   (fun h=>.ex (tA h) fun l hl=>let hll:=iK hl hw
    .d 4 hl fun _=>.ie sh.toNat sh (he:=hQ h)<|.in_ func153 (delD 8 l aA (fun e=> !fresh y e) (fresh y) (fun e=>(Bool.not_not _).symm)
     (fun e ge d=>.in_ (R':=fun _:Unit=>True) func191 (.c func161 (bT6 y e hw) (hg:=⟨gy,ge,trivial⟩) fun _=>.rt () trivial) fun _ _=>d)) fun _ _=>
    .ie sh.toNat sh (he:=hQ h)<|.wt 26<|.f 4 y.shelf (l.filter (fresh y)) (h:=trivial) <|
     .rt ⟨y.now,y.seq,y.shelf.set sh.toNat (l.filter (fresh y)),y.runs⟩ ⟨sw_in h hl,gy,trivial⟩)) aB
noncomputable def delRunInc (xs:List Run) (k:Nat) (hk:k<xs.length) (hxl:xs.length<=1048576) (e1 e2:Int) (h1:e1=k) (h2:e2=(k:Int)+1):Inc prog 152 (fun _:Unit=>True) where
 T:=fun s us K=>match us with
  | [.on (.ce (.rf j h)),.on (.ce (.vl v1)),.on (.ce (.vl v2))]=>match lku s.O j with
   | some (.own i h' xs' _)=>.e0 h h'<|.e1 (⟨i,xs'⟩:Dat) ⟨instShapeRun,xs⟩<|.e0 v1 (I e1)<|.e0 v2 (I e2)<|.fn fun r:Hd×List Nat=>K () (.on (.ce (.rf j r.1))) ⟨s.E,(j,.own instShapeRun r.1 (xs.eraseIdx k) r.2)::bB s.O j,lasting s.B,s.nx⟩
   | _=>.no
  | _=>.no
 ok:=by
  intro w0 W s us K h st fa;split at h
  ·next j hd v1 v2=>
   split at h
   ·next i h' xs' fp hj=>
    obtain⟨rfl,h2',h3,h4,h5⟩:=h;subst h1 h2;simp only[Dat.mk.injEq]at h2';obtain⟨rfl,h6,h7⟩:=h2';obtain⟨rfl,rfl⟩:=And.intro (eq_of_heq h6) (eq_of_heq h7);subst h3 h4;have st2:=St.take (rs:=[]) (by simpa [Or,S.rs] using st) hj;rw[append_nil]at st2;refine(DeleteRun st2 hk hxl).mono ?_;rintro e W' ⟨v',fp',rfl,st'⟩;obtain⟨hd,rfl,_⟩:=Sl.hd (gQ (st'.get 0 rfl));exact⟨(),.on (.ce (.rf j hd)),_,trivial,h5 (hd,fp'),rfl,st',fa.lasting⟩
   exact h.elim
  exact h.elim
theorem fg_8 {y:Yard}{id:Int}(h:aG y=false):(y,(8:Int))=aZ y id:=by unfold aZ;rw[if_pos h]
theorem Forget_i (y:Yard) (id:Int) (hid:I64 id) (hw:y.wt<=1048576):Ct1 prog 97 [.S y,.I id] [.S (aZ y id).1,.I (aZ y id).2]:=
 .one (aZ y id) (rk:=fun q=>[.S q.1,.I q.2])<|vc func97 (fun (hg:gin [Par.S y,Par.I id])=>let gy:=hg.1.1
  let hsl:=dJ y hw
  .c func59 (eJ y hw) (hg:=⟨gy,trivial⟩) fun _=>.c func103 (jP y id hw) (hg:=⟨gy,trivial⟩) fun _=>.c func53 (jN y hw) (hg:=⟨gy,trivial⟩) fun _=>.v (aG y)
   (fun h=>.rt (y,8) ⟨fg_8 h,gy,trivial⟩)
   (fun h=>.s (aF y id<0)
    (fun h2=>.rt (y,10) ⟨(uV h h2).symm,gy,trivial⟩)
    (fun h2=>.ex (uH h2) fun r hr=>let hrl:(aF y id).toNat<y.runs.length:=(gsi_.1 hr).1
     .ye hr (aF y id) (he:=pO h2) fun gr=>.s (r.state=1)
      (fun h3=>.rt (y,13) ⟨by rw[lJ h h2 hr,if_pos h3],gy,trivial⟩)
      (fun h3=>.p (aF y id) 1<|.iv _ func152 (delRunInc y.runs (aF y id).toNat hrl aA (aF y id) (aF y id+1) (pO h2) aA) fun _ _=>
       .g 5 (fgTo_zero id y.shelf).symm<|.la (Γ:=Nat) (fun k=>k<=y.shelf.length) (fun k=>y.shelf.length-k) (fun k=>[vI 42 k]) (fun k=>[oO 5 (rN id y.shelf k)]) 0 fun k hk t=>
        .s ((k:Int)<y.shelf.length)
         (fun h4=>.ex (p:=fun l=>y.shelf[k]? = some l) ⟨y.shelf[k]'(by omega),getElem?_eq_getElem _⟩ fun l hl=>let hll:=iK hl hw
          .d 5 (uY (id:=id) hl) fun _=>.i k<|.in_ func153 (delD 12 l hll (fun e=>decide (e.run=id)) (fun e=> !decide (e.run=id)) (fun _=>rfl)
           (fun e ge d=>.in_ (R':=fun _:Unit=>True) func154 (.rt () trivial) fun _ _=>d)) fun _ _=>
          .i k<|.wt 55<|.f 5 (rN id y.shelf k) (flE id l) (h:=trivial)<|.g 5 (bE5 (id:=id) hl)<|.p k 1<|.n t (k+1) [])
         (fun h4=>.g 5 (bE6 (id:=id) (xss:=y.shelf) (show k=y.shelf.length by omega))<|.rt (bE2 y id (aF y id).toNat,0) ⟨by rw[lJ h h2 hr,if_neg h3],gy,trivial⟩)))) ) aB
theorem RunLeft_i (r:Run) (hl:r.plan.edges.length<=1048576) (htl:r.tasks.length<=1048576):Ct1 prog 151 [.S r] [.S (fQ r)]:=
 .one (fQ r) (rk:=fun x=>[.S x])<|vc func151 (fun (hg:gin [Par.S r])=>let gr:=hg.1.1
  .c func114 (xG r hl htl) (hg:=⟨gr,trivial⟩) fun _=>.c func102 (bT0 r) (hg:=⟨gr,trivial⟩) fun _=>.sb (dP r)
   (fun h=>.s (r.state=1)
    (fun h1=>.cm _ func193 (bT4 r (-1) htl) trivial fun _ _ _ _=>.rt ⟨r.id,r.plan,4,dQ r.tasks (-1)⟩ ⟨(zN (by unfold pV;rw[h,decide_eq_true h1];rfl)).symm,⟨gr.1,gr.2.1,by show I64 4;unfold I64;omega⟩,trivial⟩)
    (fun h1=>.rt r ⟨bQ1 h1,gr,trivial⟩))
   (fun h=>.rt r ⟨bQ0 h,gr,trivial⟩)) aB
theorem Cancel_i (y:Yard) (id:Int) (hw:y.wt<=1048576):Ct1 prog 96 [.S y,.I id] [.S (bK y id).1,.I (bK y id).2]:=
 .one (bK y id) (rk:=fun q=>[.S q.1,.I q.2])<|vc func96 (fun (hg:gin [Par.S y,Par.I id])=>let gy:=hg.1.1
  .c func59 (eJ y hw) (hg:=⟨gy,trivial⟩) fun _=>.c func103 (jP y id hw) (hg:=⟨gy,trivial⟩) fun _=>.c func53 (jN y hw) (hg:=⟨gy,trivial⟩) fun _=>.v (aG y)
   (fun h=>.rt (y,8) ⟨cD6 h,gy,trivial⟩)
   (fun h=>.s (aF y id<0)
    (fun h2=>.rt (y,10) ⟨(vN h h2).symm,gy,trivial⟩)
    (fun h2=>.ex (uH h2) fun r hr=>.ye hr (aF y id) (he:=pO h2) fun gr=>let hrl:=gJ hw hr
     .u (r.state=1)
      (fun h3=>.rt (y,12) ⟨by rw[lM h h2 hr,if_pos h3],gy,trivial⟩)
      (fun h3=>.d 5 hr fun _=>.ye hr (aF y id) (he:=pO h2) fun _=>.c func151 (RunLeft_i r hrl.2.2 hrl.2.1) (hg:=⟨gr,trivial⟩) fun _=>.ie (aF y id).toNat (aF y id) (he:=pO h2)<|.wt 41<|.f 5 y.runs (fQ r) (h:=bD6 gr) <|
       .rt (bR7 y (aF y id).toNat r,0) ⟨by rw[lM h h2 hr,if_neg (by simp[h3])],gy,trivial⟩)))) aB
theorem Submit_i (y:Yard) (id:Int) (p:Plan) (hw:y.wt<=1048576) (hp:p.wt<=1048576):Ct1 prog 91 [.S y,.I id,.S p] [.S (aV y id p).1,.I (aV y id p).2]:=
 .one (aV y id p) (rk:=fun q=>[.S q.1,.I q.2])<|vc func91 (fun (hg:gin [Par.S y,Par.I id,Par.S p])=>let gy:=hg.1.1
  let gp:p.ok:=hg.2.1.1
  .c func59 (CopyYardR_i y hw) (hg:=⟨gy,trivial⟩) fun _=>.c func53 (jN y hw) (hg:=⟨gy,trivial⟩) fun _=>.v (aG y) (fun h0=>.rt (y,8) ⟨sub_8 h0,gy,trivial⟩) (fun h0=>
  .c func29 (bR id 1 9999) fun _=>.v (inB id 1 9999) (fun h1=>.rt (y,5) ⟨sub_5 h0 h1,gy,trivial⟩) (fun h1=>
  .c func103 (jP y id hw) (hg:=⟨gy,trivial⟩) fun _=>.s ((0:Int)<=aF y id) (fun h2=>.rt (y,6) ⟨sub_6 h0 h1 h2,gy,trivial⟩) (fun h2=>
  .c func132 (iQ p) (hg:=⟨gp,trivial⟩) fun _=>.u (aC p=0) (fun h3=>.c func132 (iQ p) (hg:=⟨gp,trivial⟩) fun _=>.rt (y,aC p) ⟨sub_p h0 h1 h2 h3,gy,trivial⟩) (fun h3=>
  .c func133 (RoomFor_i y p hw) (hg:=⟨gy,gp,trivial⟩) fun _=>.v (gE y p) (fun h4=>.rt (y,7) ⟨sub_7 h0 h1 h2 h3 h4,gy,trivial⟩) (fun h4=>let hj:=sub_j gp h0 h1 h3 h4
  .c func134 (new_t hj.nw (RunNew_i id p)) (hg:=⟨gp,trivial⟩) fun hz=>let gr:(aX id p).ok:=hz.1.1
  .az inferInstance y.runs (aX id p) gr 96 (by have:=hj.r8;unfold maxLen;omega) (by have:=hj.r8;omega)<|.c func136 (kD (aX id p) 2 (by have:=hj.tl;omega)) (hg:=⟨gr,trivial⟩) fun _=>.in_ func135 (bW8 8 6 7 y.now y.seq y.shelf (aX id p) (aH (aX id p).tasks 2) hj.ss (by have:=hj.ln;have:=hj.tk;omega) hj.sq gr) fun q hq=>.zr 7<|.rt (⟨y.now,q.1,q.2,y.runs++[aX id p]⟩,0) ⟨sub_0 h0 h1 h2 h3 h4 hq,sub_g hj hq,trivial⟩)))))) aB
theorem cD5 {y out:Yard}{n k i:Nat}{r:Run}{t:Task}(hY:YardIs y) (h:RI y out n) (hn:n<=900) (hr:out.runs[k]? = some r) (ht:r.tasks[i]? = some t) (h3:t.state=3) (hR:RunIs r):(r.ok/\r.tasks.length<=12)/\(4<=out.shelf.length/\(out.shelf.getD (aU (bJ r i).id).toNat []).length<=1000000/\(0<=out.seq/\out.seq<=4000000000))/\(bJ r i).tasks.length<=1000/\(bJ r i).ok/\cR out k r (bJ r i)=iG out k i:=by
 have h1:=hR.small;have h2:=(hR.fails ht h3).small;exact⟨⟨h1.1,h1.2.1⟩,h.chg hY aA _,by omega,h2.1,(bJ9 hr ht h3).symm⟩
structure LtI (y out:Yard) (j k i:Nat) (id tr:Int) (r:Run) (t:Task):Prop where
 p:(bX y)[j]? = some (k,i)
 row:((bX y).map (fB y))[j]? = some [id,(i:Int),tr]
 ix:aF out id=(k:Int)
 hr:out.runs[k]? = some r
 is:RunIs r
 ht:r.tasks[i]? = some t
 ho:eE out id (i:Int) tr=decide (t.state=3)
theorem li_at {y out:Yard}{n j:Nat}{m:Int}(hY:YardIs y) (hm:0<=m/\m<=999999980) (h:RI (lE m y) out n) (hj:j<(bX y).length):∃q:(Nat×Nat)×(Int×Int)×Run×Task,LtI y out j q.1.1 q.1.2 q.2.1.1 q.2.1.2 q.2.2.1 q.2.2.2:=by
 obtain⟨k,i,r,t,hp,hr,ht,hrow⟩:=bC3 hj;obtain⟨r2,t2,h1,h2,h3,h4⟩:=h.holds (hY.at hm) hr ht;exact⟨((k,i),(r.id,t.try_),r2,t2),⟨hp,hrow,cE (h.ix (hY.at hm) hr),h1,h2,h3,h4⟩⟩
theorem tick_e {y out:Yard}{j:Nat}(h0:aG y=true) (h:¬999999980<y.now+1) (ho:out=jR (lE (y.now+1) y) ((bX y).take j)) (hj:¬j<(bX y).length):(out,(0:Int))=dA y:=by
 unfold dA;rw[if_neg (by rw[h0];simp),if_neg h];unfold aX6;rw[ho,take_of_length_le aA]
theorem Tick_i (y:Yard) (hw:y.wt<=1048576):Ct1 prog 95 [.S y] [.S (dA y).1,.I (dA y).2]:=
 .one (dA y) (rk:=fun q=>[.S q.1,.I q.2])<|vc func95 (fun (hg:gin [Par.S y])=>let gy:=hg.1.1
  .c func59 (eJ y hw) (hg:=⟨gy,trivial⟩) fun _=>.c func53 (jN y hw) (hg:=⟨gy,trivial⟩) fun _=>.v (aG y)
   (fun h=>.rt (y,8) ⟨aX4 h,gy,trivial⟩)
   (fun h=>let hY:=iA h
    let hn:=hY.now
    .p y.now 1<|.s (999999980<y.now+1)
     (fun h7=>.rt (y,7) ⟨aX5 h h7,gy,trivial⟩)
     (fun h7=>let hln:=cA6 hY
      let hml:((bX y).map (fB y)).length=(bX y).length:=length_map _
      let hm:0<=y.now+1/\y.now+1<=999999980:=aA
      .p y.now 1<|.c func148 (LateOf_i y hY) (hg:=⟨gy,trivial⟩) fun _=>
      .la (Γ:=Nat×Yard) (fun g=>g.1<=(bX y).length/\g.2=jR (lE (y.now+1) y) ((bX y).take g.1)) (fun g=>(bX y).length-g.1) (fun g=>[vI 27 g.1]) (fun g=>oO 7 ((bX y).map (fB y))::ryS g.2 6 4 5) (0,lE (y.now+1) y) (h:=⟨Nat.zero_le _,(sL _ _).symm⟩) fun g hJ tk=>
       let hRI:RI (lE (y.now+1) y) g.2 200:=(by rw[hJ.2];exact(RI.list (hY.at hm) (l:=bX y) (fun p hp=>zK (y:=y) p hp) g.1).mono aA)
       .s ((g.1:Int)<((bX y).map (fB y)).length)
        (fun hlt=>.ex (li_at hY hm hRI (show g.1<(bX y).length by omega)) fun q hq=>
         let row:=[q.2.1.1,(q.1.2:Int),q.2.1.2]
         let i0:row[0]? = some q.2.1.1:=rfl
         let i1:row[1]? = some (q.1.2:Int):=rfl
         let i2:row[2]? = some q.2.1.2:=rfl
         .d 7 hq.row fun _=>.i g.1<|.y i0 fun _=>.y i1 fun _=>.y i2 fun _=>.c func149 (aW4 g.2 q.2.1.1 (q.1.2:Int) q.2.1.2 (Nat.le_trans (hRI.wt (hY.at hm) aA) aA)) (hg:=⟨hRI.ok (hY.at hm) aA,trivial⟩) fun _=>.sb (eE g.2 q.2.1.1 (q.1.2:Int) q.2.1.2)
          (fun hh=>let h3:q.2.2.2.state=3:=of_decide_eq_true (hq.ho.symm.trans hh)
           let hT:=cD5 (hY.at hm) hRI aA hq.hr hq.ht h3 hq.is
           .y i0 fun _=>.c func103 (jP g.2 q.2.1.1 (Nat.le_trans (hRI.wt (hY.at hm) aA) aA)) (hg:=⟨hRI.ok (hY.at hm) aA,trivial⟩) fun _=>
           .in_ func143 (zQ 6 4 5 22 g.2.now g.2.seq g.2.shelf g.2.runs q.1.1 (aF g.2 q.2.1.1) hq.ix q.2.2.1 (bJ q.2.2.1 q.1.2) hq.hr aA hT.2.2.1 hT.1.1 hT.2.2.2.1 hT.2.1.1 hT.2.1.2.1 hT.2.1.2.2
            (fun d=>.in_ (R':=fun _:Unit=>True) func150 (.y i1 fun _=>.cm _ func147 (aW7 q.2.2.1 (q.1.2:Int) q.2.2.2 aA hq.ht aA) trivial fun _ _ _ _=>.rt () trivial) fun _ _=>d)) fun z hz=>
           .f 7 ((bX y).map (fB y)) row (h:=trivial)<|.g 7 (uB hq.row)<|.p g.1 1<|.n tk (g.1+1,⟨g.2.now,z.1,z.2,g.2.runs.set q.1.1 (bJ q.2.2.1 q.1.2)⟩) [] (h1:=⟨by show g.1+1<=_;omega,by show (⟨g.2.now,z.1,z.2,_⟩:Yard)=_;rw[aR8 hz,hT.2.2.2.2,lU hq.p,<- hJ.2]⟩) (h2:=by show (bX y).length-(g.1+1)<_;omega))
          (fun hh=>let h3:¬q.2.2.2.state=3:=of_decide_eq_false (hq.ho.symm.trans hh)
           .f 7 ((bX y).map (fB y)) row (h:=trivial)<|.g 7 (uB hq.row)<|.p g.1 1<|.n tk (g.1+1,g.2) [] (h1:=⟨by show g.1+1<=_;omega,by show g.2=_;rw[lU hq.p,<- hJ.2];exact(yW hq.hr hq.ht h3).symm⟩) (h2:=by show (bX y).length-(g.1+1)<_;omega)))
        (fun hge=>.rt (g.2,0) ⟨tick_e (j:=g.1) h h7 hJ.2 aA,hRI.ok (hY.at hm) aA,trivial⟩)))) aB
theorem Restart_i (y:Yard) (hw:y.wt<=1048576):Ct1 prog 98 [.S y] [.S (cM y)]:=
 .one (cM y) (rk:=fun x=>[.S x])<|vc func98 (fun (hg:gin [Par.S y])=>let gy:=hg.1.1
  .c func59 (eJ y hw) (hg:=⟨gy,trivial⟩) fun _=>.c func53 (jN y hw) (hg:=⟨gy,trivial⟩) fun _=>.v (aG y)
   (fun h=>.rt y ⟨by unfold cM;rw[if_neg (by rw[h];simp)],gy,trivial⟩)
   (fun h=>let hY:=iA h
    let h8:=hY.runs
    .la (Γ:=Nat×Yard) (fun g=>g.1<=y.runs.length/\g.2=kO y g.1) (fun g=>y.runs.length-g.1) (fun g=>[vI 17 g.1]) (fun g=>ryS g.2 6 4 5) (0,y) (h:=⟨Nat.zero_le _,rfl⟩) fun g hJ tk=>
     let hRK:RI y g.2 96:=(by rw[hJ.2];exact aY9 hY hJ.1)
     .s ((g.1:Int)<y.runs.length)
      (fun hlt=>.x y.runs g.1 (h:=by omega) fun r1 hr1 gr1=>
       let hl12:=(hY.run g.1 r1 hr1).1.small.2.1
       .la (Γ:=Nat×Yard) (fun q=>q.1<=r1.tasks.length/\q.2=nH (kO y g.1) g.1 q.1) (fun q=>r1.tasks.length-q.1) (fun q=>[vI 25 q.1]) (fun q=>ryS q.2 6 4 5) (0,g.2) (h:=⟨Nat.zero_le _,hJ.2⟩) fun q hq tq=>
        let hRI:RI y q.2 200:=(by rw[hq.2];exact bN0 hY hr1 hq.1)
        .s ((q.1:Int)<r1.tasks.length)
         (fun hl2=>.x r1.tasks q.1 (h:=by omega) fun t1 ht1 gt1=>.ex (p:=fun z:Run×Task=>q.2.runs[g.1]? = some z.1/\RunIs z.1/\z.1.tasks[q.1]? = some z.2/\eE q.2 r1.id (q.1:Int) t1.try_=decide (z.2.state=3)) (by obtain⟨r2,t2,h1,h2,h3,h4⟩:=hRI.holds hY hr1 ht1;exact⟨(r2,t2),h1,h2,h3,h4⟩) fun z hz=>
          .c func149 (aW4 q.2 r1.id (q.1:Int) t1.try_ (Nat.le_trans (hRI.wt hY aA) aA)) (hg:=⟨hRI.ok hY aA,trivial⟩) fun _=>.sb (eE q.2 r1.id (q.1:Int) t1.try_)
          (fun hh=>let h3:z.2.state=3:=of_decide_eq_true (hz.2.2.2.symm.trans hh)
           let hT:=cD5 hY hRI aA hz.1 hz.2.2.1 h3 hz.2.1
           .in_ func143 (zQ 6 4 5 20 q.2.now q.2.seq q.2.shelf q.2.runs g.1 (g.1:Int) rfl z.1 (bJ z.1 q.1) hz.1 aA hT.2.2.1 hT.1.1 hT.2.2.2.1 hT.2.1.1 hT.2.1.2.1 hT.2.1.2.2
            (fun d=>.in_ (R':=fun _:Unit=>True) func155 (.cm _ func147 (aW7 z.1 (q.1:Int) z.2 aA hz.2.2.1 aA) trivial fun _ _ _ _=>.rt () trivial) fun _ _=>d)) fun u hu=>
           .p q.1 1<|.n tq (q.1+1,⟨q.2.now,u.1,u.2,q.2.runs.set g.1 (bJ z.1 q.1)⟩) [] (h1:=⟨by show q.1+1<=_;omega,by show (⟨q.2.now,u.1,u.2,_⟩:Yard)=_;rw[aR8 hu,hT.2.2.2.2,hq.2];rfl⟩) (h2:=by show r1.tasks.length-(q.1+1)<_;omega))
          (fun hh=>let h3:¬z.2.state=3:=of_decide_eq_false (hz.2.2.2.symm.trans hh)
           .p q.1 1<|.n tq (q.1+1,q.2) [] (h1:=⟨by show q.1+1<=_;omega,by show q.2=iG (nH (kO y g.1) g.1 q.1) g.1 q.1;rw[<- hq.2];exact(yW hz.1 hz.2.2.1 h3).symm⟩) (h2:=by show r1.tasks.length-(q.1+1)<_;omega)))
         (fun hl2=>.p g.1 1<|.n tk (g.1+1,q.2) [] (h1:=⟨by show g.1+1<=_;omega,by show q.2=_;rw[hq.2];exact aZ0 hr1 aA⟩) (h2:=by show y.runs.length-(g.1+1)<_;omega)))
      (fun hge=>.rt g.2 ⟨by unfold cM;rw[if_pos h,hJ.2];congr 1;omega,hRK.ok hY aA,trivial⟩))) aB
theorem aA3 {g:Run->Nat->Run}{y:Yard}{id task try_:Int}{k:Nat}{r:Run}{q:Int×List (List Entry)}(h:dD y id task try_=0) (hk:bS y id=some k) (hr:y.runs[k]? = some r) (hq:tM (g r task.toNat) (cQ r (g r task.toNat)) y.seq y.shelf q):((⟨y.now,q.1,q.2,y.runs.set k (g r task.toNat)⟩,dD y id task try_):Yard×Int)=(rU g y id task try_,dD y id task try_):=by
 have hq:q=_:=hq;subst hq;rw[nC h hk hr];rfl
theorem bK2 {g:Run->Nat->Run}{y:Yard}{id task try_:Int}{k:Nat}{r:Run}{q:Int×List (List Entry)}(hY:YardIs y) (h:dD y id task try_=0) (hk:bS y id=some k) (hr:y.runs[k]? = some r) (hl:(g r task.toNat).tasks.length<=1000) (hq:tM (g r task.toNat) (cQ r (g r task.toNat)) y.seq y.shelf q):(⟨y.now,q.1,q.2,y.runs.set k (g r task.toNat)⟩:Yard).ok:=by
 have:=congrArg Prod.fst (aA3 h hk hr hq);simp only at this;rw[this,nC h hk hr];exact tH hY hl
theorem bK1 {g:Run->Nat->Run}{y:Yard}{id task try_:Int}(h:¬dD y id task try_=0):(y,dD y id task try_)=(rU g y id task try_,dD y id task try_):=by rw[nB h]
structure AskJ (y:Yard) (id task:Int) (q:Nat×Run×Task):Prop where
 Y:YardIs y
 ix:bS y id=some q.1
 at_:y.runs[q.1]? = some q.2.1
 R:RunIs q.2.1
 pos:0<=task
 tk:q.2.1.tasks[task.toNat]? = some q.2.2
 run:q.2.2.state=3
theorem cE5 {y:Yard}{id task try_:Int}(h:dD y id task try_=0):∃q,AskJ y id task q:=by
 obtain⟨hY,k,r,t,h1,h2,h3,h4,h5,h6⟩:=xC h;exact⟨(k,r,t),hY,h1,h2,h3,h4,h5,h6⟩
theorem AskJ.small {y:Yard}{id task:Int}{q:Nat×Run×Task}(h:AskJ y id task q):q.2.1.ok/\q.2.1.tasks.length<=12/\4<=y.shelf.length/\(y.shelf.getD (aU q.2.1.id).toNat []).length<=1000000/\(0<=y.seq/\y.seq<=4000000000):=by
 have h1:=h.R.small;have h2:=(RI.start h.Y).chg h.Y (Nat.zero_le _) q.2.1.id;exact⟨h1.1,h1.2.1,h2⟩
theorem Complete_i (y:Yard) (id task try_:Int) (hw:y.wt<=1048576):Ct1 prog 93 [.S y,.I id,.I task,.I try_] [.S (dV y id task try_),.I (dD y id task try_)]:=
 .one (dV y id task try_,dD y id task try_) (rk:=fun q=>[.S q.1,.I q.2])<|vc func93 (fun (hg:gin [Par.S y,Par.I id,Par.I task,Par.I try_])=>let gy:=hg.1.1
  .c func59 (eJ y hw) (hg:=⟨gy,trivial⟩) fun _=>.c func142 (cF1 y id task try_ hw) (hg:=⟨gy,trivial⟩) fun _=>.s (dD y id task try_=0)
   (fun h=>.ex (cE5 h) fun z hz=>let hs:=hz.small
    let hk:=kT z.2.1 task.toNat
    .c func103 (jP y id hw) (hg:=⟨gy,trivial⟩) fun _=>.in_ func143 (zQ 7 5 6 14 y.now y.seq y.shelf y.runs z.1 (aF y id) (cE hz.ix) z.2.1 (fW z.2.1 task.toNat) hz.at_ aA (by rw[hk.2.2.1];omega) hs.1 (doneR_ok hs.1 _) hs.2.2.1 (by rw[hk.1];exact hs.2.2.2.1) hs.2.2.2.2
     (fun d=>.in_ (R':=fun _:Unit=>True) func144 (.cm _ func145 (Done_p z.2.1 task z.2.2 hz.pos hz.tk hz.R) trivial fun _ _ _ _=>.rt () trivial) fun _ _=>d)) fun q hq=>
      .rt (⟨y.now,q.1,q.2,y.runs.set z.1 (fW z.2.1 task.toNat)⟩,dD y id task try_) ⟨aA3 h hz.ix hz.at_ hq,bK2 hz.Y h hz.ix hz.at_ (by rw[hk.2.2.1];omega) hq,trivial⟩)
   (fun h=>.rt (y,dD y id task try_) ⟨bK1 h,gy,trivial⟩)) aB
theorem Fail_i (y:Yard) (id task try_:Int) (hw:y.wt<=1048576):Ct1 prog 94 [.S y,.I id,.I task,.I try_] [.S (mC y id task try_),.I (dD y id task try_)]:=
 .one (mC y id task try_,dD y id task try_) (rk:=fun q=>[.S q.1,.I q.2])<|vc func94 (fun (hg:gin [Par.S y,Par.I id,Par.I task,Par.I try_])=>let gy:=hg.1.1
  .c func59 (eJ y hw) (hg:=⟨gy,trivial⟩) fun _=>.c func142 (cF1 y id task try_ hw) (hg:=⟨gy,trivial⟩) fun _=>.s (dD y id task try_=0)
   (fun h=>.ex (cE5 h) fun z hz=>let hs:=hz.small
    let hk:=jL z.2.1 task.toNat
    .c func103 (jP y id hw) (hg:=⟨gy,trivial⟩) fun _=>.in_ func143 (zQ 7 5 6 14 y.now y.seq y.shelf y.runs z.1 (aF y id) (cE hz.ix) z.2.1 (bJ z.2.1 task.toNat) hz.at_ aA (by rw[hk.2.2.1];omega) hs.1 (failsR_ok hs.1 _) hs.2.2.1 (by rw[hk.1];exact hs.2.2.2.1) hs.2.2.2.2
     (fun d=>.in_ (R':=fun _:Unit=>True) func146 (.cm _ func147 (aW7 z.2.1 task z.2.2 hz.pos hz.tk aA) trivial fun _ _ _ _=>.rt () trivial) fun _ _=>d)) fun q hq=>
      .rt (⟨y.now,q.1,q.2,y.runs.set z.1 (bJ z.2.1 task.toNat)⟩,dD y id task try_) ⟨aA3 h hz.ix hz.at_ hq,bK2 hz.Y h hz.ix hz.at_ (by rw[hk.2.2.1];omega) hq,trivial⟩)
   (fun h=>.rt (y,dD y id task try_) ⟨bK1 h,gy,trivial⟩)) aB
theorem pl_robI {y out:Yard}{h:Nat}{o:Int}(hP:PI y out h) (hh:h<4) (ho:0<=o/\o<=3/\o≠(h:Int)):∃q:List Entry×List Entry,(aT out o).shelf[o.toNat]? = some q.1/\(aT out o).shelf[h]? = some q.2/\((aT out o).shelf.set h (cP q.2 (q.1.take (bH q.1))))[o.toNat]? = some q.1/\q.1.length<=80/\q.2.length<=80 /\
  (⟨(aT out o).now,(aT out o).seq,((aT out o).shelf.set h (cP q.2 (q.1.take (bH q.1)))).set o.toNat (q.1.drop (bH q.1)),(aT out o).runs⟩:Yard)=yP (aT out o) h o.toNat:=by
 have hs:=hP.sw (o:=o) aA;have hne:h≠o.toNat:=by omega
 exact⟨((aT out o).shelf.getD o.toNat [],(aT out o).shelf.getD h []),getD_some aA,getD_some aA,by rw[getElem?_set_ne hne];exact getD_some aA,hs.2 _ aA,hs.2 _ hh,rfl⟩
theorem Poll_i (y:Yard) (w d:Int) (hw:y.wt<=1048576) (hd:I64 d):Ct1 prog 92 [.S y,.I w,.I d] [.S (eL y w d).1,.S (eL y w d).2]:=
 .one (eL y w d) (rk:=fun q=>[.S q.1,.S q.2])<|vc func92 (fun (hg:gin [Par.S y,Par.I w,Par.I d])=>let gy:=hg.1.1
  .c func53 (jN y hw) (hg:=⟨gy,trivial⟩) fun _=>.v (aG y)
   (fun h=>.c func59 (eJ y hw) (hg:=⟨gy,trivial⟩) fun _=>.rt (y,⟨8,0,0,0⟩) ⟨pl_8 h,gy,aM4 8 aA,trivial⟩)
   (fun hy=>let hY:=iA hy
    .c func29 (bR w 0 99) fun _=>.v (inB w 0 99)
    (fun h=>.c func59 (eJ y hw) (hg:=⟨gy,trivial⟩) fun _=>.rt (y,⟨5,0,0,0⟩) ⟨pl_5 hy h,gy,aM4 5 aA,trivial⟩)
    (fun hin=>let hwk:=inB_iff.1 hin
     .q w 4 (h:=by omega)<|.c func137 (bS7 y (w % 4) hw) (hg:=⟨gy,trivial⟩) fun _=>.c func138 (Victims_i (w % 4) d aA hd) fun _=>
     let fin:∀(m:Nat) (out:Yard),out=dN (w % 4).toNat (aT y (w % 4)) (bL (w % 4) d)->PI y out (w % 4).toNat->out.ok->D prog (fun q:Yard×Reply=>q=eL y w d/\rgd [Rk.S q.1,Rk.S q.2]):=fun m out ho hP go=>
      let hl:=zI hP (show (w % 4).toNat<4 by omega)
      let h80:=hP.each (w % 4).toNat aA
      .ye hl (w % 4) (he:=lZ w) fun _=>.c func141 (TakeEntry_i (out.shelf.getD (w % 4).toNat []) aA) fun gt=>.v (bP (out.shelf.getD (w % 4).toNat [])).2.2
       (fun hn=>.rt (out,⟨9,0,0,0⟩) ⟨by rw[<- pl_0 hy hin ho];exact(aF9 (bW0 hn)).symm,go,aM4 9 aA,trivial⟩)
       (fun hn=>let hcs:=bK4 hn
        .ex (pl_at hY hP (show (bP (out.shelf.getD (w % 4).toNat [])).1∈(out.shelf.getD (w % 4).toNat []) by rw[hcs];exact mem_cons_self)) fun q hq=>
        let hnow:0<=out.now/\out.now<=999999980:=(by rw[hP.now];exact hY.now)
        let hrl:(bP (out.shelf.getD (w % 4).toNat [])).2.1.length<=80:=(by have h_:=h80;rw[hcs]at h_;simp only[length_cons]at h_;omega)
        let htr:=hq.is.tries hq.ht
        let h1:I64 (q.2.2.try_+1):=(by unfold I64;omega)
        let h2:I64 (out.now+q.2.1.plan.wait):=(by unfold I64;omega)
        .d 5 hl fun _=>.ie (w % 4).toNat (w % 4) (he:=lZ w)<|.w1<|.f 5 out.shelf (bP (out.shelf.getD (w % 4).toNat [])).2.1 (h:=trivial) <|
        .c func103 (jP ⟨out.now,out.seq,out.shelf.set (w % 4).toNat (bP (out.shelf.getD (w % 4).toNat [])).2.1,out.runs⟩ (bP (out.shelf.getD (w % 4).toNat [])).1.run (Nat.le_trans (hP.wtS hY hrl) aA)) (hg:=⟨go,trivial⟩) fun _=>
        .ye hq.hr (aF ⟨out.now,out.seq,out.shelf.set (w % 4).toNat (bP (out.shelf.getD (w % 4).toNat [])).2.1,out.runs⟩ (bP (out.shelf.getD (w % 4).toNat [])).1.run) (he:=cE hq.ix) fun _=>.d 6 hq.hr fun gr=>.lq 17 6<|.d (m+11) hq.ht fun gu=>.ie (bP (out.shelf.getD (w % 4).toNat [])).1.task.toNat (bP (out.shelf.getD (w % 4).toNat [])).1.task (he:=by have:=hq.h0;omega) <|
        .p q.2.2.try_ 1 (h:=h1)<|.p out.now q.2.1.plan.wait (h:=h2)<|.wt 999<|.f (m+11) q.2.1.tasks ⟨3,q.2.2.need,q.2.2.try_+1,out.now+q.2.1.plan.wait⟩ (h:=st_ok gu h1 h2)<|.f 6 out.runs (eW q.2.1 (bP (out.shelf.getD (w % 4).toNat [])).1.task.toNat q.2.2 out.now) (h:=gr) <|
        .rt (⟨out.now,out.seq,out.shelf.set (w % 4).toNat (bP (out.shelf.getD (w % 4).toNat [])).2.1,out.runs.set q.1 (eW q.2.1 (bP (out.shelf.getD (w % 4).toNat [])).1.task.toNat q.2.2 out.now)⟩,⟨0,(bP (out.shelf.getD (w % 4).toNat [])).1.run,(bP (out.shelf.getD (w % 4).toNat [])).1.task,q.2.2.try_+1⟩)
         ⟨by rw[<- pl_0 hy hin ho];exact(aO0 hcs hq.ix hq.hr hq.ht).symm,go,bH3 (by unfold I64;omega) gt.1.1.2.2.1 gt.1.1.2.2.2 h1,trivial⟩)
     .la (Γ:=Nat×Yard) (fun g=>g.1<=3/\g.2=dN (w % 4).toNat (aT y (w % 4)) ((bL (w % 4) d).take g.1)) (fun g=>3-g.1) (fun g=>[vI 42 g.1]) (fun g=>ryS g.2 7 5 6) (0,aT y (w % 4)) (h:=⟨Nat.zero_le _,(xX _ _ _).symm⟩) fun g hJ tk=>
      let hP:PI y g.2 (w % 4).toNat:=(by rw[hJ.2];exact bN7 hY w d g.1)
      let hl:=zI hP (show (w % 4).toNat<4 by omega)
      let go:g.2.ok:=hP.ok hY
      .s ((g.1:Int)<(bL (w % 4) d).length)
       (fun hlt=>.ex (p:=fun o=>(bL (w % 4) d)[g.1]? = some o) ⟨_,getElem?_eq_getElem (show g.1<(bL (w % 4) d).length by omega)⟩ fun o hk=>
        let hor:=kL (home:=w % 4) (draw:=d) aA o (mem_of_getElem? hk)
        .ex (pl_robI hP (show (w % 4).toNat<4 by omega) (show 0<=o/\o<=3/\o≠(((w % 4).toNat:Nat):Int) by omega)) fun q hq=>
        .y hk fun _=>.ye hl (w % 4) (he:=lZ w) fun _=>.s ((0:Int)<((g.2.shelf.getD (w % 4).toNat []).length:Int))
        (fun hem=>fin 12 g.2 (by rw[hJ.2];exact(aC6 (by rw[<- hJ.2];exact bO5 aA)).symm) hP go)
        (fun hem=>.c func137 (bS7 g.2 o (Nat.le_trans (hP.wt hY) aA)) (hg:=⟨go,trivial⟩) fun gs=>
         .ye hq.1 o (he:=by omega) fun _=>.c func139 (HalfOf_i q.1 (by have:=hq.2.2.2.1;omega)) fun _=>
         .d 12 hq.2.1 fun _=>.ie (w % 4).toNat (w % 4) (he:=lZ w)<|.c func140 (Merged_i q.2 (q.1.take (bH q.1)) (by have:=hq.2.2.2.2.1;omega) (by have:=hq.2.2.2.1;rw[length_take];omega)) fun _=>.ie (w % 4).toNat (w % 4) (he:=lZ w)<|.wt 75<|.f 12 (aT g.2 o).shelf (cP q.2 (q.1.take (bH q.1))) (h:=trivial) <|
         .d 12 hq.2.2.1 fun _=>.ie o.toNat o (he:=by omega)<|.w1<|.f 12 ((aT g.2 o).shelf.set (w % 4).toNat (cP q.2 (q.1.take (bH q.1)))) (q.1.drop (bH q.1)) (h:=trivial) <|
         .p g.1 1<|.n tk (g.1+1,⟨(aT g.2 o).now,(aT g.2 o).seq,((aT g.2 o).shelf.set (w % 4).toNat (cP q.2 (q.1.take (bH q.1)))).set o.toNat (q.1.drop (bH q.1)),(aT g.2 o).runs⟩) [(5,12),(6,13)]
          (h1:=⟨by show g.1+1<=3;have:(bL (w % 4) d).length=3:=rfl;omega,by rw[aM1 hk (by rw[<- hJ.2];exact nil0 aA),<- hJ.2];exact hq.2.2.2.2.2⟩) (h2:=by show 3-(g.1+1)<_;have:(bL (w % 4) d).length=3:=rfl;omega)))
       (fun hlt=>fin 9 g.2 (by rw[hJ.2];exact aC7 (by have:(bL (w % 4) d).length=3:=rfl;omega)) hP go)))) aB
theorem Do_i (y:Yard) (d:Deed) (hw:y.wt<=1048576):Ct1 prog 52 [.S y,.S d] [.S (doD y d).1,.S (doD y d).2]:=
 .one (doD y d) (rk:=fun q=>[.S q.1,.S q.2])<|vc func52 (fun (hg:gin [Par.S y,Par.S d])=>let gy:=hg.1.1
  let gd:d.ok:=hg.2.1.1
  .c func51 (aI8 d) (hg:=⟨gd,trivial⟩) fun _=>.v (aQ d)
   (fun h=>.c func59 (eJ y hw) (hg:=⟨gy,trivial⟩) fun _=>.rt (y,dK 5) ⟨do_0 h,gy,eF aA,trivial⟩)
   (fun h=>let hk:=bR5 h
    .s (d.kind=1)
    (fun h1=>.c func91 (Submit_i y d.run d.plan hw (dd_wt h)) (hg:=⟨gy,gd.2.2.1,trivial⟩) fun hz=>.rt ((aV y d.run d.plan).1,dK (aV y d.run d.plan).2) ⟨do_1 h h1,hz.1.1,eF (rV y d.run d.plan),trivial⟩)
    (fun h1=>.s (d.kind=2)
    (fun h2=>.c func92 (Poll_i y d.worker d.draw hw gd.2.2.2.2.2.2) (hg:=⟨gy,trivial⟩) fun hz=>.rt (eL y d.worker d.draw) ⟨do_2 h h2,hz.1.1,hz.2.1.1,trivial⟩)
    (fun h2=>.s (d.kind=3)
    (fun h3=>.c func93 (Complete_i y d.run d.task d.try_ hw) (hg:=⟨gy,trivial⟩) fun hz=>.rt (dV y d.run d.task d.try_,dK (dD y d.run d.task d.try_)) ⟨do_3 h h3,hz.1.1,aV5 _ _ _ _,trivial⟩)
    (fun h3=>.s (d.kind=4)
    (fun h4=>.c func94 (Fail_i y d.run d.task d.try_ hw) (hg:=⟨gy,trivial⟩) fun hz=>.rt (mC y d.run d.task d.try_,dK (dD y d.run d.task d.try_)) ⟨do_4 h h4,hz.1.1,aV5 _ _ _ _,trivial⟩)
    (fun h4=>.s (d.kind=5)
    (fun h5=>.c func95 (Tick_i y hw) (hg:=⟨gy,trivial⟩) fun hz=>.rt ((dA y).1,dK (dA y).2) ⟨do_5 h h5,hz.1.1,eF (aA5 y),trivial⟩)
    (fun h5=>.s (d.kind=6)
    (fun h6=>.c func96 (Cancel_i y d.run hw) (hg:=⟨gy,trivial⟩) fun hz=>.rt ((bK y d.run).1,dK (bK y d.run).2) ⟨do_6 h h6,hz.1.1,eF (sI y d.run),trivial⟩)
    (fun h6=>.s (d.kind=7)
    (fun h7=>.c func97 (Forget_i y d.run gd.2.1 hw) (hg:=⟨gy,trivial⟩) fun hz=>.rt ((aZ y d.run).1,dK (aZ y d.run).2) ⟨do_7 h h7,hz.1.1,eF (sD y d.run),trivial⟩)
    (fun h7=>.c func98 (Restart_i y hw) (hg:=⟨gy,trivial⟩) fun hz=>.c func53 (jN y hw) (hg:=⟨gy,trivial⟩) fun _=>.v (aG y)
     (fun h9=>.rt (cM y,dK 8) ⟨do_8 h aA 8 (by rw[h9];rfl),hz.1.1,eF aA,trivial⟩)
     (fun h9=>.rt (cM y,dK 0) ⟨do_8 h aA 0 (by rw[h9];rfl),hz.1.1,eF aA,trivial⟩)))))))))) aB
section
variable {P:Program}{n:Nat}{f:Nat->Value}{W w0:World}{rs:List Res}{Q:Exit->Act->World->Prop}{K:Value->World->Prop}
 {d:Option Tmp}{ty:TypeId}{pos:String}{af:Array Go.Edge}{g:Option (Nat×Bool)}{α:Type}[Shape α]
theorem Elems.reps {W:World}{zs:List Value}{z:α}(h:Shape.C W zs z []):∀m,Elems W ((List.range (m*zs.length)).map (fun j=>zs.toArray[j % zs.toArray.size]!)) (List.replicate m z) []
 | 0=>by rw[Nat.zero_mul];exact⟨rfl,rfl⟩
 | m+1=>by
  have ih:=Elems.reps h m;have e:(List.range ((m+1)*zs.length)).map (fun j=>zs.toArray[j % zs.toArray.size]!)=(List.range (m*zs.length)).map (fun j=>zs.toArray[j % zs.toArray.size]!)++zs:=by
   rw[Nat.succ_mul,range_add,map_append,map_map];congr 1;apply ext_getElem
   ·simp
   intro j h1 h2;simp only[getElem_map,getElem_range,Function.comp,size_toArray];rw[Nat.mul_comm,Nat.mul_add_mod,Nat.mod_eq_of_lt h2];simp[h2]
  rw[e,replicate_succ'];exact ih.append (Elems.single h)
end
theorem restartY_wt {y:Yard}(h:aG y=true):(cM y).wt<=100000:=by
 have hY:=iA h;unfold cM;rw[h,if_pos rfl];exact(RI.outer hY _ (Nat.le_refl _)).wt hY (by have:=hY.runs;omega)
theorem tQ {y:Yard}{s:List (List Entry)}{rr:List Run}{a b:Int}(h4:s.length=4) (he:∀j,j<4->(s.getD j []).length<=1000) (h8:rr.length<=8) (hr:∀r∈rr,r.wt<=42):(⟨a,b,s,rr⟩:Yard).wt<=100000:=by
 have hs:=tV (fun z:List Entry=>z.length) 1000 s (fun z hz=>by
  obtain⟨j,hj,rfl⟩:=getElem_of_mem hz;have:=he j aA;rw[getD_eq_getElem?_getD,getElem?_eq_getElem hj]at this;simpa using this)
 have hq:=tV (fun z:Run=>z.wt) 42 rr hr;rw[h4]at hs;have:rr.length*42<=8*42:=Nat.mul_le_mul_right _ h8;unfold Yard.wt wtL;simp only;omega
theorem aH5 {y:Yard}(hY:YardIs y) {k:Nat}{r r':Run}(hr:y.runs[k]? = some r) (hl:r'.tasks.length<=12) (hw:r'.wt<=42):(cR y k r r').wt<=100000:=by
 have h4:=hY.shelf;have hsr:=eQ r'.id;have hfl:=kS r r';refine tQ (y:=y) ?_ ?_ ?_ ?_
 ·rw[iB];exact h4
 ·intro j hj;by_cases e:j=(aU r'.id).toNat
  ·subst e;rw[lV _ _ _ _ _ _ aA];have:=kK hY (aU r'.id).toNat aA;omega
  rw[lI _ _ _ j e];have:=kK hY j hj;omega
 ·rw[length_set];exact hY.runs
 intro q hq;rcases mem_or_eq_of_mem_set hq with h | rfl
 ·exact uF hY q h
 exact hw
theorem doneR_wt {r:Run}(h:RunIs r) (i:Nat):(fW r i).tasks.length<=12/\(fW r i).wt<=42:=by
 obtain⟨h1,h2,h3,h4⟩:=kT r i;have hs:=h.small;have hw:=h.wt;unfold Run.wt at hw ⊢;rw[h2,h3];omega
theorem completeY_wt {y:Yard}(id task try_:Int) {B:Nat}(hB:100000<=B) (hw:y.wt<=B):(dV y id task try_).wt<=B:=by
 unfold dV;by_cases h:dD y id task try_=0
 ·obtain⟨hY,k,r,t,hk,hr,hR,h0,ht,h3⟩:=xC h;rw[nC h hk hr];obtain⟨h1,h2⟩:=doneR_wt hR task.toNat;have:=aH5 hY hr h1 h2;omega
 rw[nB h];exact hw
theorem startT_wt {r:Run}(i:Nat) (t:Task) (now:Int):(eW r i t now).wt=r.wt:=by unfold eW Run.wt;simp
theorem given_wt {y out:Yard}{home:Nat}(hY:YardIs y) (h:PI y out home):(mY out home).1.wt<=100000:=by
 have hb:=h.wt hY;unfold mY;split
 ·exact hb
 next e rest he=>
 split
 ·exact hb
 next k hk=>
 split
 ·exact hb
 next r hr=>
 split
 ·exact hb
 next t ht=>
 have hrest:rest.length<=80:=by
  by_cases hh:home<4
  ·have:=h.each home hh;rw[he]at this;simp only[length_cons]at this;omega
  rw[getD_eq_getElem?_getD,getElem?_eq_none (by have:=h.len;omega)]at he;cases he
 refine aR4 (y:=y) (by rw[length_set];exact h.len) (mD h.each hrest h.len) (by rw[length_set,h.runs];exact hY.runs) ?_;intro q hq;rcases mem_or_eq_of_mem_set hq with h1 | rfl
 ·rw[h.runs]at h1;exact uF hY q h1
 rw[startT_wt];rw[h.runs]at hr;exact uF hY r (mem_of_getElem? hr)
theorem polled_wt {y:Yard}(worker draw:Int) {B:Nat}(hB:100000<=B) (hw:y.wt<=B):(eL y worker draw).1.wt<=B:=by
 unfold eL;split
 ·exact hw
 next h1=>
 split
 ·exact hw
 next h2=>
 have hY:=iA (y:=y) (by simpa using h1);have hi:=inB_iff'.1 (show inB worker 0 99=true by simpa using h2);have hh:(((worker % 4).toNat:Nat):Int)=worker % 4:=by omega
 have hPI:=PI.all hY (home:=(worker % 4).toNat) aA (l:=bL (worker % 4) draw) (by rw[hh];exact kL aA) (PI.start hY aA);rw[hh]at hPI;have:=given_wt hY hPI;omega
theorem failsR_wt {r:Run}(h:RunIs r) {i:Nat}{t:Task}(ht:r.tasks[i]? = some t) (h3:t.state=3):(bJ r i).tasks.length<=12/\(bJ r i).wt<=42:=by
 have hR:=h.fails ht h3;exact⟨hR.small.2.1,hR.wt⟩
theorem failY_wt {y:Yard}(id task try_:Int) {B:Nat}(hB:100000<=B) (hw:y.wt<=B):(mC y id task try_).wt<=B:=by
 by_cases hA0:dD y id task try_=0
 ·obtain⟨hY,k,r,t,hix,hr,hRI,h0,hti,h3⟩:=xC hA0;have hd:=failsR_wt hRI hti h3;have e:mC y id task try_=cR y k r (bJ r task.toNat):=nC hA0 hix hr;rw[e];exact Nat.le_trans (aH5 hY hr hd.1 hd.2) hB
 have e:mC y id task try_=y:=nB hA0;rw[e];exact hw
theorem submitted_wt {y:Yard}(id:Int) (p:Plan) {B:Nat}(hB:100000<=B) (hw:y.wt<=B):(aV y id p).1.wt<=B:=by
 unfold aV;split
 ·exact hw
 next h1=>
 split
 ·exact hw
 split
 ·exact hw
 split
 ·exact hw
 next h4=>
 split
 ·exact hw
 next h5=>
 have hY:=iA (by simpa using h1);have hpf:aC p=0:=by simpa using h4
 have hpr:=aZ7 hpf;have hroom:gE y p=true:=by simpa using h5
 have hr8:y.runs.length<8:=by unfold gE at hroom;simp at hroom;omega
 refine Nat.le_trans (tQ (y:=y) ?_ ?_ ?_ ?_) hB
 ·rw[iB];exact hY.shelf
 ·intro j hj;by_cases e:j=(aU id).toNat
  ·subst e;rw[lV _ _ _ _ _ _ (by have:=hY.shelf;omega)];have h7:(aH (aX id p).tasks 2).length<=(aX id p).tasks.length:=eP _ _ _;have h8:(aX id p).tasks.length=p.tasks.toNat:=fJ p _;have h9:=kK hY (aU id).toNat hj;omega
  rw[lI _ _ _ j e];have:=kK hY j hj;omega
 ·rw[length_append,length_singleton];omega
 intro r hr;rcases mem_append.1 hr with hr | hr
 ·obtain⟨j,hj⟩:=mem_iff_getElem?.1 hr;exact(hY.run j r hj).1.wt
 rw[mem_singleton]at hr;subst hr;have h8:(aX id p).tasks.length=p.tasks.toNat:=fJ p _;show (aX id p).plan.wt+(aX id p).tasks.length<=42;have:(aX id p).plan.wt=p.edges.length:=rfl;omega
theorem ticked_wt {y:Yard}{B:Nat}(hB:100000<=B) (hw:y.wt<=B):(dA y).1.wt<=B:=by
 unfold dA;split
 ·exact hw
 next h1=>
 split
 ·exact hw
 have hY:=iA (by simpa using h1);have hn:=hY.now;have hr:=hY.runs;have hl:=qX hY y.runs.length;have hY1:YardIs (lE (y.now+1) y):=hY.at aA;have h2:=RI.list hY1 (l:=bX y) zK (bX y).length;rw[take_length]at h2;exact Nat.le_trans (h2.wt hY1 (by show (gN y y.runs.length).length<=1000;omega)) hB
theorem goneR_wt (r:Run):(fQ r).wt=r.wt:=by
 unfold fQ;split
 ·show r.plan.wt+(dQ r.tasks (-1)).length=_;rw[sY];rfl
 rfl
theorem cancelled_wt {y:Yard}(id:Int) {B:Nat}(hB:100000<=B) (hw:y.wt<=B):(bK y id).1.wt<=B:=by
 unfold bK;split
 ·exact hw
 next h1=>
 split
 ·next r hr=>
  split
  ·exact hw
  split
  ·exact hw
  have hY:=iA (by simpa using h1);refine Nat.le_trans (tQ (y:=y) hY.shelf (fun j hj=>by have:=kK hY j hj;omega) (by rw[length_set];exact hY.runs) ?_) hB;intro q hq;rcases mem_or_eq_of_mem_set hq with hq | hq
  ·obtain⟨j,hj⟩:=mem_iff_getElem?.1 hq;exact(hY.run j q hj).1.wt
  subst hq;rw[goneR_wt];exact(hY.run _ r hr).1.wt
 exact hw
theorem forgotten_wt {y:Yard}(id:Int) {B:Nat}(hB:100000<=B) (hw:y.wt<=B):(aZ y id).1.wt<=B:=by
 unfold aZ;split
 ·exact hw
 next h1=>
 split
 ·next r hr=>
  split
  ·exact hw
  split
  ·exact hw
  have hY:=iA (by simpa using h1);refine Nat.le_trans (tQ (y:=y) (by rw[length_map];exact hY.shelf) (fun j hj=>?_) ?_ ?_) hB
  ·have h2:=kK hY j hj;have h4:=hY.shelf;rw[getD_eq_getElem?_getD,getElem?_map];rw[getD_eq_getElem?_getD]at h2;cases hq:y.shelf[j]? with
   | none=>simp
   | some l=>
    rw[hq]at h2;have:=bQ4 id l;simp at h2 ⊢;omega
  ·have:=length_eraseIdx_le y.runs (aF y id).toNat;have:=hY.runs;omega
  intro q hq;obtain⟨j,hj⟩:=mem_iff_getElem?.1 (mem_of_mem_eraseIdx hq);exact(hY.run j q hj).1.wt
 exact hw
theorem bI8 {y:Yard}(d:Deed) {B:Nat}(hB:100000<=B) (hw:y.wt<=B):(doD y d).1.wt<=B:=by
 unfold doD;split
 ·exact hw
 split
 ·exact submitted_wt _ _ hB hw
 split
 ·exact polled_wt _ _ hB hw
 split
 ·exact completeY_wt _ _ _ hB hw
 split
 ·exact failY_wt _ _ _ hB hw
 split
 ·exact ticked_wt hB hw
 split
 ·exact cancelled_wt _ hB hw
 split
 ·exact forgotten_wt _ hB hw
 show (cM y).wt<=B;cases h:aG y with
 | true=>exact Nat.le_trans (restartY_wt h) hB
 | false=>
  have:cM y=y:=by unfold cM;rw[h];rfl
  rw[this];exact hw
noncomputable def doSt (a:Yard×List Reply) (d:Deed):Yard×List Reply:=((doD a.1 d).1,a.2++[(doD a.1 d).2])
noncomputable def doL (y:Yard) (ds:List Deed):Yard×List Reply:=ds.foldl doSt (y,[])
theorem doL_to {y:Yard}{ds:List Deed}{k:Nat}{d:Deed}(h:ds[k]? = some d):doL y (ds.take (k+1))=doSt (doL y (ds.take k)) d:=by
 unfold doL;rw[<- cX h,foldl_append];rfl
theorem doF_wt (ds:List Deed):∀a:Yard×List Reply,a.1.wt<=1048576->(ds.foldl doSt a).1.wt<=1048576:=by
 induction ds with
 | nil=>exact fun a h=>h
 | cons d ds ih=>exact fun a h=>ih _ (bI8 d aA h)
theorem doL_wt {y:Yard}(ds:List Deed) (h:y.wt<=1048576):(doL y ds).1.wt<=1048576:=doF_wt ds (y,[]) h
theorem doF_len (ds:List Deed):∀a:Yard×List Reply,(ds.foldl doSt a).2.length=a.2.length+ds.length:=by
 induction ds with
 | nil=>exact fun a=>rfl
 | cons d ds ih=>intro a;rw[foldl_cons,ih];simp only[doSt,length_append,length_cons,length_nil];omega
theorem doL_len (y:Yard) (ds:List Deed):(doL y ds).2.length=ds.length:=by unfold doL;rw[doF_len];simp
structure DaJ (y:Yard) (ds:List Deed) (g:Nat×Yard×List Reply):Prop where
 le:g.1<=ds.length
 eq:g.2=doL y (ds.take g.1)
 ok:g.2.1.ok
theorem DaJ.wt {y:Yard}{ds:List Deed}{g:Nat×Yard×List Reply}(h:DaJ y ds g) (hw:y.wt<=1048576):g.2.1.wt<=1048576:=by rw[h.eq];exact doL_wt _ hw
theorem DaJ.len {y:Yard}{ds:List Deed}{g:Nat×Yard×List Reply}(h:DaJ y ds g):g.2.2.length<=ds.length:=by rw[h.eq,doL_len,length_take];omega
theorem DaJ.next {y:Yard}{ds:List Deed}{g:Nat×Yard×List Reply}{d:Deed}(h:DaJ y ds g) (hd:ds[g.1]? = some d) (ho:(doD g.2.1 d).1.ok):DaJ y ds (g.1+1,(doD g.2.1 d).1,g.2.2++[(doD g.2.1 d).2]):=
 ⟨(gsi_.1 hd).1,by show _=doL y (ds.take (g.1+1));rw[doL_to hd,<- h.eq];rfl,ho⟩
noncomputable def repSt (y:Yard) (n:Note):Yard:=(doD y n.deed).1
noncomputable def bH4 (y:Yard) (ns:List Note):Yard:=ns.foldl repSt y
theorem repY_to {y:Yard}{ns:List Note}{k:Nat}{n:Note}(h:ns[k]? = some n):bH4 y (ns.take (k+1))=(doD (bH4 y (ns.take k)) n.deed).1:=by
 unfold bH4;rw[<- cX h,foldl_append];rfl
theorem bN2:∀(ns:List Note) {y:Yard},y.wt<=1048576->(bH4 y ns).wt<=1048576
 | [],y,h=>h
 | n::ns,y,h=>bN2 ns (y:=repSt y n) (bI8 n.deed aA h)
structure RpJ (y:Yard) (ns:List Note) (g:Nat×Yard):Prop where
 le:g.1<=ns.length
 eq:g.2=bH4 y (ns.take g.1)
 ok:g.2.ok
theorem RpJ.wt {y:Yard}{ns:List Note}{g:Nat×Yard}(h:RpJ y ns g) (hw:y.wt<=1048576):g.2.wt<=1048576:=by rw[h.eq];exact bN2 _ hw
theorem RpJ.all {y:Yard}{ns:List Note}{g:Nat×Yard}(h:RpJ y ns g) (hk:¬(g.1:Int)<ns.length):g.2=bH4 y ns:=by rw[h.eq,take_of_length_le aA]
theorem RpJ.next {y:Yard}{ns:List Note}{g:Nat×Yard}{n:Note}(h:RpJ y ns g) (hn:ns[g.1]? = some n) (ho:(doD g.2 n.deed).1.ok):RpJ y ns (g.1+1,(doD g.2 n.deed).1):=
 ⟨(gsi_.1 hn).1,by show _=bH4 y (ns.take (g.1+1));rw[repY_to hn,<- h.eq],ho⟩
noncomputable def pC (e:Engine) (d:Deed):ByteArray:=dU (jI ⟨e.next,d⟩)
noncomputable def aP8 (e:Engine) (d:Deed):Disk×Bool:=dM e.disk logN (pC e d)
noncomputable def vO (e:Engine) (d:Deed):Engine:=⟨(doD e.yard d).1,(aP8 e d).1,e.next+1,e.calls+1,e.waits++[⟨e.calls+1,(doD e.yard d).2⟩],e.state,e.broken⟩
noncomputable def bM (e:Engine) (d:Deed):Engine×Int:=
 if bA e=false then (e,8) else if e.state=3 then (e,15) else if e.state=2 then (e,14) else if pC e d=⟨#[]⟩ then (e,5) else if (e.waits.length:Int)=60 then (e,7) else if e.broken=true then (brk e,14) else if (aP8 e d).2=false then (e,7) else (vO e d,0)
section
variable {e:Engine}{d:Deed}
theorem cal_8 (h:bA e=false):(e,8)=bM e d:=by unfold bM;rw[if_pos h]
variable (h0:bA e=true)
include h0
theorem cD8 (h1:e.state=3):(e,15)=bM e d:=by unfold bM;rw[if_neg (by rw[h0];simp),if_pos h1]
variable (h1:¬e.state=3)
include h1
theorem cD9 (h2:e.state=2):(e,14)=bM e d:=by unfold bM;rw[if_neg (by rw[h0];simp),if_neg h1,if_pos h2]
variable (h2:¬e.state=2)
include h2
theorem cD7 (h3:pC e d=⟨#[]⟩):(e,5)=bM e d:=by unfold bM;rw[if_neg (by rw[h0];simp),if_neg h1,if_neg h2,if_pos h3]
variable (h3:¬pC e d=⟨#[]⟩)
include h3
theorem cal_7 (h4:(e.waits.length:Int)=60):(e,7)=bM e d:=by unfold bM;rw[if_neg (by rw[h0];simp),if_neg h1,if_neg h2,if_neg h3,if_pos h4]
variable (h4:¬(e.waits.length:Int)=60)
include h4
theorem cal_b (h5:e.broken=true):(brk e,14)=bM e d:=by unfold bM;rw[if_neg (by rw[h0];simp),if_neg h1,if_neg h2,if_neg h3,if_neg h4,if_pos h5]
variable (h5:e.broken=false)
include h5
theorem cal_w (h6:(aP8 e d).2=false):(e,7)=bM e d:=by unfold bM;rw[if_neg (by rw[h0];simp),if_neg h1,if_neg h2,if_neg h3,if_neg h4,if_neg (by rw[h5];simp),if_pos h6]
theorem cal_0 (h6:(aP8 e d).2=true):(vO e d,0)=bM e d:=by unfold bM;rw[if_neg (by rw[h0];simp),if_neg h1,if_neg h2,if_neg h3,if_neg h4,if_neg (by rw[h5];simp),if_neg (by rw[h6];simp)]
end
theorem callT_no {e:Engine}{d:Deed}(h:aQ d=false):pC e d=⟨#[]⟩:=by
 unfold pC;rw[<- kQ (fun hc=>by have:aQ d=true:=hc.1;rw[h]at this;cases this)];exact(fo_e rfl).symm
theorem aO4 (t:ByteArray):(dU t).size<=1000000000:=by
 unfold dU;split
 ·next h=>
  have:=inB_iff'.1 h;have:=cZ (t.size:Int);have:=rB (cL t);rw[ByteArray.size_append,ByteArray.size_append];omega
 exact Nat.zero_le _
theorem bC2:logN.size<=maxLen:=by unfold maxLen;decide
theorem aU8 {e:Engine}(h:bA e=true):(1<=e.next/\e.next<=999999999)/\(0<=e.calls/\e.calls<=999999999)/\e.waits.length<=60:=by
 have hp:=engOk_iff.1 h;have h1:=inB_iff'.1 hp.next;have h2:=inB_iff'.1 hp.calls;have h3:=hp.waits;exact⟨h1,h2,by omega⟩
theorem aM8 {e:Engine}{d:Deed}(ge:e.ok) (gd:d.ok):Note.ok ⟨e.next,d⟩:=⟨ge.2.1,gd⟩
abbrev engR (e:Engine):Rk := .cl [.v (I e.yard.now),.v (I e.yard.seq),.o (inferInstance:Shape (List Entry)) e.yard.shelf,.o (inferInstance:Shape Run) e.yard.runs,.o (inferInstance:Shape File) e.disk.files,.v (I e.next),.v (I e.calls),.r (inferInstance:Shape Wait) 55 e.waits,.v (I e.state),.v (.bool e.broken)]
theorem CopyEngineR_i (e:Engine) (hw:e.yard.wt<=1048576) (hd:e.disk.files.length<=1048576) (hs:e.waits.length<=1048576):Ct1 prog 23 [.S e] [engR e]:=
 vc func23 (fun hg=>.c func59 (aJ0 e.yard hw) (hg:=⟨hg.1.1.1,trivial⟩) fun _=>.c func60 (lT e.disk aA) fun _=>.as (inferInstance:Shape Wait) lW [] e.waits 40 (by simp only[length_nil];unfold maxLen;omega) (by simp only[length_nil];omega)<|.wt 15<|.sh 8<|.rt () ⟨trivial,trivial⟩) aB
theorem CopyEngineR_s (e:Engine) (hw:e.yard.wt<=1048576) (hd:e.disk.files.length<=1048576) (hs:e.waits.length<=1048576):Ct1 prog 26 [.S e] [engR e]:=
 vc func26 (fun hg=>.c func61 (aI9 e.yard hw) (hg:=⟨hg.1.1.1,trivial⟩) fun _=>.c func62 (dE e.disk aA) fun _=>.e Wait<|.as (inferInstance:Shape Wait) lW [] e.waits 40 (by simp only[length_nil];unfold maxLen;omega) (by simp only[length_nil];omega)<|.wt 16<|.sh 8<|.rt () ⟨trivial,trivial⟩) aB
theorem aP7 {e:Engine}{d:Deed}(ge:e.ok) (h:bA e=true) (gy:(doD e.yard d).1.ok):(vO e d).ok:=by
 have hc:=aU8 h;exact⟨gy,by show I64 (e.next+1);unfold I64;omega,by show I64 (e.calls+1);unfold I64;omega,ge.2.2.2⟩
theorem aW8 (e:Engine) (d:Deed) (hw:e.yard.wt<=1048576) (hl:e.disk.files.length<=1048576) (hs:e.waits.length<=1048576):Ct1 prog 14 [.S e,.S d] [.S (bM e d).1,.I (bM e d).2]:=
 .one (bM e d) (rk:=fun q=>[.S q.1,.I q.2])<|vc func14 (fun (hg:gin [Par.S e,Par.S d])=>let ge:e.ok:=hg.1.1
  let gd:d.ok:=hg.2.1.1
  let gb:(brk e).ok:=⟨ge.1,ge.2.1,ge.2.2.1,by show I64 2;unfold I64;omega⟩
  .c func23 (CopyEngineR_i e hw hl hs) (hg:=⟨ge,trivial⟩) fun _=>.c func50 (NoteText_i ⟨e.next,d⟩) (hg:=⟨aM8 ge gd,trivial⟩) fun _=>.c func49 (FrameOf_i (jI ⟨e.next,d⟩) (by have:=aD8 ⟨e.next,d⟩;omega)) fun _=>
  .c func16 (lQ e hw) (hg:=⟨ge,trivial⟩) fun _=>.v (bA e) (fun h=>.sh 11<|.rt (e,8) ⟨cal_8 h,ge,trivial⟩) (fun h0=>
  .s (e.state=3) (fun h=>.sh 11<|.rt (e,15) ⟨cD8 h0 h,ge,trivial⟩) (fun h1=>
  .s (e.state=2) (fun h=>.sh 11<|.rt (e,14) ⟨cD9 h0 h1 h,ge,trivial⟩) (fun h2=>
  .c func51 (aI8 d) (hg:=⟨gd,trivial⟩) fun _=>.v (aQ d) (fun h=>.sh 11<|.rt (e,5) ⟨cD7 h0 h1 h2 (callT_no h),ge,trivial⟩) (fun _=>
  .s (pC e d=⟨#[]⟩) (fun h=>.sh 11<|.rt (e,5) ⟨cD7 h0 h1 h2 h,ge,trivial⟩) (fun h3=>
  .s ((e.waits.length:Int)=60) (fun h=>.sh 11<|.rt (e,7) ⟨cal_7 h0 h1 h2 h3 h,ge,trivial⟩) (fun h4=>
  .sb e.broken (fun h=>.c func30 (bT9 e hw hl hs) (hg:=⟨ge,trivial⟩) fun _=>.rt (brk e,14) ⟨cal_b h0 h1 h2 h3 h4 h,gb,trivial⟩) (fun h5=>
  .c func33 (WriteFileI e.disk logN (pC e d) hl bC2 (aO4 _)) fun _=>.v (aP8 e d).2 (fun h=>.sh 11<|.rt (e,7) ⟨cal_w h0 h1 h2 h3 h4 h5 h,ge,trivial⟩) (fun h6=>let hc:=aU8 h0
  .c func52 (Do_i e.yard d hw) (hg:=⟨ge.1,gd,trivial⟩) fun hz=>.p e.next 1<|.p e.calls 1<|.a e.waits ⟨e.calls+1,(doD e.yard d).2⟩ 40 (hy:=(show Wait.ok ⟨e.calls+1,(doD e.yard d).2⟩ from ⟨by show I64 (e.calls+1);unfold I64;omega,hz.2.1.1⟩)) (hby:=by omega)<|.sh 11 <|
   .rt (vO e d,0) ⟨cal_0 h0 h1 h2 h3 h4 h5 h6,aP7 ge h0 hz.1.1,trivial⟩))))))))) aB
theorem cF4 (e:Engine) (d:Deed) (hw:e.yard.wt<=1048576) (hl:e.disk.files.length<=1048576) (hs:e.waits.length<=1048576):Ct1 prog 82 [.S e,.S d] [.S (bM e d).1,.I (bM e d).2]:=
 .one (bM e d) (rk:=fun q=>[.S q.1,.I q.2])<|vc func82 (fun (hg:gin [Par.S e,Par.S d])=>let ge:e.ok:=hg.1.1
  let gd:d.ok:=hg.2.1.1
  let gb:(brk e).ok:=⟨ge.1,ge.2.1,ge.2.2.1,by show I64 2;unfold I64;omega⟩
  .c func26 (CopyEngineR_s e hw hl hs) (hg:=⟨ge,trivial⟩) fun _=>.c func127 (NoteText_s ⟨e.next,d⟩) (hg:=⟨aM8 ge gd,trivial⟩) fun _=>.c func126 (FrameOf_s (jI ⟨e.next,d⟩) (by have:=aD8 ⟨e.next,d⟩;omega)) fun _=>
  .c func37 (rI e hw) (hg:=⟨ge,trivial⟩) fun _=>.v (bA e) (fun h=>.sh 11<|.rt (e,8) ⟨cal_8 h,ge,trivial⟩) (fun h0=>
  .s (e.state=3) (fun h=>.sh 11<|.rt (e,15) ⟨cD8 h0 h,ge,trivial⟩) (fun h1=>
  .s (e.state=2) (fun h=>.sh 11<|.rt (e,14) ⟨cD9 h0 h1 h,ge,trivial⟩) (fun h2=>
  .s (pC e d=⟨#[]⟩) (fun h=>.sh 11<|.rt (e,5) ⟨cD7 h0 h1 h2 h,ge,trivial⟩) (fun h3=>
  .s ((e.waits.length:Int)=60) (fun h=>.sh 11<|.rt (e,7) ⟨cal_7 h0 h1 h2 h3 h,ge,trivial⟩) (fun h4=>
  .sb e.broken (fun h=>.sh 11<|.rt (brk e,14) ⟨cal_b h0 h1 h2 h3 h4 h,gb,trivial⟩) (fun h5=>
  .c func41 (aI5 e.disk logN (pC e d) hl bC2 (aO4 _)) fun _=>.v (aP8 e d).2 (fun h=>.sh 11<|.rt (e,7) ⟨cal_w h0 h1 h2 h3 h4 h5 h,ge,trivial⟩) (fun h6=>let hc:=aU8 h0
  .c func128 (Do_s e.yard d hw) (hg:=⟨ge.1,gd,trivial⟩) fun hz=>.p e.next 1<|.p e.calls 1<|.a e.waits ⟨e.calls+1,(doD e.yard d).2⟩ 40 (hy:=(show Wait.ok ⟨e.calls+1,(doD e.yard d).2⟩ from ⟨by show I64 (e.calls+1);unfold I64;omega,hz.2.1.1⟩)) (hby:=by omega)<|.sh 11 <|
   .rt (vO e d,0) ⟨cal_0 h0 h1 h2 h3 h4 h5 h6,aP7 ge h0 hz.1.1,trivial⟩)))))))) aB
abbrev N9 (z:Int):Prop:=0<=z/\z<=1000000000
theorem plan_n9 {p:Plan}(h:aC p=0):∀z∈mK p,N9 z:=by
 obtain⟨h1,h2,_,_⟩:=gV h;have hm:(1<=p.tasks/\p.tasks<=12)/\p.edges.length<=30/\(0<=p.prio/\p.prio<=9)/\(1<=p.most/\p.most<=5)/\(1<=p.wait/\p.wait<=20):=by unfold aN at h1;omega
 intro z hz;rw[pP]at hz;simp only[mem_cons,mem_flatMap]at hz;rcases hz with rfl | rfl | rfl | rfl | rfl | ⟨e,he,hz⟩
 ·exact⟨by omega,by omega⟩
 ·exact⟨by omega,by omega⟩
 ·exact⟨by omega,by omega⟩
 ·exact⟨by omega,by omega⟩
 ·exact⟨by omega,by omega⟩
 have:=h2 e he;simp only[oM,mem_cons,not_mem_nil,or_false]at hz;rcases hz with rfl | rfl
 ·exact⟨by omega,by omega⟩
 exact⟨by omega,by omega⟩
theorem bX5 {r:Run}(h:RunIs r):∀z∈jS r,N9 z:=by
 have hid:=h.id;have hst:0<=r.state/\r.state<=4:=by
  have:=h.state;unfold bG at this
  repeat' split at this
  all_goals omega
 intro z hz;simp only[jS,mem_cons,mem_append,mem_flatMap]at hz;rcases hz with rfl | hz | rfl | ⟨t,ht,hz⟩
 ·exact⟨by omega,by omega⟩
 ·exact plan_n9 h.plan z hz
 ·exact⟨by omega,by omega⟩
 obtain⟨k,hk,rfl⟩:=getElem_of_mem ht;obtain⟨t1,t2,t3,t4,t5,_⟩:=h.task k hk hk;have hn:=h.need _ (getElem_mem hk);have hm:r.plan.most<=5:=by have:=(gV h.plan).1;unfold aN at this;omega
 simp only[fK,mem_cons,not_mem_nil,or_false]at hz;rcases hz with rfl | rfl | rfl | rfl
 ·exact⟨by omega,by omega⟩
 ·exact⟨by omega,by omega⟩
 ·exact⟨by omega,by omega⟩
 by_cases h3:r.tasks[k].state=3
 ·have:=t4 h3;exact⟨by omega,by omega⟩
 have:=t5 h3;exact⟨by omega,by omega⟩
theorem yard_n9 {y:Yard}(h:YG y) (hs:y.seq<=1000000000):∀z∈dH y,N9 z:=by
 have hc:=h.core;have h1:=hc.seq1;have h2:=h.now;have h8:=hc.eight;intro z hz;simp only[dH,mem_cons,mem_append,mem_flatMap]at hz;rcases hz with rfl | rfl | ⟨l,hl,hz⟩ | rfl | ⟨r,hr,hz⟩
 ·exact⟨by omega,by omega⟩
 ·exact⟨by omega,by omega⟩
 ·simp only[gI,mem_cons,mem_flatMap]at hz;rcases hz with rfl | ⟨e,he,hz⟩
  ·have:=(sublist_flatten_of_mem hl).length_le;have:=hc.len;exact⟨by omega,by omega⟩
  have hem:e∈y.shelf.flatten:=mem_flatten.2 ⟨l,hl,he⟩;obtain⟨r,hr⟩:=hc.ent e hem;have hq:=hc.seqs e hem;have hR:=(hc.runs r hr.mem).1;have hp:0<=r.plan.prio/\r.plan.prio<=9:=by have:=(gV hR.plan).1;unfold aN at this;omega
  have hid:=hR.id;have h12:=hR.small.2.1;obtain⟨t,ht,_⟩:=hr.task;have hlt:=(gsi_.1 ht).1;have hlo:=hr.lo;have e1:=hr.id;have e2:=hr.prio;simp only[fD,mem_cons,not_mem_nil,or_false]at hz;rcases hz with rfl | rfl | rfl | rfl
  ·exact⟨by omega,by omega⟩
  ·exact⟨by omega,by omega⟩
  ·exact⟨by omega,by omega⟩
  exact⟨by omega,by omega⟩
 ·exact⟨by omega,by omega⟩
 exact bX5 (hc.runs r hr).1 z hz
theorem n9_cast {l:List Int}(h:∀z∈l,N9 z):∃ns,gC ns/\l=jW ns:=by
 refine⟨l.map Int.toNat,fun m hm=>?_,?_⟩
 ·obtain⟨z,hz,rfl⟩:=mem_map.1 hm;have:=h z hz;omega
 unfold jW;rw[map_map]
 conv=>lhs;rw[<- map_id l]
 exact map_congr_left fun z hz=>by have:=h z hz;simp only[id_eq,Function.comp_apply];omega
theorem yard_same {y y':Yard}{r:List Int}(h:aG y=true) (h':aG y'=true) (e:dH y=dH y'++r):y'=y:=by
 have f1:=zT numF (sb:=fun _=>false) (fun _=>rfl) (tC h) (x:=⟨dH y,false⟩) (ns:=[]) ⟨rfl,by rw[append_nil]⟩;have f2:=zT numF (sb:=fun _=>false) (fun _=>rfl) (tC h') (x:=⟨dH y,false⟩) (ns:=r) ⟨rfl,e⟩;exact f2.1.symm.trans f1.1
structure MkY (B:Int) (y:Yard):Prop where
 good:YG y
 time:InTime y
 seq:y.seq<=B
def MkP (B:Int) (s:ByteArray):Prop:=∃q y n,MkY B y/\s.data.toList=(lD q (gA y)).data.toList.take n
theorem MkP.mono {B B':Int}{s:ByteArray}(h:MkP B s) (hb:B<=B'):MkP B' s:=by
 obtain⟨q,y,n,hy,e⟩:=h;exact⟨q,y,n,⟨hy.good,hy.time,by have:=hy.seq;omega⟩,e⟩
theorem MkP.cut {B:Int}{s:ByteArray}(h:MkP B s) (k:Nat):MkP B (s.extract 0 k):=by
 obtain⟨q,y,n,hy,e⟩:=h;refine⟨q,y,min k n,hy,?_⟩;rw[Lib.extract_data,drop_zero,Nat.sub_zero,e,take_take]
theorem MkP.none_ {B:Int}(hB:1<=B):MkP B ⟨#[]⟩:=⟨0,yardNew,0,⟨gd_new.1,gd_new.2,by show (1:Int)<=B;exact hB⟩,by simp⟩
theorem MkP.all {B q:Int}{y:Yard}(hy:MkY B y):MkP B (lD q (gA y)):=⟨q,y,(lD q (gA y)).data.toList.length,hy,by rw[take_length]⟩
theorem MkP.read {B:Int}{s:ByteArray}(h:MkP B s) (hB:B<=1000000000) (hr:(rmS wF s).2.2=true):MkY B (rmS wF s).1:=by
 obtain⟨q,y,n,hy,e⟩:=h;unfold rmS at hr ⊢;split at hr
 ·next hc=>
  rw[if_pos hc];obtain⟨c1,c2,c3,c4,c5,c6⟩:=hc;have hl4:=aO5 c1;have hl8:=aO5 c2;have hlen:s.data.toList.length=s.size:=rfl;have hok:=hy.good.ok hy.time (by have:=hy.seq;omega);have hm:inB q 0 1000000000=true/\¬gA y=⟨#[]⟩/\(gA y).size+8<=60000:=by
   apply Classical.byContradiction;intro hn;rw[<- uR hn]at e;have:s.data.toList.length=0:=by rw[e];simp
   omega
  obtain⟨m1,m2,m3⟩:=hm;rw[<- aN1 m1 m2 m3,aI4,aI4]at e;have hq:=inB_iff.1 m1;have l1:(cA q).data.toList.length=4:=aO6 ⟨hq.1,by omega⟩;have l2:(cA (cL (gA y))).data.toList.length=4:=aO6 (sumOf_4 _);have e8:(s.extract 8 s.size).data.toList=((gA y).data.toList).take (s.size-8):=by
   rw[Lib.extract_data,e,drop_take,drop_append_of_le_length (by rw[length_append];omega)];rw[drop_of_length_le (by rw[length_append];omega),nil_append,take_take];have hz:s.size<=n:=by
    have:=congrArg List.length e;rw[hlen,length_take]at this;omega
   rw[Nat.min_eq_left aA]
  have hx:=(readYS_iff (s:=s.extract 8 s.size) (y:=(wF (s.extract 8 s.size)).1) (by rw[ByteArray.size_extract];omega)).1 (by rw[<- c6]);obtain⟨ok',ns',s9',n9',t9'⟩:=hx;obtain⟨ns,s9,n9⟩:=n9_cast (yard_n9 hy.good (by have:=hy.seq;omega));have et:(gA y).data.toList=cT ns:=by
   unfold gA;rw[if_pos hok,n9];exact pI s9
  rw[e8,et]at t9';have ec:cT ns'++(cT ns).drop (s.size-8)=cT ns:=by rw[t9',take_append_drop]
  obtain⟨ms,e1,_⟩:=lH ec;have:=yard_same hok ok' (r:=jW ms) (by rw[n9,n9',e1,castN_app]);rw[this];exact hy
 cases hr
def isMk (nm:ByteArray):Prop:=nm=nextN∨nm=aE7
def DI (B:Int) (d:Disk):Prop:=∀f∈d.files,isMk f.name->MkP B f.data
theorem DI.mono {B B':Int}{d:Disk}(h:DI B d) (hb:B<=B'):DI B' d:=fun f hf hn=>(h f hf hn).mono hb
theorem DI.set {B:Int}{d:Disk}(h:DI B d) {k:Nat}{g:File}(hg:isMk g.name->MkP B g.data):DI B ⟨d.files.set k g⟩:=fun f hf hn=>by
 rcases mem_or_eq_of_mem_set hf with h1 | rfl
 ·exact h f h1 hn
 ·exact hg hn
theorem DI.cut {B:Int}{d:Disk}(h:DI B d) (nm:ByteArray) (n:Int):DI B (cY d nm n).1:=by
 unfold cY;split
 ·unfold bV2;simp only;split
  ·next f hf=>exact h.set fun hn=>(h f (mem_of_getElem? hf) hn).cut _
  exact h
 exact h
theorem bJ5 {d:Disk}{nm:ByteArray}{f:File}(hf:(wrB d nm)[wrK d nm]? = some f):f.name=nm:=by
 by_cases h:fAt d.files nm<0
 ·obtain⟨e1,e2⟩:=tR h;rw[e1,e2,getElem?_append_right (Nat.le_refl _),Nat.sub_self]at hf;cases hf;rfl
 obtain⟨e1,e2⟩:=tS h;rw[e1]at hf;exact aG9 e2.symm hf
theorem DI.wrB {B:Int}{d:Disk}(h:DI B d) {nm:ByteArray}(hz:MkP B ⟨#[]⟩):DI B ⟨wrB d nm⟩:=by
 unfold Go.Proofs.YtpdgdnpajmcaeaaGreat.wrB;split
 ·intro f hf hn;rcases mem_append.1 hf with h1 | h1
  ·exact h f h1 hn
  rw[mem_singleton]at h1;rw[h1];exact hz
 exact h
theorem DI.write {B:Int}{d:Disk}(h:DI B d) {nm more:ByteArray}(hz:MkP B ⟨#[]⟩) (hm:∀f,(Go.Proofs.YtpdgdnpajmcaeaaGreat.wrB d nm)[wrK d nm]? = some f->isMk nm->MkP B (f.data++more)):DI B (dM d nm more).1:=by
 unfold dM;split
 ·simp only;obtain⟨f,hf⟩:=aK3 d nm;rw[sK more hf];exact(h.wrB hz).set (d:=⟨Go.Proofs.YtpdgdnpajmcaeaaGreat.wrB d nm⟩) fun hn=>hm f hf (by have:=bJ5 hf;rw[<- this];exact hn)
 exact h
theorem cA3 {B:Int}{d:Disk}(h:DI B d) {k:Nat}{to:ByteArray}(hk:∀f,d.files[k]? = some f->MkP B f.data):∀i,∀f∈mvG d.files k to i,isMk f.name->MkP B f.data
 | 0,f,hf,_=>by cases hf
 | i+1,f,hf,hn=>by
  have ih:=cA3 h (k:=k) (to:=to) hk i;have hf:f∈(match d.files[i]? with | some g=>if g.name=to then mvG d.files k to i else mvG d.files k to i++[if i=k then mvF g to else g] | none=>mvG d.files k to i):=hf;split at hf
  ·next g hg=>
   split at hf
   ·exact ih f hf hn
   ·rcases mem_append.1 hf with h1 | h1
    ·exact ih f h1 hn
    ·rw[mem_singleton]at h1;subst h1;split
     ·next e=>subst e;exact hk g hg
     ·next e=>rw[if_neg e]at hn;exact h g (mem_of_getElem? hg) hn
  ·exact ih f hf hn
theorem DI.move {B:Int}{d:Disk}(h:DI B d):DI B (gW d nextN aE7).1:=by
 unfold gW;split
 ·next hc=>
  refine cA3 h (fun f hf=>?_) _;obtain⟨k,hk,hlt⟩:=oK hc.1;rw[hk,Int.toNat_natCast]at hf;exact h f (mem_of_getElem? hf) (.inl (aG9 hk hf))
 exact h
def NE (d:Disk):Prop:=∀f∈d.files,f.name=nextN->f.data=⟨#[]⟩
theorem DI.next {B:Int}{d:Disk}(h:DI B d) (hB:1<=B) (hn:NE d) {more:ByteArray}(hm:MkP B more):DI B (dM d nextN more).1:=h.write (MkP.none_ hB) fun f hf _=>by
 have hd:f.data=⟨#[]⟩:=by
  by_cases hl:fAt d.files nextN<0
  ·obtain⟨e1,e2⟩:=tR hl;rw[e1,e2,getElem?_append_right (Nat.le_refl _),Nat.sub_self]at hf;cases hf;rfl
  obtain⟨e1,e2⟩:=tS hl;have hnm:=bJ5 hf;rw[e1]at hf;exact hn f (mem_of_getElem? hf) hnm
 rw[hd];have:(⟨#[]⟩:ByteArray)++more=more:=ba_ext (by rw[aI4];rfl);rw[this];exact hm
structure EG (B:Int) (e:Engine):Prop where
 yard:MkY B e.yard
 disk:DI B e.disk
theorem EG.mono {B B':Int}{e:Engine}(h:EG B e) (hb:B<=B'):EG B' e:=⟨⟨h.yard.good,h.yard.time,by have:=h.yard.seq;omega⟩,h.disk.mono hb⟩
noncomputable def aK0 (e:Engine):Engine:=⟨e.yard,(gB e.disk logN).1,e.next,e.calls,[],e.state,e.broken⟩
noncomputable def bI (e:Engine):Engine×List Wait:=if ¬(bA e=true/\e.state=1/\¬(e.waits.length:Int)=0) then (e,[]) else if e.broken=true then (brk e,[]) else (aK0 e,e.waits)
theorem tF {e:Engine}(h:¬(bA e=true/\e.state=1/\¬(e.waits.length:Int)=0)):(e,[])=bI e:=by unfold bI;rw[if_pos h]
theorem com_b {e:Engine}(h1:bA e=true) (h2:e.state=1) (h3:¬(e.waits.length:Int)=0) (h:e.broken=true):(brk e,[])=bI e:=by unfold bI;rw[if_neg (fun hc=>hc ⟨h1,h2,h3⟩),if_pos h]
theorem cD2 {e:Engine}(h1:bA e=true) (h2:e.state=1) (h3:¬(e.waits.length:Int)=0) (h:e.broken=false):(aK0 e,e.waits)=bI e:=by unfold bI;rw[if_neg (fun hc=>hc ⟨h1,h2,h3⟩),if_neg (by rw[h];simp)]
theorem cE2 {e:Engine}(ge:e.ok):(brk e).ok:=⟨ge.1,ge.2.1,ge.2.2.1,by show I64 2;unfold I64;omega⟩
theorem bG3 (e:Engine) (hw:e.yard.wt<=1048576) (hl:e.disk.files.length<=1048576) (hs:e.waits.length<=1048576):Ct1 prog 15 [.S e] [.S (bI e).1,.L (bI e).2]:=
 .one (bI e) (rk:=fun q=>[.S q.1,.L q.2])<|vc func15 (fun (hg:gin [Par.S e])=>let ge:e.ok:=hg.1.1
  .c func23 (mS e hw hl hs) (hg:=⟨ge,trivial⟩) fun _=>.c func16 (lQ e hw) (hg:=⟨ge,trivial⟩) fun _=>.v (bA e) (fun h=>.rt (e,[]) ⟨tF (fun hc=>by rw[h]at hc;cases hc.1),ge,trivial⟩) (fun h1=>
  .u (e.state=1) (fun h=>.rt (e,[]) ⟨tF (fun hc=>h hc.2.1),ge,trivial⟩) (fun h2=>
  .s ((e.waits.length:Int)=0) (fun h=>.rt (e,[]) ⟨tF (fun hc=>hc.2.2 h),ge,trivial⟩) (fun h3=>
  .sb e.broken (fun h=>.c func30 (bT9 e hw hl hs) (hg:=⟨ge,trivial⟩) fun _=>.rt (brk e,[]) ⟨com_b h1 h2 h3 h,cE2 ge,trivial⟩) (fun h4=>
  .c func35 (SyncFileI e.disk logN hl) fun _=>.rt (aK0 e,e.waits) ⟨cD2 h1 h2 h3 h4,ge,trivial⟩))))) aB
theorem Commit_s (e:Engine) (hw:e.yard.wt<=1048576) (hl:e.disk.files.length<=1048576) (hs:e.waits.length<=1048576):Ct1 prog 81 [.S e] [.S (bI e).1,.L (bI e).2]:=
 .one (bI e) (rk:=fun q=>[.S q.1,.L q.2])<|vc func81 (fun (hg:gin [Par.S e])=>let ge:e.ok:=hg.1.1
  .c func26 (eB e hw hl hs) (hg:=⟨ge,trivial⟩) fun _=>.e Wait<|.c func37 (rI e hw) (hg:=⟨ge,trivial⟩) fun _=>.v (bA e) (fun h=>.rt (e,[]) ⟨tF (fun hc=>by rw[h]at hc;cases hc.1),ge,trivial⟩) (fun h1=>
  .u (e.state=1) (fun h=>.rt (e,[]) ⟨tF (fun hc=>h hc.2.1),ge,trivial⟩) (fun h2=>
  .s ((e.waits.length:Int)=0) (fun h=>.rt (e,[]) ⟨tF (fun hc=>hc.2.2 h),ge,trivial⟩) (fun h3=>
  .sb e.broken (fun h=>.rt (brk e,[]) ⟨com_b h1 h2 h3 h,cE2 ge,trivial⟩) (fun h4=>
  .c func43 (aQ8 e.disk logN hl) fun _=>.sh 11<|.e Wait<|.as (inferInstance:Shape Wait) lW [] e.waits 40 (by simp only[length_nil];unfold maxLen;omega) (by simp only[length_nil];omega)<|.rt (aK0 e,e.waits) ⟨cD2 h1 h2 h3 h4,ge,trivial⟩))))) aB
def aL9 (e:Engine):Engine:=⟨e.yard,e.disk,e.next,e.calls,[],3,e.broken⟩
noncomputable def fN (e:Engine):Engine×Int:=if bA e=false then (e,8) else if e.state=3 then (e,15) else (aL9 e,0)
theorem shu_8 {e:Engine}(h:bA e=false):(e,8)=fN e:=by unfold fN;rw[if_pos h]
theorem bX3 {e:Engine}(h:bA e=true) (h2:e.state=3):(e,15)=fN e:=by unfold fN;rw[if_neg (by rw[h];simp),if_pos h2]
theorem shu_0 {e:Engine}(h:bA e=true) (h2:¬e.state=3):(aL9 e,0)=fN e:=by unfold fN;rw[if_neg (by rw[h];simp),if_neg h2]
theorem bM5 {e:Engine}(ge:e.ok):(aL9 e).ok:=⟨ge.1,ge.2.1,ge.2.2.1,by show I64 3;unfold I64;omega⟩
theorem Shut_i (e:Engine) (hw:e.yard.wt<=1048576) (hl:e.disk.files.length<=1048576) (hs:e.waits.length<=1048576):Ct1 prog 17 [.S e] [.S (fN e).1,.I (fN e).2]:=
 .one (fN e) (rk:=fun q=>[.S q.1,.I q.2])<|vc func17 (fun (hg:gin [Par.S e])=>let ge:e.ok:=hg.1.1
  .c func23 (mS e hw hl hs) (hg:=⟨ge,trivial⟩) fun _=>.c func16 (lQ e hw) (hg:=⟨ge,trivial⟩) fun _=>.v (bA e) (fun h=>.rt (e,8) ⟨shu_8 h,ge,trivial⟩) (fun h1=>
  .s (e.state=3) (fun h=>.rt (e,15) ⟨bX3 h1 h,ge,trivial⟩) (fun h2=>.rt (aL9 e,0) ⟨shu_0 h1 h2,bM5 ge,trivial⟩))) aB
theorem Shut_s (e:Engine) (hw:e.yard.wt<=1048576) (hl:e.disk.files.length<=1048576) (hs:e.waits.length<=1048576):Ct1 prog 85 [.S e] [.S (fN e).1,.I (fN e).2]:=
 .one (fN e) (rk:=fun q=>[.S q.1,.I q.2])<|vc func85 (fun (hg:gin [Par.S e])=>let ge:e.ok:=hg.1.1
  .c func26 (eB e hw hl hs) (hg:=⟨ge,trivial⟩) fun _=>.c func37 (rI e hw) (hg:=⟨ge,trivial⟩) fun _=>.v (bA e) (fun h=>.rt (e,8) ⟨shu_8 h,ge,trivial⟩) (fun h1=>
  .s (e.state=3) (fun h=>.rt (e,15) ⟨bX3 h1 h,ge,trivial⟩) (fun h2=>.e Wait<|.sh 11<|.rt (aL9 e,0) ⟨shu_0 h1 h2,bM5 ge,trivial⟩))) aB
def fZ (e:Engine):Engine:=if e.state=1 then ⟨e.yard,e.disk,e.next,e.calls,e.waits,e.state,true⟩ else e
theorem Break_i (e:Engine) (hw:e.yard.wt<=1048576) (hl:e.disk.files.length<=1048576) (hs:e.waits.length<=1048576):Ct1 prog 18 [.S e] [.S (fZ e)]:=
 .one (fZ e) (rk:=fun q=>[.S q])<|vc func18 (fun (hg:gin [Par.S e])=>let ge:e.ok:=hg.1.1
  .c func23 (mS e hw hl hs) (hg:=⟨ge,trivial⟩) fun _=>.s (e.state=1) (fun h=>.rt ⟨e.yard,e.disk,e.next,e.calls,e.waits,e.state,true⟩ ⟨by unfold fZ;rw[if_pos h],ge,trivial⟩) (fun h=>.rt e ⟨by unfold fZ;rw[if_neg h],ge,trivial⟩)) aB
theorem bU0 (e:Engine) (hw:e.yard.wt<=1048576) (hl:e.disk.files.length<=1048576) (hs:e.waits.length<=1048576):Ct1 prog 84 [.S e] [.S (fZ e)]:=
 .one (fZ e) (rk:=fun q=>[.S q])<|vc func84 (fun (hg:gin [Par.S e])=>let ge:e.ok:=hg.1.1
  .c func26 (eB e hw hl hs) (hg:=⟨ge,trivial⟩) fun _=>.s (e.state=1) (fun h=>.rt ⟨e.yard,e.disk,e.next,e.calls,e.waits,e.state,true⟩ ⟨by unfold fZ;rw[if_pos h],ge,trivial⟩) (fun h=>.rt e ⟨by unfold fZ;rw[if_neg h],ge,trivial⟩)) aB
structure FO (f:File):Prop where
 name:jU f.name=true
 data:(f.data.size:Int)<=60000
 safe:inB f.safe 0 (f.data.size:Int)=true
theorem nd_at {fs:List File}(h:∀(k:Nat) (f:File),fs[k]? = some f->fAt fs f.name=(k:Int)):(fs.map File.name).Nodup:=by
 rw[nodup_iff_pairwise_ne,pairwise_iff_getElem];intro i j hi hj hij e;rw[length_map]at hi hj;rw[getElem_map,getElem_map]at e;have h1:=h i _ (getElem?_eq_getElem hi);have h2:=h j _ (getElem?_eq_getElem hj);rw[e,h2]at h1;omega
theorem at_nd {fs:List File}(h:(fs.map File.name).Nodup) {k:Nat}{f:File}(hf:fs[k]? = some f):fAt fs f.name=(k:Int):=by
 have h1:=fAt_mem hf rfl;obtain⟨j,hj,hjl⟩:=oK h1;have h2:=aG9 hj (getElem?_eq_getElem hjl);obtain⟨hk,rfl⟩:=gsi_.1 hf;have h3:(fs.map File.name)[j]'(by rw[length_map];exact hjl)=(fs.map File.name)[k]'(by rw[length_map];exact hk):=by
  rw[getElem_map,getElem_map];exact h2
 have h5:=h;rw[nodup_iff_pairwise_ne,pairwise_iff_getElem]at h5;have h4:j=k:=by
  rcases Nat.lt_trichotomy j k with hlt | he | hgt
  ·exact absurd h3 (h5 j k (by rw[length_map];exact hjl) (by rw[length_map];exact hk) hlt)
  ·exact he
  exact absurd h3.symm (h5 k j (by rw[length_map];exact hk) (by rw[length_map];exact hjl) hgt)
 rw[hj,h4]
theorem dk_iff {d:Disk}:aP d=true↔d.files.length<=4/\(∀f∈d.files,FO f)/\(d.files.map File.name).Nodup:=by
 rw[diskOk_iff];constructor
 ·intro h;refine⟨h.four,fun f hf=>?_,nd_at fun k f hf=>(h.ok k f hf).at_⟩;obtain⟨k,hk⟩:=mem_iff_getElem?.1 hf;have:=h.ok k f hk;exact⟨this.name,this.data,this.safe⟩
 rintro⟨h1,h2,h3⟩;exact⟨h1,fun k f hf=>⟨(h2 f (mem_of_getElem? hf)).name,at_nd h3 hf,(h2 f (mem_of_getElem? hf)).data,(h2 f (mem_of_getElem? hf)).safe⟩⟩
theorem cC6 {d:Disk}(h:aP d=true) {k:Nat}{f g:File}(hf:d.files[k]? = some f) (hn:g.name=f.name) (hg:FO g):aP ⟨d.files.set k g⟩=true:=by
 obtain⟨h1,h2,h3⟩:=dk_iff.1 h;refine dk_iff.2 ⟨by show (d.files.set k g).length<=4;rw[length_set];exact h1,fun x hx=>?_,?_⟩
 ·rcases mem_or_eq_of_mem_set hx with hx | rfl
  ·exact h2 x hx
  exact hg
 show ((d.files.set k g).map File.name).Nodup;rw[map_set,hn];have hk:=(gsi_.1 hf);have:(d.files.map File.name).set k f.name=d.files.map File.name:=by
  obtain⟨hk,rfl⟩:=hk;have e:(d.files.map File.name)[k]'(by rw[length_map];exact hk)=d.files[k].name:=getElem_map ..;rw[<- e];exact set_getElem_self _
 rw[this];exact h3
theorem bA6 {d:Disk}(h:aP d=true) (nm more:ByteArray):aP (dM d nm more).1=true:=by
 unfold dM;split
 ·next hc=>exact hc.2
 exact h
theorem oI {n a b:Int}(h:a<=n) (h2:n<=b):inB n a b=true:=by unfold inB;simp[h,h2]
theorem bO0 {d:Disk}(h:aP d=true) (nm:ByteArray):aP (gB d nm).1=true:=by
 unfold gB;split
 ·show aP (synD d nm)=true;unfold synD;split
  ·next f hf=>
   have hF:=(dk_iff.1 h).2.1 f (mem_of_getElem? hf);exact cC6 h hf rfl ⟨hF.name,hF.data,oI (by show (0:Int)<=(f.data.size:Int);omega) (Int.le_refl _)⟩
  exact h
 exact h
theorem ok_cut {d:Disk}(h:aP d=true) (nm:ByteArray) (n:Int):aP (cY d nm n).1=true:=by
 unfold cY;split
 ·next hc=>
  show aP (bV2 d nm n)=true;unfold bV2;split
  ·next f hf=>
   have hF:=(dk_iff.1 h).2.1 f (mem_of_getElem? hf);have hn:=inB_iff.1 hc.2.2;have hd:yL d nm=(f.data.size:Int):=by unfold yL;rw[hf]
   rw[hd]at hn;have hs:((f.data.extract 0 n.toNat).size:Int)=n:=by rw[ByteArray.size_extract];omega
   have hD:=hF.data;refine cC6 h hf rfl ⟨hF.name,?_,oI ?_ ?_⟩
   ·show ((f.data.extract 0 n.toNat).size:Int)<=60000;omega
   ·show (0:Int)<=(n.toNat:Int);omega
   show (n.toNat:Int)<=((f.data.extract 0 n.toNat).size:Int);omega
  exact h
 exact h
theorem cA1 {fs:List File}(h:(fs.map File.name).Nodup) (k:Nat) (to:ByteArray):∀i,i<=fs.length->((mvG fs k to i).map File.name).Nodup/\∀n∈(mvG fs k to i).map File.name,(n∈(fs.take i).map File.name/\n≠to)∨(n=to/\k<i)
 | 0,_=>⟨nodup_nil,fun n hn=>by cases hn⟩
 | i+1,hi=>by
  obtain⟨h1,h2⟩:=cA1 h k to i aA;have hlt:i<fs.length:=hi;have hf:fs[i]? = some fs[i]:=getElem?_eq_getElem hlt;have e:mvG fs k to (i+1)=if fs[i].name=to then mvG fs k to i else mvG fs k to i++[if i=k then mvF fs[i] to else fs[i]]:=by
   show (match fs[i]? with | some f=>_ | none=>_:List File)=_;rw[hf]
  have htk:(fs.take (i+1)).map File.name=(fs.take i).map File.name++[fs[i].name]:=by rw[take_succ_eq_append_getElem hlt,map_append];rfl
  have up:∀n,(n∈(fs.take i).map File.name/\n≠to)∨(n=to/\k<i)->(n∈(fs.take (i+1)).map File.name/\n≠to)∨(n=to/\k<i+1):=by
   rintro n (⟨a,b⟩ | ⟨a,b⟩)
   ·exact .inl ⟨by rw[htk];exact mem_append_left _ a,b⟩
   exact .inr ⟨a,by omega⟩
  have hnot:fs[i].name∉(fs.take i).map File.name:=by
   have:((fs.take (i+1)).map File.name).Nodup:=by
    have q:=h.sublist (take_sublist (i+1) (fs.map File.name));rw[<- map_take]at q;exact q
   rw[htk,nodup_append]at this;intro hm;exact this.2.2 _ hm _ (mem_singleton.2 rfl) rfl
  rw[e];split
  ·exact⟨h1,fun n hn=>up n (h2 n hn)⟩
  next hne=>
  by_cases hik:i=k
  ·rw[if_pos hik,map_append];refine⟨?_,fun n hn=>?_⟩
   ·rw[nodup_append];refine⟨h1,by simp,fun a ha b hb hab=>?_⟩;have hb:b∈[to]:=hb;rw[mem_singleton]at hb;subst hb hab;rcases h2 _ ha with⟨_,h4⟩ | ⟨_,h4⟩
    ·exact h4 rfl
    omega
   rcases mem_append.1 hn with hn | hn
   ·exact up n (h2 n hn)
   have hn:n∈[to]:=hn;rw[mem_singleton]at hn;exact .inr ⟨hn,by omega⟩
  rw[if_neg hik,map_append];refine⟨?_,fun n hn=>?_⟩
  ·rw[nodup_append];refine⟨h1,by simp,fun a ha b hb hab=>?_⟩;have hb:b∈[fs[i].name]:=hb;rw[mem_singleton]at hb;subst hb;rcases h2 a ha with⟨h4,_⟩ | ⟨h4,_⟩
   ·exact hnot (hab▸h4)
   exact hne (hab▸h4)
  rcases mem_append.1 hn with hn | hn
  ·exact up n (h2 n hn)
  have hn:n∈[fs[i].name]:=hn;rw[mem_singleton]at hn;rw[hn];exact .inl ⟨by rw[htk];simp,hne⟩
theorem cA2 {fs:List File}(h:∀f∈fs,FO f) (k:Nat) {to:ByteArray}(ht:jU to=true):∀i,∀f∈mvG fs k to i,FO f
 | 0,f,hf=>by cases hf
 | i+1,f,hf=>by
  have ih:=cA2 h k ht i;have hf:f∈(match fs[i]? with | some g=>if g.name=to then mvG fs k to i else mvG fs k to i++[if i=k then mvF g to else g] | none=>mvG fs k to i):=hf;split at hf
  ·next g hg=>
   have hG:=h g (mem_of_getElem? hg);split at hf
   ·exact ih f hf
   ·rcases mem_append.1 hf with h1 | h1
    ·exact ih f h1
    ·rw[mem_singleton]at h1;subst h1;split
     ·exact⟨ht,hG.data,hG.safe⟩
     ·exact hG
  ·exact ih f hf
theorem ok_move {d:Disk}(h:aP d=true) (fr to:ByteArray):aP (gW d fr to).1=true:=by
 unfold gW;split
 ·next hc=>
  obtain⟨h1,h2,h3⟩:=dk_iff.1 h;exact dk_iff.2 ⟨Nat.le_trans (zJ _ _ _ _) h1,cA2 h2 _ hc.2.2.2.1 _,(cA1 h3 _ _ _ (Nat.le_refl _)).1⟩
 exact h
theorem ok_op {e:Engine}(h:aP e.disk=true) (k:Int):aP (opF e k).1=true:=by
 unfold opF qA
 repeat' split
 all_goals first | exact h | exact ok_cut h _ _ | exact bA6 h _ _ | exact bO0 h _ | exact ok_move h _ _
theorem aP0 {e:Engine}(h:bA e=true) {e':Engine}(h1:aG e'.yard=true) (h2:aP e'.disk=true) (h3:inB e'.next 1 999999999=true) (h4:e'.calls=e.calls) (h5:e'.waits=e.waits∨e'.waits=[]) (h6:inB e'.state 1 3=true):bA e'=true:=by
 have hp:=engOk_iff.1 h;refine engOk_iff.2 { yard:=h1,disk:=h2,next:=h3,calls:=by rw[h4];exact hp.calls,waits := ?_,state:=h6,ok:=fun k w hw=>?_ }
 ·rcases h5 with h5 | h5
  ·rw[h5];exact hp.waits
  rw[h5];decide
 rcases h5 with h5 | h5
 ·rw[h5]at hw;have:=hp.ok k w hw;exact⟨by rw[h4];exact this.rng,fun j v hj hv=>this.up j v hj (by rw[<- h5];exact hv)⟩
 rw[h5]at hw;simp at hw
theorem ek_mst {e:Engine}(k:Int) (h:bA e=true):bA (fP e k).1=true:=by
 have hp:=engOk_iff.1 h;unfold fP;split
 ·exact h
 split
 ·exact aP0 h hp.yard hp.disk hp.next rfl (.inl rfl) (by show inB 2 1 3=true;decide)
 exact aP0 h hp.yard (ok_op hp.disk k) hp.next rfl (.inl rfl) hp.state
theorem cC3 {e:Engine}(h:bA e=true):∀k,bA (fY e k).1=true
 | 0=>h
 | k+1=>by
  have ih:=cC3 h k;show bA (if (fY e k).2=true then fP (fY e k).1 k else fY e k).1=true;split
  ·exact ek_mst _ ih
  ·exact ih
theorem bI7 {e:Engine}(h:bA e=true):bA (brk e)=true:=by
 have hp:=engOk_iff.1 h;exact aP0 h hp.yard hp.disk hp.next rfl (.inl rfl) (by show inB 2 1 3=true;decide)
theorem aV0 {e:Engine}(h:bA e=true):bA (fZ e)=true:=by
 have hp:=engOk_iff.1 h;unfold fZ;split
 ·exact aP0 h hp.yard hp.disk hp.next rfl (.inl rfl) hp.state
 exact h
theorem ek_shut {e:Engine}(h:bA e=true):bA (aL9 e)=true:=by
 have hp:=engOk_iff.1 h;exact aP0 h hp.yard hp.disk hp.next rfl (.inr rfl) (by show inB 3 1 3=true;decide)
theorem bF0 {e:Engine}(h:bA e=true):bA (fN e).1=true:=by
 unfold fN
 repeat' split
 all_goals first | exact h | exact ek_shut h
theorem ek_com {e:Engine}(h:bA e=true):bA (aK0 e)=true:=by
 have hp:=engOk_iff.1 h;exact aP0 h hp.yard (bO0 hp.disk _) hp.next rfl (.inr rfl) hp.state
theorem ek_comF {e:Engine}(h:bA e=true):bA (bI e).1=true:=by
 unfold bI
 repeat' split
 all_goals first | exact h | exact bI7 h | exact ek_com h
theorem ek_callE {e:Engine}{d:Deed}(h:bA e=true) (hy:aG (doD e.yard d).1=true) (hn:e.next<=999999998) (hc:e.calls<=999999998) (hw:e.waits.length<=59):bA (vO e d)=true:=by
 have hp:=engOk_iff.1 h;have hn1:=inB_iff.1 hp.next;have hc1:=inB_iff.1 hp.calls;refine engOk_iff.2 { yard:=hy,disk:=bA6 hp.disk _ _,next:=oI (by show (1:Int)<=e.next+1;omega) (by show e.next+1<=999999999;omega),calls:=oI (by show (0:Int)<=e.calls+1;omega) (by show e.calls+1<=999999999;omega),waits := ?_,state:=hp.state,ok:=fun k w hw=>?_ }
 ·show ¬(60:Int)<((e.waits++[_]).length:Int);rw[length_append,length_singleton];omega
 have hwk:(e.waits++[(⟨e.calls+1,(doD e.yard d).2⟩:Wait)])[k]? = some w:=hw;by_cases hk:k<e.waits.length
 ·rw[getElem?_append_left hk]at hwk;have:=hp.ok k w hwk;have hr:=inB_iff.1 this.rng;refine⟨oI hr.1 (by show w.call<=e.calls+1;omega),fun j v hj hv=>this.up j v hj ?_⟩;have hv:(e.waits++[(⟨e.calls+1,(doD e.yard d).2⟩:Wait)])[j]? = some v:=hv;rw[getElem?_append_left aA]at hv;exact hv
 have hkl:k=e.waits.length:=by
  have:=(gsi_.1 hwk).1;rw[length_append,length_singleton]at this;omega
 subst hkl;rw[getElem?_append_right (Nat.le_refl _),Nat.sub_self]at hwk;simp only[getElem?_cons_zero,Option.some.injEq]at hwk;subst hwk;refine⟨oI (by show (1:Int)<=e.calls+1;omega) (Int.le_refl _),fun j v hj hv=>?_⟩;have hv:(e.waits++[(⟨e.calls+1,(doD e.yard d).2⟩:Wait)])[j]? = some v:=hv;rw[getElem?_append_left aA]at hv;have:=inB_iff.1 (hp.ok j v hv).rng;show v.call<e.calls+1;omega
structure EI (k:Nat) (e:Engine):Prop where
 ok:bA e=true
 yard:MkY (1+100*(k:Int)) e.yard
 yw:e.yard.wt<=1048576
 nx:e.next<=1+(k:Int)
 ca:e.calls<=(k:Int)
 wl:e.waits.length<=k
theorem MkY.mono {B B':Int}{y:Yard}(h:MkY B y) (hb:B<=B'):MkY B' y:=⟨h.good,h.time,by have:=h.seq;omega⟩
theorem EI.up {k j:Nat}{e:Engine}(h:EI k e) (hj:k<=j):EI j e:=⟨h.ok,h.yard.mono aA,h.yw,by have:=h.nx;omega,by have:=h.ca;omega,by have:=h.wl;omega⟩
theorem EI.call {k:Nat}{e:Engine}(d:Deed) (h:EI k e) (hk:k<=50):EI (k+1) (bM e d).1:=by
 have hu:=h.up (j:=k+1) aA;unfold bM
 repeat' split
 all_goals first | exact hu | exact⟨bI7 h.ok,hu.yard,hu.yw,hu.nx,hu.ca,hu.wl⟩ | skip
 have hy:=h.yard;have g:=do_good d hy.good hy.time (by have:=hy.seq;omega);have hs:=hy.seq;have hq:MkY (1+100*((k+1:Nat):Int)) (doD e.yard d).1:=⟨g.good,g.time,by have:=g.seq;omega⟩;refine⟨ek_callE h.ok (hq.good.ok hq.time (by have:=hq.seq;omega)) (by have:=h.nx;omega) (by have:=h.ca;omega) (by have:=h.wl;omega),hq,bI8 d aA h.yw,?_,?_,?_⟩
 ·show e.next+1<=_;have:=h.nx;omega
 ·show e.calls+1<=_;have:=h.ca;omega
 show (e.waits++[_]).length<=_;rw[length_append,length_singleton];have:=h.wl;omega
theorem EI.commit {k:Nat}{e:Engine}(h:EI k e):EI k (bI e).1:=by
 have hk:=ek_comF h.ok;revert hk;unfold bI
 repeat' split
 ·exact fun _=>h
 ·exact fun hk=>⟨hk,h.yard,h.yw,h.nx,h.ca,h.wl⟩
 exact fun hk=>⟨hk,h.yard,h.yw,h.nx,h.ca,Nat.zero_le _⟩
theorem cA5 {e:Engine}:∀k,(fY e k).1.next=e.next/\(fY e k).1.calls=e.calls/\(fY e k).1.yard=e.yard/\(fY e k).1.waits=e.waits
 | 0=>⟨rfl,rfl,rfl,rfl⟩
 | k+1=>by
  obtain⟨h1,h2,h3,h4⟩:=cA5 (e:=e) k;have key:∀x:Engine,∀j,(fP x j).1.next=x.next/\(fP x j).1.calls=x.calls/\(fP x j).1.yard=x.yard/\(fP x j).1.waits=x.waits:=by
   intro x j;unfold fP
   repeat' split
   all_goals exact⟨rfl,rfl,rfl,rfl⟩
  show (if (fY e k).2=true then fP (fY e k).1 k else fY e k).1.next=_/\_;by_cases hk:(fY e k).2=true
  ·obtain⟨a,b,c,d⟩:=key (fY e k).1 k;rw[bB7 hk,if_pos hk];exact⟨a.trans h1,b.trans h2,c.trans h3,d.trans h4⟩
  have e0:fY e (k+1)=fY e k:=by show (if _ then _ else _)=_;rw[if_neg hk]
  rw[if_neg hk,e0];exact⟨h1,h2,h3,h4⟩
theorem EI.mark {k:Nat}{e:Engine}(n:Int) (h:EI k e):EI k (aE3 e n).1:=by
 obtain⟨h1,h2,h3,h4⟩:=cA5 (e:=e) (fR n 0 5).toNat;refine⟨cC3 h.ok _,?_,?_,?_,?_,?_⟩
 ·show MkY _ (fY e (fR n 0 5).toNat).1.yard;rw[h3];exact h.yard
 ·show (fY e (fR n 0 5).toNat).1.yard.wt<=_;rw[h3];exact h.yw
 ·show (fY e (fR n 0 5).toNat).1.next<=_;rw[h1];exact h.nx
 ·show (fY e (fR n 0 5).toNat).1.calls<=_;rw[h2];exact h.ca
 show (fY e (fR n 0 5).toNat).1.waits.length<=_;rw[h4];exact h.wl
theorem EI.brk {k:Nat}{e:Engine}(h:EI k e):EI k (fZ e):=by
 have hk:=aV0 h.ok;revert hk;unfold fZ;split
 ·exact fun hk=>⟨hk,h.yard,h.yw,h.nx,h.ca,h.wl⟩
 exact fun _=>h
theorem EI.shut {k:Nat}{e:Engine}(h:EI k e):EI k (fN e).1:=by
 have hk:=bF0 h.ok;revert hk;unfold fN
 repeat' split
 ·exact fun _=>h
 ·exact fun _=>h
 exact fun hk=>⟨hk,h.yard,h.yw,h.nx,h.ca,Nat.zero_le _⟩
theorem EI.new:EI 0 engineNew:=by
 refine⟨?_,⟨gd_new.1,gd_new.2,by decide⟩,by decide,by decide,by decide,by decide⟩;refine engOk_iff.2 { yard:=gd_new.1.ok gd_new.2 eZ,disk:=dk_iff.2 ⟨by decide,(fun f hf=>by cases hf),nodup_nil⟩,next:=by decide,calls:=by decide,waits:=by decide,state:=by decide,ok:=fun k w hw=>by cases hw }
theorem vD:engineNew.ok:=by simp[engineNew,yardNew,Engine.ok,Yard.ok,Disk.ok,I64]
theorem EngineNewSD:Ct1 prog 80 [] [.S engineNew]:=vc func80 (fun _=>.c func125 YardNewSD fun _=>.rt () ⟨trivial,vD,trivial⟩) aB
noncomputable def bF4 (k:Int) (q:(Int×Int×Int)×Cur):Deed×Cur:=(⟨k,q.1.1,zP,fR q.1.2.1 0 99,fR q.1.2.2 0 99,0,0⟩,q.2)
noncomputable def jV (code:List UInt8) (y:Yard) (c:Cur):Deed×Cur:=
 let k:=bN code c 20
 let c1:=bC code c 20
 if k<6 then (⟨2,0,zP,0,0,bN code c1 8,bN code (bC code c1 8) 7⟩,bC code (bC code c1 8) 7)
 else if k<10 then (⟨1,1+bN code c1 9,(oX code (bC code c1 9)).1,0,0,0,0⟩,(oX code (bC code c1 9)).2)
 else if k<15 then bF4 3 (iN code y.runs c1)
 else if k=15 then bF4 4 (iN code y.runs c1)
 else if k=16 then (⟨5,0,zP,0,0,0,0⟩,c1)
 else if k=17 then (⟨6,1+bN code c1 9,zP,0,0,0,0⟩,bC code c1 9)
 else if k=18 then (⟨7,1+bN code c1 9,zP,0,0,0,0⟩,bC code c1 9)
 else if bN code c1 3=0 then (⟨8,0,zP,0,0,0,0⟩,bC code c1 3) else (⟨5,0,zP,0,0,0,0⟩,bC code c1 3)
theorem bro_i (n:Int):I64 (fR n 0 99):=by
 unfold I64 fR;rw[if_neg aA];split
 ·omega
 omega
theorem bN6 (code:List UInt8) (t:Int):∀f i c es,bQ code c->es.length<=i->bQ code (uL code t f i c es).2/\(uL code t f i c es).1.length<=i+f
 | 0,i,c,es,hc,hl=>⟨hc,by show es.length<=i+0;omega⟩
 | f+1,i,c,es,hc,hl=>by
  unfold uL;split
  ·have:=bN6 code t f (i+1) (bC code (bC code (bC code c 9) (t-1)) (1+bN code (bC code c 9) (t-1))) (if (⟨bN code (bC code (bC code c 9) (t-1)) (1+bN code (bC code c 9) (t-1)),1+bN code (bC code c 9) (t-1)⟩:Edge)∈es then es else es++[⟨bN code (bC code (bC code c 9) (t-1)) (1+bN code (bC code c 9) (t-1)),1+bN code (bC code c 9) (t-1)⟩]) (aE _ (aE _ (aE _ hc))) (by
    split
    ·omega
    ·rw[length_append,length_singleton];omega)
   exact⟨this.1,by have:=this.2;omega⟩
  ·exact⟨aE _ hc,by show es.length<=_;omega⟩
theorem plan_p (code:List UInt8) {c:Cur}(hc:bQ code c):bQ code (oX code c).2/\(oX code c).1.edges.length<=9:=by
 have:=bN6 code (wH code c) 9 0 (bC code (bA0 code c) 10) [] (aE _ (aE _ (aE _ (aE _ (aE _ hc))))) (Nat.le_refl _);exact⟨this.1,by have:=this.2;show (aZ9 code c).1.length<=9;unfold aZ9;omega⟩
theorem aU4 (code:List UInt8):∀(rs:List Run) {c:Cur},bQ code c->bQ code (iN code rs c).2
 | [],c,hc=>aE _ (aE _ (aE _ hc))
 | r::rs,c,hc=>by
  unfold iN;split
  ·exact aU4 code rs hc
  ·split
   ·exact aU4 code rs (aE _ hc)
   ·dsimp only;split
    ·exact aE _ (aE _ (aE _ (aE _ hc)))
    ·exact aE _ (aE _ (aE _ hc))
theorem cC9 (code:List UInt8) (y:Yard) {c:Cur}(hc:bQ code c):bQ code (jV code y c).2/\(jV code y c).1.plan.edges.length<=9:=by
 have h1:bQ code (bC code c 20):=aE 20 hc;unfold jV;dsimp only
 repeat' split
 ·exact⟨aE _ (aE _ h1),Nat.zero_le _⟩
 ·exact plan_p code (aE _ h1)
 ·exact⟨aU4 code _ h1,Nat.zero_le _⟩
 ·exact⟨aU4 code _ h1,Nat.zero_le _⟩
 ·exact⟨h1,Nat.zero_le _⟩
 ·exact⟨aE _ h1,Nat.zero_le _⟩
 ·exact⟨aE _ h1,Nat.zero_le _⟩
 ·exact⟨aE _ h1,Nat.zero_le _⟩
 exact⟨aE _ h1,Nat.zero_le _⟩
theorem yg_tr {y:Yard}(h:YG y):TrB y:=by
 intro r hr;have hR:=(h.core.runs r hr).1;refine⟨hR.small.2.1,fun t ht=>?_⟩;have:=bX5 hR t.try_ (by
  unfold jS;simp only[mem_cons,mem_append,mem_flatMap];exact .inr (.inr (.inr ⟨t,ht,by unfold fK;simp⟩)))
 exact this
def DeR (code:List UInt8) (y:Yard) (c:Cur) (q:(Deed×Cur)×Nat):Prop:=q.1=jV code y c/\q.1.1.ok
section
variable (code:List UInt8) (hl:code.length<=1048576)
include hl
noncomputable def deedD (y:Yard) (hw:y.wt<=1048576) (ht:TrB y) (gy:y.ok) (c:Cur) (hc:bQ code c) (nx:Nat):D prog (DeR code y c):=
 let k:=bN code c 20
 let c1:=bC code c 20
 let h1:bQ code c1:=aE 20 hc
 let z:I64 0:=z64
 let dg:∀kd r p t w v x:Int,kd=kd->True:=fun _ _ _ _ _ _ _ _=>trivial
 let rk:=fS code c (n:=20) aA
 let ok0:∀kd r a b w v:Int,(0<=kd/\kd<=8)->(0<=r/\r<=1000)->(0<=a/\a<=1000)->(0<=b/\b<=1000)->(0<=w/\w<=1000)->(0<=v/\v<=1000)->(⟨kd,r,zP,a,b,w,v⟩:Deed).ok:=fun kd r a b w v q1 q2 q3 q4 q5 q6=>⟨by show I64 kd;unfold I64;omega,by show I64 r;unfold I64;omega,xH,by show I64 a;unfold I64;omega,by show I64 b;unfold I64;omega,by show I64 w;unfold I64;omega,by show I64 v;unfold I64;omega⟩
 let held:∀kd:Int,(0<=kd/\kd<=8)->jV code y c=bF4 kd (iN code y.runs c1)->D prog (DeR code y c):=fun kd hkd he=>
  .in_ func130 (heldD code hl y hw ht gy c1 h1 (nx+2)) fun q hq=>
   .c func25 (rJ q.1.1.2.1 0 99) fun _=>.c func25 (rJ q.1.1.2.2 0 99) fun _=>.rt (bF4 kd q.1,q.2) ⟨by have hq:q.1=_:=hq.1;show bF4 kd q.1=_;rw[hq,he],⟨by show I64 kd;unfold I64;omega,hq.2,xH,bro_i _,bro_i _,z64,z64⟩⟩
 .cv _ func27 (cS code c 20 hc hl aA) trivial fun _ _ _=>.s (k<6)
  (fun g1=>
   let c2:=bC code c1 8
   let h2:bQ code c2:=aE 8 h1
   let r1:=fS code c1 (n:=8) aA
   let r2:=fS code c2 (n:=7) aA
   .cv _ func27 (cS code c1 8 h1 hl aA) trivial fun _ _ _=>.cv _ func27 (cS code c2 7 h2 hl aA) trivial fun _ _ _=>
   .rt ((⟨2,0,zP,0,0,bN code c1 8,bN code c2 7⟩,bC code c2 7),nx+2) ⟨by unfold jV;dsimp only;rw[if_pos g1],ok0 _ _ _ _ _ _ aA aA aA aA aA aA⟩)
  (fun g1=>.s (k<10)
   (fun g2=>
    let c2:=bC code c1 9
    let h2:bQ code c2:=aE 9 h1
    let r1:=fS code c1 (n:=9) aA
    .cv _ func27 (cS code c1 9 h1 hl aA) trivial fun _ _ _=>.p 1 (bN code c1 9)<|.cv _ func129 (Plan_v code hl c2 h2) trivial fun _ _ gp=>
    .rt ((⟨1,1+bN code c1 9,(oX code c2).1,0,0,0,0⟩,(oX code c2).2),nx+3) ⟨by unfold jV;dsimp only;rw[if_neg g1,if_pos g2],⟨by show I64 1;unfold I64;omega,by show I64 (1+bN code c1 9);unfold I64;omega,gp.1.1,z64,z64,z64,z64⟩⟩)
   (fun g2=>.s (k<15)
    (fun g3=>held 3 aA (by unfold jV;dsimp only;rw[if_neg g1,if_neg g2,if_pos g3]))
    (fun g3=>.s (k=15)
     (fun g4=>held 4 aA (by unfold jV;dsimp only;rw[if_neg g1,if_neg g2,if_neg g3,if_pos g4]))
     (fun g4=>.s (k=16)
      (fun g5=>.rt ((⟨5,0,zP,0,0,0,0⟩,c1),nx+2) ⟨by unfold jV;dsimp only;rw[if_neg g1,if_neg g2,if_neg g3,if_neg g4,if_pos g5],ok0 _ _ _ _ _ _ aA aA aA aA aA aA⟩)
      (fun g5=>
       let c2:=bC code c1 9
       let r1:=fS code c1 (n:=9) aA
       .s (k=17)
       (fun g6=>.cv _ func27 (cS code c1 9 h1 hl aA) trivial fun _ _ _=>.p 1 (bN code c1 9)<|.rt ((⟨6,1+bN code c1 9,zP,0,0,0,0⟩,c2),nx+2) ⟨by unfold jV;dsimp only;rw[if_neg g1,if_neg g2,if_neg g3,if_neg g4,if_neg g5,if_pos g6],ok0 _ _ _ _ _ _ aA aA aA aA aA aA⟩)
       (fun g6=>.s (k=18)
        (fun g7=>.cv _ func27 (cS code c1 9 h1 hl aA) trivial fun _ _ _=>.p 1 (bN code c1 9)<|.rt ((⟨7,1+bN code c1 9,zP,0,0,0,0⟩,c2),nx+2) ⟨by unfold jV;dsimp only;rw[if_neg g1,if_neg g2,if_neg g3,if_neg g4,if_neg g5,if_neg g6,if_pos g7],ok0 _ _ _ _ _ _ aA aA aA aA aA aA⟩)
        (fun g7=>.cv _ func28 (aW3 code c1 3 h1 hl aA) trivial fun _ _ _=>.sb (aD7 code c1 3).1
         (fun g8=>.rt ((⟨8,0,zP,0,0,0,0⟩,bC code c1 3),nx+2) ⟨by unfold jV;dsimp only;rw[if_neg g1,if_neg g2,if_neg g3,if_neg g4,if_neg g5,if_neg g6,if_neg g7,if_pos (of_decide_eq_true g8)],ok0 _ _ _ _ _ _ aA aA aA aA aA aA⟩)
         (fun g8=>.rt ((⟨5,0,zP,0,0,0,0⟩,bC code c1 3),nx+2) ⟨by unfold jV;dsimp only;rw[if_neg g1,if_neg g2,if_neg g3,if_neg g4,if_neg g5,if_neg g6,if_neg g7,if_neg (of_decide_eq_false g8)],ok0 _ _ _ _ _ _ aA aA aA aA aA aA⟩))))))))
end
def tickD:Deed:=⟨5,0,zP,0,0,0,0⟩
theorem pH:tickD.ok:=⟨by show I64 5;unfold I64;omega,z64,xH,z64,z64,z64,z64⟩
noncomputable def tE (code:List UInt8):Nat->Nat->Cur->Engine->Engine×Cur
 | 0,_,c,e=>(e,c)
 | f+1,i,c,e=>
  if (i:Int)<bN code c 16 then
   if bN code (bC code c 16) 7=0 then tE code f (i+1) (bC code (bC code c 16) 7) (bI e).1
   else if bN code (bC code c 16) 7=1 then tE code f (i+1) (bC code (bC code (bC code c 16) 7) 7) (aE3 e (bN code (bC code (bC code c 16) 7) 7)).1
   else tE code f (i+1) (jV code e.yard (bC code (bC code c 16) 7)).2 (bM e (jV code e.yard (bC code (bC code c 16) 7)).1).1
  else (e,bC code c 16)
noncomputable def bV0 (code:List UInt8) (r:Engine×Cur):Engine×Cur:=
 if bN code r.2 10=0 then (fZ r.1,bC code r.2 10)
 else if bN code r.2 10=1 then ((bM (fZ r.1) tickD).1,bC code r.2 10)
 else if bN code r.2 10=2 then ((fN r.1).1,bC code r.2 10)
 else (r.1,bC code r.2 10)
noncomputable def pE (code:List UInt8) (c:Cur):Engine×Cur:=bV0 code (tE code 16 0 c engineNew)
structure EdJ (code:List UInt8) (tot:Engine×Cur) (g:Nat×Cur×Engine):Prop where
 eq:tE code (16-g.1) g.1 g.2.1 g.2.2=tot
 cu:bQ code g.2.1
 ei:EI g.1 g.2.2
 gk:g.2.2.ok
 mx:g.1<=15
theorem EdJ.st {code:List UInt8}{tot:Engine×Cur}{g:Nat×Cur×Engine}(h:EdJ code tot g) (h1:(g.1:Int)<bN code g.2.1 16) :
  (if bN code (bC code g.2.1 16) 7=0 then tE code (16-(g.1+1)) (g.1+1) (bC code (bC code g.2.1 16) 7) (bI g.2.2).1
   else if bN code (bC code g.2.1 16) 7=1 then tE code (16-(g.1+1)) (g.1+1) (bC code (bC code (bC code g.2.1 16) 7) 7) (aE3 g.2.2 (bN code (bC code (bC code g.2.1 16) 7) 7)).1
   else tE code (16-(g.1+1)) (g.1+1) (jV code g.2.2.yard (bC code (bC code g.2.1 16) 7)).2 (bM g.2.2 (jV code g.2.2.yard (bC code (bC code g.2.1 16) 7)).1).1)=tot:=by
 have hm:=h.mx;have e:=h.eq;rw[show 16-g.1=(16-(g.1+1))+1 by omega]at e;unfold tE at e;rw[if_pos h1]at e;exact e
theorem EdJ.fin {code:List UInt8}{tot:Engine×Cur}{g:Nat×Cur×Engine}(h:EdJ code tot g) (h1:¬(g.1:Int)<bN code g.2.1 16):(g.2.2,bC code g.2.1 16)=tot:=by
 have hm:=h.mx;have e:=h.eq;rw[show 16-g.1=(15-g.1)+1 by omega]at e;unfold tE at e;rw[if_neg h1]at e;exact e
theorem EI.lens {k:Nat}{e:Engine}(h:EI k e):e.disk.files.length<=1048576/\e.waits.length<=1048576:=by
 have h1:=rE (engOk_iff.1 h.ok).disk;have h2:=(engOk_iff.1 h.ok).waits;omega
abbrev egS (e:Engine) (b s r f q:Nat):List (Nat×To):=[oB b [.v (I e.yard.now),.v (I e.yard.seq),.r s,.r r,.r f,.v (I e.next),.v (I e.calls),.r q,.v (I e.state),.b e.broken],oO s e.yard.shelf,oO r e.yard.runs,oO f e.disk.files,oO q e.waits]
section
variable (code:List UInt8) (hl:code.length<=1048576)
include hl
theorem Eng_v (c:Cur) (hc:bQ code c):Cv1 prog 47 code [] c (pE code c).2 [.S (pE code c).1]:=
 Cv.one (pE code c) (y:=fun q=>q.2) (rk:=fun q=>[.S q.1])<|vcv func47 (fun _=>
  .c func80 EngineNewSD fun _=>.la (Γ:=Nat×Cur×Engine) (EdJ code (tE code 16 0 c engineNew)) (fun g=>16-g.1) (fun g=>[vI 4 g.1]) (fun g=>oB 0 [.r 1,.v (I g.2.1.i),.v (I g.2.1.h)]::egS g.2.2 7 3 4 5 6) (0,c,engineNew) (h:=⟨rfl,hc,EI.new,vD,Nat.zero_le _⟩) fun g hJ tk=>
   let e:=g.2.2
   let gk:e.ok:=hJ.gk
   let hq:=hJ.ei.lens
   let hm:=hJ.mx
   let yw:=hJ.ei.yw
   let c1:=bC code g.2.1 16
   let k1:bQ code c1:=aE 16 hJ.cu
   let c2:=bC code c1 7
   let k2:bQ code c2:=aE 7 k1
   let r0:=fS code g.2.1 (n:=16) aA
   .cv _ func27 (cS code g.2.1 16 hJ.cu hl aA) trivial fun _ _ _=>.s ((g.1:Int)<bN code g.2.1 16)
    (fun h=>.cv _ func27 (cS code c1 7 k1 hl aA) trivial fun _ _ _=>.s (bN code c1 7=0)
     (fun h1=>.c func81 (Commit_s e yw hq.1 hq.2) (hg:=⟨gk,trivial⟩) fun hz=>.p g.1 1 (h:=by unfold I64;omega) <|
      .n tk (g.1+1,c2,(bI e).1) [(3,8),(4,9),(5,10),(6,11)] (h1:=⟨by have:=hJ.st h;rw[if_pos h1]at this;exact this,k2,hJ.ei.commit.up aA,hz.1.1,by show g.1+1<=15;omega⟩) (h2:=by show 16-(g.1+1)<16-g.1;omega))
     (fun h1=>.s (bN code c1 7=1)
      (fun h2=>.cv _ func27 (cS code c2 7 k2 hl aA) trivial fun _ _ _=>.c func8 (MarkS e (bN code c2 7) yw hq.1 hq.2) (hg:=⟨gk,trivial⟩) fun hz=>.p g.1 1 (h:=by unfold I64;omega) <|
       .n tk (g.1+1,bC code c2 7,(aE3 e (bN code c2 7)).1) [(3,8),(4,9),(5,10),(6,11)] (h1:=⟨by have:=hJ.st h;rw[if_neg h1,if_pos h2]at this;exact this,aE 7 k2,(hJ.ei.mark _).up aA,hz.1.1,by show g.1+1<=15;omega⟩) (h2:=by show 16-(g.1+1)<16-g.1;omega))
      (fun h2=>.in_ func83 (deedD code hl e.yard yw (yg_tr hJ.ei.yard.good) gk.1 c2 k2 8) fun q hq2=>.c func82 (cF4 e q.1.1 yw hq.1 hq.2) (hg:=⟨gk,hq2.2,trivial⟩) fun hz=>.p g.1 1 (h:=by unfold I64;omega) <|
       .n tk (g.1+1,q.1.2,(bM e q.1.1).1) [(3,q.2),(4,q.2+1),(5,q.2+2),(6,q.2+3)] (h1:=⟨by have:=hJ.st h;rw[if_neg h1,if_neg h2,<- hq2.1]at this;exact this,by show bQ code q.1.2;rw[hq2.1];exact(cC9 code _ k2).1,hJ.ei.call _ aA,hz.1.1,by show g.1+1<=15;omega⟩) (h2:=by show 16-(g.1+1)<16-g.1;omega))))
    (fun h=>let hf:=hJ.fin h
     let k:=bN code c1 10
     .cv _ func27 (cS code c1 10 k1 hl aA) trivial fun _ _ _=>.s (k=0)
      (fun h1=>.c func84 (bU0 e yw hq.1 hq.2) (hg:=⟨gk,trivial⟩) fun hz=>.rt (fZ e,bC code c1 10) ⟨by unfold pE bV0;rw[<- hf,if_pos h1],hz.1.1,trivial⟩)
      (fun h1=>.s (k=1)
       (fun h2=>.c func84 (bU0 e yw hq.1 hq.2) (hg:=⟨gk,trivial⟩) fun hz=>let hb:=hJ.ei.brk
        let hq3:=hb.lens
        .c func82 (cF4 (fZ e) tickD hb.yw hq3.1 hq3.2) (hg:=⟨hz.1.1,pH,trivial⟩) fun hz2=>.rt ((bM (fZ e) tickD).1,bC code c1 10) ⟨by unfold pE bV0;rw[<- hf,if_neg h1,if_pos h2],hz2.1.1,trivial⟩)
       (fun h2=>.s (k=2)
        (fun h3=>.c func85 (Shut_s e yw hq.1 hq.2) (hg:=⟨gk,trivial⟩) fun hz=>.rt ((fN e).1,bC code c1 10) ⟨by unfold pE bV0;rw[<- hf,if_neg h1,if_neg h2,if_pos h3],hz.1.1,trivial⟩)
        (fun h3=>.rt (e,bC code c1 10) ⟨by unfold pE bV0;rw[<- hf,if_neg h1,if_neg h2,if_neg h3],gk,trivial⟩))))) aB
end
theorem aU9 (code:List UInt8):∀f i c e,bQ code c->EI i e->i+f=16->bQ code (tE code f i c e).2/\EI 16 (tE code f i c e).1
 | 0,i,c,e,hc,he,hi=>⟨hc,he.up aA⟩
 | f+1,i,c,e,hc,he,hi=>by
  have k1:bQ code (bC code c 16):=aE 16 hc;have k2:bQ code (bC code (bC code c 16) 7):=aE 7 k1;unfold tE;split
  ·split
   ·exact aU9 code f (i+1) _ _ k2 (he.commit.up aA) aA
   ·split
    ·exact aU9 code f (i+1) _ _ (aE 7 k2) ((he.mark _).up aA) aA
    ·exact aU9 code f (i+1) _ _ (cC9 code _ k2).1 (he.call _ aA) aA
  ·exact⟨k1,he.up aA⟩
theorem eng_p (code:List UInt8) {c:Cur}(hc:bQ code c):bQ code (pE code c).2/\EI 17 (pE code c).1:=by
 obtain⟨h1,h2⟩:=aU9 code 16 0 c engineNew hc EI.new rfl;have k1:bQ code (bC code (tE code 16 0 c engineNew).2 10):=aE 10 h1;unfold pE bV0
 repeat' split
 ·exact⟨k1,h2.brk.up aA⟩
 ·exact⟨k1,h2.brk.call _ aA⟩
 ·exact⟨k1,h2.shut.up aA⟩
 exact⟨k1,h2.up aA⟩
def keepL:List Int:=[0,1,2,3,5,100,-1,9223372036854775807]
def kpE (code:List UInt8):Nat->Nat->Cur->List Int->List Int×Cur
 | 0,_,c,l=>(l,c)
 | f+1,i,c,l=>if (i:Int)<bN code c 5 then kpE code f (i+1) (bC code (bC code c 5) 8) (l++[keepL.getD (bN code (bC code c 5) 8).toNat 0]) else (l,bC code c 5)
def kpF (code:List UInt8) (c:Cur):List Int×Cur:=kpE code 5 0 c []
structure KeJ (code:List UInt8) (tot:List Int×Cur) (g:Nat×Cur×List Int):Prop where
 eq:kpE code (5-g.1) g.1 g.2.1 g.2.2=tot
 cu:bQ code g.2.1
 le:g.2.2.length<=g.1
 mx:g.1<=4
theorem KeJ.go {code:List UInt8}{tot:List Int×Cur}{g:Nat×Cur×List Int}(h:KeJ code tot g) (h1:(g.1:Int)<bN code g.2.1 5):kpE code (5-(g.1+1)) (g.1+1) (bC code (bC code g.2.1 5) 8) (g.2.2++[keepL.getD (bN code (bC code g.2.1 5) 8).toNat 0])=tot:=by
 have hm:=h.mx;have e:=h.eq;rw[show 5-g.1=(5-(g.1+1))+1 by omega]at e;unfold kpE at e;rw[if_pos h1]at e;exact e
theorem KeJ.fin {code:List UInt8}{tot:List Int×Cur}{g:Nat×Cur×List Int}(h:KeJ code tot g) (h1:¬(g.1:Int)<bN code g.2.1 5):(g.2.2,bC code g.2.1 5)=tot:=by
 have hm:=h.mx;have e:=h.eq;rw[show 5-g.1=(4-g.1)+1 by omega]at e;unfold kpE at e;rw[if_neg h1]at e;exact e
theorem bC7:∀z∈keepL,I64 z:=by
 intro z hz;unfold keepL at hz;simp only[mem_cons,not_mem_nil,or_false]at hz;unfold I64;omega
def bD4 (code:List UInt8):Nat->Int
 | 0=>94701+(code.length:Int)
 | k+1=>yU (bD4 code k*131+((code.getD k 0).toNat:Int)+7) 1073741823
theorem hashG_rng (code:List UInt8) (hl:code.length<=1048576):∀k,0<=bD4 code k/\bD4 code k<=1073741823
 | 0=>by show 0<=94701+(code.length:Int)/\94701+(code.length:Int)<=_;omega
 | k+1=>vP _ 1073741823 eZ
def aJ8 (code:List UInt8):Cur:=⟨0,bD4 code (min code.length 4000)⟩
theorem aT8 (code:List UInt8):bQ code (aJ8 code):=⟨Int.le_refl _,by show (0:Int)<=_;omega⟩
section
variable (code:List UInt8) (hl:code.length<=1048576)
include hl
noncomputable def pickD (xs:List Int) (hx:0<xs.length/\xs.length<=256) (c:Cur) (hc:bQ code c):D prog (fun q:Int×Cur=>q=(xs.getD (bN code c xs.length).toNat 0,bC code c xs.length)):=
 let hr:=fS code c (n:=(xs.length:Int)) aA
 .cv _ func27 (cS code c xs.length hc hl aA) trivial fun _ _ _=>.xe xs (bN code c xs.length).toNat (bN code c xs.length) (h:=by omega) (he:=by omega) fun z hz _=>.rt (z,bC code c xs.length) (by rw[getD_eq_getElem?_getD,hz];rfl)
theorem Keep_v (c:Cur) (hc:bQ code c):Cv1 prog 48 code [] c (kpF code c).2 [.L (kpF code c).1]:=
 Cv.one (kpF code c) (y:=fun q=>q.2) (rk:=fun q=>[.L q.1])<|vcv func48 (fun _=>.e Int <|
  .l (Γ:=Nat×Cur×List Int) (KeJ code (kpF code c)) (fun g=>5-g.1) [777777,3,5] [777777] [777777] (fun g=>[vI 4 g.1,vR 3 2]) (fun g=>[oR 2 3 g.2.2,oB 0 [.r 1,.v (I g.2.1.i),.v (I g.2.1.h)]]) (0,c,[]) (h:=⟨rfl,hc,Nat.le_refl _,Nat.zero_le _⟩) fun g hJ tk=>
   let hge:=hJ.le
   let hgm:=hJ.mx
   let c1:=bC code g.2.1 5
   let k1:bQ code c1:=aE 5 hJ.cu
   let hr:=fS code c1 (n:=8) aA
   .cv _ func27 (cS code g.2.1 5 hJ.cu hl aA) trivial fun _ _ _=>.s ((g.1:Int)<bN code g.2.1 5)
    (fun h=>.lo (inferInstance:Dsh Int) keepL eZ eZ bC7<|.in_ func22 (pickD code hl keepL eZ c1 k1) fun q hq=>
     .a g.2.2 q.1 8 (hy:=by rw[hq];refine bC7 _ ?_;show keepL.getD (bN code c1 8).toNat 0∈keepL;rw[getD_eq_getElem?_getD,getElem?_eq_getElem (show (bN code c1 8).toNat<keepL.length by show _<8;omega)];exact getElem_mem _) (hby:=by omega)<|.p g.1 1 (h:=by unfold I64;omega) <|
     .n tk (g.1+1,q.2,g.2.2++[q.1]) [] (h1:=⟨by have:=hJ.go h;rw[hq];exact this,by show bQ code q.2;rw[hq];exact aE _ k1,by show (g.2.2++[q.1]).length<=g.1+1;rw[length_append,length_singleton];omega,by have:=fS code g.2.1 (n:=5) aA;show g.1+1<=4;omega⟩) (h2:=by show 5-(g.1+1)<5-g.1;omega))
    (fun h=>.sh 2<|.rt (g.2.2,c1) ⟨hJ.fin h,trivial⟩)) aB
noncomputable def newD:D prog (fun q:Cur=>q=aJ8 code):=
 .p 94701 (code.length:Int) (h:=by unfold I64;omega)<|.la (Γ:=Nat×Int) (fun g=>g.1<=code.length/\g.1<=4000/\g.2=bD4 code g.1) (fun g=>4000-g.1) (fun g=>[vI 4 g.1,vI 3 g.2]) (fun _=>[]) (0,94701+(code.length:Int)) (h:=⟨Nat.zero_le _,Nat.zero_le _,rfl⟩) fun g hJ tk=>
  let hr:=hashG_rng code hl g.1
  let hz:∀_:¬g.1<min code.length 4000,(⟨0,g.2⟩:Cur)=aJ8 code:=fun hn=>(by have h1:=hJ.1;have h2:=hJ.2.1;unfold aJ8;rw[show min code.length 4000=g.1 by omega,hJ.2.2])
  .s ((g.1:Int)<code.length)
   (fun h=>.s ((g.1:Int)<4000)
    (fun h2=>.o g.2 131 (h:=by rw[hJ.2.2];unfold I64;omega)<|.x code g.1 (h:=by omega) fun b hb _=>let hbt:=oS b
     .pc (aU2 (t:=5) (t':=3) b underlying5 underlying3)<|.p (g.2*131) (b.toNat:Int) (h:=by rw[hJ.2.2];unfold I64;omega)<|.p (g.2*131+(b.toNat:Int)) 7 (h:=by rw[hJ.2.2];unfold I64;omega)<|.pb .and (aU3 (g.2*131+(b.toNat:Int)+7) 1073741823)<|.p g.1 1 (h:=by unfold I64;omega) <|
     .n tk (g.1+1,yU (g.2*131+(b.toNat:Int)+7) 1073741823) [] (h1:=⟨by show g.1+1<=_;omega,by show g.1+1<=_;omega,by show _=yU _ _;rw[hJ.2.2,getD_eq_getElem?_getD,hb];rfl⟩) (h2:=by show 4000-(g.1+1)<4000-g.1;omega))
    (fun h2=>.rt ⟨0,g.2⟩ (hz aA)))
   (fun h=>.rt ⟨0,g.2⟩ (hz aA))
theorem vS:Ct1 prog 13 [.L code] [.S (pE code (aJ8 code)).1,.L (kpF code (pE code (aJ8 code)).2).1]:=
 .one ((pE code (aJ8 code)).1,(kpF code (pE code (aJ8 code)).2).1) (rk:=fun q=>[.S q.1,.L q.2])<|vc func13 (fun hg=>.in_ func20 (newD code hl) fun q hq=>
  .ex (p:=fun z:Cur=>z=aJ8 code) ⟨_,rfl⟩ fun z hz=>.cv _ func47 (Eng_v code hl q (by rw[hq];exact aT8 code)) trivial fun _ _ gz=>.cv _ func48 (Keep_v code hl (pE code q).2 (by rw[hq];exact(eng_p code (aT8 code)).1)) trivial fun _ _ _=>
  .rt ((pE code q).1,(kpF code (pE code q).2).1) ⟨by rw[hq],gz.1.1,trivial⟩) aB
end
theorem ba_ne {b:ByteArray}(h:0<b.size):¬b=⟨#[]⟩:=fun e=>by rw[e]at h;exact absurd h eZ
theorem vt_pos {n:Int}(h:0<=n/\n<=1000000000):0<(aR n).size:=by
 unfold aR;rw[if_pos (oI h.1 h.2)];show 0<(aM n.toNat).toArray.size;rw[size_toArray];unfold aM;split
 ·simp
 simp
theorem frame_ne {t:ByteArray}(h:1<=t.size/\t.size<=400):¬dU t=⟨#[]⟩:=by
 unfold dU;rw[if_pos (oI aA aA)];refine ba_ne ?_;rw[ByteArray.size_append,ByteArray.size_append];omega
theorem bJ6 (n:Int):(aR5 n).length<=5:=by
 have:=cZ n;show (aR n).data.toList.length<=5;exact this
theorem aL0 {e:Engine}(h:bA e=true):¬pC e tickD=⟨#[]⟩:=by
 have hn:=inB_iff.1 (engOk_iff.1 h).next;have hs:(aE2 (cN ⟨e.next,tickD⟩)).size=(aR5 e.next).length+(aR5 5).length:=by
  show ((eU [e.next,5]).toArray).size=_;rw[size_toArray];unfold eU;simp
 have h1:=bJ6 e.next;have h2:=bJ6 5;have h3:0<(aR5 e.next).length:=vt_pos (n:=e.next) aA;unfold pC;refine frame_ne ?_;rw[<- qV (n:=⟨e.next,tickD⟩) ⟨(by show aQ tickD=true;decide),oI hn.1 (by show e.next<=_;omega),by omega⟩];omega
theorem call_y {e:Engine}{d:Deed}(h:(bM e d).2=0):bM e d=(vO e d,0):=by
 unfold bM at h ⊢
 repeat' split at h
 all_goals first | (simp only at h;omega) | skip
 repeat' split
 all_goals first | (exfalso;simp_all;done) | rfl
section
variable {e:Engine}
theorem tk_codes (h:bA e=true) (hc:¬(bM e tickD).2=0):(bM e tickD).2=7∨((bM e tickD).2=14/\(e.broken=true∨e.state=2))∨((bM e tickD).2=15/\e.state=3):=by
 have ht:=aL0 h;unfold bM at hc ⊢;rw[if_neg (by rw[h];simp)]at hc ⊢;split
 ·next h3=>exact .inr (.inr ⟨rfl,h3⟩)
 next h3=>
 rw[if_neg h3]at hc;split
 ·next h2=>exact .inr (.inl ⟨rfl,.inr h2⟩)
 next h2=>
 rw[if_neg h2,if_neg ht]at hc
 try rw[if_neg ht]
 split
 ·exact .inl rfl
 next h5=>
 rw[if_neg h5]at hc;split
 ·next h6=>exact .inr (.inl ⟨rfl,.inl h6⟩)
 next h6=>
 rw[if_neg h6]at hc;split
 ·exact .inl rfl
 next h7=>rw[if_neg h7]at hc;exact absurd rfl hc
theorem tk_zero (h:bA e=true) (hc:(bM e tickD).2=0):bM e tickD=(vO e tickD,0)/\e.state=1/\e.broken=false/\¬(e.waits.length:Int)=60:=by
 have hst:=inB_iff.1 (engOk_iff.1 h).state;refine⟨call_y hc,?_⟩;unfold bM at hc;rw[if_neg (by rw[h];simp)]at hc;split at hc
 ·cases hc
 split at hc
 ·cases hc
 split at hc
 ·cases hc
 split at hc
 ·cases hc
 next h5=>
 split at hc
 ·cases hc
 next h6=>
 exact⟨by omega,by cases hb:e.broken<;>simp_all,h5⟩
theorem tk_shut (h:bA e=true):(decide ((fN e).2=15) == decide (e.state=3))=true:=by
 unfold fN;rw[if_neg (by rw[h];simp)];split
 ·next h3=>simp[h3]
 next h3=>simp[h3]
theorem tk_closed (h:bA e=true):(bM (fN e).1 tickD).2=15:=by
 have hk:=bF0 h;have hs:(fN e).1.state=3:=by
  unfold fN;rw[if_neg (by rw[h];simp)];split
  ·next h3=>exact h3
  rfl
 unfold bM;rw[if_neg (by rw[hk];simp),if_pos hs]
theorem tk_bad (h:bA e=true) (h1:e.state=1) (h2:¬(e.waits.length:Int)=60):bM (fZ e) tickD=(brk (fZ e),14):=by
 have hk:=aV0 h;have hb:fZ e=⟨e.yard,e.disk,e.next,e.calls,e.waits,e.state,true⟩:=by unfold fZ;rw[if_pos h1]
 have ht:=aL0 hk;unfold bM;rw[if_neg (by rw[hk];simp)];have hs:(fZ e).state=1:=by rw[hb];exact h1
 rw[if_neg aA,if_neg aA,if_neg ht,if_neg (by rw[hb];exact h2),if_pos (by rw[hb])]
theorem tk_still (h:bA e=true):(bM (brk e) tickD).2=14:=by
 have hk:=bI7 h;unfold bM;rw[if_neg (by rw[hk];simp),if_neg (by show ¬(2:Int)=3;decide),if_pos (show (brk e).state=2 from rfl)]
theorem tk_com (h:bA e=true) (h1:e.state=1) (h2:e.broken=false) (h3:0<e.waits.length):bI e=(aK0 e,e.waits):=(cD2 h h1 aA h2).symm
theorem tk_none:(bI (bI e).1).2=[]:=by
 have key:∀x:Engine,(bI x).2=[]∨(bI x).1=aK0 x:=by
  intro x;unfold bI
  repeat' split
  ·exact .inl rfl
  ·exact .inl rfl
  exact .inr rfl
 have k1:∀x:Engine,x.waits=[]->(bI x).2=[]:=by
  intro x hx;rcases key x with h | h
  ·exact h
  unfold bI;rw[if_pos (by rw[hx];simp)]
 by_cases h:¬(bA e=true/\e.state=1/\¬(e.waits.length:Int)=0)
 ·have e1:bI e=(e,[]):=(tF h).symm;rw[e1];exact congrArg Prod.snd e1
 by_cases hb:e.broken=true
 ·have e1:bI e=(brk e,[]):=by unfold bI;rw[if_neg h,if_pos hb]
  rw[e1];show (bI (brk e)).2=[];unfold bI;rw[if_pos (fun hc=>absurd hc.2.1 (by show ¬(2:Int)=1;decide))]
 have e1:bI e=(aK0 e,e.waits):=by unfold bI;rw[if_neg h,if_neg hb]
 rw[e1];exact k1 _ rfl
theorem tk_up (h:bA e=true) {k:Nat}{a b:Wait}(ha:e.waits[k]? = some a) (hb:e.waits[k+1]? = some b):¬b.call<=a.call:=by
 have:=((engOk_iff.1 h).ok (k+1) b hb).up k a rfl ha;omega
end
theorem sm_sameEntries (xs ys:List Entry):Ct1 prog 106 [.L xs,.L ys] [.B (eqB xs ys)]:=
 .one (eqB xs ys) (rk:=fun b=>[.B b])<|vc func106 (fun (hg:gin [Par.L xs,Par.L ys])=>let h1:=hg.1
  .u ((xs.length:Int)=ys.length) (fun h=>.rt false ⟨aH1 h,trivial⟩)
   (fun h=>.l (Γ:=Nat) (fun k=>k<=xs.length/\xs.take k=ys.take k) (fun k=>xs.length-k) [0,1] [] [0,1] (fun k=>[vI 5 k]) (fun k=>[]) 0 (h:=⟨Nat.zero_le _,rfl⟩) fun k hk t=>.s ((k:Int)<xs.length)
    (fun h2=>.x xs k (h:=by omega) fun e he ge=>.x ys k (h:=by omega) fun f hf gf=>.qe (se_Entry e f) aB<|.v (eqB e f) (fun h3=>.rt false ⟨bE8 he hf h3,trivial⟩) (fun h3=>.p k 1<|.n t (k+1) [] (h1:=⟨by omega,bE7 hk.2 he hf h3⟩)))
    (fun h2=>.rt true ⟨aH0 h hk.2 h2,trivial⟩))) aB
theorem sm_sameEdges (xs ys:List Edge):Ct1 prog 196 [.L xs,.L ys] [.B (eqB xs ys)]:=
 .one (eqB xs ys) (rk:=fun b=>[.B b])<|vc func196 (fun (hg:gin [Par.L xs,Par.L ys])=>let h1:=hg.1
  .u ((xs.length:Int)=ys.length) (fun h=>.rt false ⟨aH1 h,trivial⟩)
   (fun h=>.l (Γ:=Nat) (fun k=>k<=xs.length/\xs.take k=ys.take k) (fun k=>xs.length-k) [0,1] [] [0,1] (fun k=>[vI 5 k]) (fun k=>[]) 0 (h:=⟨Nat.zero_le _,rfl⟩) fun k hk t=>.s ((k:Int)<xs.length)
    (fun h2=>.x xs k (h:=by omega) fun e he ge=>.x ys k (h:=by omega) fun f hf gf=>.qe (uD e f) aB<|.v (eqB e f) (fun h3=>.rt false ⟨bE8 he hf h3,trivial⟩) (fun h3=>.p k 1<|.n t (k+1) [] (h1:=⟨by omega,bE7 hk.2 he hf h3⟩)))
    (fun h2=>.rt true ⟨aH0 h hk.2 h2,trivial⟩))) aB
theorem sm_sameTasks (xs ys:List Task):Ct1 prog 163 [.L xs,.L ys] [.B (eqB xs ys)]:=
 .one (eqB xs ys) (rk:=fun b=>[.B b])<|vc func163 (fun (hg:gin [Par.L xs,Par.L ys])=>let h1:=hg.1
  .u ((xs.length:Int)=ys.length) (fun h=>.rt false ⟨aH1 h,trivial⟩)
   (fun h=>.l (Γ:=Nat) (fun k=>k<=xs.length/\xs.take k=ys.take k) (fun k=>xs.length-k) [0,1] [] [0,1] (fun k=>[vI 5 k]) (fun k=>[]) 0 (h:=⟨Nat.zero_le _,rfl⟩) fun k hk t=>.s ((k:Int)<xs.length)
    (fun h2=>.x xs k (h:=by omega) fun e he ge=>.x ys k (h:=by omega) fun f hf gf=>.qe (se_Task e f) aB<|.v (eqB e f) (fun h3=>.rt false ⟨bE8 he hf h3,trivial⟩) (fun h3=>.p k 1<|.n t (k+1) [] (h1:=⟨by omega,bE7 hk.2 he hf h3⟩)))
    (fun h2=>.rt true ⟨aH0 h hk.2 h2,trivial⟩))) aB
theorem sm_sameLists (xs ys:List (List Entry)):Ct1 prog 55 [.L xs,.L ys] [.B (eqB xs ys)]:=
 .one (eqB xs ys) (rk:=fun b=>[.B b])<|vc func55 (fun (hg:gin [Par.L xs,Par.L ys])=>let h1:=hg.1
  .u ((xs.length:Int)=ys.length) (fun h=>.rt false ⟨aH1 h,trivial⟩)
   (fun h=>.l (Γ:=Nat) (fun k=>k<=xs.length/\xs.take k=ys.take k) (fun k=>xs.length-k) [0,1] [] [0,1] (fun k=>[vI 5 k]) (fun k=>[]) 0 (h:=⟨Nat.zero_le _,rfl⟩) fun k hk t=>.s ((k:Int)<xs.length)
    (fun h2=>.x xs k (h:=by omega) fun e he ge=>.x ys k (h:=by omega) fun f hf gf=>.c func106 (sm_sameEntries e f) fun _=>.v (eqB e f) (fun h3=>.rt false ⟨bE8 he hf h3,trivial⟩) (fun h3=>.p k 1<|.n t (k+1) [] (h1:=⟨by omega,bE7 hk.2 he hf h3⟩)))
    (fun h2=>.rt true ⟨aH0 h hk.2 h2,trivial⟩))) aB
theorem bG9 {α β:Type}[DecidableEq α] [DecidableEq β] {x y:α}{a b:β}(h1:a=b->x=y) (h2:x=y->a=b):eqB a b=eqB x y:=by
 by_cases h:a=b
 ·rw[vA h,vA (h1 h)]
 rw[vC h,vC (fun e=>h (h2 e))]
theorem sm_samePlan (x y:Plan):Ct1 prog 162 [.S x,.S y] [.B (eqB x y)]:=
 .one (eqB x y) (rk:=fun b=>[.B b])<|vc func162 (fun _=>
  .s (x.prio=y.prio) (fun h0=>.s (x.most=y.most) (fun h1=>.s (x.wait=y.wait) (fun h2=>.s (x.tasks=y.tasks) (fun h3=>.c func196 (sm_sameEdges x.edges y.edges) fun _=>.rt (eqB x.edges y.edges) ⟨bG9 (fun h=>bF9 h0 h1 h2 h3 h) (fun e=>by rw[e]),trivial⟩)
   (fun h=>.rt false ⟨bB2 h (fun e=>by rw[e]),trivial⟩)) (fun h=>.rt false ⟨bB2 h (fun e=>by rw[e]),trivial⟩)) (fun h=>.rt false ⟨bB2 h (fun e=>by rw[e]),trivial⟩)) (fun h=>.rt false ⟨bB2 h (fun e=>by rw[e]),trivial⟩)) aB
theorem sm_sameRun (x y:Run):Ct1 prog 107 [.S x,.S y] [.B (eqB x y)]:=
 .one (eqB x y) (rk:=fun b=>[.B b])<|vc func107 (fun (hg:gin [Par.S x,Par.S y])=>
  .s (x.id=y.id) (fun h0=>.c func162 (sm_samePlan x.plan y.plan) (hg:=⟨(show x.ok from hg.1.1).2.1,(show y.ok from hg.2.1.1).2.1,trivial⟩) fun _=>.sb (eqB x.plan y.plan) (fun h1=>.s (x.state=y.state) (fun h2=>.c func163 (sm_sameTasks x.tasks y.tasks) fun _=>.rt (eqB x.tasks y.tasks) ⟨bG9 (fun h=>Run_ext h0 (eqB_iff.1 h1) h2 h) (fun e=>by rw[e]),trivial⟩)
   (fun h=>.rt false ⟨bB2 h (fun e=>by rw[e]),trivial⟩)) (fun h=>.rt false ⟨ne_c h (fun e=>by rw[e]),trivial⟩)) (fun h=>.rt false ⟨bB2 h (fun e=>by rw[e]),trivial⟩)) aB
theorem sm_sameRuns (xs ys:List Run):Ct1 prog 56 [.L xs,.L ys] [.B (eqB xs ys)]:=
 .one (eqB xs ys) (rk:=fun b=>[.B b])<|vc func56 (fun (hg:gin [Par.L xs,Par.L ys])=>let h1:=hg.1
  .u ((xs.length:Int)=ys.length) (fun h=>.rt false ⟨aH1 h,trivial⟩)
   (fun h=>.l (Γ:=Nat) (fun k=>k<=xs.length/\xs.take k=ys.take k) (fun k=>xs.length-k) [0,1] [] [0,1] (fun k=>[vI 5 k]) (fun k=>[]) 0 (h:=⟨Nat.zero_le _,rfl⟩) fun k hk t=>.s ((k:Int)<xs.length)
    (fun h2=>.x xs k (h:=by omega) fun e he ge=>.x ys k (h:=by omega) fun f hf gf=>.c func107 (sm_sameRun e f) (hg:=⟨ge,gf,trivial⟩) fun _=>.v (eqB e f) (fun h3=>.rt false ⟨bE8 he hf h3,trivial⟩) (fun h3=>.p k 1<|.n t (k+1) [] (h1:=⟨by omega,bE7 hk.2 he hf h3⟩)))
    (fun h2=>.rt true ⟨aH0 h hk.2 h2,trivial⟩))) aB
theorem sm_sameYard (x y:Yard):Ct1 prog 19 [.S x,.S y] [.B (eqB x y)]:=
 .one (eqB x y) (rk:=fun b=>[.B b])<|vc func19 (fun _=>
  .s (x.now=y.now) (fun h0=>.s (x.seq=y.seq) (fun h1=>.c func55 (sm_sameLists x.shelf y.shelf) fun _=>.sb (eqB x.shelf y.shelf) (fun h2=>.c func56 (sm_sameRuns x.runs y.runs) fun _=>.rt (eqB x.runs y.runs) ⟨bG9 (fun h=>Yard_ext h0 h1 (eqB_iff.1 h2) h) (fun e=>by rw[e]),trivial⟩)
   (fun h=>.rt false ⟨ne_c h (fun e=>by rw[e]),trivial⟩)) (fun h=>.rt false ⟨bB2 h (fun e=>by rw[e]),trivial⟩)) (fun h=>.rt false ⟨bB2 h (fun e=>by rw[e]),trivial⟩)) aB
theorem eq_irr {α:Type}[DecidableEq α] {x:α}(h:eqB x x=false):False:=by unfold eqB at h;simp at h
theorem tf {b:Bool}(h:b=true) (h2:b=false):False:=by rw[h]at h2;cases h2
theorem cs_1 {a b p q r s:Prop}(h:a∨(b/\(p∨q))∨(r/\s)) (ha:¬a) (hr:¬r) (hp:¬p):q:=by
 rcases h with h | ⟨_,h | h⟩ | h
 ·exact absurd h ha
 ·exact absurd h hp
 ·exact h
 exact absurd h.1 hr
theorem cs_2 {a b p q r s:Prop}(h:a∨(b/\(p∨q))∨(r/\s)) (ha:¬a) (hb:¬b):r/\s:=by
 rcases h with h | h | h
 ·exact absurd h ha
 ·exact absurd h.1 hb
 exact h
theorem big_d (code:List UInt8):Ct1 prog 5 [.L code] [.B (decide ((1048576:Int)<code.length))]:=
 vc func5 (fun _=>.rt () ⟨trivial,trivial⟩) aB
theorem enginesLaw_d (code:List UInt8):Ct1 prog 4 [.L code] [.B true]:=
 .one (true) (rk:=fun b=>[.B b])<|vc func4 (fun (hg:gin [Par.L code])=>
  .c func5 (big_d code) fun _=>.s ((1048576:Int)<code.length) (fun _=>.rt true ⟨rfl,trivial⟩) (fun hb=>
  let hl:code.length<=1048576:=by omega
  let e:=(pE code (aJ8 code)).1
  let he:EI 17 e:=(eng_p code (aT8 code)).2
  let hk:=he.ok
  let hq:=he.lens
  let f:=(bM e tickD).1
  let hf:EI 18 f:=he.call tickD aA
  let hfq:=hf.lens
  let g:=(bI f).1
  let hgI:EI 18 g:=hf.commit
  let hgq:=hgI.lens
  let w:=(bI f).2
  let sh:=(fN e).1
  let hsI:EI 17 sh:=he.shut
  let hsq:=hsI.lens
  let c:=(bM e tickD).2
  .c func13 (vS code hl) fun gd=>let ge:e.ok:=gd.1.1
  .c func13 (vS code hl) fun _=>
  .c func14 (aW8 e tickD he.yw hq.1 hq.2) (hg:=⟨ge,pH,trivial⟩) fun gf'=>let gf:f.ok:=gf'.1.1
  .c func15 (bG3 f hf.yw hfq.1 hfq.2) (hg:=⟨gf,trivial⟩) fun gg'=>let gg:g.ok:=gg'.1.1
  .c func15 (bG3 g hgI.yw hgq.1 hgq.2) (hg:=⟨gg,trivial⟩) fun _=>
  .c func16 (lQ e he.yw) (hg:=⟨ge,trivial⟩) fun _=>.v (bA e) (fun h=>.ab (tf hk h)) (fun _=>
  .c func16 (lQ f hf.yw) (hg:=⟨gf,trivial⟩) fun _=>.v (bA f) (fun h=>.ab (tf hf.ok h)) (fun _=>
  .c func16 (lQ g hgI.yw) (hg:=⟨gg,trivial⟩) fun _=>.v (bA g) (fun h=>.ab (tf hgI.ok h)) (fun _=>
  .uf (((bI g).2.length:Int)=0) (by rw[show (bI g).2=[] from tk_none];rfl) <|
  .c func17 (Shut_i e he.yw hq.1 hq.2) (hg:=⟨ge,trivial⟩) fun gs'=>let gs:sh.ok:=gs'.1.1
  .c func14 (aW8 sh tickD hsI.yw hsq.1 hsq.2) (hg:=⟨gs,pH,trivial⟩) fun _=>
  .v (decide ((fN e).2=15) == decide (e.state=3)) (fun h=>.ab (tf (tk_shut hk) h)) (fun _=>
  .uf ((bM sh tickD).2=15) (tk_closed hk) <|
  .u (c=0)
   (fun hc=>let hcs:=tk_codes hk hc
    .s (c=7) (fun _=>.rt true ⟨rfl,trivial⟩) (fun h7=>.s (c=14)
     (fun h14=>.sb e.broken (fun _=>.rt true ⟨rfl,trivial⟩) (fun hbr=>.kt (e.state=2) (cs_1 hcs h7 aA (by rw[hbr];simp))<|.rt true ⟨rfl,trivial⟩))
     (fun h14=>.kt (c=15) (cs_2 hcs h7 h14).1<|.rt (decide (e.state=3)) ⟨decide_eq_true (cs_2 hcs h7 h14).2,trivial⟩)))
   (fun hc=>let hz:=tk_zero hk hc
    let fe:f=vO e tickD:=congrArg Prod.fst hz.1
    let fs:f.state=1:=by { rw[fe];exact hz.2.1 }
    let fb:f.broken=false:=by { rw[fe];exact hz.2.2.1 }
    let fw:f.waits=e.waits++[⟨e.calls+1,(doD e.yard tickD).2⟩]:=by rw[fe];rfl
    let fl:f.waits.length=e.waits.length+1:=by rw[fw,length_append];rfl
    let hew:=he.wl
    let cm:bI f=(aK0 f,f.waits):=tk_com hf.ok fs fb aA
    let hw:w=f.waits:=congrArg Prod.snd cm
    let wl:w.length=e.waits.length+1:=by rw[hw,fl]
    .la (Γ:=Nat) (fun k=>1<=k) (fun k=>w.length-k) (fun k=>[vI 18 k]) (fun _=>[]) 1 (h:=Nat.le_refl 1) fun k hk1 tk=>
     .s ((k:Int)<w.length)
      (fun h=>.m (k:Int) 1 (h:=by unfold I64;omega)<|.ex (p:=fun a=>w[k-1]? = some a) ⟨_,getElem?_eq_getElem aA⟩ fun a ha=>.ye ha ((k:Int)-1) (he:=by omega) fun _=>.x w k (h:=by omega) fun b hb _=>
       .kf (b.call<=a.call) (tk_up hf.ok (k:=k-1) (by rw[<- hw];exact ha) (by rw[<- hw,show k-1+1=k by omega];exact hb))<|.p (k:Int) 1 (h:=by unfold I64;omega)<|.n tk (k+1) [] (h1:=by omega) (h2:=by show w.length-(k+1)<w.length-k;omega))
      (fun h=>let hb:=hf.brk
       let hbq:=hb.lens
       let bd:=brk (fZ f)
       let hbad:bM (fZ f) tickD=(bd,14):=tk_bad hf.ok fs aA
       let hbI:EI 19 (bM (fZ f) tickD).1:=hb.call tickD aA
       let hbIq:=hbI.lens
       .c func18 (Break_i f hf.yw hfq.1 hfq.2) (hg:=⟨gf,trivial⟩) fun gb'=>let gb:(fZ f).ok:=gb'.1.1
       .c func14 (aW8 (fZ f) tickD hb.yw hbq.1 hbq.2) (hg:=⟨gb,pH,trivial⟩) fun gx'=>let gx:(bM (fZ f) tickD).1.ok:=gx'.1.1
       .c func14 (aW8 (bM (fZ f) tickD).1 tickD hbI.yw hbIq.1 hbIq.2) (hg:=⟨gx,pH,trivial⟩) fun _=>
       .p (e.waits.length:Int) 1 (h:=by unfold I64;omega)<|.uf ((w.length:Int)=(e.waits.length:Int)+1) aA <|
       .m (w.length:Int) 1 (h:=by unfold I64;omega)<|.ye (show w[e.waits.length]? = some ⟨e.calls+1,(doD e.yard tickD).2⟩ by rw[hw,fw];simp) ((w.length:Int)-1) (he:=by omega) fun _=>
       .p e.calls 1 (h:=by have:=he.ca;have:=(inB_iff.1 (engOk_iff.1 hk).calls).1;unfold I64;omega)<|.kt (e.calls+1=e.calls+1) rfl <|
       .p e.next 1 (h:=by have:=he.nx;have:=(inB_iff.1 (engOk_iff.1 hk).next).1;unfold I64;omega)<|.kt (f.next=e.next+1) (by rw[fe];rfl) <|
       .kt ((bM (fZ f) tickD).2=14) (by rw[hbad])<|.kt ((bM (bM (fZ f) tickD).1 tickD).2=14) (by rw[hbad];exact tk_still (aV0 hf.ok))<|.kt ((bM (fZ f) tickD).1.state=2) (by rw[hbad];rfl) <|
       .c func19 (sm_sameYard (bM (fZ f) tickD).1.yard f.yard) (hg:=⟨gx.1,gf.1,trivial⟩) fun _=>.sb (eqB (bM (fZ f) tickD).1.yard f.yard)
        (fun _=>.rt (decide ((g.waits.length:Int)=0)) ⟨decide_eq_true (by rw[show g=aK0 f from congrArg Prod.fst cm];rfl),trivial⟩)
        (fun h=>.ab (by rw[hbad]at h;have:(brk (fZ f)).yard=f.yard:=(by unfold fZ;split<;>rfl);rw[this]at h;exact eq_irr h)))))))))) aB
theorem law_end {w W:World}{vs:List Value}{rs:List Res}{e:Ending}(he:e = .returned (uE vs)) (hr:Rks vs [Rk.B true] rs) (st:St w W rs):e = .returned (.bool true)/\Below w.heap.size w W:=by
 match vs,hr with
 | [v1],hr=>
  obtain⟨r1,r2,⟨h1,h4⟩,h2,h3⟩:=hr;subst h1;exact⟨he,st.below⟩
theorem engines_law (w:World) (v0:Value) (xs0:List UInt8) (fp0:List Nat) (hs0:Sl w v0 xs0 fp0) :
  Calls prog 4 #[v0] w fun e w'=>e = .returned (.bool true)/\Below w.heap.size w w':=
 ((enginesLaw_d xs0).run w [v0] trivial ⟨⟨fp0,hs0⟩,trivial⟩).mono fun e W ⟨_,vs,rs,_,he,hr,st⟩=>law_end he hr st
end Go.Proofs.YtpdgdnpajmcaeaaGreat
namespace Go.Proofs.YtpdgdnpajmcaeaaGreat
set_option maxRecDepth 100000
set_option maxHeartbeats 2000000
open Go.ChangeShapes Go.WideShapes Go.ChangeAt Go.RowKit Go.Deep
def bG0 (t:TypeId) (α:Type) [Shape α]:Prop:=∀{H:Type}(enc:TypeId×Value->H) (w:World) (fuel:Nat) (cs:List Value) (x:DataW H×List MemPlace),
 DataW.trod enc Tryz.prog w 0 (fun _=>true) true fuel t cs=some x->∃(a:α) (fp:List Nat),Shape.C w cs a fp

theorem opens_slice {t e:TypeId}{α:Type}[Shape α] (ht:Tryz.prog.underlying t=some (.slice e)) (hC:Tryz.prog.cellsOf e=Shape.size α) (hp:0<Shape.size α) (he:bG0 e α):bG0 t (List α):=by
 intro H enc w fuel cs x h;rcases open_slice ht h with⟨rfl,_⟩ | ⟨a,len,cap,m,n,D,Pl,rfl,_,hl,hm,hmm,_,hi⟩
 ·exact⟨[],[],_,rfl,none,0,rfl,Nat.le_refl _,by omega,.inl ⟨rfl,rfl⟩⟩
 simp only[if_true]at hmm;subst hmm;unfold maxLen at hm;have key:∀k,k<=len->0<len->∃(xs:List α) (fp:List Nat),xs.length=k/\a.spot=none/\SlAt w a.block a.off xs fp:=by
  intro k
  induction k with
  | zero=>
   intro _ hlp;obtain⟨cs',hc,_⟩:=hi 0 aA;obtain⟨_,hcl,hat⟩:=World.cells?_some hc;rw[hC]at hcl hat;have h0:=hat 0 hp;have:a.spot=none:=by
    have hlt:0<cs'.length:=by omega
    rw[List.getElem?_eq_getElem hlt]at h0;simpa [Addr.add] using World.cell?_spot h0
   exact⟨[],[],rfl,this,rfl⟩
  | succ k ih=>
   intro hk hlp;obtain⟨xs,fp,hxl,hsp,hS⟩:=ih aA hlp;obtain⟨cs',hc,ht'⟩:=hi k aA;obtain⟨_,hcl,hat⟩:=World.cells?_some hc;rw[hC]at hcl hat;obtain⟨x,f,hx⟩:=he enc w n cs' _ ht';refine⟨xs++[x],fp++f,by simp[hxl],hsp,SlAt.snoc hS ?_ hx⟩;intro j v hj;have hjl:j<cs'.length:=(gsi_.1 hj).1;have:=hat j aA;rw[hj]at this;rw[<- this,hxl];obtain⟨ab,ao,asp⟩:=a;simp only at hsp;subst hsp;rw[Addr.add_mid,Addr.add_mid]
 by_cases hlp:0<len
 ·obtain⟨xs,fp,hxl,hsp,hS⟩:=key len (Nat.le_refl _) hlp;obtain⟨ab,ao,asp⟩:=a;simp only at hsp;subst hsp;subst hxl;have hne:xs≠[]:=by rintro rfl;simp at hlp
  refine⟨xs,ab::fp,_,rfl,_,m,rfl,hl,hm,.inr ⟨ab,ao,fp,hne,rfl,rfl,?_,hS⟩⟩;cases xs with
  | nil=>exact absurd rfl hne
  | cons x xs=>
   obtain⟨cs',f1,f2,hr,hc,_,_⟩:=hS;have hl':=Shape.len hc;have h0:=hr 0 _ (List.getElem?_eq_getElem aA);exact World.block_lt_of_cell? w _ h0
 obtain rfl:len=0:=by omega
 exact⟨[],[],_,rfl,_,m,rfl,by simp,hm,.inl ⟨rfl,rfl⟩⟩

theorem rT {H:Type}{enc:TypeId×Value->H}{W W':World}(hl:laidOutB Tryz.prog=true) (hb:Below W.heap.size W W'):∀{ts:List TypeId}{vs:List Value}{ds:List (DataW H)}{p:List MemPlace},
  (∀t∈ts,Tryz.prog.readableRec t=true/\t<Tryz.prog.types.size)->DataW.TrodAll enc Tryz.prog W 0 (fun _=>true) true ts vs ds p->(∀x∈p,x.block<W.heap.size) ->
  DataW.TrodAll enc Tryz.prog W' 0 (fun b=>decide (b<W.heap.size)) true ts vs ds p
 | [],_,_,_,_,h,_=>by
  obtain⟨rfl,rfl,rfl⟩:=trodAll_nil h;exact trodAll_mk0
 | t::ts,_,_,_,ht,h,hp=>by
  obtain⟨v1,vs1,d1,ds1,p1,q1,rfl,rfl,rfl,h1,r1⟩:=trodAll_cons h;exact trodAll_cons_mk (Below.trod hl (ht t (by simp)).1 (ht t (by simp)).2 h1 hb (fun x hx=>hp x (by simp[hx]))) (rT hl hb (fun t' h'=>ht t' (by simp[h'])) r1 (fun x hx=>hp x (by simp[hx])))

theorem open_param_slice {H:Type}{enc:TypeId×Value->H}{W:World}{base:Nat}{t e:TypeId}{α:Type}[Shape α] (ht:Tryz.prog.underlying t=some (.slice e)) (ho:bG0 t (List α)) {v:Value}{d:DataW H}{p:List MemPlace}
  (hv:Value.okWide Tryz.prog W .any base t v) (h:DataW.Trod enc Tryz.prog W 0 (fun _=>true) true t v d p):∃(xs:List α) (fp:List Nat),Sl W v xs fp:=by
 obtain⟨a,len,cap,rfl⟩:=okWide_slice ht hv;obtain⟨fuel,hf⟩:=h;obtain⟨xs,fp,v',hv',hs⟩:=ho enc W fuel _ _ hf;have:v' = .slice a len cap:=(List.singleton_inj.1 hv').symm;subst this;exact⟨xs,fp,hs⟩
theorem ownKnobTry:ownKnob Tryz.prog.godebug=none:=by kernel_rfl
theorem laidOutTry:laidOutB Tryz.prog=true:=by kernel_rfl
end Go.Proofs.YtpdgdnpajmcaeaaGreat
namespace Go.Proofs.YtpdgdnpajmcaeaaGreat
set_option maxRecDepth 100000
set_option maxHeartbeats 2000000
open Go.ChangeShapes Go.WideShapes Go.ChangeAt Go.RowKit Go.Deep
theorem opens_u8:bG0 5 UInt8:=by
 intro H enc w fuel cs x h;obtain⟨n,rfl,_,hw⟩:=DataW.trod_int Tryz.underlying5 h;have hr:=bounds_u8 hw;refine⟨UInt8.ofNat n.toNat,[],?_,rfl,trivial⟩;have:((UInt8.ofNat n.toNat).toNat:Int)=n:=by
  rw[UInt8.toNat_ofNat'];omega
 show [Value.int .u8 n]=[U (UInt8.ofNat n.toNat)];unfold U;rw[this]
theorem opens_uint8S:bG0 22 (List UInt8):=opens_slice Tryz.underlying22 aB eZ opens_u8
end Go.Proofs.YtpdgdnpajmcaeaaGreat
