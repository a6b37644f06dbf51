/-
  Disks: moved, of both.
  A yard's text, of the program.
  A yard's text, of the reference.
  A mark's steps, plain.
  A mark's steps, of both.
  A mark's steps, as calls; their weights.
  A mark, of both.
  Who holds what, room, new runs, shelves that are taken from, of both; told to the reader.
  What was told to the reader, as calls (for the older walks).
  Runs of which a task fails, yards that are turned, of the reference.
  A task that is done: what becomes of a right run. Theory alone.
  Runs that are changed where they lie, of the program; told to the reader, and as calls.
  Yards that are started again, of both.
  What is submitted, of both.
  A task that is done, of both.
  What is told of a task, of both.
  A task that failed, of both.
  Shelves that are halved, merged, taken from, of both.
  Shelves that are swept, of both.
  What a worker is given, of both.
  Tasks that are late, yards whose time goes on. Theory alone.
  Late tasks of the program; told to the reader.
  Tasks that are late, time that goes on, of both.
  A run that is left, of both.
  Runs that are given up, of both.
  Runs that are forgotten, of both.
  A deed that is done, of both.
  Every deed leaves a good yard good: the invariant of the yards that come from the new yard by deeds. Plain theory.
-/
import Derived.Test.YtjihdmlkpkkpbaaGreatQ01
import Derived.Test.YtjihdmlkpkkpbaaGreatQ02
import Derived.Test.YtjihdmlkpkkpbaaGreatQ03
import Derived.Test.YtjihdmlkpkkpbaaGreatQ04
import Derived.Test.YtjihdmlkpkkpbaaGreatQ05
set_option linter.unusedSimpArgs false
set_option linter.unusedVariables false
namespace Go.Proofs.YtjihdmlkpkkpbaaGreat
set_option maxRecDepth 100000
set_option maxHeartbeats 2000000
open Go.RowKit Go.Proofs.Tryz List
theorem DeleteFileO (xs:List File) (k:Nat) (hk:k<xs.length) (hl:xs.length<=1048576):Co prog 257 [.o (inferInstance:Shape File) xs] false [.I (k:Int),.I ((k:Int)+1)] (fun _:Unit=>True) (fun _=>[.L (xs.eraseIdx k)]):=
 ⟨fun w W0 cs r us rs hlv st hp=>by
  cases cs with
  | nil=>exact hlv.elim
  | cons c cs=>
   obtain⟨fp,r2,rfl,hc⟩:=hlv;cases cs with
   | cons _ _=>exact hc.elim
   | nil=>
    have hc:r2=[]:=hc;subst hc;cases us with
    | nil=>exact hp.elim
    | cons u1 us=>
     cases us with
     | nil=>exact hp.2.elim
     | cons u2 us=>
      cases us with
      | cons _ _=>exact hp.2.2.elim
      | nil=>
       obtain⟨h1,h2,_⟩:=hp;have h1:u1=I (k:Int):=h1;have h2:u2=I ((k:Int)+1):=h2;subst h1 h2;refine(DeleteFile (v:=c) (xs:=xs) (fp:=fp) (k:=k) (rs:=rs) st hk hl).mono ?_;rintro e W ⟨v,fp2,rfl,st2⟩;exact⟨(),[v],[Res.own v (xs.eraseIdx k) fp2],trivial,rfl,⟨[Res.own v (xs.eraseIdx k) fp2],[],⟨fp2,rfl⟩,rfl,rfl⟩,st2⟩⟩
theorem bV7 {f:File}{nm:ByteArray}(gf:f.ok) (h:lN nm=true):File.ok (mvF f nm):=⟨by show nm.size<=_;unfold lN inB at h;simp only[Bool.and_eq_true,decide_eq_true_eq]at h;unfold maxLen;omega,gf.2.1,gf.2.2⟩
theorem mv_del {d:Disk}{fr to:ByteArray}{k j:Nat}{f:File}(hk:fAt d.files fr=(k:Int)) (hf:d.files[k]? = some f) (h:aS d=true) (h2:¬fr=to) (h3:lN to=true) (h4:f.safe=(f.data.size:Int)) (hj:fAt d.files to=(j:Int)):((⟨(d.files.set k (mvF f to)).eraseIdx j⟩:Disk),true)=gZ d fr to:=by
 rw[<- cD1 hk hf h h2 h3 h4,aE3 h hk hf h2 (.inl hj) d.files.length (Nat.le_refl _),take_of_length_le (by rw[length_set];exact Nat.le_refl _)]
theorem mv_set {d:Disk}{fr to:ByteArray}{k:Nat}{f:File}(hk:fAt d.files fr=(k:Int)) (hf:d.files[k]? = some f) (h:aS d=true) (h2:¬fr=to) (h3:lN to=true) (h4:f.safe=(f.data.size:Int)) (hj:fAt d.files to<0):((⟨d.files.set k (mvF f to)⟩:Disk),true)=gZ d fr to:=by
 rw[<- cD1 hk hf h h2 h3 h4,aE3 h hk hf h2 (.inr ⟨hj,rfl⟩) d.files.length (Nat.le_refl _),take_of_length_le (by rw[length_set];exact Nat.le_refl _),eraseIdx_of_length_le (by rw[length_set];exact Nat.le_refl _)]
theorem MoveFileI (d:Disk) (fr to:ByteArray) (hl:d.files.length<=1048576):Ct1 prog 178 [.S d,.T fr,.T to] [.S (gZ d fr to).1,.B (gZ d fr to).2]:=
 .one (gZ d fr to) (rk:=fun p=>[.S p.1,.B p.2])<|vc func178 (fun hg=>.c func150 (iR d aA) fun _=>.c func159 (lW d fr) fun _=>.s (fAt d.files fr<0)
  (fun h=>.sh 3<|.rt (d,false) ⟨wN (fun e=>e.1 h),trivial,trivial⟩)
  (fun h=>.c func92 (qB d) fun _=>.v (aS d)
   (fun hb=>.sh 3<|.rt (d,false) ⟨wN (fun e=>by rw[hb]at e;cases e.2.1),trivial,trivial⟩)
   (fun hd=>.s (fr=to)
    (fun he=>.sh 3<|.rt (d,false) ⟨wN (fun e=>e.2.2.1 he),trivial,trivial⟩)
    (fun he=>.c func158 (cP7 to) fun _=>.v (lN to)
     (fun hb=>.sh 3<|.rt (d,false) ⟨wN (fun e=>by rw[hb]at e;cases e.2.2.2.1),trivial,trivial⟩)
     (fun hn=>.ex (p:=fun k:Nat=>fAt d.files fr=(k:Int)/\k<d.files.length) (jK h) fun k hk=>.ex (p:=fun f=>d.files[k]? = some f) ⟨_,getElem?_eq_getElem hk.2⟩ fun f hf=>.ye hf (fAt d.files fr) (he:=hk.1) fun gf=>.ye hf (fAt d.files fr) (he:=hk.1) fun _=>.u (f.safe=(f.data.size:Int))
      (fun hs=>.sh 3<|.rt (d,false) ⟨wN (fun e=>hs (by have:=e.2.2.2.2;rwa [bN7 hk.1 hf,aF9 hk.1 hf]at this)),trivial,trivial⟩)
      (fun hs=>.sh 3<|.d 3 hf fun _=>.ie k (fAt d.files fr) (he:=hk.1)<|.wt 56<|.f 3 d.files (mvF f to) (h:=bV7 gf hn)<|.c func159 (lW d to) fun _=>.s ((0:Int)<=fAt d.files to)
       (fun h0=>.ex (p:=fun j:Nat=>fAt d.files to=(j:Int)/\j<d.files.length) (jK aA) fun j hj=>.rv 10 (I (j:Int)) (y:=I (fAt d.files to)) (by rw[hj.1])<|.p (j:Int) 1 <|
        .co _ func257 (DeleteFileO (d.files.set k (mvF f to)) j (by rw[length_set];exact hj.2) (by rw[length_set];exact hl)) trivial fun _ _ _=>.rt (⟨(d.files.set k (mvF f to)).eraseIdx j⟩,true) ⟨mv_del hk.1 hf hd he hn hs hj.1,trivial,trivial⟩)
       (fun h0=>.rt (⟨d.files.set k (mvF f to)⟩,true) ⟨mv_set hk.1 hf hd he hn hs aA,trivial,trivial⟩))))))) aB
theorem MoveFileS (d:Disk) (fr to:ByteArray) (hl:d.files.length<=1048576):Ct1 prog 142 [.S d,.T fr,.T to] [.S (gZ d fr to).1,.B (gZ d fr to).2]:=
 .one (gZ d fr to) (rk:=fun p=>[.S p.1,.B p.2])<|vc func142 (fun hg=>.c func126 (mT d fr aA) fun _=>.s (fAt d.files fr<0)
  (fun h=>.c func118 (dN d aA) fun _=>.sh 3<|.rt (d,false) ⟨wN (fun e=>e.1 h),trivial,trivial⟩)
  (fun h=>.c func75 (jZ d) fun _=>.v (aS d)
   (fun hb=>.c func118 (dN d aA) fun _=>.sh 3<|.rt (d,false) ⟨wN (fun e=>by rw[hb]at e;cases e.2.1),trivial,trivial⟩)
   (fun hd=>.s (fr=to)
    (fun he=>.c func118 (dN d aA) fun _=>.sh 3<|.rt (d,false) ⟨wN (fun e=>e.2.2.1 he),trivial,trivial⟩)
    (fun he=>.c func125 (cP6 to) fun _=>.v (lN to)
     (fun hb=>.c func118 (dN d aA) fun _=>.sh 3<|.rt (d,false) ⟨wN (fun e=>by rw[hb]at e;cases e.2.2.2.1),trivial,trivial⟩)
     (fun hn=>.ex (p:=fun k:Nat=>fAt d.files fr=(k:Int)/\k<d.files.length) (jK h) fun k hk=>.ex (p:=fun f=>d.files[k]? = some f) ⟨_,getElem?_eq_getElem hk.2⟩ fun f hf=>.ye hf (fAt d.files fr) (he:=hk.1) fun gf=>.ye hf (fAt d.files fr) (he:=hk.1) fun _=>.u (f.safe=(f.data.size:Int))
      (fun hs=>.c func118 (dN d aA) fun _=>.sh 5<|.rt (d,false) ⟨wN (fun e=>hs (by have:=e.2.2.2.2;rwa [bN7 hk.1 hf,aF9 hk.1 hf]at this)),trivial,trivial⟩)
      (fun hs=>.r0 (inferInstance:Shape File) 150<|.l (Γ:=Nat) (fun i=>i<=d.files.length) (fun i=>d.files.length-i) [2,3,6,8,9] [1,2] [0] (fun i=>[vI 10 i]) (fun i=>[oR 5 150 (mvG d.files k to i),oB 6 [.r 5]]) 0 fun i hi t=>
       let hml:(mvG d.files k to i).length<=i:=bN8 _ _ _ _
       .s ((i:Int)<d.files.length)
        (fun h=>.x d.files i (h:=by omega) fun g hg gg=>.s (g.name=to)
         (fun h1=>.g 5 (bV8 (k:=k) hg h1)<|.p i 1<|.n t (i+1) [])
         (fun h1=>.s ((i:Int)=fAt d.files fr)
          (fun h2=>.a (mvG d.files k to i) (mvF g to) 40 (hy:=bV7 gg hn) (hby:=by omega)<|.g 5 (bV9 (k:=k) hg h1 aA)<|.p i 1<|.n t (i+1) [])
          (fun h2=>.a (mvG d.files k to i) g 40 (hy:=gg) (hby:=by omega)<|.g 5 (bW0 (k:=k) hg h1 aA)<|.p i 1<|.n t (i+1) [])))
        (fun h=>.sh 5<|.rt (⟨mvG d.files k to i⟩,true) ⟨by rw[show i=d.files.length by omega];exact cD1 hk.1 hf hd he hn hs,trivial,trivial⟩))))))) aB
theorem VarsI (l:List Int) (hl:l.length<=20000000):Ct1 prog 163 [.L l] [.T ⟨(gI l).toArray⟩]:=
 vc func163 (fun hg=>.w UInt8 5 3<|.l (Γ:=Nat) (fun k=>k<=l.length) (fun k=>l.length-k) [6,7] [] [0] (fun k=>[vR 3 1,vI 8 k]) (fun k=>[oR 1 5 (gI (l.take k))]) 0 fun k hk t=>
  let hb:(gI (l.take k)).length<=5*l.length:=by have:=xC (l.take k);rw[length_take]at this;omega
  .s ((k:Int)<l.length)
   (fun h=>.x l k (h:=by omega) fun z hz gz=>.c func160 (cB0 z) fun _=>.bs (gI (l.take k)) (aU z) (by have:=eW z;unfold maxLen;omega) (by have:=eW z;omega) <|
    .g 1 (aI1 hz)<|.p k 1<|.n t (k+1) [])
   (fun h=>.g 1 (show gI (l.take k)=gI l by rw[take_of_length_le aA])<|.so (gI l)<|.rt () ⟨trivial,trivial⟩)) aB
theorem aB2 {e:Entry}(h:e.ok):∀y∈eX e,(inferInstance:Dsh Int).good y:=by
 obtain⟨h1,h2,h3,h4⟩:=h;intro y hy;simp only[eX,mem_cons,not_mem_nil,or_false]at hy;rcases hy with rfl | rfl | rfl | rfl
 ·exact h1
 ·exact h2
 ·exact h3
 exact h4
theorem aI3 {e:Task}(h:e.ok):∀y∈fT e,(inferInstance:Dsh Int).good y:=by
 obtain⟨h1,h2,h3,h4⟩:=h;intro y hy;simp only[fT,mem_cons,not_mem_nil,or_false]at hy;rcases hy with rfl | rfl | rfl | rfl
 ·exact h1
 ·exact h2
 ·exact h3
 exact h4
theorem bR1 {y:Yard}(h:aG y=false):(⟨#[]⟩:ByteArray)=dW y:=by unfold dW;rw[if_neg (by rw[h];simp)]
theorem bA4 {y:Yard}(h:aG y=true):(⟨(gI (dA y)).toArray⟩:ByteArray)=dW y:=by unfold dW;rw[if_pos h]
theorem aH0 (y:Yard) (hw:y.wt<=1048576):Ct1 prog 256 [.S y] [.T (dW y)]:=
 .one (dW y) (rk:=fun a=>[.T a])<|vc func256 (fun hg=>.c func91 (bP9 y hw) (hg:=⟨hg.1.1,trivial⟩) fun _=>.v (aG y)
  (fun hb=>.rt ⟨#[]⟩ ⟨bR1 hb,trivial⟩)
  (fun hb=>let hsl:y.shelf.length<=1048576:=Nat.le_trans (qN y).1 hw
   let hrl:y.runs.length<=1048576:=Nat.le_trans (qN y).2 hw
   .lr (inferInstance:Dsh Int) fS 19 [y.now,y.seq] (by simp) (bA3 hg.1.1.1 hg.1.1.2) <|
   .l (Γ:=Nat) (fun i=>i<=y.shelf.length) (fun i=>y.shelf.length-i) [1,21,22] [2] [0,1] (fun i=>[vR 3 3,vI 23 i]) (fun i=>[oR 3 3 (qH y i)]) 0 fun i hi t=>
   let m1:=lH (oU y i) hw
   .s ((i:Int)<y.shelf.length)
    (fun h=>.x y.shelf i (h:=by omega) fun l hl gl=>let hll:l.length<=1048576:=Nat.le_trans (aI9 (mem_of_getElem? hl)) hw
     .a (qH y i) (l.length:Int) 8 (hy:=by show I64 _;unfold I64;omega) (hby:=by omega) <|
     .g 3 (cW0 y i l)<|.l (Γ:=Nat) (fun k=>k<=l.length) (fun k=>l.length-k) [1,21,22,23,32,33] [2] [0,1,5] (fun k=>[vR 3 3,vI 34 k]) (fun k=>[oR 3 3 (xN y i l k)]) 0 fun k hk t2=>
     let m2:=lH (bU5 hl k) hw
     .s ((k:Int)<l.length)
      (fun h2=>.x l k (h:=by omega) fun e he ge=>.ap (inferInstance:Dsh Int) (xN y i l k) (eX e) (aB2 ge) 8 (by simp only[eX,length_cons,length_nil];unfold maxLen;omega) (by simp only[eX,length_cons,length_nil];omega) <|
       .g 3 (bD7 (y:=y) (i:=i) he)<|.p k 1<|.n t2 (k+1) [])
      (fun h2=>.g 3 (show xN y i l k=qH y (i+1) by rw[show k=l.length by omega];exact aT3 hl)<|.p i 1<|.n t (i+1) []))
    (fun h=>.g 3 (show qH y i=qH y y.shelf.length by rw[show i=y.shelf.length by omega])<|.a (qH y y.shelf.length) (y.runs.length:Int) 8 (hy:=by show I64 _;unfold I64;omega) (h63:=by have:=lH (oU y y.shelf.length) hw;unfold maxLen;omega) (hby:=by have:=lH (oU y y.shelf.length) hw;omega) <|
     .g 3 (cV9 y)<|.l (Γ:=Nat) (fun i=>i<=y.runs.length) (fun i=>y.runs.length-i) [1,58,59] [2] [0,1] (fun i=>[vR 3 3,vI 60 i]) (fun i=>[oR 3 3 (nK y i)]) 0 fun i hi t=>
     let m1:=lH (zU y i) hw
     .s ((i:Int)<y.runs.length)
      (fun h=>.x y.runs i (h:=by omega) fun r hr gr=>let gr:r.ok:=gr
       let hwr:r.wt<=1048576:=Nat.le_trans (bC3 (mem_of_getElem? hr)) hw
       let m0:=lH (zT hr 0) hw
       let mm:(nK y i).length+(jN r.plan).length+2<=8388611:=by have:=m0;rw[<- bM6]at this;simp only[length_append,length_cons,length_nil]at this;omega
       .a (nK y i) r.id 8 (hy:=gr.1) (hby:=by omega) <|
       .c func293 (PlanNumbersI r.plan (by unfold Run.wt Plan.wt at hwr;omega)) (hg:=⟨gr.2.1,trivial⟩) fun _=>
       .as (inferInstance:Shape Int) fS (nK y i++[r.id]) (jN r.plan) 8 (by simp only[length_append,length_cons,length_nil];unfold maxLen;omega) (by simp only[length_append,length_cons,length_nil];omega) <|
       .a ((nK y i++[r.id])++jN r.plan) r.state 8 (hy:=gr.2.2) (h63:=by simp only[length_append,length_cons,length_nil];unfold maxLen;omega) (hby:=by simp only[length_append,length_cons,length_nil];omega) <|
       .g 3 (bM6 y i r)<|.l (Γ:=Nat) (fun k=>k<=r.tasks.length) (fun k=>r.tasks.length-k) [1,58,59,60,79,80] [2] [0,1,7] (fun k=>[vR 3 3,vI 81 k]) (fun k=>[oR 3 3 (xM y i r k)]) 0 fun k hk t2=>
       let m2:=lH (zT hr k) hw
       .s ((k:Int)<r.tasks.length)
        (fun h2=>.x r.tasks k (h:=by omega) fun e he ge=>.ap (inferInstance:Dsh Int) (xM y i r k) (fT e) (aI3 ge) 8 (by simp only[fT,length_cons,length_nil];unfold maxLen;omega) (by simp only[fT,length_cons,length_nil];omega) <|
         .g 3 (bD6 (y:=y) (i:=i) he)<|.p k 1 (h:=by unfold Run.wt at hwr;unfold I64;omega)<|.n t2 (k+1) [])
        (fun h2=>.g 3 (show xM y i r k=nK y (i+1) by rw[show k=r.tasks.length by omega];exact aT1 hr)<|.p i 1<|.n t (i+1) []))
      (fun h=>.g 3 (show nK y i=dA y by rw[show i=y.runs.length by omega];exact aT2 y)<|.c func163 (VarsI (dA y) (by have:=uL y;omega)) fun _=>.rt ⟨(gI (dA y)).toArray⟩ ⟨bA4 hb,trivial⟩)))) aB
def mX (l:List Int):ByteArray:=⟨(gI l).toArray⟩
theorem strOf_size (l:List Int):(mX l).size<=5*l.length:=by
 have:=xC l;show (gI l).toArray.size<=_;simpa using this
theorem str_step {l:List Int}{k:Nat}{z:Int}(h:l[k]? = some z):mX (l.take k)++aU z=mX (l.take (k+1)):=by
 apply ByteArray.ext;rw[ByteArray.data_append];apply Array.toList_inj.1;show _=gI (l.take (k+1));rw[<- aI1 h];simp[mX]
theorem VarsS (l:List Int) (hl:l.length<=20000000):Ct1 prog 131 [.L l] [.T (mX l)]:=
 vc func131 (fun hg=>.l (Γ:=Nat) (fun k=>k<=l.length) (fun k=>l.length-k) [0] [] [0] (fun k=>[vT 3 (mX (l.take k)),vI 4 k]) (fun _=>[]) 0 fun k hk t=>
  let hb:(mX (l.take k)).size<=5*l.length:=by have:=strOf_size (l.take k);rw[length_take]at this;omega
  .s ((k:Int)<l.length)
   (fun h=>.x l k (h:=by omega) fun z hz gz=>.c func127 (bI7 z) fun _=>.pb .add (iD (mX (l.take k)) (aU z) (by have:=eW z;omega)) <|
    .rv 17 (.string (mX (l.take (k+1)))) (y := .string (mX (l.take k)++aU z)) (by rw[str_step hz])<|.p k 1<|.n t (k+1) [])
   (fun h=>.rv 3 (.string (mX l)) (y := .string (mX (l.take k))) (by rw[take_of_length_le aA])<|.rt () ⟨trivial,trivial⟩)) aB
theorem L18PlanS (out:List Int) (p:Plan) (hl:p.edges.length<=1048576) (ho:out.length<=100000000):Co prog 276 [.r (inferInstance:Shape Int) 3 out] false [.S p] (fun _:Unit=>True) (fun _=>[.rw (inferInstance:Shape Int) 3 (out++jN p)]):=
 vco func276 (fun hg _=>.ap (inferInstance:Dsh Int) out (oS p) (bD2 hg.1.1 hl) 8 (by simp only[oS,length_cons,length_nil];unfold maxLen;omega) (by simp only[oS,length_cons,length_nil];omega) <|
  .g 0 (show out++oS p=out++iT p 0 by simp[iT])<|.l (Γ:=Nat) (fun k=>k<=p.edges.length) (fun k=>p.edges.length-k) [3] [2,1000000] [1] (fun k=>[vR 0 0,vI 5 k]) (fun k=>[oR 0 3 (out++iT p k)]) 0 fun k hk t=>
   .s ((k:Int)<p.edges.length)
    (fun h=>.x p.edges k (h:=by omega) fun e he ge=>.y he fun _=>.ap (inferInstance:Dsh Int) (out++iT p k) [e.from_,e.to_] (bG3 ge) 8 (by have:=sH p k;simp only[length_append,length_cons,length_nil];unfold maxLen;omega) (by have:=sH p k;simp only[length_append,length_cons,length_nil];omega) <|
     .g 0 (show (out++iT p k)++[e.from_,e.to_]=out++iT p (k+1) by rw[append_assoc,aK0 he])<|.p k 1<|.n t (k+1) [])
    (fun h=>.g 0 (show out++iT p k=out++jN p by unfold jN;rw[show k=p.edges.length by omega])<|.rt () ⟨trivial,trivial⟩)) aB
theorem YardTextS (y:Yard) (hw:y.wt<=1048576):Ct1 prog 215 [.S y] [.T (dW y)]:=
 .one (dW y) (rk:=fun a=>[.T a])<|vc func215 (fun hg=>.c func74 (aY4 y hw) (hg:=⟨hg.1.1,trivial⟩) fun _=>.v (aG y)
  (fun hb=>.rt ⟨#[]⟩ ⟨bR1 hb,trivial⟩)
  (fun hb=>let hsl:y.shelf.length<=1048576:=Nat.le_trans (qN y).1 hw
   let hrl:y.runs.length<=1048576:=Nat.le_trans (qN y).2 hw
   .lr (inferInstance:Dsh Int) fS 18 [y.now,y.seq] (by simp) (bA3 hg.1.1.1 hg.1.1.2) <|
   .l (Γ:=Nat) (fun i=>i<=y.shelf.length) (fun i=>y.shelf.length-i) [1] [2] [0,1] (fun i=>[vR 3 3,vI 4 i]) (fun i=>[oR 3 3 (qH y i)]) 0 fun i hi t=>
   let m1:=lH (oU y i) hw
   .s ((i:Int)<y.shelf.length)
    (fun h=>.x y.shelf i (h:=by omega) fun l hl gl=>let hll:l.length<=1048576:=Nat.le_trans (aI9 (mem_of_getElem? hl)) hw
     .a (qH y i) (l.length:Int) 8 (hy:=by show I64 _;unfold I64;omega) (hby:=by omega) <|
     .g 3 (cW0 y i l)<|.l (Γ:=Nat) (fun k=>k<=l.length) (fun k=>l.length-k) [1,4] [2] [0,1] (fun k=>[vR 3 3,vI 5 k]) (fun k=>[oR 3 3 (xN y i l k)]) 0 fun k hk t2=>
     let m2:=lH (bU5 hl k) hw
     .y hl fun _=>.s ((k:Int)<l.length)
      (fun h2=>.y hl fun _=>.x l k (h:=by omega) fun e he ge=>.ap (inferInstance:Dsh Int) (xN y i l k) (eX e) (aB2 ge) 8 (by simp only[eX,length_cons,length_nil];unfold maxLen;omega) (by simp only[eX,length_cons,length_nil];omega) <|
       .g 3 (bD7 (y:=y) (i:=i) he)<|.p k 1<|.n t2 (k+1) [])
      (fun h2=>.g 3 (show xN y i l k=qH y (i+1) by rw[show k=l.length by omega];exact aT3 hl)<|.p i 1<|.n t (i+1) []))
    (fun h=>.g 3 (show qH y i=qH y y.shelf.length by rw[show i=y.shelf.length by omega])<|.a (qH y y.shelf.length) (y.runs.length:Int) 8 (hy:=by show I64 _;unfold I64;omega) (h63:=by have:=lH (oU y y.shelf.length) hw;unfold maxLen;omega) (hby:=by have:=lH (oU y y.shelf.length) hw;omega) <|
     .g 3 (cV9 y)<|.l (Γ:=Nat) (fun i=>i<=y.runs.length) (fun i=>y.runs.length-i) [1] [2] [0,1] (fun i=>[vR 3 3,vI 7 i]) (fun i=>[oR 3 3 (nK y i)]) 0 fun i hi t=>
     let m1:=lH (zU y i) hw
     .s ((i:Int)<y.runs.length)
      (fun h=>.x y.runs i (h:=by omega) fun r hr gr=>let gr:r.ok:=gr
       let hwr:r.wt<=1048576:=Nat.le_trans (bC3 (mem_of_getElem? hr)) hw
       let m0:=lH (zT hr 0) hw
       let mm:(nK y i).length+(jN r.plan).length+2<=8388611:=by have:=m0;rw[<- bM6]at this;simp only[length_append,length_cons,length_nil]at this;omega
       .a (nK y i) r.id 8 (hy:=gr.1) (hby:=by omega) <|
       .co _ func276 (L18PlanS (nK y i++[r.id]) r.plan (by unfold Run.wt Plan.wt at hwr;omega) (by simp only[length_append,length_cons,length_nil];omega)) ⟨gr.2.1,trivial⟩ fun _ _ _=>
       .a ((nK y i++[r.id])++jN r.plan) r.state 8 (hy:=gr.2.2) (h63:=by simp only[length_append,length_cons,length_nil];unfold maxLen;omega) (hby:=by simp only[length_append,length_cons,length_nil];omega) <|
       .g 10 (bM6 y i r)<|.l (Γ:=Nat) (fun k=>k<=r.tasks.length) (fun k=>r.tasks.length-k) [1,7,8] [2,8] [0,1,7] (fun k=>[vR 3 10,vI 9 k]) (fun k=>[oR 10 3 (xM y i r k)]) 0 fun k hk t2=>
       let m2:=lH (zT hr k) hw
       .s ((k:Int)<r.tasks.length)
        (fun h2=>.x r.tasks k (h:=by omega) fun e he ge=>.ap (inferInstance:Dsh Int) (xM y i r k) (fT e) (aI3 ge) 8 (by simp only[fT,length_cons,length_nil];unfold maxLen;omega) (by simp only[fT,length_cons,length_nil];omega) <|
         .g 10 (bD6 (y:=y) (i:=i) he)<|.p k 1 (h:=by unfold Run.wt at hwr;unfold I64;omega)<|.n t2 (k+1) [])
        (fun h2=>.g 10 (show xM y i r k=nK y (i+1) by rw[show k=r.tasks.length by omega];exact aT1 hr)<|.p i 1<|.n t (i+1) [(3,10)]))
      (fun h=>.g 3 (show nK y i=dA y by rw[show i=y.runs.length by omega];exact aT2 y)<|.sh 3<|.c func131 (VarsS (dA y) (by have:=uL y;omega)) fun _=>.rt (mX (dA y)) ⟨bA4 hb,trivial⟩)))) aB
abbrev nextN:ByteArray:=⟨#[110,101,120,116]⟩
abbrev logN:ByteArray:=⟨#[108,111,103]⟩
abbrev wO:ByteArray:=⟨#[109,97,114,107]⟩
def pL (e:Engine) (d:Disk):Engine:=⟨e.yard,d,e.next,e.calls,e.waits,e.state,e.broken⟩
noncomputable def pG (d:Disk) (nm:ByteArray):Disk×Bool:=if 0<=fAt d.files nm then bY d nm 0 else (d,true)
noncomputable def opF (e:Engine) (k:Int):Disk×Bool:=
 if k=0 then pG e.disk nextN else if k=4 then pG e.disk logN else if k=1 then eC e.disk nextN (iP (e.next-1) (dW e.yard)) else if k=2 then iH e.disk nextN else gZ e.disk nextN wO
noncomputable def gA (e:Engine) (k:Int):Engine×Bool:=
 if ¬(dQ e=true/\e.state=1/\inB k 0 4=true) then (e,false) else if e.broken=true then (brk e,false) else (pL e (opF e k).1,(opF e k).2)
theorem aE4 {e:Engine}{k:Int}(h:¬(dQ e=true/\e.state=1/\inB k 0 4=true)):(e,false)=gA e k:=by unfold gA;rw[if_pos h]
theorem cK6 {e:Engine}{k:Int}(h1:dQ e=true) (h2:e.state=1) (h3:inB k 0 4=true) (h:e.broken=true):(brk e,false)=gA e k:=by unfold gA;rw[if_neg (fun h=>h ⟨h1,h2,h3⟩),if_pos h]
theorem bN9 {e:Engine}{k:Int}(h1:dQ e=true) (h2:e.state=1) (h3:inB k 0 4=true) (h:e.broken=false):gA e k=(pL e (opF e k).1,(opF e k).2):=by unfold gA;rw[if_neg (fun h=>h ⟨h1,h2,h3⟩),if_neg (by rw[h];simp)]
theorem inB4 {k:Int}(h:inB k 0 4=true):0<=k/\k<=4:=by unfold inB at h;simpa using h
theorem op_0 {e:Engine}{k:Int}(h:k=0) (h2:0<=fAt e.disk.files nextN):opF e k=bY e.disk nextN 0:=by unfold opF pG;rw[if_pos h,if_pos h2]
theorem op_0n {e:Engine}{k:Int}(h:k=0) (h2:¬0<=fAt e.disk.files nextN):opF e k=(e.disk,true):=by unfold opF pG;rw[if_pos h,if_neg h2]
theorem op_4 {e:Engine}{k:Int}(h:k=4) (h2:0<=fAt e.disk.files logN):opF e k=bY e.disk logN 0:=by unfold opF pG;rw[if_neg aA,if_pos h,if_pos h2]
theorem op_4n {e:Engine}{k:Int}(h:k=4) (h2:¬0<=fAt e.disk.files logN):opF e k=(e.disk,true):=by unfold opF pG;rw[if_neg aA,if_pos h,if_neg h2]
theorem op_1 {e:Engine}{k:Int}(h:k=1):opF e k=eC e.disk nextN (iP (e.next-1) (dW e.yard)):=by unfold opF;rw[if_neg aA,if_neg aA,if_pos h]
theorem op_2 {e:Engine}{k:Int}(h:k=2):opF e k=iH e.disk nextN:=by unfold opF;rw[if_neg aA,if_neg aA,if_neg aA,if_pos h]
theorem op_3 {e:Engine}{k:Int}(h0:¬k=0) (h4:¬k=4) (h1:¬k=1) (h2:¬k=2):opF e k=gZ e.disk nextN wO:=by unfold opF;rw[if_neg h0,if_neg h4,if_neg h1,if_neg h2]
theorem write_f {d:Disk}{nm more:ByteArray}(h:(eC d nm more).2=false):(eC d nm more).1=d:=by
 unfold eC at *;split<;>simp_all
theorem sync_f {d:Disk}{nm:ByteArray}(h:(iH d nm).2=false):(iH d nm).1=d:=by
 unfold iH at *;split<;>simp_all
theorem cut_f {d:Disk}{nm:ByteArray}{n:Int}(h:(bY d nm n).2=false):(bY d nm n).1=d:=by
 unfold bY at *;split<;>simp_all
theorem move_f {d:Disk}{fr to:ByteArray}(h:(gZ d fr to).2=false):(gZ d fr to).1=d:=by
 unfold gZ at *;split<;>simp_all
theorem op_f {e:Engine}{k:Int}(h:(opF e k).2=false):(opF e k).1=e.disk:=by
 unfold opF pG at *;split
 ·rename_i h0;rw[if_pos h0]at h;split
  ·rename_i h1;rw[if_pos h1]at h;exact cut_f h
  rfl
 rename_i h0;rw[if_neg h0]at h;split
 ·rename_i h4;rw[if_pos h4]at h;split
  ·rename_i h1;rw[if_pos h1]at h;exact cut_f h
  rfl
 rename_i h4;rw[if_neg h4]at h;split
 ·rename_i h1;rw[if_pos h1]at h;exact write_f h
 rename_i h1;rw[if_neg h1]at h;split
 ·rename_i h2;rw[if_pos h2]at h;exact sync_f h
 rename_i h2;rw[if_neg h2]at h;exact move_f h
theorem tP {e:Engine}{k:Int}{q:Disk×Bool}(h1:dQ e=true) (h2:e.state=1) (h3:inB k 0 4=true) (h:e.broken=false) (hq:opF e k=q):(pL e q.1,q.2)=gA e k:=by rw[bN9 h1 h2 h3 h,hq]
theorem zX {e:Engine}{k:Int}(h1:dQ e=true) (h2:e.state=1) (h3:inB k 0 4=true) (h:e.broken=false) (hq:opF e k=(e.disk,true)):(e,true)=gA e k:=by rw[bN9 h1 h2 h3 h,hq];rfl
theorem zW {e:Engine}{k:Int}{q:Disk×Bool}(h1:dQ e=true) (h2:e.state=1) (h3:inB k 0 4=true) (h:e.broken=false) (hq:opF e k=q) (ht:q.2=true):(pL e q.1,true)=gA e k:=by rw[bN9 h1 h2 h3 h,hq,ht]
theorem tO {e:Engine}{k:Int}{q:Disk×Bool}(h1:dQ e=true) (h2:e.state=1) (h3:inB k 0 4=true) (h:e.broken=false) (hq:opF e k=q) (hf:q.2=false):(e,false)=gA e k:=by
 rw[bN9 h1 h2 h3 h];subst hq;rw[op_f hf,hf];rfl
theorem aU4 (n:Int) (t:ByteArray):(iP n t).size<=1000000000:=by
 unfold iP;split
 ·rename_i h;have:=fR n;have:=fR (cA t);rw[ByteArray.size_append,ByteArray.size_append];omega
 exact Nat.zero_le _
theorem zV {e:Engine}(h:dQ e=true):I64 (e.next-1):=by
 have:=(engOk_iff.1 h).next;unfold inB at this;simp only[Bool.and_eq_true,decide_eq_true_eq]at this;unfold I64;omega
theorem bE2:nextN.size<=maxLen:=by unfold maxLen;decide
theorem MarkStepI (e:Engine) (k:Int) (hw:e.yard.wt<=1048576) (hl:e.disk.files.length<=1048576) (hs:e.waits.length<=1048576):Ct1 prog 102 [.S e,.I k] [.S (gA e k).1,.B (gA e k).2]:=
 .one (gA e k) (rk:=fun p=>[.S p.1,.B p.2])<|vc func102 (fun (hg:gin [Par.S e,Par.I k])=>let ge:e.ok:=hg.1.1
  let gb:(brk e).ok:=⟨ge.1,ge.2.1,ge.2.2.1,by show I64 2;unfold I64;omega⟩
  .c func89 (jF e hw hl hs) (hg:=⟨ge,trivial⟩) fun _=>.c func51 (rZ e hw) (hg:=⟨ge,trivial⟩) fun _=>.v (dQ e)
  (fun h=>.rt (e,false) ⟨aE4 (fun g=>by rw[h]at g;cases g.1),ge,trivial⟩)
  (fun g1=>.u (e.state=1)
  (fun h=>.rt (e,false) ⟨aE4 (fun g=>h g.2.1),ge,trivial⟩)
  (fun g2=>.c func50 (bL k 0 4) fun _=>.v (inB k 0 4)
  (fun h=>.rt (e,false) ⟨aE4 (fun g=>by rw[h]at g;cases g.2.2),ge,trivial⟩)
  (fun g3=>.sb e.broken
  (fun h=>.c func96 (bQ8 e hw hl hs) (hg:=⟨ge,trivial⟩) fun _=>.rt (brk e,false) ⟨cK6 g1 g2 g3 h,gb,trivial⟩)
  (fun g4=>.s (k=0)
   (fun h0=>.kf (k=4) aA<|.c func159 (lW e.disk nextN) fun _=>.s ((0:Int)<=fAt e.disk.files nextN)
    (fun h=>.c func176 (aY9 e.disk nextN 0 hl) fun _=>.rt (pL e (bY e.disk nextN 0).1,(bY e.disk nextN 0).2) ⟨tP g1 g2 g3 g4 (op_0 h0 h),ge,trivial⟩)
    (fun h=>.rt (e,true) ⟨zX g1 g2 g3 g4 (op_0n h0 h),ge,trivial⟩))
   (fun h0=>.s (k=4)
    (fun h4=>.kt (k=4) h4<|.c func159 (lW e.disk logN) fun _=>.s ((0:Int)<=fAt e.disk.files logN)
     (fun h=>.c func176 (aY9 e.disk logN 0 hl) fun _=>.rt (pL e (bY e.disk logN 0).1,(bY e.disk logN 0).2) ⟨tP g1 g2 g3 g4 (op_4 h4 h),ge,trivial⟩)
     (fun h=>.rt (e,true) ⟨zX g1 g2 g3 g4 (op_4n h4 h),ge,trivial⟩))
    (fun h4=>.s (k=1)
     (fun h1=>.m e.next 1 (h:=zV g1)<|.c func177 (bJ5 (e.next-1) e.yard (dW e.yard) (zV g1) (aH0 e.yard hw) (wX hw)) (hg:=⟨ge.1,trivial⟩) fun _=>.c func97 (yG e.disk nextN (iP (e.next-1) (dW e.yard)) hl bE2 (aU4 _ _)) fun _=>
      .rt (pL e (eC e.disk nextN (iP (e.next-1) (dW e.yard))).1,(eC e.disk nextN (iP (e.next-1) (dW e.yard))).2) ⟨tP g1 g2 g3 g4 (op_1 h1),ge,trivial⟩)
     (fun h1=>.s (k=2)
      (fun h2=>.c func100 (bI9 e.disk nextN hl) fun _=>.rt (pL e (iH e.disk nextN).1,(iH e.disk nextN).2) ⟨tP g1 g2 g3 g4 (op_2 h2),ge,trivial⟩)
      (fun h2=>.c func178 (MoveFileI e.disk nextN wO hl) fun _=>.rt (pL e (gZ e.disk nextN wO).1,(gZ e.disk nextN wO).2) ⟨tP g1 g2 g3 g4 (op_3 h0 h4 h1 h2),ge,trivial⟩)))))))) ) aB
theorem MarkStepS (e:Engine) (k:Int) (hw:e.yard.wt<=1048576) (hl:e.disk.files.length<=1048576) (hs:e.waits.length<=1048576):Ct1 prog 83 [.S e,.I k] [.S (gA e k).1,.B (gA e k).2]:=
 .one (gA e k) (rk:=fun p=>[.S p.1,.B p.2])<|vc func83 (fun (hg:gin [Par.S e,Par.I k])=>let ge:e.ok:=hg.1.1
  let gb:(brk e).ok:=⟨ge.1,ge.2.1,ge.2.2.1,by show I64 2;unfold I64;omega⟩
  .c func73 (fD e hw hl hs) (hg:=⟨ge,trivial⟩) fun _=>.c func38 (rY e hw) (hg:=⟨ge,trivial⟩) fun _=>.v (dQ e)
  (fun h=>.rt (e,false) ⟨aE4 (fun g=>by rw[h]at g;cases g.1),ge,trivial⟩)
  (fun g1=>.u (e.state=1)
  (fun h=>.rt (e,false) ⟨aE4 (fun g=>h g.2.1),ge,trivial⟩)
  (fun g2=>.c func37 (InV k 0 4) fun _=>.v (inB k 0 4)
  (fun h=>.rt (e,false) ⟨aE4 (fun g=>by rw[h]at g;cases g.2.2),ge,trivial⟩)
  (fun g3=>.sb e.broken
  (fun h=>.rt (brk e,false) ⟨cK6 g1 g2 g3 h,gb,trivial⟩)
  (fun g4=>.s (k=0)
   (fun h0=>.c func126 (mT e.disk nextN aA) fun _=>.s ((0:Int)<=fAt e.disk.files nextN)
    (fun h=>.c func140 (aY8 e.disk nextN 0 hl) fun _=>.v (bY e.disk nextN 0).2 (fun hf=>.c func73 (fD e hw hl hs) (hg:=⟨ge,trivial⟩) fun _=>.rt (e,false) ⟨tO g1 g2 g3 g4 (op_0 h0 h) hf,ge,trivial⟩) (fun ht=>.rt (pL e (bY e.disk nextN 0).1,true) ⟨zW g1 g2 g3 g4 (op_0 h0 h) ht,ge,trivial⟩))
    (fun h=>.rt (e,true) ⟨zX g1 g2 g3 g4 (op_0n h0 h),ge,trivial⟩))
   (fun h0=>.s (k=1)
    (fun h1=>.m e.next 1 (h:=zV g1)<|.c func141 (MarkTextS (e.next-1) e.yard (dW e.yard) (zV g1) (YardTextS e.yard hw) (wX hw)) (hg:=⟨ge.1,trivial⟩) fun _=>
     .c func78 (yF e.disk nextN (iP (e.next-1) (dW e.yard)) hl bE2 (aU4 _ _)) fun _=>.v (eC e.disk nextN (iP (e.next-1) (dW e.yard))).2 (fun hf=>.c func73 (fD e hw hl hs) (hg:=⟨ge,trivial⟩) fun _=>.rt (e,false) ⟨tO g1 g2 g3 g4 (op_1 h1) hf,ge,trivial⟩) (fun ht=>.rt (pL e (eC e.disk nextN (iP (e.next-1) (dW e.yard))).1,true) ⟨zW g1 g2 g3 g4 (op_1 h1) ht,ge,trivial⟩))
    (fun h1=>.s (k=2)
     (fun h2=>.c func81 (bI8 e.disk nextN hl) fun _=>.v (iH e.disk nextN).2 (fun hf=>.c func73 (fD e hw hl hs) (hg:=⟨ge,trivial⟩) fun _=>.rt (e,false) ⟨tO g1 g2 g3 g4 (op_2 h2) hf,ge,trivial⟩) (fun ht=>.rt (pL e (iH e.disk nextN).1,true) ⟨zW g1 g2 g3 g4 (op_2 h2) ht,ge,trivial⟩))
     (fun h2=>.s (k=3)
      (fun h3=>.c func142 (MoveFileS e.disk nextN wO hl) fun _=>.v (gZ e.disk nextN wO).2 (fun hf=>.c func73 (fD e hw hl hs) (hg:=⟨ge,trivial⟩) fun _=>.rt (e,false) ⟨tO g1 g2 g3 g4 (op_3 h0 aA h1 h2) hf,ge,trivial⟩) (fun ht=>.rt (pL e (gZ e.disk nextN wO).1,true) ⟨zW g1 g2 g3 g4 (op_3 h0 aA h1 h2) ht,ge,trivial⟩))
      (fun h3=>let h4:k=4:=(by have:=inB4 g3;omega)
       .kt (k=4) h4<|.c func126 (mT e.disk logN aA) fun _=>.s ((0:Int)<=fAt e.disk.files logN)
       (fun h=>.c func140 (aY8 e.disk logN 0 hl) fun _=>.v (bY e.disk logN 0).2 (fun hf=>.c func73 (fD e hw hl hs) (hg:=⟨ge,trivial⟩) fun _=>.rt (e,false) ⟨tO g1 g2 g3 g4 (op_4 h4 h) hf,ge,trivial⟩) (fun ht=>.rt (pL e (bY e.disk logN 0).1,true) ⟨zW g1 g2 g3 g4 (op_4 h4 h) ht,ge,trivial⟩))
       (fun h=>.rt (e,true) ⟨zX g1 g2 g3 g4 (op_4n h4 h),ge,trivial⟩)))))))))) aB
def small (d:Disk):Prop:=d.files.length<=4/\∀f∈d.files,f.wt<=60010
theorem cT3 {α:Type}(f:α->Nat) (c:Nat):∀l:List α,(∀x∈l,f x<=c)->(l.map f).sum<=l.length*c
 | [],_=>by simp
 | x::l,h=>by
  have h1:=h x mem_cons_self;have h2:=cT3 f c l fun y hy=>h y (mem_cons_of_mem _ hy)
  simp only[map_cons,sum_cons,length_cons,Nat.add_mul,Nat.one_mul];omega
theorem zA {d:Disk}(h:small d):d.wt<=300000:=by
 have:=cT3 (fun y:File=>y.wt) 60010 d.files h.2;have:=h.1;unfold Disk.wt wtL;omega
theorem oQ {d:Disk}(h:aS d=true) {f:File}(hf:f∈d.files):f.name.size<=10/\f.data.size<=60000:=by
 obtain⟨k,hk⟩:=mem_iff_getElem?.1 hf;have h1:=((diskOk_iff.1 h).ok k f hk);have h2:=h1.name;have h3:=h1.data;unfold lN inB at h2;simp only[Bool.and_eq_true,decide_eq_true_eq]at h2;omega
theorem bU7 {d:Disk}(h:aS d=true):small d:=⟨vO h,fun f hf=>by have:=oQ h hf;unfold File.wt;omega⟩
theorem bB9 {d:Disk}(h:aS d=true) {k:Nat}{y:File}(hy:y.wt<=60010):small ⟨d.files.set k y⟩:=⟨by show (d.files.set k y).length<=4;rw[length_set];exact vO h,fun f hf=>by
 rcases mem_or_eq_of_mem_set hf with h1 | rfl
 ·exact(bU7 h).2 f h1
 ·exact hy⟩
theorem cK5 {d:Disk}(h:aS d=true) {k:Nat}{to:ByteArray}(ht:to.size<=10):∀i,∀f∈mvG d.files k to i,f.wt<=60010
 | 0,f,hf=>by cases hf
 | i+1,f,hf=>by
  have ih:=cK5 h (k:=k) ht i;have hf:f∈(match d.files[i]? with | some g=>if g.name=to then mvG d.files k to i else mvG d.files k to i++[if i=k then mvF g to else g] | none=>mvG d.files k to i):=hf;split at hf
  ·rename_i g hg;have hs:=oQ h (mem_of_getElem? hg);split at hf
   ·exact ih f hf
   ·rcases mem_append.1 hf with h1 | h1
    ·exact ih f h1
    ·rw[mem_singleton]at h1;subst h1;split
     ·show to.size+g.data.size<=60010;omega
     ·unfold File.wt;omega
  ·exact ih f hf
theorem bK1 (d:Disk) (nm more:ByteArray):(eC d nm more).1=d∨small (eC d nm more).1:=by
 unfold eC;split
 ·rename_i h;exact .inr (bU7 h.2)
 exact .inl rfl
theorem cT0 (d:Disk) (nm:ByteArray):(iH d nm).1=d∨small (iH d nm).1:=by
 unfold iH;split
 ·rename_i h;unfold synD;simp only;split
  ·rename_i f hf;have:=oQ h.2 (mem_of_getElem? hf);exact .inr (bB9 h.2 (by show f.name.size+f.data.size<=_;omega))
  exact .inl rfl
 exact .inl rfl
theorem cut_s (d:Disk) (nm:ByteArray) (n:Int):(bY d nm n).1=d∨small (bY d nm n).1:=by
 unfold bY;split
 ·rename_i h;unfold cR6;simp only;split
  ·rename_i f hf;have:=oQ h.2.1 (mem_of_getElem? hf);exact .inr (bB9 h.2.1 (by show f.name.size+(f.data.extract 0 n.toNat).size<=_;rw[ByteArray.size_extract];omega))
  exact .inl rfl
 exact .inl rfl
theorem move_s (d:Disk) (fr to:ByteArray):(gZ d fr to).1=d∨small (gZ d fr to).1:=by
 unfold gZ;split
 ·rename_i h;have h3:=h.2.2.2.1;unfold lN inB at h3;simp only[Bool.and_eq_true,decide_eq_true_eq]at h3;refine .inr ⟨?_,fun f hf=>cK5 h.2.1 aA _ f hf⟩;have:=bN8 d.files (fAt d.files fr).toNat to d.files.length;have:=vO h.2.1;simp only;omega
 exact .inl rfl
theorem cO1 (d:Disk) (nm:ByteArray):(pG d nm).1=d∨small (pG d nm).1:=by
 unfold pG;split
 ·exact cut_s d nm 0
 exact .inl rfl
theorem op_s (e:Engine) (k:Int):(opF e k).1=e.disk∨small (opF e k).1:=by
 unfold opF;split
 ·exact cO1 _ _
 split
 ·exact cO1 _ _
 split
 ·exact bK1 _ _ _
 split
 ·exact cT0 _ _
 exact move_s _ _ _
def fQ (n a b:Int):Int:=if b<a then a else if n<a then a else min n b
theorem aH9 (n a b:Int):Ct1 prog 101 [.I n,.I a,.I b] [.I (fQ n a b)]:=
 .one (fQ n a b) (rk:=fun x=>[.I x])<|vc func101 (fun hg=>.s (b<a)
  (fun h=>.rt a ⟨by unfold fQ;rw[if_pos h],trivial⟩)
  (fun h=>.s (n<a)
   (fun h2=>.rt a ⟨by unfold fQ;rw[if_neg h,if_pos h2],trivial⟩)
   (fun h2=>.rt (min n b) ⟨by unfold fQ;rw[if_neg h,if_neg h2],trivial⟩))) aB
theorem aH8 (n a b:Int):Ct1 prog 82 [.I n,.I a,.I b] [.I (fQ n a b)]:=
 .one (fQ n a b) (rk:=fun x=>[.I x])<|vc func82 (fun hg=>.s (b<a)
  (fun h=>.rt a ⟨by unfold fQ;rw[if_pos h],trivial⟩)
  (fun h=>.s (n<a)
   (fun h2=>.rt a ⟨by unfold fQ;rw[if_neg h,if_pos h2],trivial⟩)
   (fun h2=>.s (b<n)
    (fun h3=>.rt b ⟨by unfold fQ;rw[if_neg h,if_neg h2,Int.min_def,if_neg aA],trivial⟩)
    (fun h3=>.rt n ⟨by unfold fQ;rw[if_neg h,if_neg h2,Int.min_def,if_pos aA],trivial⟩)))) aB
theorem cE4 (n:Int):0<=fQ n 0 5/\fQ n 0 5<=5:=by
 unfold fQ;rw[if_neg aA];split
 ·omega
 omega
noncomputable def iO (e:Engine):Nat->Engine×Bool
 | 0=>(e,true)
 | k+1=>if (iO e k).2=true then gA (iO e k).1 k else iO e k
noncomputable def nW (e:Engine) (n:Int):Engine×Bool:=iO e (fQ n 0 5).toNat
theorem bW1 {e:Engine}{k:Nat}(h:(iO e k).2=true):iO e (k+1)=gA (iO e k).1 k:=by
 show (if _ then _ else _)=_;rw[if_pos h]
theorem bW2 {e:Engine}{k:Nat}(h:(iO e k).2=false):∀j,iO e (k+j)=iO e k
 | 0=>rfl
 | j+1=>by
  show (if (iO e (k+j)).2=true then gA (iO e (k+j)).1 ((k+j:Nat):Int) else iO e (k+j))=_;rw[bW2 h j,if_neg (by rw[h];simp)]
theorem cX5 (e:Engine) (k:Int):(gA e k).1.yard=e.yard/\(gA e k).1.waits=e.waits:=by
 unfold gA;split
 ·exact⟨rfl,rfl⟩
 split
 ·exact⟨rfl,rfl⟩
 exact⟨rfl,rfl⟩
theorem mst_fl (e:Engine) (k:Int) (h:e.disk.files.length<=1048576):(gA e k).1.disk.files.length<=1048576:=by
 unfold gA;split
 ·exact h
 split
 ·exact h
 show (opF e k).1.files.length<=_;rcases op_s e k with h1 | h1
 ·rw[h1];exact h
 have:=h1.1;omega
structure MkJ (e:Engine) (n:Int) (g:Nat×Engine):Prop where
 le:(g.1:Int)<=fQ n 0 5
 ok:iO e g.1=(g.2,true)
 yard:g.2.yard=e.yard
 waits:g.2.waits=e.waits
 files:g.2.disk.files.length<=1048576
 good:g.2.ok
theorem MkJ.start {e:Engine}(n:Int) (h:e.disk.files.length<=1048576) (hg:e.ok):MkJ e n (0,e):=⟨(cE4 n).1,rfl,rfl,rfl,h,hg⟩
theorem MkJ.next_ {e:Engine}{n:Int}{g:Nat×Engine}(h:MkJ e n g):iO e (g.1+1)=gA g.2 g.1:=by
 have:=bW1 (e:=e) (k:=g.1) (by rw[h.ok]);rw[this,h.ok]
theorem MkJ.step {e:Engine}{n:Int}{g:Nat×Engine}(h:MkJ e n g) (hk:(g.1:Int)<fQ n 0 5) (ht:(gA g.2 g.1).2=true) (hg:(gA g.2 g.1).1.ok):MkJ e n (g.1+1,(gA g.2 g.1).1):=by
 have e1:=h.next_;have h2:=cX5 g.2 g.1;exact⟨by show ((g.1+1:Nat):Int)<=_;omega,by show iO e (g.1+1)=_;rw[e1,<- ht],h2.1.trans h.yard,h2.2.trans h.waits,mst_fl _ _ h.files,hg⟩
theorem bW4 {e:Engine}{n:Int}{g:Nat×Engine}(h:MkJ e n g) (hk:(g.1:Int)<fQ n 0 5) (hf:(gA g.2 g.1).2=false):((gA g.2 g.1).1,false)=nW e n:=by
 have e1:=h.next_;unfold nW;obtain⟨j,hj⟩:∃j,(fQ n 0 5).toNat=(g.1+1)+j:=⟨(fQ n 0 5).toNat-(g.1+1),by omega⟩;rw[hj,bW2 (by rw[e1];exact hf) j,e1,<- hf]
theorem cK7 {e:Engine}{n:Int}{g:Nat×Engine}(h:MkJ e n g) (hk:¬(g.1:Int)<fQ n 0 5):(g.2,true)=nW e n:=by
 unfold nW;have:(fQ n 0 5).toNat=g.1:=by have:=h.le;omega
 rw[this,h.ok]
theorem MarkI (e:Engine) (n:Int) (hw:e.yard.wt<=1048576) (hl:e.disk.files.length<=1048576) (hs:e.waits.length<=1048576):Ct1 prog 55 [.S e,.I n] [.S (nW e n).1,.B (nW e n).2]:=
 .one (nW e n) (rk:=fun p=>[.S p.1,.B p.2])<|vc func55 (fun (hg:gin [Par.S e,Par.I n])=>.c func89 (jF e hw hl hs) (hg:=⟨hg.1.1,trivial⟩) fun _=>.l (Γ:=Nat×Engine) (fun g=>MkJ e n g) (fun g=>(fQ n 0 5).toNat-g.1) [1,2,4,6] [4,5] [0,1,2,3] (fun g=>[vI 7 g.1]) (fun g=>[oO 6 (g.2.yard.shelf),oO 7 (g.2.yard.runs),oO 8 (g.2.disk.files),oO 9 (g.2.waits),oB 10 [.v (I g.2.yard.now),.v (I g.2.yard.seq),.r 6,.r 7,.r 8,.v (I g.2.next),.v (I g.2.calls),.r 9,.v (I g.2.state),.b g.2.broken]]) (0,e) (h:=MkJ.start n hl hg.1.1) fun g hJ t=>
    .c func101 (aH9 n 0 5) fun _=>.s ((g.1:Int)<fQ n 0 5)
     (fun h=>let hkl:=cE4 n
     .c func102 (MarkStepI g.2 g.1 (by rw[hJ.yard];exact hw) hJ.files (by rw[hJ.waits];exact hs)) (hg:=⟨hJ.good,trivial⟩) fun hq=>.v (gA g.2 g.1).2
     (fun hf=>.rt ((gA g.2 g.1).1,false) ⟨bW4 hJ h hf,hq.1.1,trivial⟩)
     (fun ht=>.p g.1 1<|.n t (g.1+1,(gA g.2 g.1).1) [(6,11),(7,12),(8,13),(9,14)] (hJ.step h ht hq.1.1) (by dsimp only;omega)))
     (fun h=>.rt (g.2,true) ⟨cK7 hJ h,hJ.good,trivial⟩)) aB
theorem MarkS (e:Engine) (n:Int) (hw:e.yard.wt<=1048576) (hl:e.disk.files.length<=1048576) (hs:e.waits.length<=1048576):Ct1 prog 42 [.S e,.I n] [.S (nW e n).1,.B (nW e n).2]:=
 .one (nW e n) (rk:=fun p=>[.S p.1,.B p.2])<|vc func42 (fun (hg:gin [Par.S e,Par.I n])=>.c func82 (aH8 n 0 5) fun _=>.c func73 (fD e hw hl hs) (hg:=⟨hg.1.1,trivial⟩) fun _=>.l (Γ:=Nat×Engine) (fun g=>MkJ e n g) (fun g=>(fQ n 0 5).toNat-g.1) [1,2,4,6] [4,5] [0,1,2,3] (fun g=>[vI 7 g.1]) (fun g=>[oO 6 (g.2.yard.shelf),oO 7 (g.2.yard.runs),oO 8 (g.2.disk.files),oO 9 (g.2.waits),oB 10 [.v (I g.2.yard.now),.v (I g.2.yard.seq),.r 6,.r 7,.r 8,.v (I g.2.next),.v (I g.2.calls),.r 9,.v (I g.2.state),.b g.2.broken]]) (0,e) (h:=MkJ.start n hl hg.1.1) fun g hJ t=>
    .s ((g.1:Int)<fQ n 0 5)
     (fun h=>let hkl:=cE4 n
     .c func83 (MarkStepS g.2 g.1 (by rw[hJ.yard];exact hw) hJ.files (by rw[hJ.waits];exact hs)) (hg:=⟨hJ.good,trivial⟩) fun hq=>.v (gA g.2 g.1).2
     (fun hf=>.rt ((gA g.2 g.1).1,false) ⟨bW4 hJ h hf,hq.1.1,trivial⟩)
     (fun ht=>.p g.1 1<|.n t (g.1+1,(gA g.2 g.1).1) [(6,11),(7,12),(8,13),(9,14)] (hJ.step h ht hq.1.1) (by dsimp only;omega)))
     (fun h=>.rt (g.2,true) ⟨cK7 hJ h,hJ.good,trivial⟩)) aB
theorem bX6 {y:Yard}{id task try_:Int}(h:¬(0:Int)<=aI y id):false=fX y id task try_:=by
 have:cJ y id=none:=by
  cases hi:cJ y id with
  | none=>rfl
  | some k=>rw[dC hi]at h;omega
 unfold fX;rw[this]
theorem bX8 {y:Yard}{id task try_:Int}{k:Nat}{r:Run}(hk:cJ y id=some k) (hr:y.runs[k]? = some r):fX y id task try_=(inB task 0 ((r.tasks.length:Int)-1) && (match r.tasks[task.toNat]? with | some t=>decide (t.state=3) && decide (t.try_=try_) | none=>false)):=by
 unfold fX;rw[hk];simp only[hr]<;>rfl
theorem bF2 {y:Yard}{id task try_:Int}{k:Nat}{r:Run}(hk:cJ y id=some k) (hr:y.runs[k]? = some r) (h:inB task 0 ((r.tasks.length:Int)-1)=false):false=fX y id task try_:=by rw[bX8 hk hr,h];rfl
theorem bX9 {y:Yard}{id task try_:Int}{k:Nat}{r:Run}{t:Task}(hk:cJ y id=some k) (hr:y.runs[k]? = some r) (h:inB task 0 ((r.tasks.length:Int)-1)=true) (ht:r.tasks[task.toNat]? = some t):(decide (t.state=3) && decide (t.try_=try_))=fX y id task try_:=by rw[bX8 hk hr,h,ht];rfl
theorem cM2 {y:Yard}{id task try_:Int}{k:Nat}{r:Run}{t:Task}(hk:cJ y id=some k) (hr:y.runs[k]? = some r) (h:inB task 0 ((r.tasks.length:Int)-1)=true) (ht:r.tasks[task.toNat]? = some t) (h3:t.state=3):decide (t.try_=try_)=fX y id task try_:=by rw[<- bX9 hk hr h ht,decide_eq_true h3];rfl
theorem bX7 {y:Yard}{id task try_:Int}{k:Nat}{r:Run}{t:Task}(hk:cJ y id=some k) (hr:y.runs[k]? = some r) (h:inB task 0 ((r.tasks.length:Int)-1)=true) (ht:r.tasks[task.toNat]? = some t) (h3:¬t.state=3):false=fX y id task try_:=by rw[<- bX9 hk hr h ht,decide_eq_false h3];rfl
theorem bQ2 (y:Yard) (id task try_:Int) (hw:y.wt<=1048576):Ct1 prog 249 [.S y,.I id,.I task,.I try_] [.B (fX y id task try_)]:=
 .one (fX y id task try_) (rk:=fun x=>[.B x])<|vc func249 (fun (hg:gin [Par.S y,Par.I id,Par.I task,Par.I try_])=>.c func155 (lV y id hw) (hg:=⟨hg.1.1,trivial⟩) fun _=>.s (aI y id<0)
  (fun h=>.rt false ⟨bX6 aA,trivial⟩)
  (fun h=>.ex (zJ (show (0:Int)<=aI y id by omega)) fun q hq=>.ye hq.2.2 (aI y id) (he:=hq.2.1) fun gr=>.m (q.2.tasks.length:Int) 1 (h:=by have:=kA hw hq.2.2;unfold I64;omega)<|.c func50 (bL task 0 ((q.2.tasks.length:Int)-1)) fun _=>
   .v (inB task 0 ((q.2.tasks.length:Int)-1))
    (fun h1=>.rt false ⟨bF2 hq.1 hq.2.2 h1,trivial⟩)
    (fun h1=>.ye hq.2.2 (aI y id) (he:=hq.2.1) fun _=>.ex (xW h1) fun t ht=>.ye ht task (he:=kD h1) fun _=>.s (t.state=3)
     (fun h3=>.rt (decide (t.try_=try_)) ⟨cM2 hq.1 hq.2.2 h1 ht h3,trivial⟩)
     (fun h3=>.rt false ⟨bX7 hq.1 hq.2.2 h1 ht h3,trivial⟩)))) aB
theorem Holds_s (y:Yard) (id task try_:Int) (hw:y.wt<=1048576):Ct1 prog 272 [.S y,.I id,.I task,.I try_] [.B (fX y id task try_)]:=
 .one (fX y id task try_) (rk:=fun x=>[.B x])<|vc func272 (fun (hg:gin [Par.S y,Par.I id,Par.I task,Par.I try_])=>.c func121 (lU y id hw) (hg:=⟨hg.1.1,trivial⟩) fun _=>.s ((0:Int)<=aI y id)
  (fun h=>.ex (zJ h) fun q hq=>.ye hq.2.2 (aI y id) (he:=hq.2.1) fun gr=>.m (q.2.tasks.length:Int) 1 (h:=by have:=kA hw hq.2.2;unfold I64;omega)<|.c func37 (InV task 0 ((q.2.tasks.length:Int)-1)) fun _=>
   .sb (inB task 0 ((q.2.tasks.length:Int)-1))
    (fun h1=>.ye hq.2.2 (aI y id) (he:=hq.2.1) fun _=>.ex (xW h1) fun t ht=>.ye ht task (he:=kD h1) fun _=>.s (t.state=3)
     (fun h3=>.ye hq.2.2 (aI y id) (he:=hq.2.1) fun _=>.ye ht task (he:=kD h1) fun _=>.rt (decide (t.try_=try_)) ⟨cM2 hq.1 hq.2.2 h1 ht h3,trivial⟩)
     (fun h3=>.rt false ⟨bX7 hq.1 hq.2.2 h1 ht h3,trivial⟩))
    (fun h1=>.rt false ⟨bF2 hq.1 hq.2.2 h1,trivial⟩))
  (fun h=>.rt false ⟨bX6 h,trivial⟩)) aB
theorem cV0 {y:Yard}{p:Plan}(h:¬(y.runs.length:Int)<8):false=jA y p:=by unfold jA;simp[h]
theorem cU9 {y:Yard}{p:Plan}(h:inB p.tasks 0 12=false):false=jA y p:=by unfold jA;simp[h]
theorem cU8 {y:Yard}{p:Plan}(h:¬dK y+p.tasks<=40):false=jA y p:=by unfold jA;simp[h]
theorem cU7 {y:Yard}{p:Plan}(h1:(y.runs.length:Int)<8) (h2:inB p.tasks 0 12=true) (h3:dK y+p.tasks<=40):decide (y.seq<=999999000-p.tasks)=jA y p:=by unfold jA;simp[h1,h2,h3]
theorem RoomFor_i (y:Yard) (p:Plan) (hw:y.wt<=1048576):Ct1 prog 234 [.S y,.S p] [.B (jA y p)]:=
 .one (jA y p) (rk:=fun x=>[.B x])<|vc func234 (fun (hg:gin [Par.S y,Par.S p])=>let hs:=bC0 y
  .s ((y.runs.length:Int)<8)
  (fun h1=>.c func50 (bL p.tasks 0 12) fun _=>.sb (inB p.tasks 0 12)
   (fun h2=>let hp:=inB_iff.1 h2
    .c func157 (bJ1 y hw) (hg:=⟨hg.1.1,trivial⟩) fun _=>.p (dK y) p.tasks<|.s (dK y+p.tasks<=40)
    (fun h3=>.m 999999000 p.tasks<|.rt (decide (y.seq<=999999000-p.tasks)) ⟨cU7 h1 h2 h3,trivial⟩)
    (fun h3=>.rt false ⟨cU8 h3,trivial⟩))
   (fun h2=>.rt false ⟨cU9 h2,trivial⟩))
  (fun h1=>.rt false ⟨cV0 h1,trivial⟩)) aB
theorem RoomFor_s (y:Yard) (p:Plan) (hw:y.wt<=1048576):Ct1 prog 200 [.S y,.S p] [.B (jA y p)]:=
 .one (jA y p) (rk:=fun x=>[.B x])<|vc func200 (fun (hg:gin [Par.S y,Par.S p])=>let hs:=bC0 y
  .s ((y.runs.length:Int)<8)
  (fun h1=>.c func37 (InV p.tasks 0 12) fun _=>.sb (inB p.tasks 0 12)
   (fun h2=>let hp:=inB_iff.1 h2
    .c func124 (bJ0 y hw) (hg:=⟨hg.1.1,trivial⟩) fun _=>.p (dK y) p.tasks<|.s (dK y+p.tasks<=40)
    (fun h3=>.m 999999000 p.tasks<|.rt (decide (y.seq<=999999000-p.tasks)) ⟨cU7 h1 h2 h3,trivial⟩)
    (fun h3=>.rt false ⟨cU8 h3,trivial⟩))
   (fun h2=>.rt false ⟨cU9 h2,trivial⟩))
  (fun h1=>.rt false ⟨cV0 h1,trivial⟩)) aB
theorem bN5 {id:Int}{p:Plan}(h:¬(inB id 1 9999=true/\aC p=0)):(zRun,false)=(aT8 id p,nB id p):=by
 have:nB id p=false:=by
  unfold nB;cases h1:inB id 1 9999 with
  | false=>rfl
  | true=>simp only[Bool.true_and,decide_eq_false_iff_not];exact fun h2=>h ⟨h1,h2⟩
 rw[newR_f this,this]
theorem cK2 {id:Int}{p:Plan}(h1:inB id 1 9999=true) (h2:aC p=0):(aZ id p,true)=(aT8 id p,nB id p):=by
 have:nB id p=true:=by unfold nB;rw[h1,decide_eq_true h2];rfl
 rw[cX0 this,this]
theorem aM1:zRun.ok:=by unfold Run.ok Plan.ok zRun I64;simp
theorem bC4 {id:Int}{p:Plan}(h1:inB id 1 9999=true) (hp:p.ok):(aZ id p).ok:=⟨by have:=inB_iff.1 h1;show I64 id;unfold I64;omega,hp,by show I64 1;unfold I64;omega⟩
theorem bK5 {a b c d:Int}(ha:0<=a/\a<=100) (hb:0<=b/\b<=100) (hc:0<=c/\c<=100) (hd:0<=d/\d<=100):Task.ok ⟨a,b,c,d⟩:=⟨by show I64 a;unfold I64;omega,by show I64 b;unfold I64;omega,by show I64 c;unfold I64;omega,by show I64 d;unfold I64;omega⟩
theorem RunNew_i (id:Int) (p:Plan):Ct1 prog 235 [.I id,.S p] [.S (aT8 id p),.B (nB id p)]:=
 .one (aT8 id p,nB id p) (rk:=fun q=>[.S q.1,.B q.2])<|vc func235 (fun (hg:gin [Par.I id,Par.S p])=>let gp:p.ok:=hg.1.1
  .c func50 (bL id 1 9999) fun _=>.v (inB id 1 9999) (fun h=>.rt (zRun,false) ⟨bN5 (fun z=>by rw[h]at z;cases z.1),aM1,trivial⟩) (fun h1=>
  .c func225 (kU p) (hg:=⟨gp,trivial⟩) fun _=>.u (aC p=0) (fun h=>.rt (zRun,false) ⟨bN5 (fun z=>h z.2),aM1,trivial⟩) (fun h2=>let hp:=tC h2
  .c func99 (yM p aA) (hg:=⟨gp,trivial⟩) fun _=>.wt 6<|.r0 (inferInstance:Shape Task) 186 <|
  .l (Γ:=Nat) (fun k=>k<=p.tasks.toNat) (fun k=>p.tasks.toNat-k) [3,4,6] [1,2] [0] (fun k=>[vI 7 k]) (fun k=>[oO 3 p.edges,oR 5 186 (eG p k),oB 4 [.v (I id),.v (I p.prio),.v (I p.most),.v (I p.wait),.v (I p.tasks),.r 3,.v (I 1),.r 5]]) 0 fun k hk t=>let hln:=hU p k
   .s ((k:Int)<p.tasks)
    (fun h=>let hbl:=mI p (k:Int)
     .c func286 (aZ3 p k) (hg:=⟨gp,trivial⟩) fun _=>.s (((aL p (k:Int)).length:Int)=0)
     (fun h3=>.a (eG p k) (⟨2,(aL p (k:Int)).length,0,0⟩:Task) 32 (hy:=bK5 aA aA aA aA) (hby:=by omega)<|.g 5 (aP9 h3).symm<|.p k 1<|.n t (k+1) [])
     (fun h3=>.a (eG p k) (⟨1,(aL p (k:Int)).length,0,0⟩:Task) 32 (hy:=bK5 aA aA aA aA) (hby:=by omega)<|.g 5 (aQ0 h3).symm<|.p k 1<|.n t (k+1) []))
    (fun h=>.g 5 (show eG p k=eG p p.tasks.toNat by rw[show k=p.tasks.toNat by omega])<|.rt (aZ id p,true) ⟨cK2 h1 h2,bC4 h1 gp,trivial⟩)))) aB
theorem RunNew_s (id:Int) (p:Plan):Ct1 prog 201 [.I id,.S p] [.S (aT8 id p),.B (nB id p)]:=
 .one (aT8 id p,nB id p) (rk:=fun q=>[.S q.1,.B q.2])<|vc func201 (fun (hg:gin [Par.I id,Par.S p])=>let gp:p.ok:=hg.1.1
  .c func37 (InV id 1 9999) fun _=>.v (inB id 1 9999) (fun h=>.rt (zRun,false) ⟨bN5 (fun z=>by rw[h]at z;cases z.1),aM1,trivial⟩) (fun h1=>
  .c func193 (qA p) (hg:=⟨gp,trivial⟩) fun _=>.u (aC p=0) (fun h=>.rt (zRun,false) ⟨bN5 (fun z=>h z.2),aM1,trivial⟩) (fun h2=>let hp:=tC h2
  .c func80 (tB p aA) (hg:=⟨gp,trivial⟩) fun _=>.wt 6<|.r0 (inferInstance:Shape Task) 186 <|
  .l (Γ:=Nat) (fun k=>k<=p.tasks.toNat) (fun k=>p.tasks.toNat-k) [3,4,6] [1,2] [0] (fun k=>[vI 7 k]) (fun k=>[oO 3 p.edges,oR 5 186 (eG p k),oB 4 [.v (I id),.v (I p.prio),.v (I p.most),.v (I p.wait),.v (I p.tasks),.r 3,.v (I 1),.r 5]]) 0 fun k hk t=>let hln:=hU p k
   .s ((k:Int)<p.tasks)
    (fun h=>let hbl:=mI p (k:Int)
     .c func269 (bJ9 p k h2) (hg:=⟨gp,trivial⟩) fun _=>.s ((0:Int)<((aL p (k:Int)).length:Int))
     (fun h3=>.a (eG p k) (⟨1,(aL p (k:Int)).length,0,0⟩:Task) 32 (hy:=bK5 aA aA aA aA) (hby:=by omega)<|.g 5 (aQ0 (p:=p) (k:=k) aA).symm<|.p k 1<|.n t (k+1) [])
     (fun h3=>.a (eG p k) (⟨2,(aL p (k:Int)).length,0,0⟩:Task) 32 (hy:=bK5 aA aA aA aA) (hby:=by omega)<|.g 5 (aP9 (p:=p) (k:=k) aA).symm<|.p k 1<|.n t (k+1) []))
    (fun h=>.g 5 (show eG p k=eG p p.tasks.toNat by rw[show k=p.tasks.toNat by omega])<|.rt (aZ id p,true) ⟨cK2 h1 h2,bC4 h1 gp,trivial⟩)))) aB
def cG:List Entry->Entry×List Entry×Bool
 | []=>(zE,[],false)
 | e::r=>(e,r,true)
theorem cG6 {xs:List Entry}(h:(xs.length:Int)=0):(zE,[],false)=cG xs:=by
 rw[eq_nil_of_length_eq_zero (show xs.length=0 by omega)];rfl
theorem bS1 {xs:List Entry}{e:Entry}(h:xs[0]? = some e):(e,xs.drop 1,true)=cG xs:=by
 cases xs with
 | nil=>cases h
 | cons a r=>cases h;rfl
theorem TakeEntry_i (xs:List Entry) (hl:xs.length<=1048576):Ct1 prog 241 [.L xs] [.S (cG xs).1,.L (cG xs).2.1,.B (cG xs).2.2]:=
 .one (cG xs) (rk:=fun q=>[.S q.1,.L q.2.1,.B q.2.2])<|vc func241 (fun hg=>.s ((xs.length:Int)=0)
  (fun h=>.rt (zE,[],false) ⟨cG6 h,zE_ok,trivial⟩)
  (fun h=>.x xs 0 (h:=by omega) fun e he ge=>.dp inferInstance xs 1 aA 1 rfl<|.c func221 (gO (xs.drop 1) (by rw[length_drop];omega)) fun _=>.rt (e,xs.drop 1,true) ⟨bS1 he,ge,trivial⟩)) aB
theorem TakeEntry_s (xs:List Entry) (hl:xs.length<=1048576):Ct1 prog 207 [.L xs] [.S (cG xs).1,.L (cG xs).2.1,.B (cG xs).2.2]:=
 .one (cG xs) (rk:=fun q=>[.S q.1,.L q.2.1,.B q.2.2])<|vc func207 (fun hg=>.s ((xs.length:Int)=0)
  (fun h=>.e Entry<|.rt (zE,[],false) ⟨cG6 h,zE_ok,trivial⟩)
  (fun h=>.x xs 0 (h:=by omega) fun e he ge=>.dp inferInstance xs 1 aA 1 rfl<|.e Entry<|.as (inferInstance:Shape Entry) gD [] (xs.drop 1) 32 (by rw[length_drop];simp only[length_nil];unfold maxLen;omega) (by rw[length_drop];simp only[length_nil];omega)<|.rt (e,xs.drop 1,true) ⟨bS1 he,ge,trivial⟩)) aB
theorem HalfOf_i (xs:List Entry) (hl:xs.length<=1048576):Ct1 prog 239 [.L xs] [.L (xs.take (bN xs)),.L (xs.drop (bN xs))]:=
 vc func239 (fun hg=>let hh:bN xs<=xs.length:=(by unfold bN;omega)
  let he:((xs.length:Int)+1) / 2=(bN xs:Int):=(by unfold bN;omega)
  .p (xs.length:Int) 1 (h:=by unfold I64;omega)<|.q ((xs.length:Int)+1) 2 (h:=by omega)<|.tk inferInstance xs (bN xs) hh (((xs.length:Int)+1) / 2) he<|.dp inferInstance xs (bN xs) hh (((xs.length:Int)+1) / 2) he <|
  .c func221 (gO (xs.take (bN xs)) (by rw[length_take];omega)) fun _=>.c func221 (gO (xs.drop (bN xs)) (by rw[length_drop];omega)) fun _=>.rt () ⟨trivial,trivial⟩) aB
theorem HalfOf_s (xs:List Entry) (hl:xs.length<=1048576):Ct1 prog 205 [.L xs] [.L (xs.take (bN xs)),.L (xs.drop (bN xs))]:=
 vc func205 (fun hg=>let hh:bN xs<=xs.length:=(by unfold bN;omega)
  let he:((xs.length:Int)+1) / 2=(bN xs:Int):=(by unfold bN;omega)
  .p (xs.length:Int) 1 (h:=by unfold I64;omega)<|.q ((xs.length:Int)+1) 2 (h:=by omega)<|.tk inferInstance xs (bN xs) hh (((xs.length:Int)+1) / 2) he<|.dp inferInstance xs (bN xs) hh (((xs.length:Int)+1) / 2) he <|
  let one:=fun k=>D.as (P:=prog) (A:=Unit) (R:=fun _=>True/\rgd [Rk.L (xs.take (bN xs)),Rk.L (xs.drop (bN xs))]) (inferInstance:Shape Entry) gD [] (xs.take (bN xs)) 32 (by rw[length_take];simp only[length_nil];unfold maxLen;omega) (by rw[length_take];simp only[length_nil];omega) k
  let two:=D.as (P:=prog) (A:=Unit) (R:=fun _=>True/\rgd [Rk.L (xs.take (bN xs)),Rk.L (xs.drop (bN xs))]) (inferInstance:Shape Entry) gD [] (xs.drop (bN xs)) 32 (by rw[length_drop];simp only[length_nil];unfold maxLen;omega) (by rw[length_drop];simp only[length_nil];omega) (.rt () ⟨trivial,trivial⟩)
  .pm fun i=>match i with
   | 0=>.e Entry<|.pm fun i=>match i with
    | 4=>one<|.pm fun _=>.e Entry<|two
    | _=>.e Entry<|one<|two
   | _=>.e Entry<|.e Entry<|one<|two) aB
def PxF (xs:List Entry) (e:Entry):Option Nat->Prop
 | none=>nO xs e=xs.length
 | some k=>nO xs e=k/\k<xs.length
structure PxJ (xs:List Entry) (e:Entry) (k:Nat):Prop where
 le:k<=xs.length
 no:(xs.take k).any (fun x=> !cP x e)=false
theorem PxJ.next {xs:List Entry}{e x:Entry}{k:Nat}(h:PxJ xs e k) (hx:xs[k]? = some x) (ha:cP x e=true):PxJ xs e (k+1):=by
 obtain⟨hk,rfl⟩:=gsi_.1 hx;exact⟨hk,yE hk h.no (by rw[ha];rfl)⟩
theorem PxJ.hit {xs:List Entry}{e x:Entry}{k:Nat}(h:PxJ xs e k) (hx:xs[k]? = some x) (ha:cP x e=false):nO xs e=k/\k<xs.length:=by
 obtain⟨hk,rfl⟩:=gsi_.1 hx;exact⟨bT9 h.le h.no (.inr ⟨hk,ha⟩),hk⟩
theorem PxJ.all {xs:List Entry}{e:Entry}{k:Nat}(h:PxJ xs e k) (hn:¬(k:Int)<xs.length):nO xs e=k/\k=xs.length:=by
 have:=h.le;exact⟨bT9 h.le h.no (.inl aA),by omega⟩
noncomputable def insInc (xs:List Entry) (y:Entry) (k:Nat) (hk:k<=xs.length) (hy:y.ok) (hxl:xs.length<=1048576) (zs:List Entry) (hz:xs.take k++y::xs.drop k=zs):Inc prog 307 (fun _:Unit=>True) where
 T:=fun s us K=>match us with
  | [.on (.ce (.rf j h)),.on (.ce (.vl v1)),.on (.ce (.lt r b n))]=>match lku s.O j,lku (bJ s.O j) r with
   | some (.row i e' h' xs' fe),some (.bx b' [] cs [] t)=>.e0 h h'<|.e0 e' 173<|.e1 (⟨i,xs'⟩:Dat) ⟨instShapeEntry,xs⟩<|.e0 v1 (I (k:Int))<|.e0 b b'<|.e0 n 1<|.e0 t 173<|.e0 (cs.map Sc.val) [I y.prio,I y.seq,I y.run,I y.task] <|
     .fn fun g:Hd×List Nat=>K () (.on (.ce (.rf j g.1))) ⟨s.E,(j,.own instShapeEntry g.1 zs g.2)::bJ (bJ s.O j) r,lasting s.B,s.nx⟩
   | _,_=>.no
  | _=>.no
 ok:=by
  intro w0 W s us K h st fa;split at h
  ·next j hd v1 r b n=>
   split at h
   ·next i e' h' xs' fe b' cs t hj hr=>
    obtain⟨rfl,rfl,h2,rfl,rfl,rfl,rfl,h6,h7⟩:=h;simp only[Dat.mk.injEq]at h2;obtain⟨rfl,h8,h9⟩:=h2;obtain⟨rfl,rfl⟩:=And.intro (eq_of_heq h8) (eq_of_heq h9);have st2:=St.take (rs:=[]) (by simpa [Or,S.rs] using st) hj;rw[append_nil]at st2;have st3:=(St.take (rs:=[_]) (st2.perm (perm_append_comm (l₂:=[_]))) hr).perm (perm_append_comm (l₁:=[_]) (l₂:=_::_));have st3:St w0 W (Res.row 173 hd.val xs' fe::Res.bx b ([]++cs.map Sc.val++[]) 173::Or (bJ (bJ s.O j) r)):=st3;rw[nil_append,append_nil,h6]at st3;obtain⟨cl,_,hE⟩:=(st3.get 0 rfl).1;obtain rfl:=zR gD hE;refine(InsertE k st3 hk hy hxl).mono ?_;rintro e W' ⟨v',rfl,st'⟩;obtain⟨fp,st'⟩:=st'.shut;obtain⟨hd,rfl,_⟩:=Sl.hd (jS (st'.get 0 rfl));exact⟨(),.on (.ce (.rf j hd)),_,trivial,h7 (hd,fp),rfl,by rw[<- hz];exact st',fa.lasting⟩
   exact h.elim
  exact h.elim
theorem aY6 (xs:List Entry) (e:Entry) (hl:xs.length<=1048576):Ct1 prog 288 [.L xs,.S e] [.L (gM xs e)]:=
 vc func288 (fun (hg:gin [Par.L xs,Par.S e])=>let ge:e.ok:=hg.2.1.1
  let fin:∀k,nO xs e=k->k<=xs.length->D prog (fun _:Unit=>True/\rgd [Rk.L (gM xs e)]):=fun k h1 h2=>.c func221 (gO xs hl) fun _=>.iv _ func307 (insInc xs e k h2 ge hl (gM xs e) (by rw[<- h1];rfl)) fun _ _=>.rt () ⟨trivial,trivial⟩
  .in_ (R':=PxF xs e) func292 (
   .la (Γ:=Nat) (PxJ xs e) (fun k=>xs.length-k) (fun k=>[vI 8 k]) (fun _=>[]) 0 (h:=⟨Nat.zero_le _,rfl⟩) fun k hJ t=>let hk:=hJ.le
    .s ((k:Int)<xs.length)
     (fun h=>.x xs k (h:=by omega) fun x hx gx=>.in_ (R':=fun _:Unit=>True) func306 (.c func223 (cQ6 x e) (hg:=⟨gx,ge,trivial⟩) fun _=>.rt () trivial) fun _ _=>.v (cP x e)
      (fun h1=>.rt (some k) (hJ.hit hx h1))
      (fun h1=>.p k 1<|.n t (k+1) [] (hJ.next hx h1) aA))
     (fun h=>.rt none ((hJ.all h).1.trans (hJ.all h).2))) fun o=>match o with
   | none=>fun ho=>.kt ((-1:Int)<0) fL<|fin xs.length ho (Nat.le_refl _)
   | some k=>fun ho=>.kf ((k:Int)<0) aA<|fin k ho.1 (Nat.le_of_lt ho.2)) aB
theorem aY5 (xs:List Entry) (e:Entry) (hl:xs.length<=1048576):Ct1 prog 271 [.L xs,.S e] [.L (gM xs e)]:=
 .one (gM xs e) (rk:=fun l=>[.L l])<|vc func271 (fun (hg:gin [Par.L xs,Par.S e])=>let ge:e.ok:=hg.2.1.1
  let fin:∀k,nO xs e=k->k<=xs.length->D prog (fun l:List Entry=>l=gM xs e/\rgd [Rk.L l]):=fun k h1 h2=>.e Entry<|.tk inferInstance xs k h2 (k:Int) rfl<|.as (inferInstance:Shape Entry) gD [] (xs.take k) 32 (by rw[length_take];simp only[length_nil];unfold maxLen;omega) (by rw[length_take];simp only[length_nil];omega) <|
   .a (xs.take k) e 32 (hy:=ge) (h63:=by rw[length_take];unfold maxLen;omega) (hby:=by rw[length_take];omega)<|.dp inferInstance xs k h2 (k:Int) rfl<|.as (inferInstance:Shape Entry) gD (xs.take k++[e]) (xs.drop k) 32 (by rw[length_append,length_take,length_drop];simp only[length_cons,length_nil];unfold maxLen;omega) (by rw[length_append,length_take,length_drop];simp only[length_cons,length_nil];omega) <|
   .rt (xs.take k++[e]++xs.drop k) ⟨by rw[append_assoc,<- h1];rfl,trivial⟩
  .la (Γ:=Nat) (PxJ xs e) (fun k=>xs.length-k) (fun k=>[vI 5 k]) (fun _=>[]) 0 (h:=⟨Nat.zero_le _,rfl⟩) fun k hJ t=>let hk:=hJ.le
   .s ((k:Int)<xs.length)
    (fun h=>.x xs k (h:=by omega) fun x hx gx=>.c func266 (cQ5 x e) (hg:=⟨gx,ge,trivial⟩) fun _=>.sb (cP x e)
     (fun h1=>.p k 1<|.n t (k+1) [] (hJ.next hx h1) aA)
     (fun h1=>fin k (hJ.hit hx h1).1 hk))
    (fun h=>fin k (hJ.all h).1 hk)) aB
def aU3 (a b:List Entry) (k:Nat):List Entry:=(b.take k).foldl gM a
theorem bW7 (a b:List Entry) (k:Nat):(aU3 a b k).length<=a.length+b.length:=by
 unfold aU3;rw[wS,length_take];omega
theorem bE3 {a b:List Entry}{k:Nat}{e:Entry}(h:b[k]? = some e):gM (aU3 a b k) e=aU3 a b (k+1):=by
 obtain⟨hk,rfl⟩:=gsi_.1 h;unfold aU3;rw[foldl_put_to hk]
theorem bW8 {a b:List Entry}{k:Nat}(h:¬(80:Int)<(a.length:Int)+b.length) (hk:¬(k:Int)<b.length):aU3 a b k=dS a b:=by
 unfold aU3 dS;rw[if_neg aA,take_of_length_le aA]
theorem mg_no {a b:List Entry}(h:(80:Int)<(a.length:Int)+b.length):a=dS a b:=by unfold dS;rw[if_pos aA]
theorem Merged_i (a b:List Entry) (ha:a.length<=1048576) (hb:b.length<=1048576):Ct1 prog 240 [.L a,.L b] [.L (dS a b)]:=
 vc func240 (fun hg=>.c func221 (gO a ha) fun _=>.p (a.length:Int) (b.length:Int) (h:=by unfold I64;omega)<|.s ((80:Int)<(a.length:Int)+b.length)
  (fun h=>.g 2 (show a=dS a b from mg_no h)<|.rt () ⟨trivial,trivial⟩)
  (fun h=>.wt 18<|.sh 2<|.l (Γ:=Nat) (fun k=>k<=b.length) (fun k=>b.length-k) [17,18] [] [0,1] (fun k=>[vR 5 2,vI 19 k]) (fun k=>[oO 2 (aU3 a b k)]) 0 fun k hk t=>let hln:=bW7 a b k
   .s ((k:Int)<b.length)
    (fun h2=>.x b k (h:=by omega) fun e he ge=>.c func288 (aY6 (aU3 a b k) e aA) (hg:=⟨ge,trivial⟩) fun _=>.g 5 (bE3 (a:=a) he)<|.p k 1<|.n t (k+1) [(2,5)])
    (fun h2=>.g 2 (bW8 (a:=a) (b:=b) (k:=k) h h2)<|.rt () ⟨trivial,trivial⟩))) aB
theorem Merged_s (a b:List Entry) (ha:a.length<=1048576) (hb:b.length<=1048576):Ct1 prog 206 [.L a,.L b] [.L (dS a b)]:=
 vc func206 (fun hg=>.e Entry<|.as (inferInstance:Shape Entry) gD [] a 32 (by simp only[length_nil];unfold maxLen;omega) (by simp only[length_nil];omega)<|.p (a.length:Int) (b.length:Int) (h:=by unfold I64;omega)<|.s ((80:Int)<(a.length:Int)+b.length)
  (fun h=>.g 2 (show ([]:List Entry)++a=dS a b from mg_no h)<|.rt () ⟨trivial,trivial⟩)
  (fun h=>.sh 2<|.l (Γ:=Nat) (fun k=>k<=b.length) (fun k=>b.length-k) [1] [] [0,1] (fun k=>[vR 5 2,vI 6 k]) (fun k=>[oO 2 (aU3 a b k)]) 0 fun k hk t=>let hln:=bW7 a b k
   .s ((k:Int)<b.length)
    (fun h2=>.x b k (h:=by omega) fun e he ge=>.c func271 (aY5 (aU3 a b k) e aA) (hg:=⟨ge,trivial⟩) fun _=>.g 4 (bE3 (a:=a) he)<|.p k 1<|.n t (k+1) [(2,4)])
    (fun h2=>.g 2 (bW8 (a:=a) (b:=b) (k:=k) h h2)<|.rt () ⟨trivial,trivial⟩))) aB
theorem vic_step {home draw:Int}{k:Nat}(h:k<3):(bU home draw).take k++[qD home draw k]=(bU home draw).take (k+1):=by
 match k,h with
 | 0,_=>rfl
 | 1,_=>rfl
 | 2,_=>rfl
theorem dB6 {home:Int}(h:0<=home/\home<=3):I (fQ home 0 3)=I home:=by
 unfold fQ;rw[if_neg aA,if_neg aA,Int.min_def,if_pos aA]
theorem Victims_i (home draw:Int) (hh:0<=home/\home<=3) (hd:I64 draw):Ct1 prog 238 [.I home,.I draw] [.L (bU home draw)]:=
 vc func238 (fun hg=>let hm:0<=max draw 0/\max draw 0<=9223372036854775807:=(by unfold I64 at hd;omega)
  .c func101 (aH9 home 0 3) fun _=>.rv 8 (I home) (y:=I (fQ home 0 3)) (dB6 hh)<|.w Int 3 5<|.l (Γ:=Nat) (fun k=>k<=3) (fun k=>3-k) [0,1] [] [] (fun k=>[vR 5 0,vI 6 k]) (fun k=>[oR 0 3 ((bU home draw).take k)]) 0 fun k hk t=>
   .s ((k:Int)<3)
    (fun h=>.p home 1<|.q (max draw 0) 3 (h:=by omega)<|.p (max draw 0 % 3) (k:Int) (h:=by unfold I64;omega)<|.q (max draw 0 % 3+k) 3 (h:=by omega)<|.p (home+1) ((max draw 0 % 3+k) % 3)<|.q (home+1+(max draw 0 % 3+k) % 3) 4 (h:=by omega) <|
     .a ((bU home draw).take k) (qD home draw k) 8 (hy:=by have:=aO9 home draw k hh;show I64 _;unfold I64;omega) (h63:=by rw[length_take];unfold maxLen;omega) (hby:=by rw[length_take];omega)<|.g 0 (vic_step (home:=home) (draw:=draw) (k:=k) aA)<|.p k 1<|.n t (k+1) [])
    (fun h=>.g 0 (show (bU home draw).take k=bU home draw by rw[show k=3 by omega];rfl)<|.rt () ⟨trivial,trivial⟩)) aB
theorem CopyYardR_i (y:Yard) (hw:y.wt<=1048576):Ct1 prog 149 [.S y] [.cl [.v (I y.now),.v (I y.seq),.o (inferInstance:Shape (List Entry)) y.shelf,.r (inferInstance:Shape Run) 145 y.runs]]:=
 vc func149 (fun (hg:gin [Par.S y])=>let hb:=fC y hw
  .wt 14<|.r0 (inferInstance:Shape (List Entry)) 139<|.l (Γ:=Nat) (fun k=>k<=y.shelf.length) (fun k=>y.shelf.length-k) [1,2,3,14,15] [2,3] [0,1] (fun k=>[vI 16 k]) (fun k=>[oR 5 139 (y.shelf.take k),oB 4 [.v (I y.now),.v (I y.seq),.r 5,.v (.slice none 0 0)]]) 0 fun k hk t=>
   .s ((k:Int)<y.shelf.length)
    (fun h=>.x y.shelf k (h:=by omega) fun l hl gl=>.c func221 (gO l (kQ hl hw)) fun _=>.a (y.shelf.take k) l 24 (hy:=trivial) (h63:=by rw[length_take];unfold maxLen;omega) (hby:=by rw[length_take];omega)<|.g 5 (dJ hl)<|.p k 1<|.n t (k+1) [])
    (fun h=>.g 5 (mW h)<|.r0 (inferInstance:Shape Run) 145<|.l (Γ:=Nat) (fun k=>k<=y.runs.length) (fun k=>y.runs.length-k) [1,2,3,29,30] [2,3] [0,1] (fun k=>[vI 31 k]) (fun k=>[oR 5 139 y.shelf,oR 6 145 (y.runs.take k),oB 4 [.v (I y.now),.v (I y.seq),.r 5,.r 6]]) 0 fun k hk t=>
     .s ((k:Int)<y.runs.length)
      (fun h2=>.x y.runs k (h:=by omega) fun r hr gr=>let hrl:=kA hw hr
       .c func222 (aH7 r hrl.2.2 hrl.2.1) (hg:=⟨gr,trivial⟩) fun _=>.a (y.runs.take k) r 96 (hy:=gr) (h63:=by rw[length_take];unfold maxLen;omega) (hby:=by rw[length_take];omega)<|.g 6 (dJ hr)<|.p k 1<|.n t (k+1) [])
      (fun h2=>.g 6 (mW h2)<|.rt () ⟨trivial,trivial⟩))) aB
theorem CopyYardR_s (y:Yard) (hw:y.wt<=1048576):Ct1 prog 117 [.S y] [.cl [.v (I y.now),.v (I y.seq),.o (inferInstance:Shape (List Entry)) y.shelf,.r (inferInstance:Shape Run) 145 y.runs]]:=
 vc func117 (fun (hg:gin [Par.S y])=>let hb:=fC y hw
  .wt 4<|.r0 (inferInstance:Shape (List Entry)) 139<|.l (Γ:=Nat) (fun k=>k<=y.shelf.length) (fun k=>y.shelf.length-k) [1,2,3] [2,3] [0,1] (fun k=>[vI 4 k]) (fun k=>[oR 5 139 (y.shelf.take k),oB 4 [.v (I y.now),.v (I y.seq),.r 5,.v (.slice none 0 0)]]) 0 fun k hk t=>
   .s ((k:Int)<y.shelf.length)
    (fun h=>.x y.shelf k (h:=by omega) fun l hl gl=>let hll:=kQ hl hw
     .e Entry<|.as (inferInstance:Shape Entry) gD [] l 32 (by simp only[length_nil];unfold maxLen;omega) (by simp only[length_nil];omega)<|.a (y.shelf.take k) l 24 (hy:=trivial) (h63:=by rw[length_take];unfold maxLen;omega) (hby:=by rw[length_take];omega)<|.g 5 (dJ hl)<|.p k 1<|.n t (k+1) [])
    (fun h=>.g 5 (mW h)<|.r0 (inferInstance:Shape Run) 145<|.l (Γ:=Nat) (fun k=>k<=y.runs.length) (fun k=>y.runs.length-k) [1,2,3] [2,3] [0,1] (fun k=>[vI 5 k]) (fun k=>[oR 5 139 y.shelf,oR 6 145 (y.runs.take k),oB 4 [.v (I y.now),.v (I y.seq),.r 5,.r 6]]) 0 fun k hk t=>
     .s ((k:Int)<y.runs.length)
      (fun h2=>.x y.runs k (h:=by omega) fun r hr gr=>let hrl:=kA hw hr
       .c func191 (oL r hrl.2.2 hrl.2.1) (hg:=⟨gr,trivial⟩) fun _=>.a (y.runs.take k) r 96 (hy:=gr) (h63:=by rw[length_take];unfold maxLen;omega) (hby:=by rw[length_take];omega)<|.g 6 (dJ hr)<|.p k 1<|.n t (k+1) [])
      (fun h2=>.g 6 (mW h2)<|.rt () ⟨trivial,trivial⟩))) aB
def fW (ts:List Task) (k:Nat):List Task:=ts.mapIdx (fun j t=>if j<k then fP t else t)
theorem leaveSTo_zero (ts:List Task):fW ts 0=ts:=by
 apply ext_getElem?;intro i;simp[fW,getElem?_mapIdx]
theorem leaveSTo_len (ts:List Task) (k:Nat):(fW ts k).length=ts.length:=by simp[fW]
theorem aK4 {ts:List Task}{k:Nat}{t:Task}(h:ts[k]? = some t):(fW ts k)[k]? = some t:=by simp[fW,getElem?_mapIdx,h]
theorem leaveSTo_set {ts:List Task}{k:Nat}{t y:Task}(h:ts[k]? = some t) (hy:fP t=y):(fW ts k).set k y=fW ts (k+1):=by
 apply ext_getElem?;intro i;obtain⟨hl,rfl⟩:=gsi_.1 h;simp only[fW,getElem?_set,getElem?_mapIdx,length_mapIdx];by_cases e:k=i
 ·subst e;simp[hl,hy]
 rw[if_neg e];cases hi:ts[i]? with
 | none=>rfl
 | some u=>
  have:(i<k)↔(i<k+1):=by omega
  simp[this]
theorem leaveSTo_all (ts:List Task):fW ts ts.length=dZ ts:=by
 apply ext_getElem?;intro i;simp only[fW,dZ,getElem?_mapIdx,getElem?_map];cases hi:ts[i]? with
 | none=>rfl
 | some u=>have:=(gsi_.1 hi).1;simp[this]
theorem leaveS1_t {t:Task}(h:¬t.state=4) (h2:¬t.state=5):fP t=eS t:=by unfold fP;rw[if_neg (by simp[h,h2])]
theorem leaveS1_4 {t:Task}(h:t.state=4):fP t=t:=by unfold fP;rw[if_pos (.inl h)]
theorem leaveS1_5 {t:Task}(h:t.state=5):fP t=t:=by unfold fP;rw[if_pos (.inr h)]
noncomputable def iZ (r:Run) (task:Int):Bool:=eZ r && (inB task 0 ((r.tasks.length:Int)-1) && (match r.tasks[task.toNat]? with | some t=>decide (t.state=3) | none=>false))
theorem aR3 {r:Run}{task:Int}(h:iZ r task=true):RunIs r/\∃t,0<=task/\r.tasks[task.toNat]? = some t/\t.state=3:=by
 unfold iZ at h;simp only[Bool.and_eq_true]at h;obtain⟨h1,h2,h3⟩:=h;refine⟨runIs.1 h1,?_⟩;cases hq:r.tasks[task.toNat]? with
 | none=>rw[hq]at h3;cases h3
 | some t=>rw[hq]at h3;exact⟨t,(inB_iff'.1 h2).1,rfl,by simpa using h3⟩
noncomputable def cQ (r:Run) (task:Int):Run:=if iZ r task then aW6 r task.toNat else r

def cZ (r r':Run) (k:Nat):List Int:=(eF r'.tasks 2 k).filter (fun t=> !decide (t∈aK r.tasks 2))
theorem freshTo_zero (r r':Run):cZ r r' 0=[]:=rfl
theorem freshTo_len (r r':Run) (k:Nat):(cZ r r' k).length<=k:=Nat.le_trans (length_filter_le _ _) (iY _ _ _)
theorem tin_mem {ts:List Task}{s:Int}{k:Nat}:(k:Int)∈aK ts s↔∃h:k<ts.length,ts[k].state=s:=by
 unfold aK eF;rw[mem_filterMap];constructor
 ·rintro⟨a,ha,h⟩;rw[mem_range]at ha;split at h
  ·next e=>
   simp only[Option.some.injEq]at h;have:a=k:=by omega
   subst this;rw[getElem?_eq_getElem ha]at e;exact⟨ha,by simpa using e⟩
  cases h
 rintro⟨h,e⟩;exact⟨k,by simpa using h,by rw[if_pos (by rw[getElem?_eq_getElem h];simpa using e)]⟩
theorem aV9 {r r':Run}{k:Nat}(h:k<r'.tasks.length) (hs:¬r'.tasks[k].state=2):cZ r r' (k+1)=cZ r r' k:=by unfold cZ;rw[aC7 h hs]
theorem freshTo_f2 {r r':Run}{k:Nat}(h:k<r'.tasks.length) (h2:k<r.tasks.length) (hs:r.tasks[k].state=2):cZ r r' (k+1)=cZ r r' k:=by
 by_cases hq:r'.tasks[k].state=2
 ·unfold cZ;rw[uM h hq,filter_append];have:(k:Int)∈aK r.tasks 2:=tin_mem.2 ⟨h2,hs⟩;simp[this]
 exact aV9 h hq
theorem bF6 {r r':Run}{k:Nat}(h:k<r'.tasks.length) (hs:r'.tasks[k].state=2) (hn:r.tasks.length<=k∨∃h2:k<r.tasks.length,¬r.tasks[k].state=2):cZ r r' (k+1)=cZ r r' k++[(k:Int)]:=by
 unfold cZ;rw[uM h hs,filter_append];have:¬(k:Int)∈aK r.tasks 2:=fun hm=>by
  obtain⟨h2,e⟩:=tin_mem.1 hm;rcases hn with hn | ⟨_,hn⟩
  ·omega
  exact hn e
 simp[this]
def jW (t:Task):Task:=⟨if t.need-1=0 then 2 else t.state,t.need-1,t.try_,t.until_⟩
def pZ (ts:List Task) (k:Int):List Task:=match ts[k.toNat]? with | some t=>ts.set k.toNat (jW t) | none=>ts
def qM (ts:List Task) (l:List Int):List Task:=l.foldl pZ ts
theorem bI1 (ts:List Task) (l:List Int):qM ts (l.take 0)=ts:=rfl
theorem behSt_at {ts:List Task}{k:Int}{t:Task}(h:ts[k.toNat]? = some t):pZ ts k=ts.set k.toNat (jW t):=by unfold pZ;rw[h]
theorem cO7 {ts:List Task}{l:List Int}{j:Nat}{k:Int}{t u:Task}(hl:l[j]? = some k) (h:(qM ts (l.take j))[k.toNat]? = some t) (hu:jW t=u):qM ts (l.take (j+1))=(qM ts (l.take j)).set k.toNat u:=by
 obtain⟨hj,rfl⟩:=gsi_.1 hl;rw[take_succ_eq_append_getElem hj];unfold qM at h ⊢;rw[foldl_append,foldl_cons,foldl_nil,behSt_at h,hu]
theorem cL0 {t:Task}(h:t.need-1=0):jW t=⟨2,t.need-1,t.try_,t.until_⟩:=by unfold jW;rw[if_pos h]
theorem cK9 {t:Task}(h:¬t.need-1=0):jW t=⟨t.state,t.need-1,t.try_,t.until_⟩:=by unfold jW;rw[if_neg h]
theorem behSt_len (ts:List Task) (k:Int):(pZ ts k).length=ts.length:=by unfold pZ;split<;>simp
theorem aY0 (ts:List Task):∀l:List Int,(qM ts l).length=ts.length
 | []=>rfl
 | k::l=>by
  show (qM (pZ ts k) l).length=_;rw[aY0 _ l,behSt_len]
theorem behSt_all {P:Task->Prop}{ts:List Task}(h:∀t∈ts,P t) (hs:∀t,P t->P (jW t)) (k:Int):∀t∈pZ ts k,P t:=by
 intro t ht;unfold pZ at ht;split at ht
 ·next u hu=>
  rcases mem_or_eq_of_mem_set ht with h1 | rfl
  ·exact h t h1
  exact hs u (h u (mem_of_getElem? hu))
 exact h t ht
theorem aY1 {P:Task->Prop}(hs:∀t,P t->P (jW t)):∀(l:List Int) {ts:List Task},(∀t∈ts,P t)->∀t∈qM ts l,P t
 | [],ts,h=>h
 | k::l,ts,h=>aY1 hs l (behSt_all h hs k)
theorem behSt_need {ts:List Task}{a b:Int}(h:∀t∈ts,a<=t.need/\t.need<=b) (k:Int):∀t∈pZ ts k,a-1<=t.need/\t.need<=b:=by
 intro t ht;unfold pZ at ht;split at ht
 ·next u hu=>
  rcases mem_or_eq_of_mem_set ht with h1 | rfl
  ·have:=h t h1;omega
  have:=h u (mem_of_getElem? hu);simp only[jW];omega
 have:=h t ht;omega
theorem bI2:∀(l:List Int) {ts:List Task}{a b:Int},(∀t∈ts,a<=t.need/\t.need<=b)->∀t∈qM ts l,a-l.length<=t.need/\t.need<=b
 | [],ts,a,b,h=>fun t ht=>by have:=h t ht;simp;omega
 | k::l,ts,a,b,h=>fun t ht=>by
  have:=bI2 l (behSt_need h k) t ht;simp only[length_cons];omega
noncomputable def bI (r:Run) (i:Nat) (t:Task):List Task:=qM (r.tasks.set i ⟨4,t.need,t.try_,0⟩) (aT r.plan (i:Int))
noncomputable def wU (r:Run) (i:Nat) (t:Task):Run:=⟨r.id,r.plan,if aQ (bI r i t) 4=((bI r i t).length:Int) then 2 else r.state,bI r i t⟩
noncomputable def iW (r:Run) (i:Nat):Run:=match r.tasks[i]? with | some t=>wU r i t | none=>r
theorem aB3 {r:Run}{i:Nat}{t:Task}(h:r.tasks[i]? = some t):iW r i=wU r i t:=by unfold iW;rw[h]
theorem sU (r:Run) (i:Nat) (t:Task):(bI r i t).length=r.tasks.length:=by unfold bI;rw[aY0,length_set]
theorem nF (r:Run) (i:Nat):(iW r i).id=r.id/\(iW r i).plan=r.plan/\(iW r i).tasks.length=r.tasks.length/\((iW r i).state=r.state∨(iW r i).state=2):=by
 unfold iW;split
 ·next t h=>
  refine⟨rfl,rfl,sU r i t,?_⟩;show (if _ then (2:Int) else r.state)=_∨(if _ then (2:Int) else r.state)=_;split
  ·exact .inr rfl
  exact .inl rfl
 exact⟨rfl,rfl,rfl,.inl rfl⟩
theorem doneR_ok {r:Run}(h:r.ok) (i:Nat):(iW r i).ok:=by
 obtain⟨h1,h2,h3,h4⟩:=nF r i;unfold Run.ok at h ⊢;rw[h1,h2];refine⟨h.1,h.2.1,?_⟩;rcases h4 with h4 | h4
 ·rw[h4];exact h.2.2
 rw[h4];unfold I64;omega
theorem aL1 {r:Run}(h:RunIs r) {i:Nat}{t:Task}(ht:r.tasks[i]? = some t) (h3:t.state=3):bK (bI r i t)=(if aQ (bI r i t) 4=((bI r i t).length:Int) then 2 else r.state):=by
 have hm:=mem_of_getElem? ht;have hl:=h.live hm h3;have h56:∀u∈bI r i t,¬u.state=5/\¬u.state=6:=by
  unfold bI;refine aY1 (P:=fun u=>¬u.state=5/\¬u.state=6) (fun u hu=>?_) _ (fun u hu=>?_)
  ·unfold jW;simp only;split
   ·omega
   exact hu
  rcases mem_or_eq_of_mem_set hu with h1 | rfl
  ·exact h.none5 hm h3 u h1
  exact⟨by show ¬(4:Int)=5;omega,by show ¬(4:Int)=6;omega⟩
 have c5:=rQ (s:=5) (fun u hu=>(h56 u hu).1);have c6:=rQ (s:=6) (fun u hu=>(h56 u hu).2);unfold bK;by_cases c4:aQ (bI r i t) 4=((bI r i t).length:Int)
 ·rw[if_pos c4,if_pos c4]
 rw[if_neg c4,if_neg c4,if_neg aA,if_neg aA,if_pos ⟨c5,c6⟩,hl.1]
theorem doneTs_st {r:Run}(h:RunIs r) {i:Nat}{t:Task}(ht:r.tasks[i]? = some t):∀u∈bI r i t,1<=u.state/\u.state<=6:=by
 unfold bI;refine aY1 (P:=fun u=>1<=u.state/\u.state<=6) (fun u hu=>?_) _ (fun u hu=>?_)
 ·unfold jW;simp only;split
  ·omega
  exact hu
 rcases mem_or_eq_of_mem_set hu with h1 | rfl
 ·obtain⟨k,hk,rfl⟩:=getElem_of_mem h1;exact(h.task k hk hk).1
 exact⟨by show (1:Int)<=4;omega,by show (4:Int)<=6;omega⟩
theorem RunIs.need {r:Run}(h:RunIs r):∀t∈r.tasks,0<=t.need/\t.need<=30:=by
 intro t ht;obtain⟨k,hk,rfl⟩:=getElem_of_mem ht;have h2:=(h.task k hk hk).2.1;have h3:=aT9 r (aL r.plan (k:Int));have h4:=mI r.plan (k:Int);rw[h2];unfold dP;omega
theorem done_need {r:Run}(h:RunIs r) {i:Nat}{t:Task}(ht:r.tasks[i]? = some t) (l:List Int) (hl:l.length<=30):∀u∈qM (r.tasks.set i ⟨4,t.need,t.try_,0⟩) l,-30<=u.need/\u.need<=30:=by
 intro u hu;have:=bI2 l (a:=0) (b:=30) (fun u hu=>by
  rcases mem_or_eq_of_mem_set hu with h1 | rfl
  ·exact h.need u h1
  exact h.need t (mem_of_getElem? ht)) u hu
 omega
theorem cG3 {i:Int}(h:0<=i):((i.toNat:Nat):Int)=i:=Int.toNat_of_nonneg h
theorem bB4 {t:Task}{a:Int}(g:t.ok) (ha:0<=a/\a<=100):Task.ok ⟨a,t.need,t.try_,0⟩:=⟨by show I64 a;unfold I64;omega,g.2.1,g.2.2.1,by show I64 0;unfold I64;omega⟩
theorem aU6 {r:Run}(h:RunIs r):r.plan.edges.length<=1048576/\r.tasks.length<=1048576:=by have:=h.small;omega
theorem rd_ts {r:Run}{task:Int}{t:Task}{k:Nat}(h0:0<=task) (hk:k=(aT r.plan task).length):qM (r.tasks.set task.toNat ⟨4,t.need,t.try_,0⟩) ((aT r.plan task).take k)=bI r task.toNat t:=by
 unfold bI;rw[cG3 h0,hk,take_length]
theorem rd_in {r:Run}{task:Int}{t:Task}(hR:RunIs r) (ht:r.tasks[task.toNat]? = some t) (k:Nat) (hk:k<(aT r.plan task).length):∃q:Int×Task,(aT r.plan task)[k]? = some q.1/\(qM (r.tasks.set task.toNat ⟨4,t.need,t.try_,0⟩) ((aT r.plan task).take k))[q.1.toNat]? = some q.2/\0<=q.1/\(-30<=q.2.need/\q.2.need<=30):=by
 have hb:=aX9 r.plan task _ (getElem_mem hk);have hl:=aY0 (r.tasks.set task.toNat ⟨4,t.need,t.try_,0⟩) ((aT r.plan task).take k);rw[length_set]at hl;have hil:=hR.len;have hx:(aT r.plan task)[k].toNat<(qM (r.tasks.set task.toNat ⟨4,t.need,t.try_,0⟩) ((aT r.plan task).take k)).length:=by omega
 exact⟨((aT r.plan task)[k],_),getElem?_eq_getElem hk,getElem?_eq_getElem hx,hb.1,done_need hR ht _ (by rw[length_take];have:=yD r.plan task;omega) _ (getElem_mem hx)⟩
theorem aM4 {u:Task}(g:u.ok) (h : -30<=u.need/\u.need<=30) (s:Int) (hs:I64 s):Task.ok ⟨s,u.need-1,u.try_,u.until_⟩:=⟨hs,by show I64 (u.need-1);unfold I64;omega,g.2.2.1,g.2.2.2⟩
abbrev runB (r:Run) (ts:List Task) (b e t:Nat):List (Nat×To):=[oB b [.v (I r.id),.v (I r.plan.prio),.v (I r.plan.most),.v (I r.plan.wait),.v (I r.plan.tasks),.r e,.v (I r.state),.r t],oO t ts]
theorem leaveTo_end {ts:List Task}{b:Int}{k:Nat}(hk:k<=ts.length) (h:¬(k:Int)<ts.length):kC ts b k=fB ts b:=by rw[show k=ts.length by omega,leaveTo_all]
theorem leaveOne_ok {u:Task}(g:u.ok):(eS u).ok:=⟨by show I64 6;unfold I64;omega,g.2.1,g.2.2.1,by show I64 0;unfold I64;omega⟩
theorem cP9 (r:Run) (b:Int) (hl:r.tasks.length<=1048576):Cm prog 291 [.I b] inferInstance r (fun _:Unit=>True) (fun _=>leaveR r b) (fun _=>[]):=
 vcm func291 (fun hg hn=>.wt 11<|.g 2 (leaveTo_zero r.tasks b).symm<|.l (Γ:=Nat) (fun k=>k<=r.tasks.length) (fun k=>r.tasks.length-k) [0,1,10] [1,1000000] [] (fun k=>[vI 11 k]) (fun k=>runB r (kC r.tasks b k) 0 1 2) 0 fun k hk t=>
  .s ((k:Int)<r.tasks.length)
   (fun h=>.ex (p:=fun u=>r.tasks[k]? = some u) ⟨_,getElem?_eq_getElem (show k<r.tasks.length by omega)⟩ fun u hu=>.d 2 (leaveTo_at (but:=b) hu) fun gu=>
    let fin:∀v:Task,fZ b k u=v->Task.ok v->D prog (fun _:Unit=>True/\rgd []):=fun v hv gv=>.p k 1<|.wt 36<|.f 2 (kC r.tasks b k) v (h:=gv)<|.g 2 (leaveTo_set hu hv)<|.n t (k+1) []
    .i k<|.u ((k:Int)=b)
     (fun h1=>.u (u.state=4) (fun h2=>fin (eS u) (leaveIf_t h1 h2) (leaveOne_ok gu)) (fun h2=>fin u (leaveIf_d h2) gu))
     (fun h1=>fin u (leaveIf_b h1) gu))
   (fun h=>.g 2 (leaveTo_end (b:=b) hk h)<|.rt () ⟨trivial,trivial⟩)) aB
theorem fl_a {r:Run}{i:Int}{t:Task}(ht:r.tasks[i.toNat]? = some t) (h:t.try_<r.plan.most):(⟨r.id,r.plan,r.state,r.tasks.set i.toNat ⟨2,t.need,t.try_,0⟩⟩:Run)=bP r i.toNat:=by rw[rN ht];unfold oY;rw[if_pos h]
theorem fl_b {r:Run}{i:Int}{t:Task}(h0:0<=i) (ht:r.tasks[i.toNat]? = some t) (h:¬t.try_<r.plan.most):(⟨r.id,r.plan,3,fB (r.tasks.set i.toNat ⟨5,t.need,t.try_,0⟩) i⟩:Run)=bP r i.toNat:=by rw[rN ht];unfold oY;rw[if_neg h,cG3 h0]
theorem bQ6 (r:Run) (i:Int) (t:Task) (h0:0<=i) (ht:r.tasks[i.toNat]? = some t) (hl:r.tasks.length<=1048576):Cm prog 247 [.I i] inferInstance r (fun _:Unit=>True) (fun _=>bP r i.toNat) (fun _=>[]):=
 Cm.one (bP r i.toNat) (y:=fun a=>a) (rk:=fun _=>[])<|vcm func247 (fun hg hn=>.d 2 ht fun gt=>.ie i.toNat i (he:=by omega)<|.s (t.try_<r.plan.most)
  (fun h=>.wt 999<|.f 2 r.tasks ⟨2,t.need,t.try_,0⟩ (h:=bB4 gt aA)<|.rt ⟨r.id,r.plan,r.state,r.tasks.set i.toNat ⟨2,t.need,t.try_,0⟩⟩ ⟨fl_a ht h,trivial⟩)
  (fun h=>.wt 30<|.f 2 r.tasks ⟨5,t.need,t.try_,0⟩ (h:=bB4 gt aA)<|.cm _ func291 (cP9 ⟨r.id,r.plan,r.state,r.tasks.set i.toNat ⟨5,t.need,t.try_,0⟩⟩ i (by show (r.tasks.set _ _).length<=_;rw[length_set];exact hl)) trivial fun _ _ _ _=>
   .rt ⟨r.id,r.plan,3,fB (r.tasks.set i.toNat ⟨5,t.need,t.try_,0⟩) i⟩ ⟨fl_b h0 ht h,trivial⟩)) aB
theorem dn_a {r:Run}{i:Int}{t:Task}(ht:r.tasks[i.toNat]? = some t) (h:((aK (bI r i.toNat t) 4).length:Int)=((bI r i.toNat t).length:Int)):(⟨r.id,r.plan,2,bI r i.toNat t⟩:Run)=iW r i.toNat:=by
 rw[aB3 ht];unfold wU;rw[if_pos (by rw[<- kN];exact h)]
theorem dn_b {r:Run}{i:Int}{t:Task}(ht:r.tasks[i.toNat]? = some t) (h:¬((aK (bI r i.toNat t) 4).length:Int)=((bI r i.toNat t).length:Int)):(⟨r.id,r.plan,r.state,bI r i.toNat t⟩:Run)=iW r i.toNat:=by
 rw[aB3 ht];unfold wU;rw[if_neg (by rw[<- kN];exact h)]
theorem Done_p (r:Run) (i:Int) (t:Task) (h0:0<=i) (ht:r.tasks[i.toNat]? = some t) (hR:RunIs r):Cm prog 245 [.I i] inferInstance r (fun _:Unit=>True) (fun _=>iW r i.toNat) (fun _=>[]):=
 Cm.one (iW r i.toNat) (y:=fun a=>a) (rk:=fun _=>[])<|vcm func245 (fun hg hn=>let gr:=hR.small.1
  let hl:=(aU6 hR).2
  .d 2 ht fun gt=>.ie i.toNat i (he:=by omega)<|.ie i.toNat i (he:=by omega)<|.wt 21<|.f 2 r.tasks ⟨4,t.need,t.try_,0⟩ (h:=bB4 gt aA) <|
  .c func290 (BehindOf_i r.plan i) (hg:=⟨gr.2.1,trivial⟩) fun _=>.g 2 (bI1 (r.tasks.set i.toNat ⟨4,t.need,t.try_,0⟩) (aT r.plan i)).symm <|
  .l (Γ:=Nat) (fun k=>k<=(aT r.plan i).length) (fun k=>(aT r.plan i).length-k) [0,26,27] [1,4,1000000] [] (fun k=>[vI 28 k]) (fun k=>runB r (qM (r.tasks.set i.toNat ⟨4,t.need,t.try_,0⟩) ((aT r.plan i).take k)) 0 1 2) 0 fun k hk tk=>
   .s ((k:Int)<(aT r.plan i).length)
    (fun hlt=>.ex (rd_in hR ht k aA) fun q hq=>
     .y hq.1 fun _=>.d 2 hq.2.1 fun gu=>
     let fin:∀v:Task,jW q.2=v->Task.ok v->D prog (fun x:Run=>x=iW r i.toNat/\rgd []):=fun v hv gv=>.p k 1 (h:=by have:=yD r.plan i;unfold I64;omega)<|.wt 53<|.f 2 (qM (r.tasks.set i.toNat ⟨4,t.need,t.try_,0⟩) ((aT r.plan i).take k)) v (h:=gv)<|.g 2 (cO7 hq.1 hq.2.1 hv).symm<|.n tk (k+1) []
     .ie q.1.toNat q.1 (he:=by omega)<|.m q.2.need 1<|.s (q.2.need-1=0)
      (fun h2=>fin ⟨2,q.2.need-1,q.2.try_,q.2.until_⟩ (cL0 h2) (aM4 gu hq.2.2.2 2 (by unfold I64;omega)))
      (fun h2=>fin ⟨q.2.state,q.2.need-1,q.2.try_,q.2.until_⟩ (cK9 h2) (aM4 gu hq.2.2.2 _ gu.1)))
    (fun hge=>.g 2 (rd_ts (t:=t) h0 (show k=(aT r.plan i).length by omega))<|.c func227 (mJ ⟨r.id,r.plan,r.state,bI r i.toNat t⟩ 4 (by show (bI r i.toNat t).length<=_;rw[sU];exact hl)) (hg:=⟨gr,trivial⟩) fun _=>
     .s (((aK (bI r i.toNat t) 4).length:Int)=((bI r i.toNat t).length:Int))
      (fun h2=>.rt ⟨r.id,r.plan,2,bI r i.toNat t⟩ ⟨dn_a ht h2,trivial⟩)
      (fun h2=>.rt ⟨r.id,r.plan,r.state,bI r i.toNat t⟩ ⟨dn_b ht h2,trivial⟩))) aB
theorem aJ2 {r:Run}(h:RunIs r) {i:Nat}{t:Task}(ht:r.tasks[i]? = some t) (h3:t.state=3):cQ r (i:Int)=bP r i:=by
 have hl:=(gsi_.1 ht).1;have hb:iZ r (i:Int)=true:=by
  unfold iZ;rw[runIs.2 h,inB_iff'.2 (show 0<=(i:Int)/\(i:Int)<=(r.tasks.length:Int)-1 by omega),Int.toNat_natCast,ht];simp[h3]
 unfold cQ;rw[if_pos hb,Int.toNat_natCast,failsS_eq h ht h3]
theorem bT4 {y:Yard}{k i:Nat}{r:Run}(hr:y.runs[k]? = some r) (hi:i=r.tasks.length):qX (mZ y k) k i=mZ y (k+1):=by
 show _=qX (mZ y k) k (sB y k);rw[aC8 hr,hi]
theorem RI.ok {y out:Yard}{n:Nat}(hy:YardIs y) (h:RI y out n) (hn:n<=1000):out.ok:=by
 have h1:=h.now;have h2:=h.seq;have h3:=hy.now;have h4:=hy.seq;exact⟨by unfold I64;omega,by unfold I64;omega⟩
theorem cB9 {α:Type}(f:α->Nat) (m:Nat):∀xs:List α,(∀x∈xs,f x<=m)->(xs.map f).sum<=xs.length*m
 | [],_=>by simp
 | x::xs,h=>by
  have h1:=h x (by simp);have h2:=cB9 f m xs (fun z hz=>h z (by simp[hz]));simp only[map_cons,sum_cons,length_cons,Nat.succ_mul];omega
theorem RunIs.wt {r:Run}(h:RunIs r):r.wt<=42:=by
 have:=h.small;unfold Run.wt Plan.wt;omega
theorem RI.wt {y out:Yard}{n:Nat}(hy:YardIs y) (h:RI y out n) (hn:n<=1000):out.wt<=100000:=by
 have h1:=h.shelf;have h2:=hy.shelf;have h3:=h.runs;have h4:=hy.runs;have hs:=cB9 (fun z:List Entry=>z.length) 20000 out.shelf (fun z hz=>by
  obtain⟨s,hs,rfl⟩:=getElem_of_mem hz;have:=h.each s aA;rw[getD_eq_getElem?_getD,getElem?_eq_getElem hs]at this;simp only[Option.getD_some]at this;omega)
 have hr:=cB9 (fun z:Run=>z.wt) 42 out.runs (fun z hz=>by
  obtain⟨s,hs,rfl⟩:=getElem_of_mem hz;obtain⟨r2,e,hR,_⟩:=h.run s _ (getElem?_eq_getElem (show s<y.runs.length by omega));rw[getElem?_eq_getElem hs]at e;rw[Option.some.inj e];exact hR.wt)
 rw[h1,h2]at hs;have hr2:out.runs.length*42<=8*42:=Nat.mul_le_mul_right _ aA;unfold Yard.wt wtL;omega
theorem RI.chg {y out:Yard}{n:Nat}(hy:YardIs y) (h:RI y out n) (hn:n<=1000) (id:Int):4<=out.shelf.length/\(out.shelf.getD (aX id).toNat []).length<=1000000/\(0<=out.seq/\out.seq<=4000000000):=by
 have h1:=h.shelf;have h2:=hy.shelf;have h3:=gE id;have h4:=h.each (aX id).toNat aA;have h5:=h.seq;have h6:=hy.seq;refine⟨by omega,by omega,by omega⟩

noncomputable def cT6 (y:Yard) (id:Int) (p:Plan):Yard:=⟨y.now,y.seq+((aK (aZ id p).tasks 2).length:Int),fN (aX id).toNat p.prio id (aK (aZ id p).tasks 2) y.shelf y.seq,y.runs++[aZ id p]⟩
noncomputable def aY (y:Yard) (id:Int) (p:Plan):Yard×Int:=
 if aG y=false then (y,8) else if inB id 1 9999=false then (y,5) else if 0<=aI y id then (y,6) else if aC p≠0 then (y,aC p) else if jA y p=false then (y,7) else (cT6 y id p,0)


theorem fresh_zero (r:Run):dU zRun r=aK r.tasks 2:=by
 unfold dU;rw[filter_eq_self];intro a _;simp[zRun,aK,eF]

theorem toNat_cast {i:Int}(h:0<=i):((i.toNat:Nat):Int)=i:=by omega
noncomputable def iV (r:Run) (task:Int):Run:=if iZ r task then iW r task.toNat else r
theorem aR8 {r:Run}(h:RunIs r) {task:Int}{t:Task}(h0:0<=task) (ht:r.tasks[task.toNat]? = some t) (h3:t.state=3):iV r task=iW r task.toNat:=by
 have hl:=(gsi_.1 ht).1;have hb:iZ r task=true:=by
  unfold iZ;rw[runIs.2 h,inB_iff'.2 (show 0<=task/\task<=(r.tasks.length:Int)-1 by omega),ht];simp[h3]
 unfold iV;rw[if_pos hb]

noncomputable def eL (y:Yard) (id task try_:Int):Int:=if aG y=false then 8 else if aI y id<0 then 10 else if fX y id task try_=false then 11 else 0
noncomputable def wF (g:Run->Nat->Run) (y:Yard) (id task try_:Int):Yard:=if eL y id task try_=0 then (match cJ y id with | some k=>(match y.runs[k]? with | some r=>dV y k r (g r task.toNat) | none=>y) | none=>y) else y
noncomputable def fH (y:Yard) (id task try_:Int):Yard:=wF iW y id task try_
theorem askF_rng (y:Yard) (id task try_:Int):0<=eL y id task try_/\eL y id task try_<=11:=by
 unfold eL;split
 ·omega
 split
 ·omega
 split<;>omega
theorem aG8 {y:Yard}{id task try_:Int}(h:eL y id task try_=0):YardIs y/\∃k r t,cJ y id=some k/\y.runs[k]? = some r/\RunIs r/\0<=task/\r.tasks[task.toNat]? = some t/\t.state=3:=by
 unfold eL at h;split at h
 ·omega
 next h1=>
 have hY:=kE (by simpa using h1);split at h
 ·omega
 split at h
 ·omega
 next h3=>
 refine⟨hY,?_⟩;have h4:fX y id task try_=true:=by simpa using h3
 unfold fX at h4;cases hk:cJ y id with
 | none=>rw[hk]at h4;cases h4
 | some k=>
  rw[hk]at h4;simp only at h4;cases hr:y.runs[k]? with
  | none=>rw[hr]at h4;cases h4
  | some r=>
   rw[hr]at h4;simp only[Bool.and_eq_true]at h4;obtain⟨h5,h6⟩:=h4;cases ht:r.tasks[task.toNat]? with
   | none=>rw[ht]at h6;cases h6
   | some t=>rw[ht]at h6;simp only[Bool.and_eq_true,decide_eq_true_eq]at h6;exact⟨k,r,t,rfl,hr,(hY.run k r hr).1,(inB_iff'.1 h5).1,ht,h6.1⟩
theorem qS {g:Run->Nat->Run}{y:Yard}{id task try_:Int}{k:Nat}{r:Run}(h:eL y id task try_=0) (hk:cJ y id=some k) (hr:y.runs[k]? = some r):wF g y id task try_=dV y k r (g r task.toNat):=by unfold wF;rw[if_pos h,hk];simp only[hr]
theorem qQ {g:Run->Nat->Run}{y:Yard}{id task try_:Int}(h:¬eL y id task try_=0):wF g y id task try_=y:=by unfold wF;rw[if_neg h]
theorem yA {y:Yard}(hY:YardIs y) {k:Nat}{r r':Run}(hl:r'.tasks.length<=1000):(dV y k r r').ok:=by
 have h1:=hY.now;have h2:=hY.seq;have h3:=nE r r';unfold dV;exact⟨by simp only[I64];omega,by simp only[I64];omega⟩

noncomputable def oZ (y:Yard) (id task try_:Int):Yard:=wF bP y id task try_
theorem aJ1 {r:Run}(h:RunIs r) {task:Int}{t:Task}(h0:0<=task) (ht:r.tasks[task.toNat]? = some t) (h3:t.state=3):cQ r task=bP r task.toNat:=by
 have:=aJ2 h ht h3
 rwa [toNat_cast h0]at this
theorem failsR_ok {r:Run}(h:r.ok) (i:Nat):(bP r i).ok:=by
 unfold bP;cases r.tasks[i]? with
 | none=>exact h
 | some t=>
  show (oY r i t).ok;unfold oY;split
  ·exact h
  exact⟨h.1,h.2.1,by show I64 3;unfold I64;omega⟩
def mN (home:Int) (k:Nat):List Int:=[(home+1) % 4,(home+2) % 4,(home+3) % 4].take (k-1)
theorem oth_to {home:Int}{k:Nat}(h:1<=k) (h2:k<4):mN home (k+1)=mN home k++[(home+(k:Int)) % 4]:=by
 rcases k with _ | _ | _ | _ | k
 ·omega
 ·rfl
 ·rfl
 ·rfl
 omega
theorem oth_4 (home:Int):mN home 4=[(home+1) % 4,(home+2) % 4,(home+3) % 4]:=rfl
theorem oth_vict {home draw d:Int}(hd:d=max draw 0 % 3):([]++(mN home 4).drop d.toNat)++(mN home 4).take d.toNat=bU home draw:=by
 rw[oth_4];have h3:d=0∨d=1∨d=2:=by omega
 unfold bU qD;rw[<- hd];rcases h3 with rfl | rfl | rfl
 ·simp only[Int.toNat_zero,drop_zero,take_zero,append_nil,nil_append,List.cons.injEq,and_true];omega
 ·show [(home+2) % 4,(home+3) % 4,(home+1) % 4]=_;simp only[List.cons.injEq,and_true];omega
 show [(home+3) % 4,(home+1) % 4,(home+2) % 4]=_;simp only[List.cons.injEq,and_true];omega

theorem bX4 {α:Type}{p:α->Bool}:∀{xs:List α}{k:Nat},kV p xs=some k->(xs.take k).any p=false
 | [],k,h=>by simp[kV]at h
 | x::xs,k,h=>by
  unfold kV at h;cases hp:p x with
  | true=>simp[hp]at h;subst h;rfl
  | false=>
   simp only[hp,Bool.false_eq_true,if_false]at h;cases hq:kV p xs with
   | none=>simp[hq]at h
   | some m=>
    simp[hq]at h;subst h;simp[hp];have:=bX4 hq;simpa using this
section
variable {p:Entry->Bool}{xs cur:List Entry}{i j k:Nat}{e:Entry}
end

theorem yV {α:Type}(f:α->Nat) (m:Nat):∀xs:List α,(∀x∈xs,f x<=m)->(xs.map f).sum<=xs.length*m
 | [],_=>by simp
 | x::xs,h=>by
  have h1:=h x (by simp);have h2:=yV f m xs (fun z hz=>h z (by simp[hz]));simp only[map_cons,sum_cons,length_cons,Nat.succ_mul];omega
theorem bK0 {y:Yard}{s:List (List Entry)}{rr:List Run}{a b:Int}(h4:s.length=4) (he:∀j,j<4->(s.getD j []).length<=80) (h8:rr.length<=8) (hr:∀r∈rr,r.wt<=42):(⟨a,b,s,rr⟩:Yard).wt<=100000:=by
 have hs:=yV (fun z:List Entry=>z.length) 80 s (fun z hz=>by
  obtain⟨j,hj,rfl⟩:=getElem_of_mem hz;have:=he j aA;rw[getD_eq_getElem?_getD,getElem?_eq_getElem hj]at this;simpa using this)
 have hq:=yV (fun z:Run=>z.wt) 42 rr hr;rw[h4]at hs;have:rr.length*42<=8*42:=Nat.mul_le_mul_right _ h8;unfold Yard.wt wtL;simp only;omega
theorem zI {y:Yard}(h:YardIs y):∀r∈y.runs,r.wt<=42:=by
 intro r hr;obtain⟨j,hj,rfl⟩:=getElem_of_mem hr;exact((h.run j _ (getElem?_eq_getElem hj)).1).wt
theorem PI.wt {y out:Yard}{home:Nat}(hy:YardIs y) (h:PI y out home):out.wt<=100000:=
 bK0 (y:=y) h.len h.each (by rw[h.runs];exact hy.runs) (by rw[h.runs];exact zI hy)
theorem PI.wtS {y out:Yard}{home:Nat}(hy:YardIs y) (h:PI y out home) {l:List Entry}(hl:l.length<=80):(nH out home l).wt<=100000:=
 bK0 (y:=y) (by show (out.shelf.set _ _).length=4;rw[length_set];exact h.len) (pE h.each hl h.len) (by rw[h.runs];exact hy.runs) (by rw[h.runs];exact zI hy)
theorem PI.ok {y out:Yard}{home:Nat}(hy:YardIs y) (h:PI y out home):out.ok:=by
 have h1:=hy.now;have h2:=hy.seq;unfold Yard.ok I64;rw[h.now,h.seq];omega
theorem PI.sw {y out:Yard}{home:Nat}(h:PI y out home) {o:Int}(ho:0<=o/\o<=3):(aW out o).shelf.length=4/\∀s,s<4->((aW out o).shelf.getD s []).length<=80:=by
 rw[uN ho h.len];exact⟨by show (out.shelf.set _ _).length=4;rw[length_set];exact h.len,pE h.each (Nat.le_trans (length_filter_le _ _) (h.each _ aA)) h.len⟩
theorem RunIs.tries {r:Run}(h:RunIs r) {i:Nat}{t:Task}(ht:r.tasks[i]? = some t):(0<=t.try_/\t.try_<=5)/\1<=r.plan.wait/\r.plan.wait<=20:=by
 obtain⟨hi,rfl⟩:=gsi_.1 ht;have h1:=(h.task i hi hi).2.2.1;have h2:=(jV h.plan).1;unfold aR at h2;omega
theorem runIx_runs {y y':Yard}(h:y'.runs=y.runs) (id:Int):cJ y' id=cJ y id:=by unfold cJ;rw[h]
theorem cK4 {xs:List Entry}(h:¬(xs.length:Int)=0):¬xs=[]:=fun e=>h (by rw[e];rfl)
theorem nil0 {xs:List Entry}(h:(xs.length:Int)=0):xs=[]:=eq_nil_of_length_eq_zero aA
def rH (n:Int) (t:Task):Bool:=decide (t.state=3) && decide (t.until_<=n+1)
def zZ (n:Int) (r:Run) (m:Nat):List Nat:=(List.range m).filter (fun i=>match r.tasks[i]? with | some t=>rH n t | none=>false)
def jO (y:Yard):Nat->List (Nat×Nat)
 | 0=>[]
 | k+1=>jO y k++(match y.runs[k]? with | some r=>(zZ y.now r r.tasks.length).map (fun i=>(k,i)) | none=>[])
def gP (y:Yard) (p:Nat×Nat):List Int:=match y.runs[p.1]? with | some r=>(match r.tasks[p.2]? with | some t=>[r.id,p.2,t.try_] | none=>[]) | none=>[]
def jT (y:Yard) (k:Nat) (r:Run) (i:Nat):List (List Int):=(jO y k++(zZ y.now r i).map (fun j=>(k,j))).map (gP y)
def cT (y:Yard):List (Nat×Nat):=jO y y.runs.length
theorem aK5 (y:Yard) (k:Nat) (r:Run):jT y k r 0=(jO y k).map (gP y):=by simp[jT,zZ]
theorem bX2 {y:Yard}{k:Nat}{r:Run}{i:Nat}{t:Task}(hr:y.runs[k]? = some r) (ht:r.tasks[i]? = some t) (h:rH y.now t=true):jT y k r (i+1)=jT y k r i++[[r.id,(i:Int),t.try_]]:=by
 unfold jT zZ;rw[range_succ,filter_append];simp[ht,h,gP,hr]
theorem bX3 {y:Yard}{k:Nat}{r:Run}{i:Nat}{t:Task}(ht:r.tasks[i]? = some t) (h:rH y.now t=false):jT y k r (i+1)=jT y k r i:=by
 unfold jT zZ;rw[range_succ,filter_append];simp[ht,h]
theorem aV2 {y:Yard}{k:Nat}{r:Run}(hr:y.runs[k]? = some r) {i:Nat}(hi:i=r.tasks.length):jT y k r i=(jO y (k+1)).map (gP y):=by
 subst hi;unfold jT;simp[jO,hr]
theorem aE7 (n:Int) (r:Run) (m:Nat):(zZ n r m).length<=m:=by
 unfold zZ;exact Nat.le_trans (length_filter_le _ _) (by simp)
theorem vD {y:Yard}(hy:YardIs y):∀k,(jO y k).length<=12*k
 | 0=>by simp[jO]
 | k+1=>by
  have ih:=vD hy k;simp only[jO,length_append];cases hr:y.runs[k]? with
  | none=>simp;omega
  | some r=>
   have h1:=aE7 y.now r r.tasks.length;have h2:=(hy.run k r hr).1.small;simp only[length_map];omega
theorem aV1 {y:Yard}(hy:YardIs y) (k:Nat) (r:Run) (i:Nat):(jT y k r i).length<=12*k+i:=by
 have h1:=vD hy k;have h2:=aE7 y.now r i;unfold jT;simp only[length_map,length_append];omega
theorem aE8 {y:Yard}{p:Nat×Nat}:∀{k},p∈jO y k->∃r t,y.runs[p.1]? = some r/\r.tasks[p.2]? = some t/\gP y p=[r.id,(p.2:Int),t.try_]
 | 0,h=>by simp[jO]at h
 | k+1,h=>by
  simp only[jO,mem_append]at h;rcases h with h | h
  ·exact aE8 h
  ·cases hr:y.runs[k]? with
   | none=>rw[hr]at h;simp at h
   | some r=>
    rw[hr]at h;simp only[mem_map]at h;obtain⟨i,hi,rfl⟩:=h;unfold zZ at hi;rw[mem_filter]at hi;cases ht:r.tasks[i]? with
    | none=>rw[ht]at hi;simp at hi
    | some t=>exact⟨r,t,hr,ht,by simp[gP,hr,ht]⟩
def nQ (n:Int) (y:Yard):Yard:=⟨n,y.seq,y.shelf,y.runs⟩
def lX (y:Yard) (l:List (Nat×Nat)):Yard:=l.foldl (fun o p=>kM o p.1 p.2) y
theorem turnF_now (n:Int) (y:Yard) (k i:Nat):kM (nQ n y) k i=nQ n (kM y k i):=by
 unfold kM;show (match y.runs[k]? with | none=>_ | some r=>_)=_;cases y.runs[k]? with
 | none=>rfl
 | some r=>
  simp only;cases r.tasks[i]? with
  | none=>rfl
  | some t=>simp only;split<;>rfl
theorem bB2 (n:Int):∀(l:List (Nat×Nat)) (y:Yard),lX (nQ n y) l=nQ n (lX y l)
 | [],y=>rfl
 | p::l,y=>by
  show lX (kM (nQ n y) p.1 p.2) l=nQ n (lX (kM y p.1 p.2) l);rw[turnF_now,bB2 n l]
theorem oM {y:Yard}{l:List (Nat×Nat)}{j:Nat}{p:Nat×Nat}(h:l[j]? = some p):lX y (l.take (j+1))=kM (lX y (l.take j)) p.1 p.2:=by
 unfold lX;rw[take_add_one,h];simp[foldl_append]
theorem xB (y:Yard) (l:List (Nat×Nat)):lX y (l.take 0)=y:=by simp[lX]
theorem YardIs.at {y:Yard}(hy:YardIs y) {n:Int}(h:0<=n/\n<=999999980):YardIs (nQ n y):=⟨h,hy.seq,hy.shelf,hy.runs,hy.each,hy.run⟩
theorem RI.list {y:Yard}(hy:YardIs y) {l:List (Nat×Nat)}(hl:∀p∈l,p.1<y.runs.length):∀j,RI y (lX y (l.take j)) j
 | 0=>by rw[xB];exact RI.start hy
 | j+1=>by
  have ih:=RI.list hy hl j;cases hp:l[j]? with
  | none=>
   have h1:=List.getElem?_eq_none_iff.1 hp;rw[take_of_length_le (show l.length<=j+1 by omega)];rw[take_of_length_le h1]at ih;exact ih.mono aA
  | some p=>rw[oM hp];exact ih.turn hy (hl p (mem_of_getElem? hp))
theorem aN5 {y:Yard}:∀p∈cT y,p.1<y.runs.length:=fun p hp=>by
 obtain⟨r,t,h1,_⟩:=aE8 hp;exact(gsi_.1 h1).1
noncomputable def bS0 (y:Yard):Yard:=lX (nQ (y.now+1) y) (cT y)
noncomputable def eE (y:Yard):Yard×Int:=if aG y=false then (y,8) else if 999999980<y.now+1 then (y,7) else (bS0 y,0)
theorem bX0 {y:Yard}{j:Nat}(hj:j<(cT y).length):∃k i r t,(cT y)[j]? = some (k,i)/\y.runs[k]? = some r/\r.tasks[i]? = some t/\((cT y).map (gP y))[j]? = some [r.id,(i:Int),t.try_]:=by
 obtain⟨⟨k,i⟩,hp⟩:∃p,(cT y)[j]? = some p:=⟨_,getElem?_eq_getElem hj⟩;obtain⟨r,t,h1,h2,h3⟩:=aE8 (mem_of_getElem? hp);exact⟨k,i,r,t,hp,h1,h2,by rw[getElem?_map,hp,Option.map_some,h3]⟩
theorem RunIs.tk {r:Run}(h:RunIs r) {i:Nat}{t:Task}(ht:r.tasks[i]? = some t):(0<=t.try_/\t.try_<=1000000)/\(0<=t.until_/\t.until_<=1000000000):=by
 obtain⟨hl,rfl⟩:=gsi_.1 ht;obtain⟨_,_,h3,h4,h5,_⟩:=h.task i hl hl;have hp:=(jV h.plan).1;unfold aR at hp;by_cases e:r.tasks[i].state=3
 ·have:=h4 e;omega
 have:=h5 e;omega
theorem aN6 {n:Int}{t:Task}(h3:t.state=3) (h:t.until_<=n+1):rH n t=true:=by unfold rH;simp[h3,h]
theorem aN7 {n:Int}{t:Task}(h:¬(t.state=3/\t.until_<=n+1)):rH n t=false:=by
 unfold rH;cases h1:decide (t.state=3) with
 | false=>rfl
 | true=>cases h2:decide (t.until_<=n+1) with
  | false=>rfl
  | true=>exact absurd ⟨of_decide_eq_true h1,of_decide_eq_true h2⟩ h

theorem cJ0 {r:Run}{i:Nat}{t:Task}(g:r.ok) (hi:i<=1000) (gt:t.ok):∀z∈[r.id,(i:Int),t.try_],Dsh.good z:=by
 intro z hz;simp only[mem_cons,not_mem_nil,or_false]at hz;rcases hz with rfl | rfl | rfl
 ·exact g.1
 ·show I64 _;unfold I64;omega
 exact gt.2.2.1
theorem bT0 {y:Yard}(hY:YardIs y) {k:Nat}{r:Run}(hr:y.runs[k]? = some r):r.tasks.length<=12/\r.ok:=⟨(hY.run k r hr).1.small.2.1,(hY.run k r hr).1.small.1⟩
theorem LateOf_i (y:Yard) (hY:YardIs y):Ct1 prog 248 [.S y] [.L ((cT y).map (gP y))]:=
 vc func248 (fun (hg:gin [Par.S y])=>let h8:=hY.runs
  .w (List Int) 38 3<|.l (Γ:=Nat) (fun k=>k<=y.runs.length) (fun k=>y.runs.length-k) [1,9,10] [2] [0,1] (fun k=>[vR 3 3,vI 11 k]) (fun k=>[oR 3 38 ((jO y k).map (gP y))]) 0 fun k hk tk=>
   .s ((k:Int)<y.runs.length)
    (fun h=>.x y.runs k (h:=by omega) fun r hr gr=>let hlk:=bT0 hY hr
     .g 3 (aK5 y k r).symm<|.l (Γ:=Nat) (fun i=>i<=r.tasks.length) (fun i=>r.tasks.length-i) [1,5,9,10,11,16,17] [2,7] [0,1,5,6] (fun i=>[vR 3 3,vI 18 i]) (fun i=>[oR 3 38 (jT y k r i)]) 0 fun i hi ti=>let hln:=aV1 hY k r i
      .s ((i:Int)<r.tasks.length)
       (fun h2=>.x r.tasks i (h:=by omega) fun t ht gt=>let htk:=(hY.run k r hr).1.tk ht
        let no:rH y.now t=false->D prog (fun _:Unit=>True/\rgd [Rk.L ((cT y).map (gP y))]):=fun hb=>.g 3 (bX3 (y:=y) (k:=k) ht hb).symm<|.p i 1<|.n ti (i+1) []
        let yes:rH y.now t=true->D prog (fun _:Unit=>True/\rgd [Rk.L ((cT y).map (gP y))]):=fun hb=>.li inferInstance 47 [r.id,(i:Int),t.try_] (by simp) (by simp) (cJ0 gr aA gt)<|.a (jT y k r i) [r.id,(i:Int),t.try_] 24 (hy:=trivial) (hby:=by omega)<|.g 3 (bX2 hr ht hb).symm<|.p i 1<|.n ti (i+1) []
        .s (t.state=3)
         (fun h3=>.s (t.until_<=y.now)
          (fun h4=>yes (aN6 h3 aA))
          (fun h4=>.m t.until_ 1<|.s (t.until_-1=y.now)
           (fun h5=>yes (aN6 h3 aA))
           (fun h5=>no (aN7 aA))))
         (fun h3=>no (aN7 aA)))
       (fun h2=>.g 3 (aV2 hr (show i=r.tasks.length by omega))<|.p k 1<|.n tk (k+1) []))
    (fun h=>.g 3 (show (jO y k).map (gP y)=(cT y).map (gP y) by rw[show k=y.runs.length by omega];rfl)<|.rt () ⟨trivial,trivial⟩)) aB
theorem LateOf_s (y:Yard) (hY:YardIs y):Ct1 prog 213 [.S y] [.L ((cT y).map (gP y))]:=
 vc func213 (fun (hg:gin [Par.S y])=>let h8:=hY.runs
  .e (List Int)<|.l (Γ:=Nat) (fun k=>k<=y.runs.length) (fun k=>y.runs.length-k) [777777,7] [777777] [777777] (fun k=>[vR 3 3,vI 4 k]) (fun k=>[oR 3 38 ((jO y k).map (gP y))]) 0 fun k hk tk=>
   .s ((k:Int)<y.runs.length)
    (fun h=>.ex (p:=fun r=>y.runs[k]? = some r) ⟨y.runs[k]'(by omega),getElem?_eq_getElem _⟩ fun r hr=>let hlk:=bT0 hY hr
     let gr:=hlk.2
     .g 3 (aK5 y k r).symm<|.l (Γ:=Nat) (fun i=>i<=r.tasks.length) (fun i=>r.tasks.length-i) [777777] [777777] [777777] (fun i=>[vR 3 3,vI 5 i]) (fun i=>[oR 3 38 (jT y k r i)]) 0 fun i hi ti=>let hln:=aV1 hY k r i
      .y hr fun _=>.s ((i:Int)<r.tasks.length)
       (fun h2=>.y hr fun _=>.x r.tasks i (h:=by omega) fun t ht gt=>let htk:=(hY.run k r hr).1.tk ht
        let no:rH y.now t=false->D prog (fun _:Unit=>True/\rgd [Rk.L ((cT y).map (gP y))]):=fun hb=>.g 3 (bX3 (y:=y) (k:=k) ht hb).symm<|.p i 1<|.n ti (i+1) []
        let yes:rH y.now t=true->D prog (fun _:Unit=>True/\rgd [Rk.L ((cT y).map (gP y))]):=fun hb=>.y hr fun _=>.lo inferInstance [r.id,(i:Int),t.try_] (by simp) (by simp) (cJ0 gr aA gt)<|.a (jT y k r i) [r.id,(i:Int),t.try_] 24 (hy:=trivial) (hby:=by omega)<|.g 3 (bX2 hr ht hb).symm<|.p i 1<|.n ti (i+1) []
        .s (t.state=3)
         (fun h3=>.s (t.until_<=y.now)
          (fun h4=>yes (aN6 h3 aA))
          (fun h4=>.m t.until_ 1<|.s (t.until_-1<=y.now)
           (fun h5=>yes (aN6 h3 aA))
           (fun h5=>no (aN7 aA))))
         (fun h3=>no (aN7 aA)))
       (fun h2=>.g 3 (aV2 hr (show i=r.tasks.length by omega))<|.p k 1<|.n tk (k+1) []))
    (fun h=>.g 3 (show (jO y k).map (gP y)=(cT y).map (gP y) by rw[show k=y.runs.length by omega];rfl)<|.rt () ⟨trivial,trivial⟩)) aB
theorem zD {α:Type}{xs:List α}{k:Nat}{x:α}(h:xs[k]? = some x):xs.set k x=xs:=by
 obtain⟨hl,rfl⟩:=gsi_.1 h;exact set_getElem_self hl
noncomputable def tT (r:Run):Bool:=eZ r && decide (r.state=1)
noncomputable def iQ (r:Run):Run:=if tT r=true then ⟨r.id,r.plan,4,fB r.tasks (-1)⟩ else r
theorem aN9 {r:Run}(h:tT r=true):iQ r=⟨r.id,r.plan,4,fB r.tasks (-1)⟩:=by unfold iQ;rw[if_pos h]
theorem RunIs.no5 {r:Run}(h:RunIs r) (h1:r.state=1):∀u∈r.tasks,¬u.state=5:=by
 intro u hu h5;have c5:=aB9 hu h5;have hs:=h.state;rw[h1]at hs;unfold bK at hs;have p6:=eM r.tasks 6
 repeat' split at hs
 all_goals omega
theorem leave_all {ts:List Task}(h:∀u∈ts,¬u.state=5):dZ ts=fB ts (-1):=by
 apply ext_getElem?;intro k;unfold fB dZ;rw[getElem?_mapIdx,getElem?_map];cases hk:ts[k]? with
 | none=>rfl
 | some u=>
  have h5:=h u (mem_of_getElem? hk);have e':¬(k:Int) = -1:=by omega
  simp[fZ,fP,h5,e']

theorem zK {y:Yard}{id:Int}(h:¬aI y id<0):∃r,y.runs[(aI y id).toNat]? = some r:=by
 unfold aI at h ⊢;cases hk:cJ y id with
 | none=>rw[hk]at h;simp[ixI]at h
 | some k=>
  have:=aR6 hk;exact⟨_,by simp only[ixI,Int.toNat_natCast];exact getElem?_eq_getElem this⟩
theorem bY1 {r:Run}(h:r.ok):(iQ r).ok:=by
 unfold iQ;split
 ·exact⟨h.1,h.2.1,by show I64 4;unfold I64;omega⟩
 exact h
noncomputable def cO4 (y:Yard) (k:Nat) (r:Run):Yard:=⟨y.now,y.seq,y.shelf,y.runs.set k (iQ r)⟩
noncomputable def bQ (y:Yard) (id:Int):Yard×Int:=
 if aG y=false then (y,8) else match y.runs[(aI y id).toNat]? with
  | some r=>if aI y id<0 then (y,10) else if r.state≠1 then (y,12) else (cO4 y (aI y id).toNat r,0)
  | none=>(y,10)
theorem aC1 {y:Yard}{id:Int}(h0:aG y=true) (h:aI y id<0):bQ y id=(y,10):=by
 unfold bQ;rw[if_neg (by rw[h0];decide)];cases y.runs[(aI y id).toNat]? with
 | none=>rfl
 | some r=>simp only;rw[if_pos h]
theorem oE {y:Yard}{id:Int}{r:Run}(h0:aG y=true) (h:¬aI y id<0) (hr:y.runs[(aI y id).toNat]? = some r):bQ y id=if r.state≠1 then (y,12) else (cO4 y (aI y id).toNat r,0):=by
 unfold bQ;rw[if_neg (by rw[h0];decide),hr];simp only;rw[if_neg h]

def flE (id:Int) (l:List Entry):List Entry:=l.filter (fun e=> !decide (e.run=id))
theorem flE_t {id:Int}{l:List Entry}{k:Nat}{e:Entry}(he:l[k]? = some e) (h:¬e.run=id):flE id (l.take (k+1))=flE id (l.take k)++[e]:=by
 obtain⟨hk,rfl⟩:=gsi_.1 he;unfold flE;rw[take_succ_eq_append_getElem hk,filter_append];simp[h]
theorem flE_f {id:Int}{l:List Entry}{k:Nat}{e:Entry}(he:l[k]? = some e) (h:e.run=id):flE id (l.take (k+1))=flE id (l.take k):=by
 obtain⟨hk,rfl⟩:=gsi_.1 he;unfold flE;rw[take_succ_eq_append_getElem hk,filter_append];simp[h]
theorem cM7 (id:Int) (l:List Entry):(flE id l).length<=l.length:=length_filter_le _ _
def wA (id:Int) (xss:List (List Entry)) (i:Nat):List (List Entry):=(xss.take i).map (flE id)++xss.drop i
theorem fgTo_zero (id:Int) (xss:List (List Entry)):wA id xss 0=xss:=by simp[wA]
theorem fgTo_len (id:Int) (xss:List (List Entry)) (i:Nat):(wA id xss i).length=xss.length:=by simp[wA];omega
theorem aA7 {id:Int}{xss:List (List Entry)}{i:Nat}{l:List Entry}(h:xss[i]? = some l):(wA id xss i)[i]? = some l:=by
 have hl:=(gsi_.1 h).1;unfold wA;rw[getElem?_append_right (by simp;omega)];simp only[length_map,length_take,getElem?_drop];rw[<- h];congr 1;omega
theorem bZ2 {id:Int}{xss:List (List Entry)}{i:Nat}{l:List Entry}(h:xss[i]? = some l):(wA id xss i).set i (flE id l)=wA id xss (i+1):=by
 obtain⟨hl,rfl⟩:=gsi_.1 h;unfold wA;have e1:((xss.take i).map (flE id)).length=i:=by simp;omega
 rw[set_append_right _ _ aA,e1,Nat.sub_self,take_succ_eq_append_getElem hl,map_append,append_assoc];congr 1;exact(congrArg (fun z=>z.set 0 (flE id xss[i])) (drop_eq_getElem_cons hl)).trans rfl
theorem bZ3 {id:Int}{xss:List (List Entry)}{i:Nat}(h:i=xss.length):wA id xss i=xss.map (flE id):=by subst h;simp[wA]
def bY9 (y:Yard) (id:Int) (k:Nat):Yard:=⟨y.now,y.seq,y.shelf.map (flE id),y.runs.eraseIdx k⟩
noncomputable def bE (y:Yard) (id:Int):Yard×Int:=
 if aG y=false then (y,8) else match y.runs[(aI y id).toNat]? with
  | some r=>if aI y id<0 then (y,10) else if r.state=1 then (y,13) else (bY9 y id (aI y id).toNat,0)
  | none=>(y,10)
theorem aA3 {y:Yard}{id:Int}(h0:aG y=true) (h:aI y id<0):bE y id=(y,10):=by
 unfold bE;rw[if_neg (by rw[h0];decide)];cases y.runs[(aI y id).toNat]? with
 | none=>rfl
 | some r=>simp only;rw[if_pos h]
theorem nZ {y:Yard}{id:Int}{r:Run}(h0:aG y=true) (h:¬aI y id<0) (hr:y.runs[(aI y id).toNat]? = some r):bE y id=if r.state=1 then (y,13) else (bY9 y id (aI y id).toNat,0):=by
 unfold bE;rw[if_neg (by rw[h0];decide),hr];simp only;rw[if_neg h]
section
variable {P:Program}{n:Nat}{f:Nat->Value}{w0 W:World}{rs:List Res}{Q:Exit->Act->World->Prop}{d:Option Tmp}{ty:TypeId}{pos:String}{af:Array Go.Edge}{g:Option (Nat×Bool)}{K:Value->World->Prop}{α:Type}[Shape α]
theorem wK {t e e':TypeId}{bytes:Nat}{s x:Operand}{v:Value}{xs ys:List α}{fe fy:List Nat}{ad:Addr}{c m b o:Nat}{C cells:List Value}(hT:ApOk P t e α bytes) (hs:ev n f s=v) (hx:ev n f x = .slice (some ad) m c) (hm:ys.length=m) (had:0<m->ad=⟨b,o,none⟩) (hcl:cells=(C.drop o).take (m*Shape.size α))
  (hst:St w0 W (Res.row e v xs fe::Res.es cells ys fy::Res.bx b C e'::rs)) (h63:xs.length+m<=maxLen) (hby:(xs.length+m)*bytes<=140737488355328)
  (k:∀v' W',St w0 W' (Res.row e v' (xs++ys) (fe++fy)::Res.bx b C e'::rs)->K v' W') :
  Stp P n ⟨d,.call { callee := .builtin .append,args := #[s,x],argTypes := #[t,t] },ty,pos,af,g⟩ f W Q K:=by
 have hE:=hst.get 1 rfl;have hB:W.heap[b]? = some (.cells C.toArray e' (0,0)):=hst.get 2 rfl;have hn:=hst.nodup;have h2:=hst.f1;have hn2:=h2.nodup;rw[flatMap_cons,nodup_append]at hn2;refine mA hT hs hx hm hst.d1 hE.1 ?_ hE.2 hn2.1 ?_ h63 hby k
 ·intro j u hj;have hj2:=(gsi_.1 hj).1;rw[hE.1.len,hm]at hj2;have hm0:0<m:=Nat.pos_of_ne_zero (fun h0=>by rw[h0]at hj2;simp at hj2);rw[had hm0,Addr.add_mid];rw[hcl]at hj;have:=bO hB (o+j) u (aU2 hj);simpa using this
 intro a ha;refine⟨fun h=>hn2.2.2 a ha a ?_ rfl,fun h=>hn2.2.2 a ha a ?_ rfl,h2.fresh (Res.es cells ys fy) (by simp) a ha⟩
 ·rw[flatMap_cons];exact mem_append_left _ h
 rw[flatMap_cons];exact mem_append_right _ h
theorem es_tail {C:List Value}{o N k s:Nat}(h:k<=N):((C.drop o).take (N*s)).drop (k*s)=(C.drop (o+k*s)).take ((N-k)*s):=by
 rw[drop_take,drop_drop,Nat.sub_mul]
theorem St.es_split {w0 W:World}{rs:List Res}{cells:List Value}{xs:List α}{fe:List Nat}(h:St w0 W (Res.es cells xs fe::rs)) {k:Nat}(hk:k<xs.length) :
  ∃f1 f3,St w0 W (Res.es (cells.take (k*Shape.size α)) (xs.take k) f1::Res.es (cells.drop ((k+1)*Shape.size α)) (xs.drop (k+1)) f3::rs):=by
 have hh:=h.get 0 rfl;obtain⟨f1,g,rfl,h1,h2⟩:=hh.1.parts' k aA;obtain⟨f2,f3,rfl,h3,h4⟩:=h2.parts' 1 (by rw[length_drop];omega);rw[drop_drop,drop_drop,show k*Shape.size α+1*Shape.size α=(k+1)*Shape.size α by rw[Nat.add_mul]]at h4;refine⟨f1,f3,St.trade (rs1:=[Res.es cells xs (f1++(f2++f3))]) (rs2:=[Res.es (cells.take (k*Shape.size α)) (xs.take k) f1,Res.es (cells.drop ((k+1)*Shape.size α)) (xs.drop (k+1)) f3]) h ?_ ?_ ?_⟩
 ·have:=h.nodup;rw[flatMap_cons,nodup_append]at this;have h5:(f1++(f2++f3)).Nodup:=this.1;have h6:(f1++f3).Sublist (f1++(f2++f3)):=(List.Sublist.refl _).append (sublist_append_right _ _);simpa [Res.es] using h6.nodup h5
 ·intro c hc;simp[Res.es]at hc ⊢;rcases hc with hc | hc<;>simp[hc]
 intro r hr;rcases mem_cons.1 hr with rfl | hr
 ·exact⟨h1,fun c hc=>hh.2 c (by simp[hc])⟩
 rw[mem_singleton]at hr;subst hr;exact⟨h4,fun c hc=>hh.2 c (by simp[hc])⟩
end

def eT (c:Int):Reply:=⟨c,0,0,0⟩
noncomputable def doD (y:Yard) (d:Deed):Yard×Reply:=
 if aV d=false then (y,eT 5) else if d.kind=1 then ((aY y d.run d.plan).1,eT (aY y d.run d.plan).2) else if d.kind=2 then gB y d.worker d.draw else if d.kind=3 then (fH y d.run d.task d.try_,eT (eL y d.run d.task d.try_))
 else if d.kind=4 then (oZ y d.run d.task d.try_,eT (eL y d.run d.task d.try_)) else if d.kind=5 then ((eE y).1,eT (eE y).2) else if d.kind=6 then ((bQ y d.run).1,eT (bQ y d.run).2)
 else if d.kind=7 then ((bE y d.run).1,eT (bE y d.run).2) else (dO y,eT (if aG y=true then 0 else 8))
theorem fY {c:Int}(h : -100<=c/\c<=100):(eT c).ok:=by simp only[eT,Reply.ok,I64];omega
theorem deedOk_edges {d:Deed}(h:aV d=true):d.plan.edges.length<=31:=by
 unfold aV at h;simp only[Bool.and_eq_true,decide_eq_true_eq]at h;exact h.1.1.2
theorem wG (y:Yard) (id:Int) (p:Plan) : -100<=(aY y id p).2/\(aY y id p).2<=100:=by
 have:=pf_rng p;unfold aY
 repeat' split
 all_goals first | (simp only;omega) | (show -100<=aC p/\aC p<=100;omega)
theorem aP7 (y:Yard) : -100<=(eE y).2/\(eE y).2<=100:=by
 unfold eE
 repeat' split
 all_goals (simp only;omega)
theorem wV (y:Yard) (id:Int) : -100<=(bQ y id).2/\(bQ y id).2<=100:=by
 unfold bQ
 repeat' split
 all_goals (simp only;omega)
theorem wP (y:Yard) (id:Int) : -100<=(bE y id).2/\(bE y id).2<=100:=by
 unfold bE
 repeat' split
 all_goals (simp only;omega)

def Srt (l:List Entry):Prop:=l.Pairwise fun a b=>cP a b=true
theorem bI5 {a b:Entry}:cP a b=true↔b.prio<a.prio∨(a.prio=b.prio/\a.seq<b.seq):=by
 unfold cP;simp
theorem aL3 {a b c:Entry}(h1:cP a b=true) (h2:cP b c=true):cP a c=true:=by
 rw[bI5]at *;omega
theorem ahead_or {a b:Entry}(h:¬cP a b=true) (h2:¬a.seq=b.seq):cP b a=true:=by
 rw[bI5]at *;omega
theorem srt_ok {l:List Entry}(h:Srt l) (h8:l.length<=80):dL l=true:=by
 unfold dL;refine tK ⟨h8,fun i _ hi=>?_⟩;exact pairwise_iff_getElem.1 h i (i+1) aA hi aA
theorem aV3 {α:Type}{p:α->Bool}:∀{xs:List α},kV p xs=none->∀x∈xs,p x=false
 | [],_,x,h=>by cases h
 | y::xs,h,x,hx=>by
  unfold kV at h;by_cases hy:p y=true
  ·rw[if_pos hy]at h;cases h
  rw[if_neg hy]at h;have h2:kV p xs=none:=by
   cases hq:kV p xs with
   | none=>rfl
   | some j=>rw[hq]at h;cases h
  rcases mem_cons.1 hx with rfl | hx
  ·simpa using hy
  exact aV3 h2 x hx
theorem uX (xs:List Entry) (e:Entry):(gM xs e).Perm (e::xs):=by
 unfold gM;refine perm_middle.trans ?_;rw[take_append_drop]
theorem bU0 {xs:List Entry}{e:Entry}(h:Srt xs) (hs:∀x∈xs,¬x.seq=e.seq):Srt (gM xs e):=by
 have hpre:∀x∈xs.take (nO xs e),cP x e=true:=by
  intro x hx;unfold nO at hx;cases hq:kV (fun x=> !cP x e) xs with
  | none=>
   have:=aV3 hq x (mem_of_mem_take hx);simpa using this
  | some k=>
   rw[hq]at hx;have:=any_eq_false.1 (bX4 hq) x hx;simpa using this
 have hpost:∀x∈xs.drop (nO xs e),cP e x=true:=by
  intro x hx;unfold nO at hx;cases hq:kV (fun x=> !cP x e) xs with
  | none=>rw[hq]at hx;simp at hx
  | some k=>
   rw[hq]at hx;simp only[Option.getD_some]at hx;obtain⟨hk,hp⟩:=aA0 hq;have hk1:cP e xs[k]=true:=ahead_or (by simpa using hp) (hs _ (getElem_mem hk));rw[drop_eq_getElem_cons hk]at hx;rcases mem_cons.1 hx with rfl | hx
   ·exact hk1
   have hd:(xs.drop k).Pairwise fun a b=>cP a b=true:=h.sublist (drop_sublist _ _)
   rw[drop_eq_getElem_cons hk]at hd;exact aL3 hk1 ((pairwise_cons.1 hd).1 x hx)
 unfold gM Srt;rw[pairwise_append];refine⟨h.sublist (take_sublist _ _),pairwise_cons.2 ⟨hpost,h.sublist (drop_sublist _ _)⟩,fun a ha b hb=>?_⟩;rcases mem_cons.1 hb with rfl | hb
 ·exact hpre a ha
 exact aL3 (hpre a ha) (hpost b hb)
def oC (es:List Entry) (id:Int):Nat:=(es.filter fun e=>decide (e.run=id)).length
def wR (es:List Entry) (r:Run):Nat:=if r.state=1 then r.tasks.length else oC es r.id
def pP (es:List Entry) (rs:List Run):Nat:=(rs.map (wR es)).sum
theorem aQ3 {α:Type}{f:α->Nat}:∀{l:List α},(∀x∈l,f x=0)->(l.map f).sum=0
 | [],_=>rfl
 | x::l,h=>by
  rw[map_cons,sum_cons,h x mem_cons_self,aQ3 fun y hy=>h y (mem_cons_of_mem _ hy)]
theorem bK8 {α:Type}{f g:α->Nat}:∀l:List α,(l.map fun x=>f x+g x).sum=(l.map f).sum+(l.map g).sum
 | []=>rfl
 | x::l=>by
  have:=bK8 (f:=f) (g:=g) l;simp only[map_cons,sum_cons,this];omega
theorem aQ4 {α:Type}{f g:α->Nat}:∀{l:List α},(∀x∈l,f x=g x)->(l.map f).sum=(l.map g).sum
 | [],_=>rfl
 | x::l,h=>by
  rw[map_cons,map_cons,sum_cons,sum_cons,h x mem_cons_self,aQ4 fun y hy=>h y (mem_cons_of_mem _ hy)]
theorem yX {α:Type}{f g:α->Nat}:∀{l:List α},(∀x∈l,f x<=g x)->(l.map f).sum<=(l.map g).sum
 | [],_=>Nat.le_refl _
 | x::l,h=>by
  rw[map_cons,map_cons,sum_cons,sum_cons];have:=h x mem_cons_self;have:=yX (f:=f) (g:=g) fun y hy=>h y (mem_cons_of_mem _ hy)
  omega
theorem cH0 {f:Run->Nat}:∀{rs:List Run}{r:Run},(rs.map (·.id)).Nodup->r∈rs->(rs.map fun q=>if r.id=q.id then f q else 0).sum=f r
 | [],r,_,h=>by cases h
 | q::rs,r,hn,h=>by
  rw[map_cons,nodup_cons]at hn;rw[map_cons,sum_cons];rcases mem_cons.1 h with rfl | h
  ·rw[if_pos rfl,aQ3]
   ·rfl
   ·intro x hx;rw[if_neg];intro e;exact hn.1 (mem_map.2 ⟨x,hx,e.symm⟩)
  ·rw[if_neg,cH0 hn.2 h,Nat.zero_add];intro e;exact hn.1 (mem_map.2 ⟨r,h,e⟩)
theorem cntR_cons (e:Entry) (es:List Entry) (id:Int):oC (e::es) id=(if e.run=id then 1 else 0)+oC es id:=by
 unfold oC;rw[filter_cons];by_cases h:e.run=id
 ·simp[h];omega
 simp[h]
theorem cC0 {rs:List Run}(hn:(rs.map (·.id)).Nodup) {f:Run->Nat}{g:Entry->Nat}:∀{es:List Entry},(∀e∈es,∃r∈rs,r.id=e.run/\g e=f r)->(es.map g).sum=(rs.map fun r=>f r*oC es r.id).sum
 | [],_=>by
  rw[aQ3 (l:=rs)]
  ·rfl
  ·intro r _;simp[oC]
 | e::es,h=>by
  have ih:=cC0 hn (f:=f) (g:=g) (es:=es) fun x hx=>h x (mem_cons_of_mem _ hx)
  obtain⟨r,hr,hi,hg⟩:=h e mem_cons_self;rw[map_cons,sum_cons,ih];have e1:(rs.map fun q=>f q*oC (e::es) q.id).sum=(rs.map fun q=>(if r.id=q.id then f q else 0)+f q*oC es q.id).sum:=aQ4 fun q _=>by
   rw[cntR_cons,hi,Nat.mul_add];split<;>simp
  rw[e1,bK8,cH0 hn hr,hg]
theorem aW4 {α:Type}(p:α->Bool):∀l:List α,(l.filter p).length=(l.map fun x=>if p x=true then 1 else 0).sum
 | []=>rfl
 | x::l=>by
  rw[filter_cons,map_cons,sum_cons,<- aW4 p l];split
  ·simp;omega
  ·simp
theorem cL1 {α:Type}:∀l:List α,l.length=(l.map fun _=>1).sum
 | []=>rfl
 | x::l=>by rw[map_cons,sum_cons,<- cL1 l,length_cons];omega
theorem cntR_perm {es es':List Entry}(h:es.Perm es') (id:Int):oC es id=oC es' id:=(h.filter _).length_eq
theorem uC (a b:List Entry) (id:Int):oC (a++b) id=oC a id+oC b id:=by unfold oC;rw[filter_append,length_append]
theorem cntR_le {es:List Entry}{id:Int}{n:Nat}(hk:(es.map fun e=>(e.run,e.task)).Nodup) (hr:∀e∈es,e.run=id->0<=e.task/\e.task.toNat<n):oC es id<=n:=by
 unfold oC;have hn:((es.filter fun e=>decide (e.run=id)).map fun e=>e.task.toNat).Nodup:=by
  have h1:((es.filter fun e=>decide (e.run=id)).map fun e=>(e.run,e.task)).Nodup:=hk.sublist (filter_sublist.map _);unfold List.Nodup at h1 ⊢;rw[pairwise_map]at h1 ⊢;refine List.Pairwise.imp_of_mem (fun {a b} ha hb hab=>?_) h1;have ha':=mem_filter.1 ha;have hb':=mem_filter.1 hb;have ha2:a.run=id:=by simpa using ha'.2
  have hb2:b.run=id:=by simpa using hb'.2
  have:=(hr a ha'.1 ha2).1;have:=(hr b hb'.1 hb2).1;intro e;apply hab;rw[ha2,hb2];congr 1;omega
 have hs:∀x∈((es.filter fun e=>decide (e.run=id)).map fun e=>e.task.toNat),x∈List.range n:=by
  intro x hx;obtain⟨e,he,rfl⟩:=mem_map.1 hx;have he':=mem_filter.1 he;exact mem_range.2 (hr e he'.1 (by simpa using he'.2)).2
 have:=hn.length_le_of_subset hs;simpa using this
structure EntIn (rs:List Run) (e:Entry) (r:Run):Prop where
 mem:r∈rs
 id:r.id=e.run
 lo:0<=e.task
 task:∃t,r.tasks[e.task.toNat]? = some t/\(r.state=1->t.state=2)
 prio:e.prio=r.plan.prio
def RG (r:Run):Prop:=RunIs r/\∀t∈r.tasks,t.state=1->t.try_=0
structure CG (now seq:Int) (es:List Entry) (rs:List Run):Prop where
 seq1:1<=seq
 seqs:∀e∈es,1<=e.seq/\e.seq<seq
 nodup:(es.map (·.seq)).Nodup
 eight:rs.length<=8
 runs:∀r∈rs,RG r
 ids:(rs.map (·.id)).Nodup
 ent:∀e∈es,∃r,EntIn rs e r
 keys:(es.map fun e=>(e.run,e.task)).Nodup
 has:∀r∈rs,∀(k:Nat) (t:Task),r.tasks[k]? = some t->t.state=2->∃e∈es,e.run=r.id/\e.task=(k:Int)
 til:∀r∈rs,∀t∈r.tasks,t.state=3->t.until_<=now+r.plan.wait
 slots:pP es rs<=40
theorem CG.perm {now seq:Int}{es es':List Entry}{rs:List Run}(h:CG now seq es rs) (hp:es.Perm es'):CG now seq es' rs where
 seq1:=h.seq1
 seqs:=fun e he=>h.seqs e (hp.mem_iff.2 he)
 nodup:=(hp.map _).nodup_iff.1 h.nodup
 eight:=h.eight
 runs:=h.runs
 ids:=h.ids
 ent:=fun e he=>h.ent e (hp.mem_iff.2 he)
 keys:=(hp.map _).nodup_iff.1 h.keys
 has:=fun r hr k t ht h2=>by
  obtain⟨e,he,h3⟩:=h.has r hr k t ht h2;exact⟨e,hp.mem_iff.1 he,h3⟩
 til:=h.til
 slots:=by
  have:pP es' rs=pP es rs:=aQ4 fun r _=>by unfold wR;rw[cntR_perm hp]
  rw[this];exact h.slots
section
variable {now seq:Int}{es:List Entry}{rs:List Run}(h:CG now seq es rs)
include h
theorem CG.one {r q:Run}(hr:r∈rs) (hq:q∈rs) (e:r.id=q.id):r=q:=by
 obtain⟨i,hi,rfl⟩:=getElem_of_mem hr;obtain⟨j,hj,rfl⟩:=getElem_of_mem hq;have:i=j:=(getElem?_inj (l:=rs.map (·.id)) (by simpa using hi) h.ids).1 (by simp[hi,hj,e]);subst this;rfl
theorem CG.cnt_le {r:Run}(hr:r∈rs):oC es r.id<=r.tasks.length:=
 cntR_le h.keys fun e he hi=>by
  obtain⟨q,hq⟩:=h.ent e he;have:q=r:=h.one hq.mem hr (by rw[hq.id,hi]);subst this;obtain⟨t,ht,_⟩:=hq.task;exact⟨hq.lo,(gsi_.1 ht).1⟩
theorem CG.len:es.length<=40:=by
 have h1:es.length=(rs.map fun r=>1*oC es r.id).sum:=by
  rw[cL1 es];exact cC0 h.ids fun e he=>by
   obtain⟨r,hr⟩:=h.ent e he;exact⟨r,hr.mem,hr.id,rfl⟩
 have h2:(rs.map fun r=>1*oC es r.id).sum<=pP es rs:=yX fun r hr=>by
  unfold wR;have:=h.cnt_le hr;split<;>omega
 have:=h.slots;omega
end
theorem zS {r:Run}(h:RunIs r) (h1:¬r.state=1) {k:Nat}{t:Task}(ht:r.tasks[k]? = some t):¬t.state=2:=by
 intro h2;have hm:=mem_of_getElem? ht;have hp:=aB9 hm h2;have h4:=aO3 (s:=4) hm aA;have hs:=h.state;have hn:=h.ne;have n1:=eM r.tasks 1;have n3:=eM r.tasks 3;unfold bK at hs;rw[if_neg h4,if_neg aA,if_neg aA]at hs;split at hs<;>omega
def aL9 (p id:Int):List Int->Int->List Entry
 | [],_=>[]
 | t::ts,q=>⟨p,q,id,t⟩::aL9 p id ts (q+1)
theorem gY {p id:Int}:∀{ts:List Int}{q:Int}{e:Entry},e∈aL9 p id ts q->e.prio=p/\e.run=id/\e.task∈ts/\q<=e.seq/\e.seq<q+ts.length
 | [],q,e,h=>by cases h
 | t::ts,q,e,h=>by
  rcases mem_cons.1 h with rfl | h
  ·exact⟨rfl,rfl,mem_cons_self,Int.le_refl _,by simp only[length_cons];omega⟩
  ·obtain⟨h1,h2,h3,h4,h5⟩:=gY h;exact⟨h1,h2,mem_cons_of_mem _ h3,by omega,by simp only[length_cons];omega⟩
theorem bN6 {p id:Int}:∀{ts:List Int}{q:Int}{i:Int},i∈ts->∃e∈aL9 p id ts q,e.run=id/\e.task=i
 | [],q,i,h=>by cases h
 | t::ts,q,i,h=>by
  rcases mem_cons.1 h with rfl | h
  ·exact⟨_,mem_cons_self,rfl,rfl⟩
  ·obtain⟨e,he,h2⟩:=bN6 (q:=q+1) h;exact⟨e,mem_cons_of_mem _ he,h2⟩
theorem aE1 {p id:Int}:∀(ts:List Int) (q:Int),((aL9 p id ts q).map (·.seq)).Nodup
 | [],q=>nodup_nil
 | t::ts,q=>by
  unfold aL9;rw[map_cons,nodup_cons];refine⟨fun h=>?_,aE1 ts (q+1)⟩;obtain⟨e,he,h2⟩:=mem_map.1 h;have:=(gY he).2.2.2.1;simp only at h2;omega
theorem aE2 {p id:Int}:∀{ts:List Int}(q:Int),ts.Nodup->((aL9 p id ts q).map fun e=>(e.run,e.task)).Nodup
 | [],q,_=>nodup_nil
 | t::ts,q,h=>by
  unfold aL9;rw[nodup_cons]at h;rw[map_cons,nodup_cons];refine⟨fun hm=>?_,aE2 (q+1) h.2⟩;obtain⟨e,he,h2⟩:=mem_map.1 hm;have:=(gY he).2.2.1;simp only[Prod.mk.injEq]at h2;rw[h2.2]at this;exact h.1 this
theorem cG9 {α:Type}{f g:α->Nat}:∀{l:List α}{k:Nat}{r r':α},l[k]? = some r->f r'<=g r->(∀j q,j≠k->l[j]? = some q->f q<=g q)->((l.set k r').map f).sum<=(l.map g).sum
 | [],k,r,r',h,_,_=>by cases h
 | x::l,0,r,r',h,h1,h2=>by
  simp only[getElem?_cons_zero,Option.some.injEq]at h;subst h;rw[set_cons_zero,map_cons,map_cons,sum_cons,sum_cons];have:=yX (f:=f) (g:=g) (l:=l) fun q hq=>by
   obtain⟨j,hj,rfl⟩:=getElem_of_mem hq;exact h2 (j+1) _ aA (by simp[hj])
  omega
 | x::l,k+1,r,r',h,h1,h2=>by
  rw[set_cons_succ,map_cons,map_cons,sum_cons,sum_cons];have a:=h2 0 x aA rfl;have b:=cG9 (f:=f) (g:=g) (l:=l) (k:=k) (r:=r) (r':=r') (by simpa using h) h1 fun j q hj hq=>h2 (j+1) q aA (by simpa using hq)
  omega
theorem mem_set_of {α:Type}{l:List α}{k:Nat}{r r' q:α}(hr:l[k]? = some r) (hq:q∈l) (hn:¬q=r):q∈l.set k r':=by
 obtain⟨j,hj,rfl⟩:=getElem_of_mem hq;have hjk:¬k=j:=by
  intro e;subst e;rw[getElem?_eq_getElem hj]at hr;exact hn (Option.some.inj hr)
 exact mem_of_getElem? (i:=j) (by rw[getElem?_set,if_neg hjk,getElem?_eq_getElem hj])
theorem ids_set {rs:List Run}{k:Nat}{r r':Run}(hr:rs[k]? = some r) (hid:r'.id=r.id):(rs.set k r').map (·.id)=rs.map (·.id):=by
 apply ext_getElem?;intro j;rw[getElem?_map,getElem?_map,getElem?_set];by_cases e:k=j
 ·subst e;rw[if_pos rfl,if_pos (gsi_.1 hr).1,hr];simp[hid]
 rw[if_neg e]
theorem bH0 {es:List Entry}{id:Int}(h:∀e∈es,¬e.run=id):oC es id=0:=by
 unfold oC;rw[filter_eq_nil_iff.2 fun e he=>by simpa using h e he];rfl
theorem CG.upd {now seq:Int}{X O:List Entry}{rs:List Run}{k:Nat}{r r':Run}{ts:List Int}(h:CG now seq (X++O) rs) (hr:rs[k]? = some r) (hr1:r.state=1) (hR:RG r') (hid:r'.id=r.id) (hpl:r'.plan=r.plan) (hlen:r'.tasks.length=r.tasks.length) (hts:ts.Nodup)
  (hnew:∀i∈ts,0<=i/\(∃t,r'.tasks[i.toNat]? = some t/\t.state=2)/\∀e∈O,e.run=r.id->¬e.task=i)
  (hold:r'.state=1->∀e∈O,e.run=r.id->∃t,r'.tasks[e.task.toNat]? = some t/\t.state=2)
  (hhas:∀(j:Nat) (t:Task),r'.tasks[j]? = some t->t.state=2->(j:Int)∈ts∨∃e∈O,e.run=r.id/\e.task=(j:Int))
  (hX:∀e∈X,e.run=r.id) (htil:∀t∈r'.tasks,t.state=3->t.until_<=now+r'.plan.wait) :
  CG now (seq+ts.length) (aL9 r'.plan.prio r'.id ts seq++O) (rs.set k r'):=by
 have hm:r∈rs:=mem_of_getElem? hr;have hset:rs.set k r'=rs.set k r':=rfl;have hmem:r'∈rs.set k r':=mem_of_getElem? (i:=k) (set_self hr r');have hO:∀e∈O,e∈X++O:=fun e he=>mem_append_right _ he
 have hts0:¬r'.state=1->ts=[]:=fun h1=>eq_nil_iff_forall_not_mem.2 fun i hi=>by
  obtain⟨_,⟨t,ht,h2⟩,_⟩:=hnew i hi;exact zS hR.1 h1 ht h2
 have hcnt:=h.cnt_le hm;refine⟨by have:=h.seq1;omega,?_,?_,by rw[length_set];exact h.eight,?_,by rw[ids_set hr hid];exact h.ids,?_,?_,?_,?_,?_⟩
 ·intro e he;rcases mem_append.1 he with he | he
  ·have:=gY he;have:=h.seq1;omega
  have:=h.seqs e (hO e he);omega
 ·rw[map_append,nodup_append];refine⟨aE1 _ _,?_,?_⟩
  ·have:=h.nodup;rw[map_append,nodup_append]at this;exact this.2.1
  intro a ha b hb;obtain⟨e,he,rfl⟩:=mem_map.1 ha;obtain⟨g,hg,rfl⟩:=mem_map.1 hb;have:=(gY he).2.2.2.1;have:=(h.seqs g (hO g hg)).2;omega
 ·intro q hq;rcases mem_or_eq_of_mem_set hq with h1 | rfl
  ·exact h.runs q h1
  exact hR
 ·intro e he;rcases mem_append.1 he with he | he
  ·obtain⟨h1,h2,h3,_⟩:=gY he;obtain⟨h4,⟨t,ht,h5⟩,_⟩:=hnew _ h3;exact⟨r',hmem,h2.symm,h4,⟨t,ht,fun _=>h5⟩,h1⟩
  obtain⟨q,hq⟩:=h.ent e (hO e he);by_cases e1:q=r
  ·subst e1;obtain⟨t,ht,h5⟩:=hq.task;have hlt:=(gsi_.1 ht).1;refine⟨r',hmem,by rw[hid];exact hq.id,hq.lo,?_,by rw[hpl];exact hq.prio⟩;refine⟨r'.tasks[e.task.toNat]'(by omega),getElem?_eq_getElem _,fun h1=>?_⟩;obtain⟨t',ht',h6⟩:=hold h1 e he hq.id.symm;rw[getElem?_eq_getElem aA]at ht';rw[Option.some.inj ht'];exact h6
  exact⟨q,mem_set_of hr hq.mem e1,hq.id,hq.lo,hq.task,hq.prio⟩
 ·rw[map_append,nodup_append];refine⟨aE2 _ hts,?_,?_⟩
  ·have:=h.keys;rw[map_append,nodup_append]at this;exact this.2.1
  intro a ha b hb;obtain⟨e,he,rfl⟩:=mem_map.1 ha;obtain⟨g,hg,rfl⟩:=mem_map.1 hb;obtain⟨_,h2,h3,_⟩:=gY he;intro e2;simp only[Prod.mk.injEq]at e2;exact(hnew _ h3).2.2 g hg (by rw[<- e2.1,h2,hid]) e2.2.symm
 ·intro q hq j t ht h2;by_cases e1:q.id=r.id
  ·have e2:q=r':=by
    rcases mem_or_eq_of_mem_set hq with h1 | h1
    ·have h3:q=r:=h.one h1 hm e1;subst h3;obtain⟨i,hi,e3⟩:=getElem_of_mem hq;by_cases hik:k=i
     ·subst hik;rw[getElem_set_self]at e3;exact e3.symm
     rw[getElem_set_ne hik]at e3;have:i=k:=(getElem?_inj (l:=rs.map (·.id)) (by simpa using hi) h.ids).1 (by
      have hi2:i<rs.length:=by simpa using hi
      rw[getElem?_map,getElem?_map,hr,getElem?_eq_getElem hi2,e3])
     exact absurd this.symm hik
    exact h1
   subst e2;rcases hhas j t ht h2 with h3 | ⟨e,he,h3,h4⟩
   ·obtain⟨e,he,h4,h5⟩:=bN6 (p:=q.plan.prio) (id:=q.id) (q:=seq) h3;exact⟨e,mem_append_left _ he,h4,h5⟩
   exact⟨e,mem_append_right _ he,by rw[h3,hid],h4⟩
  have hq2:q∈rs:=by
   rcases mem_or_eq_of_mem_set hq with h1 | h1
   ·exact h1
   exact absurd (by rw[h1,hid]) e1
  obtain⟨e,he,h3,h4⟩:=h.has q hq2 j t ht h2;rcases mem_append.1 he with he | he
  ·exact absurd (by rw[<- h3,hX e he]) e1
  exact⟨e,mem_append_right _ he,h3,h4⟩
 ·intro q hq;rcases mem_or_eq_of_mem_set hq with h1 | rfl
  ·exact h.til q h1
  exact htil
 refine Nat.le_trans ?_ h.slots;unfold pP;refine cG9 hr ?_ fun j q hj hq=>?_
 ·unfold wR;rw[if_pos hr1];split
  ·omega
  next h1=>
  rw[hts0 h1];show oC O r'.id<=_;rw[uC]at hcnt;rw[hid];omega
 have hne:¬r'.id=q.id:=by
  intro e;have:k=j:=(getElem?_inj (l:=rs.map (·.id)) (by have:=(gsi_.1 hr).1;simpa using this) h.ids).1 (by
   rw[getElem?_map,getElem?_map,hr,hq];simp[<- e,hid])
  exact hj this.symm
 unfold wR;split
 ·exact Nat.le_refl _
 rw[uC,uC,bH0 (fun e he=>by rw[(gY he).2.1];exact hne)];omega
theorem CG.drop {now seq:Int}{X O:List Entry}{rs:List Run}(h:CG now seq (X++O) rs) (hX:∀e∈X,∀r∈rs,r.id=e.run->¬r.state=1):CG now seq O rs:=by
 have hO:∀e∈O,e∈X++O:=fun e he=>mem_append_right _ he
 refine⟨h.seq1,fun e he=>h.seqs e (hO e he),?_,h.eight,h.runs,h.ids,fun e he=>h.ent e (hO e he),?_,?_,h.til,?_⟩
 ·have:=h.nodup;rw[map_append,nodup_append]at this;exact this.2.1
 ·have:=h.keys;rw[map_append,nodup_append]at this;exact this.2.1
 ·intro r hr k t ht h2;obtain⟨e,he,h3,h4⟩:=h.has r hr k t ht h2;rcases mem_append.1 he with he | he
  ·exact absurd h2 (zS (h.runs r hr).1 (hX e he r hr h3.symm) ht)
  exact⟨e,he,h3,h4⟩
 refine Nat.le_trans ?_ h.slots;refine yX fun r _=>?_
 unfold wR;rw[uC];split<;>omega
theorem CG.later {now now' seq:Int}{es:List Entry}{rs:List Run}(h:CG now seq es rs) (hn:now<=now'):CG now' seq es rs:=
 ⟨h.seq1,h.seqs,h.nodup,h.eight,h.runs,h.ids,h.ent,h.keys,h.has,fun r hr t ht h3=>by have:=h.til r hr t ht h3;omega,h.slots⟩
structure YG (y:Yard):Prop where
 now:0<=y.now/\y.now<=999999980
 four:y.shelf.length=4
 srt:∀l∈y.shelf,Srt l
 core:CG y.now y.seq y.shelf.flatten y.runs
def InTime (y:Yard):Prop:=∀r∈y.runs,∀t∈r.tasks,t.state=3->y.now+1<=t.until_
theorem ixOf_id {rs:List Run}(hn:(rs.map (·.id)).Nodup) {k:Nat}{r:Run}(hr:rs[k]? = some r):kV (fun q:Run=>decide (q.id=r.id)) rs=some k:=by
 obtain⟨hk,rfl⟩:=gsi_.1 hr;refine rI hk (any_eq_false.2 fun q hq=>?_) (by simp);obtain⟨j,hj,rfl⟩:=getElem_of_mem hq;rw[length_take]at hj;simp only[getElem_take,decide_eq_true_eq];intro e;have:j=k:=(getElem?_inj (l:=rs.map (·.id)) (by simp;omega) hn).1 (by
  rw[getElem?_map,getElem?_map,getElem?_eq_getElem hk,getElem?_eq_getElem aA];simp[e])
 omega
theorem aR7 {y:Yard}(h8:y.runs.length<=8) (hn:(y.runs.map (·.id)).Nodup) {k:Nat}{r:Run}(hr:y.runs[k]? = some r):cJ y r.id=some k:=by
 unfold cJ;rw[if_pos h8];exact ixOf_id hn hr
theorem aF0 {now seq:Int}{es:List Entry}{y:Yard}(h:CG now seq es y.runs) {e:Entry}{r:Run}(he:EntIn y.runs e r):fresh y e=decide (r.state=1):=by
 obtain⟨k,hk,e1⟩:=getElem_of_mem he.mem;have hr:y.runs[k]? = some r:=by rw[getElem?_eq_getElem hk,e1]
 obtain⟨t,ht,h2⟩:=he.task;have hlt:=(gsi_.1 ht).1;have hlo:=he.lo;unfold fresh;rw[<- he.id,aR7 h.eight h.ids hr];simp only[hr,ht];rw[inB_iff.2 ⟨hlo,by omega⟩,Bool.true_and];by_cases h1:r.state=1
 ·rw[decide_eq_true h1,decide_eq_true (h2 h1)]
 rw[decide_eq_false h1,decide_eq_false (zS (h.runs r he.mem).1 h1 ht)]
theorem bS6 {y:Yard}(h:CG y.now y.seq y.shelf.flatten y.runs):dK y=(pP y.shelf.flatten y.runs:Nat):=by
 have h1:fI y y.shelf.flatten=(y.runs.map fun r=>(if r.state=1 then 0 else 1)*oC y.shelf.flatten r.id).sum:=by
  unfold fI;rw[aW4];exact cC0 h.ids fun e he=>by
   obtain⟨r,hr⟩:=h.ent e he;refine⟨r,hr.mem,hr.id,?_⟩;rw[aF0 h hr];by_cases h1:r.state=1<;>simp[h1]
 have h2:pP y.shelf.flatten y.runs=(y.runs.map lC).sum+fI y y.shelf.flatten:=by
  rw[h1,<- bK8];refine aQ4 fun r _=>?_
  unfold wR lC;split<;>simp
 unfold dK;rw[h2];omega
theorem gd_fresh_out {y:Yard}(h:CG y.now y.seq y.shelf.flatten y.runs):∀e∈y.shelf.flatten,fresh y e=false->∀r∈y.runs,r.id=e.run->¬r.state=1:=by
 intro e he hf r hr hi;obtain⟨q,hq⟩:=h.ent e he;have:q=r:=h.one hq.mem hr (by rw[hq.id,hi]);subst this;rw[aF0 h hq]at hf;simpa using hf
theorem YG.ok {y:Yard}(h:YG y) (ht:InTime y) (hs:y.seq<=1000000000):aG y=true:=by
 have hc:=h.core;unfold aG;refine tK ⟨h.now,⟨hc.seq1,hs⟩,h.four,hc.eight,fun l hl=>srt_ok (h.srt l hl) ?_,fun e he=>?_,hc.nodup,fun j hj hj2=>⟨runIs.2 (hc.runs _ (getElem_mem hj2)).1,?_,?_⟩,?_⟩
 ·have h1:=hc.len;obtain⟨i,hi,rfl⟩:=getElem_of_mem hl;have h2:(y.shelf[i]).Sublist y.shelf.flatten:=sublist_flatten_of_mem (getElem_mem hi);have:=h2.length_le;omega
 ·have:=hc.seqs e he;omega
 ·unfold aI;rw[aR7 hc.eight hc.ids (getElem?_eq_getElem hj2)];rfl
 ·have hm:=getElem_mem hj2;have hR:=(hc.runs _ hm).1;refine tK fun k hk=>⟨fun hk2 e he ho h2=>?_,fun hk2=>⟨fun h2=>?_,fun h3=>⟨ht _ hm _ (getElem_mem hk2) h3,hc.til _ hm _ (getElem_mem hk2) h3⟩⟩⟩
  ·unfold tD at ho;simp only[Bool.and_eq_true,decide_eq_true_eq]at ho;obtain⟨q,hq⟩:=hc.ent e he;have:q=y.runs[j]:=hc.one hq.mem hm (by rw[hq.id,ho.1]);rw[<- this];exact hq.prio
  obtain⟨e,he,h3,h4⟩:=hc.has _ hm k _ (getElem?_eq_getElem hk2) h2;have h1:1<=aF6 y.runs[j].id (k:Int) y.shelf.flatten:=by
   unfold aF6;exact length_pos_of_mem (mem_filter.2 ⟨he,by unfold tD;simp[h3,h4]⟩)
  have h5:aF6 y.runs[j].id (k:Int) y.shelf.flatten<=1:=by
   unfold aF6;have hn:((y.shelf.flatten.filter (tD y.runs[j].id (k:Int))).map fun e=>(e.run,e.task)).Nodup:=hc.keys.sublist (filter_sublist.map _);have hsub:((y.shelf.flatten.filter (tD y.runs[j].id (k:Int))).map fun e=>(e.run,e.task)) ⊆ [(y.runs[j].id,(k:Int))]:=by
    intro x hx;obtain⟨g,hg,rfl⟩:=mem_map.1 hx;have:=(mem_filter.1 hg).2;unfold tD at this;simp only[Bool.and_eq_true,decide_eq_true_eq]at this;rw[this.1,this.2];exact mem_singleton_self _
   have:=hn.length_le_of_subset hsub;rw[length_map]at this;exact this
  omega
 have h1:=bS6 hc;have h2:=hc.slots;omega
theorem qW {xss:List (List Entry)}{s:Nat}(h:s<xss.length) (l:List Entry):(xss.set s l).flatten.Perm (l++(xss.eraseIdx s).flatten):=by
 induction xss generalizing s with
 | nil=>simp at h
 | cons x xss ih=>
  cases s with
  | zero=>simp
  | succ s=>
   rw[set_cons_succ,flatten_cons,eraseIdx_cons_succ,flatten_cons];refine(List.Perm.append_left x (ih (by simpa using h))).trans ?_;rw[<- append_assoc,<- append_assoc];exact List.Perm.append_right _ perm_append_comm
theorem vK {xss:List (List Entry)}{s:Nat}(h:s<xss.length):xss.flatten.Perm (xss.getD s []++(xss.eraseIdx s).flatten):=by
 have:=qW h (xss.getD s []);have e:xss.set s (xss.getD s [])=xss:=by
  rw[getD_eq_getElem?_getD,getElem?_eq_getElem h];exact set_getElem_self h
 rwa [e]at this
theorem xF {sh:Nat}{p id:Int}:∀(ts:List Int) (xss:List (List Entry)) (q:Int),sh<xss.length->(fN sh p id ts xss q).flatten.Perm (aL9 p id ts q++xss.flatten)
 | [],xss,q,_=>List.Perm.refl _
 | t::ts,xss,q,h=>by
  unfold fN aL9;refine(xF ts _ (q+1) (by simpa using h)).trans ((List.Perm.append_left _ (qW h _)).trans ((List.Perm.append_left _ (List.Perm.append_right _ (uX _ _))).trans ((List.Perm.append_left _ (List.Perm.cons _ (vK h).symm)).trans ?_)));exact perm_middle
theorem aD3 {sh:Nat}{p id:Int}:∀(ts:List Int) (xss:List (List Entry)) (q:Int),(∀l∈xss,Srt l)->(∀e∈xss.flatten,e.seq<q)->∀l∈fN sh p id ts xss q,Srt l
 | [],xss,q,h,_=>h
 | t::ts,xss,q,h,hq=>by
  unfold fN;have hg:∀e∈xss.getD sh [],e∈xss.flatten:=by
   intro e he;rw[getD_eq_getElem?_getD]at he;cases hx:xss[sh]? with
   | none=>rw[hx]at he;cases he
   | some l=>rw[hx]at he;exact mem_flatten.2 ⟨l,mem_of_getElem? hx,he⟩
  refine aD3 ts _ (q+1) (fun l hl=>?_) (fun e he=>?_)
  ·rcases mem_or_eq_of_mem_set hl with h1 | rfl
   ·exact h l h1
   refine bU0 ?_ fun x hx=>?_
   ·rw[getD_eq_getElem?_getD];cases hx:xss[sh]? with
    | none=>exact List.Pairwise.nil
    | some l=>exact h l (mem_of_getElem? hx)
   have:=hq x (hg x hx);show ¬x.seq=q;omega
  obtain⟨l,hl,he⟩:=mem_flatten.1 he;rcases mem_or_eq_of_mem_set hl with h1 | rfl
  ·have:=hq e (mem_flatten.2 ⟨l,h1,he⟩);omega
  rcases mem_cons.1 ((uX _ _).mem_iff.1 he) with rfl | h1
  ·show q<q+1;omega
  have:=hq e (hg e h1);omega
theorem tasksIn_iff {ts:List Task}{s i:Int}:i∈aK ts s↔0<=i/\∃t,ts[i.toNat]? = some t/\t.state=s:=by
 unfold aK eF;rw[mem_filterMap];constructor
 ·rintro⟨a,ha,h⟩;split at h
  ·next hs=>
   simp only[Option.some.injEq]at h;subst h;refine⟨by omega,?_⟩;rw[Int.toNat_natCast];cases hq:ts[a]? with
   | none=>rw[hq]at hs;cases hs
   | some t=>rw[hq]at hs;exact⟨t,rfl,by simpa using hs⟩
  cases h
 rintro⟨h0,t,ht,hs⟩;refine⟨i.toNat,mem_range.2 (gsi_.1 ht).1,?_⟩;rw[ht];simp only[Option.map_some,hs,if_true,Option.some.injEq];omega
theorem qG (ts:List Task) (s:Int):(aK ts s).Nodup:=by
 unfold aK eF List.Nodup;rw[pairwise_filterMap];refine List.Pairwise.imp (fun {a b} hab=>?_) (nodup_range (n:=ts.length));intro x hx y hy;split at hx
 ·split at hy
  ·simp only[Option.some.injEq]at hx hy;omega
  cases hy
 cases hx
theorem freshOf_iff {r r':Run}{i:Int}:i∈dU r r'↔(0<=i/\∃t,r'.tasks[i.toNat]? = some t/\t.state=2)/\¬∃t,r.tasks[i.toNat]? = some t/\t.state=2:=by
 unfold dU;rw[mem_filter,tasksIn_iff];simp only[Bool.not_eq_true',decide_eq_false_iff_not,tasksIn_iff];constructor
 ·rintro⟨h1,h2⟩;exact⟨h1,fun h3=>h2 ⟨h1.1,h3⟩⟩
 rintro⟨h1,h2⟩;exact⟨h1,fun h3=>h2 h3.2⟩
theorem YG.change {y:Yard}{k:Nat}{r r':Run}(h:YG y) (hr:y.runs[k]? = some r) (hr1:r.state=1) (hR:RG r') (hid:r'.id=r.id) (hpl:r'.plan=r.plan) (hlen:r'.tasks.length=r.tasks.length)
  (hkeep:r'.state=1->∀(j:Nat) t,r.tasks[j]? = some t->t.state=2->∃t',r'.tasks[j]? = some t'/\t'.state=2)
  (htil:∀t∈r'.tasks,t.state=3->t.until_<=y.now+r'.plan.wait):YG (dV y k r r'):=by
 have hc:=h.core;have hsr:=gE r'.id;refine⟨h.now,?_,?_,?_⟩
 ·show (fN _ _ _ _ _ _).length=4;rw[kG];exact h.four
 ·exact aD3 _ _ _ h.srt fun e he=>(hc.seqs e he).2
 have h1:=hc.upd (X:=[]) (O:=y.shelf.flatten) (ts:=dU r r') hr hr1 hR hid hpl hlen ((qG _ _).sublist filter_sublist) (fun i hi=>?_) (fun h1 e he hi=>?_) (fun j t ht h2=>?_) (fun e he=>by cases he) htil
 ·exact h1.perm (xF _ _ _ (by rw[h.four];omega)).symm
 ·obtain⟨⟨a,b⟩,c⟩:=freshOf_iff.1 hi;refine⟨a,b,fun e he hi2 he2=>c ?_⟩;obtain⟨q,hq⟩:=hc.ent e he;have:q=r:=hc.one hq.mem (mem_of_getElem? hr) (by rw[hq.id,hi2]);subst this;obtain⟨t,ht,h3⟩:=hq.task;exact⟨t,by rw[<- he2];exact ht,h3 hr1⟩
 ·obtain⟨q,hq⟩:=hc.ent e he;have:q=r:=hc.one hq.mem (mem_of_getElem? hr) (by rw[hq.id,hi]);subst this;obtain⟨t,ht,h3⟩:=hq.task;exact hkeep h1 _ t ht (h3 hr1)
 by_cases h3:∃t,r.tasks[j]? = some t/\t.state=2
 ·obtain⟨u,hu,h4⟩:=h3;obtain⟨e,he,h5,h6⟩:=hc.has r (mem_of_getElem? hr) j u hu h4;exact .inr ⟨e,he,h5,h6⟩
 exact .inl (freshOf_iff.2 ⟨⟨by omega,t,by rw[Int.toNat_natCast];exact ht,h2⟩,by rw[Int.toNat_natCast];exact h3⟩)
theorem cI0 {r:Run}(h:RunIs r) (h1:r.state=1):¬aQ r.tasks 4=r.tasks.length/\aQ r.tasks 5=0/\aQ r.tasks 6=0:=by
 have hs:=h.state;unfold bK at hs;split at hs
 ·omega
 next h4=>
 split at hs
 ·omega
 split at hs
 ·omega
 split at hs
 ·next h5=>exact⟨h4,h5⟩
 omega
theorem is_1 {ts:List Task}(h4:¬aQ ts 4=ts.length) (h5:aQ ts 5=0) (h6:aQ ts 6=0):bK ts=1:=by
 unfold bK;rw[if_neg h4,if_neg aA,if_neg aA,if_pos ⟨h5,h6⟩]
theorem live_2 {r:Run}(h:RunIs r) {k:Nat}{t:Task}(ht:r.tasks[k]? = some t) (h2:t.state=2):r.state=1:=Classical.byContradiction fun h1=>zS h h1 ht h2
theorem RG.fails {r:Run}(h:RG r) {i:Nat}{t:Task}(ht:r.tasks[i]? = some t) (h3:t.state=3):RG (bP r i):=by
 refine⟨h.1.fails ht h3,fun u hu h1=>?_⟩;rw[rN ht]at hu;unfold oY at hu;split at hu
 ·rcases mem_or_eq_of_mem_set hu with hu | rfl
  ·exact h.2 u hu h1
  exact absurd (show (2:Int)=1 from h1) aA
 have hu:u∈fB (r.tasks.set i ⟨5,t.need,t.try_,0⟩) i:=hu;unfold fB at hu;obtain⟨k,hk,rfl⟩:=getElem_of_mem hu;rw[getElem_mapIdx]at h1 ⊢;unfold fZ at h1 ⊢;split at h1
 ·next hc=>
  rw[if_pos hc];have hk':k<(r.tasks.set i ⟨5,t.need,t.try_,0⟩).length:=by simpa using hk
  rcases mem_or_eq_of_mem_set (getElem_mem hk') with hm | e
  ·exact h.2 _ hm h1
  rw[e]at h1;exact absurd (show (5:Int)=1 from h1) aA
 exact absurd (show (6:Int)=1 from h1) aA
theorem RG.start {r:Run}(h:RG r) {i:Nat}{t:Task}{now:Int}(hn:0<=now/\now<=999999980) (ht:r.tasks[i]? = some t) (h2:t.state=2):RG (gK r i t now):=by
 have h1:=live_2 h.1 ht h2;obtain⟨hi,rfl⟩:=gsi_.1 ht;obtain⟨c4,c5,c6⟩:=cI0 h.1 h1;have htk:=h.1.task i hi hi;have ht2:=htk.2.2.2.2.2.2.1 h2;have hpl:=(jV h.1.plan).1;have hlen:(r.tasks.set i ⟨3,r.tasks[i].need,r.tasks[i].try_+1,now+r.plan.wait⟩).length=r.tasks.length:=length_set;have hpm:(1<=r.plan.wait/\r.plan.wait<=20):=by unfold aR at hpl;omega
 have hnd:∀x,dP (gK r i r.tasks[i] now) x=dP r x:=vA rfl fun j=>by
  show ((r.tasks.set i _)[j]?).map _=_;rw[getElem?_set];by_cases e:i=j
  ·subst e;simp[hi,h2]
  rw[if_neg e]
 refine⟨⟨h.1.id,h.1.plan,by show ((r.tasks.set i _).length:Int)=_;rw[hlen];exact h.1.len,fun k hk hk'=>?_,?_,h.1.ne⟩,fun u hu hu1=>?_⟩
 ·rw[hnd];have hk2:k<r.tasks.length:=by rw[<- hlen];exact hk
  have hk3:k<(r.tasks.set i ⟨3,r.tasks[i].need,r.tasks[i].try_+1,now+r.plan.wait⟩).length:=hk;show fF _ _ ((r.tasks.set i _)[k]'hk3);rw[getElem_set];split
  ·next e=>
   subst e;obtain⟨t1,t2,t3,t4,t5,t6,t7,t8⟩:=htk;refine⟨⟨by show (1:Int)<=3;omega,by show (3:Int)<=6;omega⟩,t2,⟨by show 0<=r.tasks[i].try_+1;omega,by show r.tasks[i].try_+1<=r.plan.most;omega⟩,fun _=>⟨by show 1<=now+r.plan.wait;omega,by show now+r.plan.wait<=1000000000;omega⟩,fun e=>absurd rfl e,fun e=>absurd (show (3:Int)=1 from e) aA,fun e=>absurd (show (3:Int)=2 from e) aA,fun _=>⟨ht2.1,by show 1<=r.tasks[i].try_+1;omega⟩⟩
  exact lA rfl (h.1.task k hk2 hk2)
 ·show r.state=bK (r.tasks.set i _);rw[h1,is_1]
  ·rw[rS hi,hlen,h2,if_neg aA,if_neg (by show ¬(3:Int)=4;omega)];omega
  ·rw[rS hi,h2,if_neg aA,if_neg (by show ¬(3:Int)=5;omega)];omega
  rw[rS hi,h2,if_neg aA,if_neg (by show ¬(3:Int)=6;omega)];omega
 rcases mem_or_eq_of_mem_set hu with hu | rfl
 ·exact h.2 u hu hu1
 exact absurd (show (3:Int)=1 from hu1) aA
theorem aU9 (ts:List Task):fB ts (-1)=ts.map fun t=>if t.state=4 then t else eS t:=by
 apply ext_getElem?;intro k;unfold fB;rw[getElem?_mapIdx,getElem?_map];congr 1
 funext t
 unfold fZ;by_cases h:t.state=4
 ·rw[if_pos (.inr h),if_pos h]
 rw[if_neg (by intro hc;rcases hc with hc | hc;omega;exact h hc),if_neg h]
theorem RG.gone {r:Run}(h:RG r) (h1:r.state=1):RG (iQ r):=by
 obtain⟨c4,c5,c6⟩:=cI0 h.1 h1;have hg:tT r=true:=by unfold tT;rw[runIs.2 h.1,decide_eq_true h1];rfl
 rw[aN9 hg,aU9];have hst:∀t:Task,(if t.state=4 then t else eS t).state=if t.state=4 then 4 else 6:=fun t=>by
  split
  ·assumption
  rfl
 have hnd:∀x,dP ⟨r.id,r.plan,4,r.tasks.map fun t=>if t.state=4 then t else eS t⟩ x=dP r x:=vA rfl fun j=>by
  show ((r.tasks.map _)[j]?).map _=_;rw[getElem?_map];cases r.tasks[j]? with
  | none=>rfl
  | some t=>
   simp only[Option.map_some];rw[hst t];by_cases e:t.state=4<;>simp[e]
 refine⟨⟨h.1.id,h.1.plan,by show ((r.tasks.map _).length:Int)=_;rw[length_map];exact h.1.len,fun k hk hk'=>?_,?_,by show ¬(4:Int)=0;omega⟩,fun u hu hu1=>?_⟩
 ·rw[hnd];have hk2:k<r.tasks.length:=by simpa using hk
  show fF _ _ ((r.tasks.map _)[k]'hk');rw[getElem_map];split
  ·exact lA rfl (h.1.task k hk2 hk2)
  exact yU rfl (h.1.task k hk2 hk2)
 ·show 4=bK (r.tasks.map _);have hm:∀s:Int,¬s=4->¬s=6->aQ (r.tasks.map fun t=>if t.state=4 then t else eS t) s=0:=fun s h4 h6=>rQ fun u hu hs=>by
   obtain⟨t,_,rfl⟩:=mem_map.1 hu;rw[hst t]at hs;split at hs<;>omega
  have h4:aQ (r.tasks.map fun t=>if t.state=4 then t else eS t) 4=aQ r.tasks 4:=cA5 fun t _=>by
   rw[hst t];by_cases e:t.state=4<;>simp[e]
  have hlen:(r.tasks.map fun t=>if t.state=4 then t else eS t).length=r.tasks.length:=length_map _;have hsum:=bP3 (ts:=r.tasks.map fun t=>if t.state=4 then t else eS t) fun u hu=>by
   obtain⟨t,_,rfl⟩:=mem_map.1 hu;rw[hst t];split<;>omega
  have a1:=hm 1 aA aA;have a2:=hm 2 aA aA;have a3:=hm 3 aA aA;have a5:=hm 5 aA aA;have a4:=vS r.tasks 4;unfold bK;rw[if_neg (by rw[h4,hlen];exact c4),if_neg aA,if_pos ⟨a5,by omega,by omega⟩]
 obtain⟨t,_,rfl⟩:=mem_map.1 hu;rw[hst t]at hu1;split at hu1<;>omega
theorem cA7:∀{B:List Int}{ts:List Task},B.Nodup->(∀b∈B,0<=b)->∀k:Nat,(qM ts B)[k]? = (ts[k]?).map fun t=>if (k:Int)∈B then jW t else t
 | [],ts,_,_,k=>by simp[qM]
 | b::B,ts,hn,h0,k=>by
  rw[nodup_cons]at hn;have hb:=h0 b mem_cons_self;have ih:=cA7 (B:=B) (ts:=pZ ts b) hn.2 (fun c hc=>h0 c (mem_cons_of_mem _ hc)) k;show (qM (pZ ts b) B)[k]? = _;rw[ih];have hs:(pZ ts b)[k]? = (ts[k]?).map fun t=>if (k:Int)=b then jW t else t:=by
   unfold pZ;by_cases e:(k:Int)=b
   ·have e2:b.toNat=k:=by omega
    rw[e2];cases hk:ts[k]? with
    | none=>simp[hk]
    | some t=>simp[hk,e,(gsi_.1 hk).1]
   cases hk:ts[b.toNat]? with
   | none=>simp only;cases ts[k]?<;>simp[e]
   | some t=>
    simp only;rw[getElem?_set,if_neg aA];cases ts[k]?<;>simp[e]
  rw[hs,Option.map_map];congr 1
  funext t
  simp only[Function.comp_apply,mem_cons];by_cases e:(k:Int)=b
  ·have:¬(k:Int)∈B:=by rw[e];exact hn.1
   simp[e,hn.1]
  simp[e]
theorem sZ {p:Plan}(h:aC p=0) {i j:Int}:j∈aT p i↔i∈aL p j:=by
 unfold aT aL;rw[if_pos h,if_pos h,(iA _).mem_iff,(iA _).mem_iff];unfold tos dM;simp only[mem_map,mem_filter,decide_eq_true_eq];constructor
 ·rintro⟨e,⟨h1,h2⟩,h3⟩;exact⟨e,⟨h1,h3⟩,h2⟩
 rintro⟨e,⟨h1,h2⟩,h3⟩;exact⟨e,⟨h1,h3⟩,h2⟩
theorem behind_nodup {p:Plan}(h:aC p=0) (i:Int):(aT p i).Nodup:=by
 unfold aT;rw[if_pos h];refine(iA _).nodup_iff.2 ?_;unfold tos List.Nodup;rw[pairwise_map];refine List.Pairwise.imp_of_mem (fun {a b} ha hb hab e=>hab ?_) ((jV h).2.2.1.sublist filter_sublist);have h1:=(mem_filter.1 ha).2;have h2:=(mem_filter.1 hb).2;simp only[decide_eq_true_eq]at h1 h2;cases a;cases b;simp_all
theorem before_nodup {p:Plan}(h:aC p=0) (i:Int):(aL p i).Nodup:=by
 unfold aL;rw[if_pos h];refine(iA _).nodup_iff.2 ?_;unfold dM List.Nodup;rw[pairwise_map];refine List.Pairwise.imp_of_mem (fun {a b} ha hb hab e=>hab ?_) ((jV h).2.2.1.sublist filter_sublist);have h1:=(mem_filter.1 ha).2;have h2:=(mem_filter.1 hb).2;simp only[decide_eq_true_eq]at h1 h2;cases a;cases b;simp_all
theorem filter_less {l:List Int}{x:Int}{p q:Int->Bool}(hn:l.Nodup) (h:∀y∈l,q y=(p y && !decide (y=x))) (hp:p x=true):(l.filter p).length=(l.filter q).length+if x∈l then 1 else 0:=by
 induction l with
 | nil=>simp
 | cons y l ih=>
  rw[nodup_cons]at hn;have ih:=ih hn.2 fun z hz=>h z (mem_cons_of_mem _ hz)
  have hy:=h y mem_cons_self;rw[filter_cons,filter_cons];by_cases e:y=x
  ·subst e;rw[hp,hy,hp];have:¬y∈l:=hn.1;rw[if_neg this]at ih;simp;omega
  rw[hy];have e2:¬x=y:=fun h=>e h.symm
  simp only[e,decide_false,Bool.not_false,Bool.and_true,mem_cons,e2,false_or];split
  ·simp only[length_cons];omega
  exact ih
theorem RG.done {r:Run}(h:RG r) {i:Nat}{t:Task}(ht:r.tasks[i]? = some t) (h3:t.state=3):RG (iW r i)/\∀(j:Nat) (u:Task),(iW r i).tasks[j]? = some u->(u.state=3->¬j=i/\r.tasks[j]? = some u)/\(∀v,r.tasks[j]? = some v->v.state=2->u.state=2):=by
 have hm:=mem_of_getElem? ht;have hl:=h.1.live hm h3;obtain⟨hi,hti⟩:=gsi_.1 ht;have htk:=h.1.task i hi hi;rw[hti]at htk;have hneed0:=(htk.2.2.2.2.2.2.2 (.inl h3)).1;have hB:=behind_nodup h.1.plan (i:Int);have hB0:∀b∈aT r.plan (i:Int),0<=b:=fun b hb=>(aX9 r.plan _ b hb).1
 rw[aB3 ht];have hget:∀j:Nat,(bI r i t)[j]? = ((r.tasks.set i ⟨4,t.need,t.try_,0⟩)[j]?).map fun u=>if (j:Int)∈aT r.plan (i:Int) then jW u else u:=fun j=>cA7 hB hB0 j
 have hni:gC r (i:Int)=false:=by
  rw[aE9 (by simpa using hi)];simp only[Int.toNat_natCast,hti,h3];decide
 have hnone:∀x∈aL r.plan (i:Int),gC r x=true:=by
  intro x hx;cases hd:gC r x with
  | true=>rfl
  | false=>
   have:0<dP r (i:Int):=by
    unfold dP gN;have:=length_pos_of_mem (mem_filter.2 ⟨hx,by rw[hd];rfl⟩:x∈(aL r.plan (i:Int)).filter fun b=> !gC r b);omega
   omega
 have hii:¬(i:Int)∈aT r.plan (i:Int):=by
  intro hc;have:=hnone _ ((sZ h.1.plan).1 hc);rw[hni]at this;cases this
 have hgi:(bI r i t)[i]? = some ⟨4,t.need,t.try_,0⟩:=by
  rw[hget,getElem?_set,if_pos rfl,if_pos hi];simp[hii]
 have hgj:∀j:Nat,¬j=i->(bI r i t)[j]? = (r.tasks[j]?).map fun u=>if (j:Int)∈aT r.plan (i:Int) then jW u else u:=fun j hj=>by
  rw[hget,getElem?_set,if_neg (fun e=>hj e.symm)]
 have hbeh:∀(j:Nat) (v:Task),r.tasks[j]? = some v->(j:Int)∈aT r.plan (i:Int)->v.state=1/\0<v.need:=by
  intro j v hv hj;obtain⟨hjl,hjv⟩:=gsi_.1 hv;have hk:=h.1.task j hjl hjl;rw[hjv]at hk;have hpos:0<dP r (j:Int):=by
   unfold dP gN;have:=length_pos_of_mem (mem_filter.2 ⟨(sZ h.1.plan).1 hj,by rw[hni];rfl⟩:(i:Int)∈(aL r.plan (j:Int)).filter fun b=> !gC r b);omega
  obtain⟨⟨k1,k1'⟩,k2,k3,k4,k5,k6,k7,k8⟩:=hk;have n6:=aG1 hl.2.2 v (mem_of_getElem? hv);have:¬v.state=2:=fun e=>by have:=(k7 e).1;omega
  have:¬v.state=3:=fun e=>by have:=(k8 (.inl e)).1;omega
  have:¬v.state=4:=fun e=>by have:=(k8 (.inr (.inl e))).1;omega
  have:¬v.state=5:=fun e=>by have:=(k8 (.inr (.inr e))).1;omega
  exact⟨by omega,by omega⟩
 have hst4:∀(j:Nat) (v:Task),¬j=i->r.tasks[j]? = some v->∀u,(bI r i t)[j]? = some u->(u.state=4↔v.state=4):=by
  intro j v hj hv u hu;rw[hgj j hj,hv]at hu;simp only[Option.map_some,Option.some.injEq]at hu;subst hu;split
  ·next hb=>
   have:=(hbeh j v hv hb).1;unfold jW;simp only;split<;>omega
  exact Iff.rfl
 have hdone:∀x:Int,0<=x->gC (wU r i t) x=(gC r x || decide (x=(i:Int))):=by
  intro x hx;unfold gC;show (match (bI r i t)[x.toNat]? with | some t=>decide (t.state=4) | none=>false)=_;by_cases e:x=(i:Int)
  ·subst e;rw[Int.toNat_natCast,hgi];simp
  have e2:¬x.toNat=i:=by omega
  rw[decide_eq_false e,Bool.or_false];cases hv:r.tasks[x.toNat]? with
  | none=>rw[hgj _ e2,hv];rfl
  | some v=>
   have hu:∃u,(bI r i t)[x.toNat]? = some u:=by rw[hgj _ e2,hv];exact⟨_,rfl⟩
   obtain⟨u,hu⟩:=hu;rw[hu];simp only;exact decide_eq_decide.2 (hst4 _ v e2 hv u hu)
 have hnd:∀j:Nat,dP r (j:Int)=dP (wU r i t) (j:Int)+if (j:Int)∈aT r.plan (i:Int) then 1 else 0:=by
  intro j;unfold dP gN;have:=filter_less (p:=fun b=> !gC r b) (q:=fun b=> !gC (wU r i t) b) (x:=(i:Int)) (before_nodup h.1.plan (j:Int)) (fun y hy=>by
   rw[hdone y (aY2 r.plan _ y hy).1,Bool.not_or]) (by rw[hni];rfl)
  show _=(((aL r.plan (j:Int)).filter fun b=> !gC (wU r i t) b).length:Int)+_;rw[this];by_cases e:(i:Int)∈aL r.plan (j:Int)
  ·rw[if_pos e,if_pos ((sZ h.1.plan).2 e)];omega
  rw[if_neg e,if_neg (fun hc=>e ((sZ h.1.plan).1 hc))];omega
 have hlen:(bI r i t).length=r.tasks.length:=sU r i t;have hmost:1<=r.plan.most:=by have:=(jV h.1.plan).1;unfold aR at this;omega
 refine⟨⟨⟨h.1.id,h.1.plan,by show ((bI r i t).length:Int)=_;rw[hlen];exact h.1.len,fun k hk hk'=>?_,?_,?_⟩,fun u hu hu1=>?_⟩,fun j u hu=>⟨fun hu3=>?_,fun v hv hv2=>?_⟩⟩
 ·have hk2:k<r.tasks.length:=by rw[<- hlen];exact hk
  have hkk:=h.1.task k hk2 hk2;have hn:=hnd k;show fF _ _ ((bI r i t)[k]'hk');have he:(bI r i t)[k]? = some ((bI r i t)[k]'hk'):=getElem?_eq_getElem hk';revert he;generalize (bI r i t)[k]'hk'=u;intro he;by_cases e:k=i
  ·subst e;rw[hgi]at he;cases he;rw[if_neg hii]at hn;obtain⟨t1,t2,t3,t4,t5,t6,t7,t8⟩:=htk;refine⟨⟨by show (1:Int)<=4;omega,by show (4:Int)<=6;omega⟩,by show t.need=_;omega,t3,fun e=>absurd (show (4:Int)=3 from e) aA,fun _=>rfl,fun e=>absurd (show (4:Int)=1 from e) aA,fun e=>absurd (show (4:Int)=2 from e) aA,fun _=>⟨by omega,(t8 (.inl h3)).2⟩⟩
  rw[hgj k e,getElem?_eq_getElem hk2]at he;simp only[Option.map_some,Option.some.injEq]at he;subst he;by_cases hb:(k:Int)∈aT r.plan (i:Int)
  ·rw[if_pos hb]at hn ⊢;obtain⟨s1,s2⟩:=hbeh k _ (getElem?_eq_getElem hk2) hb;have h0:=h.2 _ (getElem_mem hk2) s1;obtain⟨t1,t2,t3,t4,t5,t6,t7,t8⟩:=hkk;have t5':=t5 aA;unfold jW;by_cases hz:r.tasks[k].need-1=0
   ·rw[if_pos hz];refine⟨⟨by show (1:Int)<=2;omega,by show (2:Int)<=6;omega⟩,by show r.tasks[k].need-1=_;omega,t3,fun e=>absurd (show (2:Int)=3 from e) aA,fun _=>t5',fun e=>absurd (show (2:Int)=1 from e) aA,fun _=>⟨by omega,by show r.tasks[k].try_<r.plan.most;omega⟩,?_⟩;rintro(e | e | e)
    ·exact absurd (show (2:Int)=3 from e) aA
    ·exact absurd (show (2:Int)=4 from e) aA
    exact absurd (show (2:Int)=5 from e) aA
   rw[if_neg hz,s1];refine⟨⟨by show (1:Int)<=1;omega,by show (1:Int)<=6;omega⟩,by show r.tasks[k].need-1=_;omega,t3,fun e=>absurd (show (1:Int)=3 from e) aA,fun _=>t5',fun _=>by omega,fun e=>absurd (show (1:Int)=2 from e) aA,?_⟩;rintro(e | e | e)
   ·exact absurd (show (1:Int)=3 from e) aA
   ·exact absurd (show (1:Int)=4 from e) aA
   exact absurd (show (1:Int)=5 from e) aA
  rw[if_neg hb]at hn ⊢;rw[show dP (wU r i t) (k:Int)=dP r (k:Int) by omega];exact lA rfl hkk
 ·exact(aL1 h.1 ht h3).symm
 ·show ¬(if aQ (bI r i t) 4=((bI r i t).length:Int) then 2 else r.state)=0;split
  ·omega
  omega
 ·obtain⟨j,hj⟩:=mem_iff_getElem?.1 hu;have hj:(bI r i t)[j]? = some u:=hj;by_cases e:j=i
  ·subst e;rw[hgi]at hj;cases hj;exact absurd (show (4:Int)=1 from hu1) aA
  rw[hgj j e]at hj;cases hv:r.tasks[j]? with
  | none=>rw[hv]at hj;cases hj
  | some v=>
   rw[hv]at hj;simp only[Option.map_some,Option.some.injEq]at hj;split at hj
   ·next hb=>
    subst hj;exact h.2 v (mem_of_getElem? hv) (hbeh j v hv hb).1
   subst hj;exact h.2 v (mem_of_getElem? hv) hu1
 ·have hu:(bI r i t)[j]? = some u:=hu;by_cases e:j=i
  ·subst e;rw[hgi]at hu;cases hu;exact absurd (show (4:Int)=3 from hu3) aA
  refine⟨e,?_⟩;rw[hgj j e]at hu;cases hv:r.tasks[j]? with
  | none=>rw[hv]at hu;cases hu
  | some v=>
   rw[hv]at hu;simp only[Option.map_some,Option.some.injEq]at hu;split at hu
   ·next hb=>
    subst hu;have:=(hbeh j v hv hb).1;unfold jW at hu3;simp only at hu3;split at hu3<;>omega
   subst hu;rfl
 have hu:(bI r i t)[j]? = some u:=hu;have e:¬j=i:=by
  intro e;subst e;rw[ht]at hv;cases hv;omega
 rw[hgj j e,hv]at hu;simp only[Option.map_some,Option.some.injEq]at hu;split at hu
 ·next hb=>
  have:=(hbeh j v hv hb).1;omega
 subst hu;exact hv2
theorem RG.new {id:Int}{p:Plan}(hid:1<=id/\id<=9999) (hp:aC p=0):RG (aZ id p):=by
 have hpl:=(jV hp).1;have ht:1<=p.tasks/\p.tasks<=12:=by unfold aR at hpl;omega
 have hmost:1<=p.most:=by unfold aR at hpl;omega
 have hlen:(aZ id p).tasks.length=p.tasks.toNat:=hU p _;have hget:∀(k:Nat) (h:k<(aZ id p).tasks.length),(aZ id p).tasks[k]=mK p k:=by
  intro k h;have h3:k<((List.range p.tasks.toNat).map (mK p)).length:=h;show ((List.range p.tasks.toNat).map (mK p))[k]'h3=_;rw[getElem_map,getElem_range]
 have hmem:∀t∈(aZ id p).tasks,(t.state=1∨t.state=2)/\t.try_=0:=by
  intro t hm;obtain⟨k,hk,rfl⟩:=getElem_of_mem hm;rw[hget k hk];unfold mK;refine⟨?_,rfl⟩;simp only;split
  ·exact .inr rfl
  exact .inl rfl
 have hnd:∀x,gC (aZ id p) x=false:=by
  intro x;unfold gC;split
  ·next t hx=>
   have:=(hmem t (mem_of_getElem? hx)).1;rw[decide_eq_false];omega
  rfl
 have hz:∀s:Int,¬s=1->¬s=2->aQ (aZ id p).tasks s=0:=fun s h1 h2=>rQ fun t hm hs=>by
  have:=(hmem t hm).1;omega
 refine⟨⟨hid,hp,by show ((aZ id p).tasks.length:Int)=p.tasks;omega,fun k hk hk'=>?_,?_,by show ¬(1:Int)=0;omega⟩,fun t hm _=>(hmem t hm).2⟩
 ·rw[hget k hk'];have hneed:dP (aZ id p) (k:Int)=((aL p (k:Int)).length:Int):=by
   unfold dP gN;show (((aL p (k:Int)).filter _).length:Int)=_;rw[filter_eq_self.2 fun x _=>by rw[hnd];rfl]
  rw[hneed];unfold mK;by_cases e:(aL p (k:Int)).length=0
  ·rw[if_pos e];refine⟨⟨by show (1:Int)<=2;omega,by show (2:Int)<=6;omega⟩,rfl,⟨Int.le_refl _,by show 0<=p.most;omega⟩,fun e=>absurd (show (2:Int)=3 from e) aA,fun _=>rfl,fun e=>absurd (show (2:Int)=1 from e) aA,fun _=>⟨by omega,by show 0<p.most;omega⟩,?_⟩;rintro(e | e | e)
   ·exact absurd (show (2:Int)=3 from e) aA
   ·exact absurd (show (2:Int)=4 from e) aA
   exact absurd (show (2:Int)=5 from e) aA
  rw[if_neg e];refine⟨⟨by show (1:Int)<=1;omega,by show (1:Int)<=6;omega⟩,rfl,⟨Int.le_refl _,by show 0<=p.most;omega⟩,fun e=>absurd (show (1:Int)=3 from e) aA,fun _=>rfl,fun _=>by omega,fun e=>absurd (show (1:Int)=2 from e) aA,?_⟩;rintro(e | e | e)
  ·exact absurd (show (1:Int)=3 from e) aA
  ·exact absurd (show (1:Int)=4 from e) aA
  exact absurd (show (1:Int)=5 from e) aA
 show 1=bK (aZ id p).tasks;rw[is_1 _ (hz 5 aA aA) (hz 6 aA aA)];rw[hz 4 aA aA];omega
theorem aW5 {r:Run}(h:RG r) {i:Nat}{t:Task}(ht:r.tasks[i]? = some t) (h3:t.state=3):(∀(j:Nat) (u:Task),(bP r i).tasks[j]? = some u->u.state=3->¬j=i/\r.tasks[j]? = some u)/\((bP r i).state=1->∀(j:Nat) (v:Task),r.tasks[j]? = some v->v.state=2->∃u,(bP r i).tasks[j]? = some u/\u.state=2)/\∀(j:Nat) (u:Task),(bP r i).tasks[j]? = some u->u.state=2->j=i∨r.tasks[j]? = some u:=by
 obtain⟨hi,hti⟩:=gsi_.1 ht;rw[rN ht];unfold oY;split
 ·have hg:∀j:Nat,(r.tasks.set i ⟨2,t.need,t.try_,0⟩)[j]? = if i=j then some ⟨2,t.need,t.try_,0⟩ else r.tasks[j]? := fun j=>by
   rw[getElem?_set];by_cases e:i=j
   ·rw[if_pos e,if_pos e,if_pos hi]
   rw[if_neg e,if_neg e]
  refine⟨fun j u hu hu3=>?_,fun _ j v hv hv2=>?_,fun j u hu hu2=>?_⟩
  ·have hu:(r.tasks.set i ⟨2,t.need,t.try_,0⟩)[j]? = some u:=hu;rw[hg]at hu;split at hu
   ·cases hu;exact absurd (show (2:Int)=3 from hu3) aA
   next e=>exact⟨fun e2=>e e2.symm,hu⟩
  ·show ∃u,(r.tasks.set i ⟨2,t.need,t.try_,0⟩)[j]? = some u/\_;rw[hg];split
   ·exact⟨_,rfl,rfl⟩
   exact⟨v,hv,hv2⟩
  have hu:(r.tasks.set i ⟨2,t.need,t.try_,0⟩)[j]? = some u:=hu;rw[hg]at hu;split at hu
  ·next e=>exact .inl e.symm
  exact .inr hu
 have hg:∀(j:Nat) (u:Task),(fB (r.tasks.set i ⟨5,t.need,t.try_,0⟩) (i:Int))[j]? = some u->u.state=4∨u.state=5∨u.state=6:=by
  intro j u hu;unfold fB at hu;rw[getElem?_mapIdx]at hu;cases hv:(r.tasks.set i ⟨5,t.need,t.try_,0⟩)[j]? with
  | none=>rw[hv]at hu;cases hu
  | some v=>
   rw[hv]at hu;simp only[Option.map_some,Option.some.injEq]at hu;subst hu;unfold fZ;split
   ·next hc=>
    by_cases e:i=j
    ·subst e;rw[getElem?_set_self hi]at hv;cases hv;exact .inr (.inl rfl)
    rcases hc with hc | hc
    ·omega
    exact .inl hc
   exact .inr (.inr rfl)
 refine⟨fun j u hu hu3=>?_,fun h1=>absurd (show (3:Int)=1 from h1) aA,fun j u hu hu2=>?_⟩
 ·have:=hg j u hu;omega
 have:=hg j u hu;omega
theorem fresh_fails {r:Run}(h:RG r) {i:Nat}{t:Task}(ht:r.tasks[i]? = some t) (h3:t.state=3):(dU r (bP r i)).length<=1:=by
 have hn:(dU r (bP r i)).Nodup:=(qG _ _).sublist filter_sublist;have hs:dU r (bP r i) ⊆ [(i:Int)]:=by
  intro x hx;obtain⟨⟨h0,u,hu,hu2⟩,hno⟩:=freshOf_iff.1 hx;rcases(aW5 h ht h3).2.2 _ u hu hu2 with e | e
  ·rw[mem_singleton];omega
  exact absurd ⟨u,e,hu2⟩ hno
 exact hn.length_le_of_subset hs
structure TR (y out:Yard) (l:List (Nat×Nat)):Prop where
 good:YG out
 now:out.now=y.now
 seq:y.seq<=out.seq/\out.seq<=y.seq+(l.length:Int)
 len:out.runs.length=y.runs.length
 sub:∀(j m:Nat) (r2:Run) (u:Task),out.runs[j]? = some r2->r2.tasks[m]? = some u->u.state=3->¬(j,m)∈l/\∃r,y.runs[j]? = some r/\r.tasks[m]? = some u
theorem TR.start {y:Yard}(h:YG y):TR y y []:=⟨h,rfl,by simp,rfl,fun j m r2 u hr hu h3=>⟨by simp,r2,hr,hu⟩⟩
theorem TR.turn {y out:Yard}{l:List (Nat×Nat)}(h:TR y out l) (k i:Nat):TR y (kM out k i) ((k,i)::l):=by
 have hkeep:(∀r t,out.runs[k]? = some r->r.tasks[i]? = some t->¬t.state=3)->TR y out ((k,i)::l):=fun hno=>⟨h.good,h.now,by have:=h.seq;simp only[length_cons];omega,h.len,fun j m r2 u hr hu h3=>⟨fun hm=>by
  rcases mem_cons.1 hm with e | hm
  ·simp only[Prod.mk.injEq]at e;obtain⟨rfl,rfl⟩:=e;exact hno r2 u hr hu h3
  exact(h.sub j m r2 u hr hu h3).1 hm,(h.sub j m r2 u hr hu h3).2⟩⟩
 unfold kM;split
 ·next hr=>exact hkeep fun r t h1=>by rw[hr]at h1;cases h1
 next r hr=>
 split
 ·next ht=>exact hkeep fun r2 t h1 h2=>by rw[hr]at h1;cases h1;rw[ht]at h2;cases h2
 next t ht=>
 split
 ·next h3=>
  have hm:=mem_of_getElem? hr;have hR:=h.good.core.runs r hm;obtain⟨f1,f2,f3⟩:=aW5 hR ht h3;obtain⟨k1,k2,k3,_⟩:=lP r i;have hl:=(hR.1.live (mem_of_getElem? ht) h3).1;have hf:=fresh_fails hR ht h3;refine⟨h.good.change hr hl (hR.fails ht h3) k1 k2 k3 f2 (fun u hu hu3=>?_),h.now,?_,?_,fun j m r2 u hr2 hu hu3=>?_⟩
  ·obtain⟨j,hj⟩:=mem_iff_getElem?.1 hu;rw[k2];exact h.good.core.til r hm u (mem_of_getElem? (f1 j u hj hu3).2) hu3
  ·show y.seq<=out.seq+_/\out.seq+_<=_;have:=h.seq;simp only[length_cons];omega
  ·show (out.runs.set k _).length=_;rw[length_set];exact h.len
  have hr2:(out.runs.set k (bP r i))[j]? = some r2:=hr2;rw[getElem?_set]at hr2;by_cases e:k=j
  ·subst e;rw[if_pos rfl,if_pos (gsi_.1 hr).1]at hr2;cases hr2;obtain⟨g1,g2⟩:=f1 m u hu hu3;obtain⟨g3,g4⟩:=h.sub k m r u hr g2 hu3;exact⟨fun hc=>by
    rcases mem_cons.1 hc with e | hc
    ·simp only[Prod.mk.injEq]at e;exact g1 e.2
    exact g3 hc,g4⟩
  rw[if_neg e]at hr2;obtain⟨g3,g4⟩:=h.sub j m r2 u hr2 hu hu3;exact⟨fun hc=>by
   rcases mem_cons.1 hc with e2 | hc
   ·simp only[Prod.mk.injEq]at e2;exact e e2.1.symm
   exact g3 hc,g4⟩
 next h3=>exact hkeep fun r2 t2 h1 h2=>by rw[hr]at h1;cases h1;rw[ht]at h2;cases h2;exact h3
theorem TR.list {y:Yard}:∀(l:List (Nat×Nat)) {out:Yard}{q:List (Nat×Nat)},TR y out q->TR y (lX out l) (l.reverse++q)
 | [],out,q,h=>h
 | p::l,out,q,h=>by
  have:=TR.list l (h.turn p.1 p.2);rw[reverse_cons,append_assoc];exact this
theorem TR.time {y out:Yard}{l:List (Nat×Nat)}(h:TR y out l) (ht:InTime y):InTime out:=by
 intro r2 hr2 u hu h3;obtain⟨j,hj⟩:=mem_iff_getElem?.1 hr2;obtain⟨m,hm⟩:=mem_iff_getElem?.1 hu;obtain⟨_,r,hr,hu2⟩:=h.sub j m r2 u hj hm h3;rw[h.now];exact ht r (mem_of_getElem? hr) u (mem_of_getElem? hu2) h3
structure DG (y out:Yard):Prop where
 good:YG out
 time:InTime out
 seq:y.seq<=out.seq/\out.seq<=y.seq+100
theorem DG.same {y:Yard}(h:YG y) (ht:InTime y):DG y y:=⟨h,ht,by omega⟩
theorem aP8 {y:Yard}(h:YG y) {r:Run}(hr:r∈y.runs):r.tasks.length<=12:=(h.core.runs r hr).1.small.2.1
theorem restart_good {y:Yard}(h:YG y) (ht:InTime y):DG y (dO y):=by
 have hin:∀{out:Yard}{q:List (Nat×Nat)}(k n:Nat),TR y out q->∃q2,q2.length<=q.length+n/\TR y (qX out k n) q2:=by
  intro out q k n hT
  induction n with
  | zero=>exact⟨q,by omega,hT⟩
  | succ n ih=>
   obtain⟨q2,hl,hT2⟩:=ih;exact⟨(k,n)::q2,by simp only[length_cons];omega,hT2.turn k n⟩
 have hk:∀k,∃q,q.length<=12*k/\TR y (mZ y k) q:=by
  intro k
  induction k with
  | zero=>exact⟨[],Nat.zero_le _,TR.start h⟩
  | succ k ih=>
   obtain⟨q,hl,hT⟩:=ih;obtain⟨q2,hl2,hT2⟩:=hin k (sB y k) hT;refine⟨q2,?_,hT2⟩;have:sB y k<=12:=by
    unfold sB;split
    ·next r hr=>exact aP8 h (mem_of_getElem? hr)
    omega
   omega
 unfold dO;split
 ·obtain⟨q,hl,hT⟩:=hk y.runs.length;have:=h.core.eight;exact⟨hT.good,hT.time ht,by have:=hT.seq;omega⟩
 exact DG.same h ht
theorem bX1 {y:Yard}{j m:Nat}{r:Run}{u:Task}(hr:y.runs[j]? = some r) (hu:r.tasks[m]? = some u) (hl:rH y.now u=true):∀k,j<k->(j,m)∈jO y k
 | 0,h=>by omega
 | k+1,h=>by
  unfold jO;rw[mem_append];by_cases e:j=k
  ·subst e;right;rw[hr];simp only[mem_map];refine⟨m,?_,rfl⟩;unfold zZ;rw[mem_filter,mem_range];exact⟨(gsi_.1 hu).1,by rw[hu];exact hl⟩
  ·exact .inl (bX1 hr hu hl k aA)
theorem bE4 {y:Yard}(h:YG y):∀k,(jO y k).length<=12*k
 | 0=>Nat.le_refl _
 | k+1=>by
  have ih:=bE4 h k;unfold jO;rw[length_append];split
  ·next r hr=>
   have h1:=aE7 y.now r r.tasks.length;have h2:=aP8 h (mem_of_getElem? hr);rw[length_map];omega
  ·simp;omega
theorem YG.at {y:Yard}(h:YG y) {n:Int}(hn:y.now<=n/\n<=999999980):YG (nQ n y):=⟨⟨by have:=h.now;show 0<=n;omega,hn.2⟩,h.four,h.srt,h.core.later hn.1⟩
theorem tick_good {y:Yard}(h:YG y) (ht:InTime y):DG y (eE y).1:=by
 unfold eE;split
 ·exact DG.same h ht
 split
 ·exact DG.same h ht
 next hn=>
 have hT:=TR.list (cT y) (TR.start (h.at (n:=y.now+1) aA));rw[append_nil]at hT;have hl:(cT y).reverse.length<=96:=by
  have:=bE4 h y.runs.length;have:=h.core.eight;rw[length_reverse];unfold cT;omega
 refine⟨hT.good,fun r2 hr2 u hu h3=>?_,by
  have h1:=hT.seq;have h2:(nQ (y.now+1) y).seq=y.seq:=rfl;rw[h2]at h1;show y.seq<=(lX _ _).seq/\(lX _ _).seq<=_;omega⟩
 obtain⟨j,hj⟩:=mem_iff_getElem?.1 hr2;obtain⟨m,hm⟩:=mem_iff_getElem?.1 hu;obtain⟨g1,r,hr,hu2⟩:=hT.sub j m r2 u hj hm h3;have hr:y.runs[j]? = some r:=hr;have hnow:(bS0 y).now=y.now+1:=hT.now;show (bS0 y).now+1<=_;rw[hnow];refine Classical.byContradiction fun hc=>g1 ?_
 rw[mem_reverse];exact bX1 hr hu2 (by unfold rH;rw[decide_eq_true h3,decide_eq_true aA];rfl) _ (gsi_.1 hr).1
theorem bB3 {g:Run->Nat->Run}{y:Yard}{id task tr:Int}(h:YG y) (ht:InTime y) (hg:∀(r:Run) (i:Nat) (t:Task),RG r->r.tasks[i]? = some t->t.state=3->RG (g r i)/\(g r i).id=r.id/\(g r i).plan=r.plan/\(g r i).tasks.length=r.tasks.length /\
  (∀(j:Nat) (u:Task),(g r i).tasks[j]? = some u->u.state=3->r.tasks[j]? = some u)/\((g r i).state=1->∀(j:Nat) (v:Task),r.tasks[j]? = some v->v.state=2->∃u,(g r i).tasks[j]? = some u/\u.state=2)):DG y (wF g y id task tr):=by
 unfold wF;split
 ·next h0=>
  obtain⟨_,k,r,t,h1,h2,_,h4,h5,h6⟩:=aG8 h0;rw[h1];simp only[h2];have hm:=mem_of_getElem? h2;have hR:=h.core.runs r hm;obtain⟨g1,g2,g3,g4,g5,g6⟩:=hg r task.toNat t hR h5 h6;have hl:=(hR.1.live (mem_of_getElem? h5) h6).1;have hf:=nE r (g r task.toNat);have h12:=aP8 h hm;refine⟨h.change h2 hl g1 g2 g3 g4 g6 fun u hu hu3=>?_,fun r2 hr2 u hu hu3=>?_,?_⟩
  ·obtain⟨j,hj⟩:=mem_iff_getElem?.1 hu;rw[g3];exact h.core.til r hm u (mem_of_getElem? (g5 j u hj hu3)) hu3
  ·have hr2:r2∈y.runs.set k (g r task.toNat):=hr2;show y.now+1<=_;rcases mem_or_eq_of_mem_set hr2 with h7 | rfl
   ·exact ht r2 h7 u hu hu3
   obtain⟨j,hj⟩:=mem_iff_getElem?.1 hu;exact ht r hm u (mem_of_getElem? (g5 j u hj hu3)) hu3
  show y.seq<=y.seq+_/\y.seq+_<=_;omega
 exact DG.same h ht
theorem done_good {y:Yard}{id task tr:Int}(h:YG y) (ht:InTime y):DG y (fH y id task tr):=bB3 h ht fun r i t hR hi h3=>by
 obtain⟨d1,d2⟩:=hR.done hi h3;obtain⟨k1,k2,k3,_⟩:=nF r i;refine⟨d1,k1,k2,k3,fun j u hu hu3=>((d2 j u hu).1 hu3).2,fun _ j v hv hv2=>?_⟩;have hlt:j<(iW r i).tasks.length:=by rw[k3];exact(gsi_.1 hv).1
 exact⟨_,getElem?_eq_getElem hlt,(d2 j _ (getElem?_eq_getElem hlt)).2 v hv hv2⟩
theorem fail_good {y:Yard}{id task tr:Int}(h:YG y) (ht:InTime y):DG y (oZ y id task tr):=bB3 h ht fun r i t hR hi h3=>by
 obtain⟨f1,f2,f3⟩:=aW5 hR hi h3;obtain⟨k1,k2,k3,_⟩:=lP r i;exact⟨hR.fails hi h3,k1,k2,k3,fun j u hu hu3=>(f1 j u hu hu3).2,f2⟩
theorem gone_keeps {r:Run}(h1:tT r=true):(iQ r).id=r.id/\(iQ r).plan=r.plan/\(iQ r).tasks.length=r.tasks.length/\(iQ r).state=4/\∀u∈(iQ r).tasks,u.state=4∨u.state=6:=by
 rw[aN9 h1];refine⟨rfl,rfl,xR _ _,rfl,fun u hu=>?_⟩;have hu:u∈fB r.tasks (-1):=hu;rw[aU9]at hu;obtain⟨t,_,rfl⟩:=mem_map.1 hu;split
 ·next h=>exact .inl h
 exact .inr rfl
theorem cancel_good {y:Yard}{id:Int}(h:YG y) (ht:InTime y):DG y (bQ y id).1:=by
 unfold bQ;split
 ·exact DG.same h ht
 split
 ·next r hr=>
  split
  ·exact DG.same h ht
  split
  ·exact DG.same h ht
  next h1=>
  have h1:r.state=1:=by simpa using h1
  have hm:=mem_of_getElem? hr;have hR:=h.core.runs r hm;have hg:tT r=true:=by unfold tT;rw[runIs.2 hR.1,decide_eq_true h1];rfl
  obtain⟨k1,k2,k3,k4,k5⟩:=gone_keeps hg;have hc:=h.core.upd (X:=[]) (O:=y.shelf.flatten) (ts:=[]) hr h1 (hR.gone h1) k1 k2 k3 nodup_nil (fun i hi=>by cases hi) (fun e=>by omega) (fun j t hj h2=>by have:=k5 t (mem_of_getElem? hj);omega) (fun e he=>by cases he) (fun t htm h3=>by have:=k5 t htm;omega);refine⟨⟨h.now,h.four,h.srt,?_⟩,fun r2 hr2 u hu hu3=>?_,by show y.seq<=y.seq/\y.seq<=_;omega⟩
  ·have e:y.seq+(([]:List Int).length:Int)=y.seq:=by simp
   rw[e]at hc;exact hc
  have hr2:r2∈y.runs.set (aI y id).toNat (iQ r):=hr2;rcases mem_or_eq_of_mem_set hr2 with h7 | rfl
  ·exact ht r2 h7 u hu hu3
  have:=k5 u hu;omega
 exact DG.same h ht
theorem CG.add {now seq:Int}{es:List Entry}{rs:List Run}{r:Run}(h:CG now seq es rs) (h8:rs.length<8) (hR:RG r) (h1:r.state=1) (hid:∀q∈rs,¬q.id=r.id) (h3:∀t∈r.tasks,¬t.state=3) (hs:pP es rs+r.tasks.length<=40) :
  CG now (seq+(aK r.tasks 2).length) (aL9 r.plan.prio r.id (aK r.tasks 2) seq++es) (rs++[r]):=by
 have hno:∀e∈es,¬e.run=r.id:=fun e he hc=>by
  obtain⟨q,hq⟩:=h.ent e he;exact hid q hq.mem (by rw[hq.id,hc])
 refine⟨by have:=h.seq1;omega,?_,?_,by simp only[length_append,length_singleton];omega,?_,?_,?_,?_,?_,?_,?_⟩
 ·intro e he;rcases mem_append.1 he with he | he
  ·have:=gY he;have:=h.seq1;omega
  have:=h.seqs e he;omega
 ·rw[map_append,nodup_append];refine⟨aE1 _ _,h.nodup,?_⟩;intro a ha b hb;obtain⟨e,he,rfl⟩:=mem_map.1 ha;obtain⟨g,hg,rfl⟩:=mem_map.1 hb;have:=(gY he).2.2.2.1;have:=(h.seqs g hg).2;omega
 ·intro q hq;rcases mem_append.1 hq with hq | hq
  ·exact h.runs q hq
  rw[mem_singleton]at hq;subst hq;exact hR
 ·rw[map_append,nodup_append];refine⟨h.ids,by simp,?_⟩;intro a ha b hb;obtain⟨q,hq,rfl⟩:=mem_map.1 ha;simp only[map_cons,map_nil,mem_singleton]at hb;subst hb;exact hid q hq
 ·intro e he;rcases mem_append.1 he with he | he
  ·obtain⟨e1,e2,e3,_⟩:=gY he;obtain⟨e4,t,ht,h2⟩:=tasksIn_iff.1 e3;exact⟨r,by simp,e2.symm,e4,⟨t,ht,fun _=>h2⟩,e1⟩
  obtain⟨q,hq⟩:=h.ent e he;exact⟨q,mem_append_left _ hq.mem,hq.id,hq.lo,hq.task,hq.prio⟩
 ·rw[map_append,nodup_append];refine⟨aE2 _ (qG _ _),h.keys,?_⟩;intro a ha b hb;obtain⟨e,he,rfl⟩:=mem_map.1 ha;obtain⟨g,hg,rfl⟩:=mem_map.1 hb;intro e2;simp only[Prod.mk.injEq]at e2;exact hno g hg (by rw[<- e2.1,(gY he).2.1])
 ·intro q hq k t ht h2;rcases mem_append.1 hq with hq | hq
  ·obtain⟨e,he,h4⟩:=h.has q hq k t ht h2;exact⟨e,mem_append_right _ he,h4⟩
  rw[mem_singleton]at hq;subst hq;obtain⟨e,he,h4⟩:=bN6 (p:=q.plan.prio) (id:=q.id) (q:=seq) (tasksIn_iff.2 ⟨by omega,t,by rw[Int.toNat_natCast];exact ht,h2⟩:(k:Int)∈aK q.tasks 2);exact⟨e,mem_append_left _ he,h4⟩
 ·intro q hq t ht h4;rcases mem_append.1 hq with hq | hq
  ·exact h.til q hq t ht h4
  rw[mem_singleton]at hq;subst hq;exact absurd h4 (h3 t ht)
 have e1:pP (aL9 r.plan.prio r.id (aK r.tasks 2) seq++es) (rs++[r])=pP es rs+r.tasks.length:=by
  unfold pP;rw[map_append,sum_append];congr 1
  ·refine aQ4 fun q hq=>?_
   unfold wR;rw[uC,bH0 (fun e he=>by rw[(gY he).2.1];exact fun hc=>hid q hq hc.symm),Nat.zero_add]
  simp[wR,h1]
 omega
theorem runAt_no {y:Yard}{id:Int}(h8:y.runs.length<=8) (h:¬0<=aI y id):∀q∈y.runs,¬q.id=id:=by
 intro q hq e;unfold aI cJ at h;rw[if_pos h8]at h;cases hx:kV (fun r=>decide (r.id=id)) y.runs with
 | none=>
  have:=aV3 hx q hq;simp[e]at this
 | some k=>rw[hx]at h;exact h (by show (0:Int)<=(k:Int);omega)
theorem submit_good {y:Yard}{id:Int}{p:Plan}(h:YG y) (ht:InTime y):DG y (aY y id p).1:=by
 unfold aY
 repeat' split
 all_goals first | exact DG.same h ht | skip
 next h1 h2 h3 h4 h5=>
  have hroom:jA y p=true:=by simpa using h5
  unfold jA at hroom;simp only[Bool.and_eq_true,decide_eq_true_eq]at hroom;obtain⟨⟨⟨r1,r2⟩,r3⟩,r4⟩:=hroom;have hidr:=inB_iff.1 (show inB id 1 9999=true by simpa using h2);have hpf:aC p=0:=by simpa using h4
  have hpl:=(jV hpf).1;have htk:1<=p.tasks/\p.tasks<=12:=by unfold aR at hpl;omega
  have hlen:(aZ id p).tasks.length=p.tasks.toNat:=hU p _;have hst:∀t∈(aZ id p).tasks,¬t.state=3:=by
   intro t hm;have hm:t∈(List.range p.tasks.toNat).map (mK p):=hm;obtain⟨k,_,rfl⟩:=mem_map.1 hm;unfold mK;simp only;split<;>omega
  have hc:=h.core.add aA (RG.new hidr hpf) rfl (runAt_no h.core.eight h3) hst (by have:=bS6 h.core;omega);have hsr:=gE id;have hl:=kN (aZ id p).tasks 2;have hl2:=vS (aZ id p).tasks 2;refine⟨⟨h.now,?_,?_,?_⟩,fun r2 hr2 u hu hu3=>?_,?_⟩
  ·show (fN _ _ _ _ _ _).length=4;rw[kG];exact h.four
  ·exact aD3 _ _ _ h.srt fun e he=>(h.core.seqs e he).2
  ·exact hc.perm (xF _ _ _ (by rw[h.four];omega)).symm
  ·have hr2:r2∈y.runs++[aZ id p]:=hr2;rcases mem_append.1 hr2 with h7 | h7
   ·exact ht r2 h7 u hu hu3
   rw[mem_singleton]at h7;subst h7;exact absurd hu3 (hst u hu)
  show y.seq<=y.seq+_/\y.seq+_<=_;omega
theorem erase_mem {α:Type}{l:List α}{k:Nat}{r q:α}(hr:l[k]? = some r) (hq:q∈l) (hn:¬q=r):q∈l.eraseIdx k:=by
 obtain⟨j,hj,rfl⟩:=getElem_of_mem hq;have hjk:¬k=j:=by
  intro e;subst e;rw[getElem?_eq_getElem hj]at hr;exact hn (Option.some.inj hr)
 refine mem_eraseIdx_iff_getElem?.2 ⟨j,fun e=>hjk e.symm,getElem?_eq_getElem hj⟩
theorem CG.forget {now seq:Int}{es:List Entry}{rs:List Run}{k:Nat}{r:Run}(h:CG now seq es rs) (hr:rs[k]? = some r):CG now seq (es.filter fun e=> !decide (e.run=r.id)) (rs.eraseIdx k):=by
 have hm:=mem_of_getElem? hr;have hsub:∀q∈rs.eraseIdx k,q∈rs:=fun q hq=>mem_of_mem_eraseIdx hq
 have hne:∀q∈rs.eraseIdx k,¬q.id=r.id:=by
  intro q hq e;obtain⟨j,hj,hq2⟩:=mem_eraseIdx_iff_getElem?.1 hq;have:j=k:=(getElem?_inj (l:=rs.map (·.id)) (by have:=(gsi_.1 hq2).1;simpa using this) h.ids).1 (by rw[getElem?_map,getElem?_map,hq2,hr];simp[e]);exact hj this
 have hf:∀e∈es.filter fun e=> !decide (e.run=r.id),e∈es/\¬e.run=r.id:=fun e he=>by
  have:=mem_filter.1 he;exact⟨this.1,by simpa using this.2⟩
 refine⟨h.seq1,fun e he=>h.seqs e (hf e he).1,h.nodup.sublist (filter_sublist.map _),by have:=h.eight;have:=length_eraseIdx_le rs k;omega,fun q hq=>h.runs q (hsub q hq),h.ids.sublist ((eraseIdx_sublist rs k).map _),fun e he=>?_,h.keys.sublist (filter_sublist.map _),fun q hq j t ht h2=>?_,fun q hq=>h.til q (hsub q hq),?_⟩
 ·obtain⟨q,hq⟩:=h.ent e (hf e he).1;exact⟨q,erase_mem hr hq.mem (fun e2=>(hf e he).2 (by rw[<- hq.id,e2])),hq.id,hq.lo,hq.task,hq.prio⟩
 ·obtain⟨e,he,h3,h4⟩:=h.has q (hsub q hq) j t ht h2;exact⟨e,mem_filter.2 ⟨he,by have:=hne q hq;simp[h3,this]⟩,h3,h4⟩
 refine Nat.le_trans ?_ h.slots;have h1:pP (es.filter fun e=> !decide (e.run=r.id)) (rs.eraseIdx k)<=pP es (rs.eraseIdx k):=yX fun q _=>by
  unfold wR;split
  ·omega
  unfold oC;rw[filter_filter];refine(List.Sublist.length_le ?_);rw[show (es.filter fun a=>decide (a.run=q.id) && !decide (a.run=r.id))=(es.filter fun e=>decide (e.run=q.id)).filter fun e=> !decide (e.run=r.id) by rw[filter_filter];congr 1;funext a;exact Bool.and_comm _ _];exact filter_sublist
 refine Nat.le_trans h1 ?_;unfold pP;have h2:((rs.eraseIdx k).map (wR es)).Sublist (rs.map (wR es)):=(eraseIdx_sublist rs k).map _;exact sum_sub h2
where
 sum_sub {a b:List Nat}(h:a.Sublist b):a.sum<=b.sum:=by
  induction h with
  | slnil=>exact Nat.le_refl _
  | cons x _ ih=>rw[sum_cons];omega
  | cons_cons x _ ih=>rw[sum_cons,sum_cons];omega
theorem bW9 (p:Entry->Bool):∀xss:List (List Entry),(xss.map (fun l=>l.filter p)).flatten=xss.flatten.filter p
 | []=>rfl
 | x::xss=>by rw[map_cons,flatten_cons,flatten_cons,filter_append,bW9 p xss]
theorem forget_good {y:Yard}{id:Int}(h:YG y) (ht:InTime y):DG y (bE y id).1:=by
 unfold bE;split
 ·exact DG.same h ht
 split
 ·next r hr=>
  split
  ·exact DG.same h ht
  next hlt=>
  split
  ·exact DG.same h ht
  have hid:r.id=id:=by
   cases hx:cJ y id with
   | none=>unfold aI at hlt;rw[hx]at hlt;exact absurd fL hlt
   | some k=>
    have hk:aI y id=(k:Int):=dC hx;rw[hk,Int.toNat_natCast]at hr;unfold cJ at hx;split at hx
    ·obtain⟨h1,h2⟩:=aA0 hx;rw[getElem?_eq_getElem h1]at hr;cases hr;simpa using h2
    cases hx
  have hc:=h.core.forget hr;rw[hid]at hc;refine⟨⟨h.now,by show (y.shelf.map _).length=4;rw[length_map];exact h.four,fun l hl=>?_,?_⟩,fun r2 hr2 u hu hu3=>ht r2 (mem_of_mem_eraseIdx hr2) u hu hu3,by show y.seq<=y.seq/\y.seq<=_;omega⟩
  ·have hl:l∈y.shelf.map (flE id):=hl;obtain⟨q,hq,rfl⟩:=mem_map.1 hl;exact(h.srt q hq).sublist filter_sublist
  show CG y.now y.seq (y.shelf.map (flE id)).flatten (y.runs.eraseIdx (aI y id).toNat);have e:(y.shelf.map (flE id)).flatten=y.shelf.flatten.filter fun e=> !decide (e.run=id):=bW9 _ _
  rw[e];exact hc
 exact DG.same h ht
theorem rJ {xss:List (List Entry)}{s:Nat}(h:s<xss.length):xss.getD s []∈xss:=by
 rw[getD_eq_getElem?_getD,getElem?_eq_getElem h];exact getElem_mem h
theorem aQ2 {y:Yard}{s:Int}(h:YG y) (hs:0<=s/\s<=3):YG (aW y s):=by
 rw[uN hs h.four];have hlt:s.toNat<y.shelf.length:=by rw[h.four];omega
 refine⟨h.now,by show (y.shelf.set _ _).length=4;rw[length_set];exact h.four,fun l hl=>?_,?_⟩
 ·rcases mem_or_eq_of_mem_set hl with h1 | rfl
  ·exact h.srt l h1
  exact(h.srt _ (rJ hlt)).sublist filter_sublist
 show CG y.now y.seq (y.shelf.set s.toNat ((y.shelf.getD s.toNat []).filter (fresh y))).flatten y.runs;refine CG.perm ?_ (qW hlt _).symm;have hp:y.shelf.flatten.Perm (((y.shelf.getD s.toNat []).filter fun e=> !fresh y e)++((y.shelf.getD s.toNat []).filter (fresh y)++(y.shelf.eraseIdx s.toNat).flatten)):=by
  refine(vK hlt).trans ?_;rw[<- append_assoc];refine List.Perm.append_right _ ((filter_append_perm (fresh y) (y.shelf.getD s.toNat [])).symm.trans ?_);exact perm_append_comm
 refine(h.core.perm hp).drop fun e he r hr hi=>?_
 have he2:=mem_filter.1 he;exact gd_fresh_out h.core e (mem_flatten.2 ⟨_,rJ hlt,he2.1⟩) (by simpa using he2.2) r hr hi
theorem tW:∀(b a:List Entry),(b.foldl gM a).Perm (b++a)
 | [],a=>List.Perm.refl _
 | e::b,a=>by
  rw[foldl_cons];refine(tW b (gM a e)).trans ((List.Perm.append_left _ (uX a e)).trans ?_);exact perm_middle
theorem wQ:∀(b a:List Entry),Srt a->((b++a).map (·.seq)).Nodup->Srt (b.foldl gM a)
 | [],a,h,_=>h
 | e::b,a,h,hn=>by
  rw[foldl_cons];rw[cons_append,map_cons,nodup_cons]at hn;refine wQ b (gM a e) (bU0 h fun x hx he=>hn.1 (mem_map.2 ⟨x,mem_append_right _ hx,he⟩)) ?_;have hp:(b++gM a e).Perm (e::(b++a)):=(List.Perm.append_left _ (uX a e)).trans perm_middle;refine(hp.map _).nodup_iff.2 ?_;rw[map_cons,nodup_cons];exact hn
theorem rob_good {y:Yard}{home o:Nat}(h:YG y) (hh:home<4) (ho:o<4) (hne:¬home=o):YG (aL7 y home o):=by
 have h1:home<y.shelf.length:=by rw[h.four];exact hh
 have h2:o<y.shelf.length:=by rw[h.four];exact ho
 have hmem:∀s,s<y.shelf.length->∀e∈y.shelf.getD s [],e∈y.shelf.flatten:=fun s hs e he=>mem_flatten.2 ⟨_,rJ hs,he⟩
 have p1:=vK h1;have p2:(y.shelf.eraseIdx home).flatten.Perm (y.shelf.getD o []++((y.shelf.eraseIdx home).eraseIdx (if o<home then o else o-1)).flatten):=by
  have hl:(y.shelf.eraseIdx home).length=3:=by rw[length_eraseIdx_of_lt h1,h.four]
  have:=vK (xss:=y.shelf.eraseIdx home) (s:=if o<home then o else o-1) (by split<;>omega);have e:(y.shelf.eraseIdx home).getD (if o<home then o else o-1) []=y.shelf.getD o []:=by
   rw[getD_eq_getElem?_getD,getD_eq_getElem?_getD,getElem?_eraseIdx];split
   ·rfl
   next hc=>rw[if_neg aA,show o-1+1=o by omega]
  rwa [e]at this
 generalize hE:((y.shelf.eraseIdx home).eraseIdx (if o<home then o else o-1)).flatten=E at p2;generalize ha:y.shelf.getD home []=a at p1;generalize hb:y.shelf.getD o []=b at p2;have hall:y.shelf.flatten.Perm (a++(b++E)):=p1.trans (List.Perm.append_left _ p2);have hlen:=hall.length_eq;have h40:=h.core.len;simp only[length_append]at hlen;have htl:(b.take (bN b)).length<=b.length:=by rw[length_take];omega
 have hmrg:dS a (b.take (bN b))=(b.take (bN b)).foldl gM a:=by
  unfold dS;rw[if_neg aA]
 have hnod:((b.take (bN b)++a).map (·.seq)).Nodup:=by
  have hn:=(hall.map (·.seq)).nodup_iff.1 h.core.nodup;have hp3:(a++(b++E)).Perm (b++(a++E)):=by
   rw[<- append_assoc,<- append_assoc];exact List.Perm.append_right _ perm_append_comm
  have hn2:=(hp3.map (·.seq)).nodup_iff.1 hn;refine hn2.sublist (List.Sublist.map _ ?_);exact(take_sublist _ _).append (sublist_append_left _ _)
 have hsa:Srt a:=by rw[<- ha];exact h.srt _ (rJ h1)
 have hsb:Srt b:=by rw[<- hb];exact h.srt _ (rJ h2)
 have e1:aL7 y home o=nH (nH y home ((b.take (bN b)).foldl gM a)) o (b.drop (bN b)):=by
  unfold aL7;rw[ha,hb,hmrg]
 rw[e1];refine⟨h.now,by show ((y.shelf.set _ _).set _ _).length=4;rw[length_set,length_set];exact h.four,fun l hl=>?_,?_⟩
 ·have hl:l∈(y.shelf.set home ((b.take (bN b)).foldl gM a)).set o (b.drop (bN b)):=hl;rcases mem_or_eq_of_mem_set hl with h3 | rfl
  ·rcases mem_or_eq_of_mem_set h3 with h3 | rfl
   ·exact h.srt l h3
   exact wQ _ _ hsa hnod
  exact hsb.sublist (drop_sublist _ _)
 show CG y.now y.seq ((y.shelf.set home ((b.take (bN b)).foldl gM a)).set o (b.drop (bN b))).flatten y.runs;refine h.core.perm ?_;have q1:=qW h1 ((b.take (bN b)).foldl gM a);have q2:=vK (xss:=y.shelf.set home ((b.take (bN b)).foldl gM a)) (s:=o) (by rw[length_set];exact h2);rw[pV hne,hb]at q2;have q3:=qW (xss:=y.shelf.set home ((b.take (bN b)).foldl gM a)) (s:=o) (by rw[length_set];exact h2) (b.drop (bN b));refine List.Perm.trans ?_ q3.symm;generalize ((y.shelf.set home ((b.take (bN b)).foldl gM a)).eraseIdx o).flatten=E2 at q2 q3;have c1:(b++E2).Perm (b.take (bN b)++y.shelf.flatten):=by
  refine q2.symm.trans (q1.trans ((List.Perm.append_right _ (tW _ _)).trans ?_));rw[append_assoc];exact List.Perm.append_left _ p1.symm
 have c2:(b.take (bN b)++(b.drop (bN b)++E2)).Perm (b.take (bN b)++y.shelf.flatten):=by
  rw[<- append_assoc,take_append_drop];exact c1
 exact((perm_append_left_iff _).1 c2).symm
theorem aJ5 {home:Nat}(hh:home<4):∀{l:List Int}{y:Yard},(∀o∈l,0<=o/\o<=3/\o≠(home:Int))->YG y->YG (eV home y l)
 | [],y,_,h=>h
 | o::l,y,hl,h=>by
  have ho:=hl o mem_cons_self;unfold eV;rw[foldl_cons];refine aJ5 hh (l:=l) (fun q hq=>hl q (mem_cons_of_mem _ hq)) ?_;unfold zL;split
  ·exact rob_good (aQ2 h ⟨ho.1,ho.2.1⟩) hh aA aA
  ·exact h
theorem given_good {y:Yard}{home:Nat}(h:YG y) (ht:InTime y) (hh:home<4) (hf:∀e∈y.shelf.getD home [],fresh y e=true):DG y (qJ y home).1:=by
 unfold qJ;split
 ·exact DG.same h ht
 next e rest hs=>
 split
 ·exact DG.same h ht
 next k hk=>
 split
 ·exact DG.same h ht
 next r hr=>
 split
 ·exact DG.same h ht
 next t hti=>
 have h1:home<y.shelf.length:=by rw[h.four];exact hh
 have p1:=vK h1;rw[hs]at p1;have hm:=mem_of_getElem? hr;have hR:=h.core.runs r hm;have hem:e∈y.shelf.flatten:=p1.mem_iff.2 (mem_append_left _ mem_cons_self);obtain⟨q,hq⟩:=h.core.ent e hem;have hqr:q=r:=by
  obtain⟨j,hj,e1⟩:=getElem_of_mem hq.mem;have:=aR7 h.core.eight h.core.ids (show y.runs[j]? = some q by rw[getElem?_eq_getElem hj,e1]);rw[hq.id,hk]at this;cases this;rw[getElem?_eq_getElem hj,e1]at hr;exact Option.some.inj hr
 subst hqr;have hfe:=hf e (by rw[hs];exact mem_cons_self);rw[aF0 h.core hq]at hfe;have hs1:q.state=1:=by simpa using hfe
 obtain⟨t2,ht2,h22⟩:=hq.task;rw[hti]at ht2;cases ht2;have h2:=h22 hs1;have hRs:=hR.start (now:=y.now) h.now hti h2;have hpl:=(jV hR.1.plan).1;have hw:1<=q.plan.wait:=by unfold aR at hpl;omega
 obtain⟨hil,hie⟩:=gsi_.1 hti;have hg:∀j:Nat,¬j=e.task.toNat->(gK q e.task.toNat t y.now).tasks[j]? = q.tasks[j]? := fun j hj=>by
  show (q.tasks.set _ _)[j]? = _;rw[getElem?_set,if_neg (fun e2=>hj e2.symm)]
 have hgi:(gK q e.task.toNat t y.now).tasks[e.task.toNat]? = some ⟨3,t.need,t.try_+1,y.now+q.plan.wait⟩:=by
  show (q.tasks.set _ _)[_]? = _;rw[getElem?_set_self hil]
 have hperm:y.shelf.flatten.Perm ([e]++(rest++(y.shelf.eraseIdx home).flatten)):=p1;have hcp:=h.core.perm hperm;have hlo:=hq.lo;have htil:∀u∈(gK q e.task.toNat t y.now).tasks,u.state=3->u∈q.tasks∨u.until_=y.now+q.plan.wait:=fun u hu h3=>by
  rcases mem_or_eq_of_mem_set hu with h4 | rfl
  ·exact .inl h4
  exact .inr rfl
 have hother:∀g∈rest++(y.shelf.eraseIdx home).flatten,g.run=q.id->¬g.task=e.task:=fun g hg hgr hgt=>by
  have hk2:=hcp.keys;rw[map_append,nodup_append]at hk2;exact hk2.2.2 (e.run,e.task) (by simp) (g.run,g.task) (mem_map.2 ⟨g,hg,rfl⟩) (by rw[hgr,hq.id,hgt])
 have hc:=hcp.upd (ts:=[]) (r':=gK q e.task.toNat t y.now) hr hs1 hRs rfl rfl (length_set) nodup_nil (fun i hi=>by cases hi) (fun _ g hgO hgr=>?_) (fun j u hu hu2=>?_) (fun g hgm=>by rw[mem_singleton]at hgm;rw[hgm];exact hq.id.symm) (fun u hu h3=>?_)
 ·have e0:y.seq+(([]:List Int).length:Int)=y.seq:=by simp
  rw[e0]at hc;refine⟨⟨h.now,by show (y.shelf.set _ _).length=4;rw[length_set];exact h.four,fun l hl=>?_,hc.perm (qW h1 rest).symm⟩,fun r2 hr2 u hu hu3=>?_,by show y.seq<=y.seq/\y.seq<=_;omega⟩
  ·rcases mem_or_eq_of_mem_set hl with h3 | rfl
   ·exact h.srt l h3
   have:=h.srt _ (rJ h1);rw[hs]at this;exact(pairwise_cons.1 this).2
  rcases mem_or_eq_of_mem_set hr2 with h7 | rfl
  ·exact ht r2 h7 u hu hu3
  show y.now+1<=_;rcases htil u hu hu3 with h8 | h8
  ·exact ht q hm u h8 hu3
  omega
 ·have hgm:g∈y.shelf.flatten:=hperm.mem_iff.2 (mem_append_right _ hgO);obtain⟨q2,hq2⟩:=h.core.ent g hgm;have:q2=q:=h.core.one hq2.mem hm (by rw[hq2.id,hgr]);subst this;obtain⟨v,hv,hv2⟩:=hq2.task;have hne:=hother g hgO hgr;have hlo2:=hq2.lo;exact⟨v,by rw[hg _ aA];exact hv,hv2 hs1⟩
 ·right;have hj:¬j=e.task.toNat:=by
   intro e2;subst e2;rw[hgi]at hu;cases hu;exact absurd (show (3:Int)=2 from hu2) aA
  rw[hg j hj]at hu;obtain⟨g,hg2,g1,g2⟩:=hcp.has q hm j u hu hu2;rcases mem_append.1 hg2 with h5 | h5
  ·rw[mem_singleton]at h5;subst h5;exact absurd aA hj
  exact⟨g,h5,g1,g2⟩
 show u.until_<=y.now+q.plan.wait;rcases htil u hu h3 with h8 | h8
 ·exact h.core.til q hm u h8 h3
 omega
theorem InTime.runs {y y':Yard}(h:InTime y) (hn:y'.now=y.now) (hr:y'.runs=y.runs):InTime y':=by
 unfold InTime at *;rw[hn,hr];exact h
theorem poll_good {y:Yard}{w d:Int}(h:YG y) (ht:InTime y) (hs:y.seq<=1000000000):DG y (gB y w d).1:=by
 unfold gB;rw[if_neg (by rw[h.ok ht hs];simp)];split
 ·exact DG.same h ht
 next hw=>
 have hh:((w % 4).toNat:Int)=w % 4:=by omega
 have hY:=kE (h.ok ht hs);have hl:∀o∈bU (w % 4) d,0<=o/\o<=3/\o≠((w % 4).toNat:Int):=by
  rw[hh];exact mU aA
 have hP:=PI.all hY (home:=(w % 4).toNat) aA hl (PI.start hY aA);rw[hh]at hP;have g1:=aJ5 (home:=(w % 4).toNat) aA hl (aQ2 h (s:=w % 4) aA);have g2:=given_good g1 (ht.runs hP.now hP.runs) (home:=(w % 4).toNat) aA fun e he=>by
  rw[aV8 hP.runs];exact hP.fresh e he
 exact⟨g2.good,g2.time,by have:=g2.seq;rw[hP.seq]at this;exact this⟩
theorem bP2 {y:Yard}(d:Deed) (h:YG y) (ht:InTime y) (hs:y.seq<=1000000000):DG y (doD y d).1:=by
 unfold doD
 repeat' split
 ·exact DG.same h ht
 ·exact submit_good h ht
 ·exact poll_good h ht hs
 ·exact done_good h ht
 ·exact fail_good h ht
 ·exact tick_good h ht
 ·exact cancel_good h ht
 ·exact forget_good h ht
 all_goals exact restart_good h ht
theorem gd_new:YG yardNew/\InTime yardNew:=by
 refine⟨⟨by show (0:Int)<=0/\(0:Int)<=999999980;omega,rfl,fun l hl=>?_,?_⟩,fun r hr=>by cases hr⟩
 ·have hl:l∈List.replicate 4 ([]:List Entry):=hl;rw[(mem_replicate.1 hl).2];exact List.Pairwise.nil
 have e:yardNew.shelf.flatten=[]:=rfl;rw[e];exact⟨by show (1:Int)<=1;omega,fun e h=>(by cases h),nodup_nil,Nat.zero_le _,fun r h=>(by cases h),nodup_nil,fun e h=>(by cases h),nodup_nil,fun r h=>(by cases h),fun r h=>(by cases h),Nat.zero_le _⟩
end Go.Proofs.YtjihdmlkpkkpbaaGreat
