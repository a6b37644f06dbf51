/-
  Disks: what is right, what is written, synced, cut, moved. Plain theory.
  A file looked for, of the program; told to the reader.
  Disks: right or not, copied, of both.
  Disks: written, synced, cut, of both.
  Rows of numbers in bytes, read.
  Numbers that are read one by one. Theory alone.
  Numbers read one by one out of a text, of the reference; numbers handed out, of the program.
  A shelf read out of a text, of the reference.
  A plan's numbers, of the program.
  A yard read out of numbers: what both readers do, and what they find. Plain theory.
  A mark read, of the program, given how yards are read and written.
  Four bytes of a number are that number's. Plain theory.
  When a yard is right: of the program and of the reference.
  Both readers of yards are one, and both readers of marks. Plain theory.
  Yards that are right or not, of both; told to the reader.
  A yard's numbers, as they are put one behind the other. Plain theory; older contracts told anew.
  Plans, runs, yards copied, of both; told to the reader.
  A new yard, engine, world.
  A new yard, of both; told to the reader.
  Engines: right or not, copied, of both.
  An element of an owned slice is left out.
  Disks: moved, of both.
  A yard's text, of the program.
  A yard's text, of the reference.
  A mark's steps, plain.
  A mark's steps, of both.
  A mark's steps, as calls; their weights.
  A mark, of both.
  Plans and deeds that are drawn. Told to the reader.
  The laws' comparisons.
  DeedOk of the program, and what the reference looks at.
  DeedOk of the reference; SpanOk.
  Room for a run, of both.
  An entry put on a shelf, of both.
  What a yard gets on its shelf, of the program.
  Yards of which runs are turned: what is kept. Theory alone.
  What a worker is given, and from which shelf. Theory alone.
  Who holds what, room, new runs, shelves that are taken from, of both; told to the reader.
  What was told to the reader, as calls (for the older walks).
-/
import Derived.Test.YtpdgdnpajmcaeaaGreatQ01
import Derived.Test.YtpdgdnpajmcaeaaGreatQ02
import Derived.Test.YtpdgdnpajmcaeaaGreatQ03
import Derived.Test.YtpdgdnpajmcaeaaGreatQ04
set_option linter.unusedSimpArgs false
set_option linter.unusedVariables false
namespace Go.Proofs.YtpdgdnpajmcaeaaGreat
set_option maxRecDepth 100000
set_option maxHeartbeats 2000000
open Go.RowKit Go.Proofs.Tryz List
def jU (nm:ByteArray):Bool:=inB (nm.size:Int) 1 10
structure fileOkP (fs:List File) (k:Nat) (f:File):Prop where
 name:jU f.name=true
 at_:fAt fs f.name=(k:Int)
 data:(f.data.size:Int)<=60000
 safe:inB f.safe 0 (f.data.size:Int)=true
structure diskP (d:Disk):Prop where
 four:d.files.length<=4
 ok:∀k f,d.files[k]? = some f->fileOkP d.files k f
noncomputable def aP (d:Disk):Bool:=pB (diskP d)
theorem diskOk_iff {d:Disk}:aP d=true↔diskP d:=pB_iff
structure DkJ (d:Disk) (k:Nat):Prop where
 le:k<=d.files.length
 four:d.files.length<=4
 ok:∀j f,j<k->d.files[j]? = some f->fileOkP d.files j f
theorem DkJ.start {d:Disk}(h:¬(4:Int)<d.files.length):DkJ d 0:=⟨Nat.zero_le _,by omega,fun j f h=>by omega⟩
theorem DkJ.next {d:Disk}{k:Nat}{f:File}(h:DkJ d k) (hf:d.files[k]? = some f) (hok:fileOkP d.files k f):DkJ d (k+1):=by
 refine⟨(gsi_.1 hf).1,h.four,fun j g hj hg=>?_⟩;rcases Nat.lt_succ_iff_lt_or_eq.1 hj with h1 | rfl
 ·exact h.ok j g h1 hg
 rw[hf]at hg;cases hg;exact hok
theorem cC7 {d:Disk}(h:(4:Int)<d.files.length):false=aP d:=(kX fun hp=>by have:=hp.four;omega).symm
theorem pZ {d:Disk}{k:Nat}{f:File}(hf:d.files[k]? = some f) (h:¬fileOkP d.files k f):false=aP d:=(kX fun hp=>h (hp.ok k f hf)).symm
theorem cC8 {d:Disk}{k:Nat}(h:DkJ d k) (hk:¬(k:Int)<d.files.length):true=aP d:=(pQ ⟨h.four,fun j f hf=>h.ok j f (by have:=(gsi_.1 hf).1;omega) hf⟩).symm
theorem wV {d:Disk}(h:aP d=true) {k:Nat}{f:File}(hf:d.files[k]? = some f):f.data.size<=60000:=by
 have:=((diskOk_iff.1 h).ok k f hf).data;omega
theorem rE {d:Disk}(h:aP d=true):d.files.length<=4:=(diskOk_iff.1 h).four
def wrK (d:Disk) (nm:ByteArray):Nat:=if fAt d.files nm<0 then d.files.length else (fAt d.files nm).toNat
def wrB (d:Disk) (nm:ByteArray):List File:=if fAt d.files nm<0 then d.files++[⟨nm,⟨#[]⟩,0⟩] else d.files
def nV (f:File) (more:ByteArray):File:=⟨f.name,f.data++more,f.safe⟩
def wrD (d:Disk) (nm more:ByteArray):Disk:=
 match (wrB d nm)[wrK d nm]? with
 | some f=>⟨(wrB d nm).set (wrK d nm) (nV f more)⟩
 | none=>d
theorem tR {d:Disk}{nm:ByteArray}(h:fAt d.files nm<0):wrB d nm=d.files++[⟨nm,⟨#[]⟩,0⟩]/\wrK d nm=d.files.length:=by
 unfold wrB wrK;rw[if_pos h,if_pos h];exact⟨rfl,rfl⟩
theorem tS {d:Disk}{nm:ByteArray}(h:¬fAt d.files nm<0):wrB d nm=d.files/\(wrK d nm:Int)=fAt d.files nm:=by
 unfold wrB wrK;rw[if_neg h,if_neg h];exact⟨rfl,by omega⟩
theorem aK3 (d:Disk) (nm:ByteArray):∃f,(wrB d nm)[wrK d nm]? = some f:=by
 by_cases h:fAt d.files nm<0
 ·obtain⟨e1,e2⟩:=tR h;rw[e1,e2];exact⟨⟨nm,⟨#[]⟩,0⟩,by simp⟩
 obtain⟨e1,e2⟩:=tS h;obtain⟨k,hk,hlt⟩:=oK h;rw[e1];exact⟨_,getElem?_eq_getElem aA⟩
theorem sK {d:Disk}{nm:ByteArray}{f:File}(more:ByteArray) (hf:(wrB d nm)[wrK d nm]? = some f):wrD d nm more=⟨(wrB d nm).set (wrK d nm) (nV f more)⟩:=by
 unfold wrD;rw[hf]
theorem mH {d:Disk}{nm:ByteArray}(h:aP d=true) {k:Nat}{f:File}(hf:(wrB d nm)[k]? = some f):f.data.size<=60000:=by
 unfold wrB at hf;split at hf
 ·rcases Nat.lt_or_ge k d.files.length with h1 | h1
  ·rw[getElem?_append_left h1]at hf;exact wV h hf
  rw[getElem?_append_right h1]at hf;have:=mem_of_getElem? hf;simp only[mem_singleton]at this;subst this;exact Nat.zero_le _
 exact wV h hf
noncomputable def dM (d:Disk) (nm more:ByteArray):Disk×Bool:=if aP d=true/\aP (wrD d nm more)=true then (wrD d nm more,true) else (d,false)
theorem xI {d:Disk}{nm more:ByteArray}(h:¬(aP d=true/\aP (wrD d nm more)=true)):(d,false)=dM d nm more:=by unfold dM;rw[if_neg h]
theorem bG4 {d:Disk}{nm more:ByteArray}(h1:aP d=true) (h2:aP (wrD d nm more)=true):(wrD d nm more,true)=dM d nm more:=by unfold dM;rw[if_pos ⟨h1,h2⟩]
theorem bV9 {d:Disk}{nm more:ByteArray}(h:(60000:Int)<more.size):¬aP (wrD d nm more)=true:=by
 intro hk;obtain⟨f,hf⟩:=aK3 d nm;rw[sK more hf]at hk;have hlt:=(gsi_.1 hf).1;have:=wV hk (k:=wrK d nm) (f:=nV f more) (by simp[hlt]);unfold nV at this;simp only[ByteArray.size_append]at this;omega
def bG5 (f:File):File:=⟨f.name,f.data,(f.data.size:Int)⟩
def synD (d:Disk) (nm:ByteArray):Disk:=
 match d.files[(fAt d.files nm).toNat]? with
 | some f=>⟨d.files.set (fAt d.files nm).toNat (bG5 f)⟩
 | none=>d
noncomputable def gB (d:Disk) (nm:ByteArray):Disk×Bool:=if ¬fAt d.files nm<0/\aP d=true then (synD d nm,true) else (d,false)
theorem bK7 {d:Disk}{nm:ByteArray}(h:¬(¬fAt d.files nm<0/\aP d=true)):(d,false)=gB d nm:=by unfold gB;rw[if_neg h]
theorem bW2 {d:Disk}{nm:ByteArray}{k:Nat}{f:File}(hk:fAt d.files nm=(k:Int)) (hf:d.files[k]? = some f) (h:aP d=true):((⟨d.files.set k (bG5 f)⟩:Disk),true)=gB d nm:=by
 unfold gB synD;rw[if_pos ⟨by omega,h⟩,hk,Int.toNat_natCast,hf]
def cutF (f:File) (n:Nat):File:=⟨f.name,f.data.extract 0 n,(n:Int)⟩
def bV2 (d:Disk) (nm:ByteArray) (n:Int):Disk:=
 match d.files[(fAt d.files nm).toNat]? with
 | some f=>⟨d.files.set (fAt d.files nm).toNat (cutF f n.toNat)⟩
 | none=>d
def yL (d:Disk) (nm:ByteArray):Int:=
 match d.files[(fAt d.files nm).toNat]? with
 | some f=>(f.data.size:Int)
 | none=>0
noncomputable def cY (d:Disk) (nm:ByteArray) (n:Int):Disk×Bool:=if ¬fAt d.files nm<0/\aP d=true/\inB n 0 (yL d nm)=true then (bV2 d nm n,true) else (d,false)
theorem cD1 {d:Disk}{nm:ByteArray}{n:Int}(h:¬(¬fAt d.files nm<0/\aP d=true/\inB n 0 (yL d nm)=true)):(d,false)=cY d nm n:=by unfold cY;rw[if_neg h]
theorem aV2 {d:Disk}{nm:ByteArray}{k:Nat}{f:File}(hk:fAt d.files nm=(k:Int)) (hf:d.files[k]? = some f):yL d nm=(f.data.size:Int):=by
 unfold yL;rw[hk,Int.toNat_natCast,hf]
theorem ct_yes {d:Disk}{nm:ByteArray}{n:Int}{k:Nat}{f:File}(hk:fAt d.files nm=(k:Int)) (hf:d.files[k]? = some f) (h:aP d=true) (hn:inB n 0 (f.data.size:Int)=true):((⟨d.files.set k (cutF f n.toNat)⟩:Disk),true)=cY d nm n:=by
 unfold cY bV2;rw[if_pos ⟨by omega,h,by rw[aV2 hk hf];exact hn⟩,hk,Int.toNat_natCast,hf]
def mvF (f:File) (nm:ByteArray):File:=⟨nm,f.data,f.safe⟩
def aS6 (d:Disk) (nm:ByteArray):Int:=
 match d.files[(fAt d.files nm).toNat]? with
 | some f=>f.safe
 | none=>0
def mvG (fs:List File) (k:Nat) (to:ByteArray):Nat->List File
 | 0=>[]
 | i+1=>match fs[i]? with
  | some f=>if f.name=to then mvG fs k to i else mvG fs k to i++[if i=k then mvF f to else f]
  | none=>mvG fs k to i
theorem mvG_skip {fs:List File}{k:Nat}{to:ByteArray}{i:Nat}{f:File}(hf:fs[i]? = some f) (h:f.name=to):mvG fs k to i=mvG fs k to (i+1):=by
 show _=(match fs[i]? with | some f=>_ | none=>_);rw[hf];simp only;rw[if_pos h]
theorem mvG_here {fs:List File}{k:Nat}{to:ByteArray}{i:Nat}{f:File}(hf:fs[i]? = some f) (h:¬f.name=to) (hk:i=k):mvG fs k to i++[mvF f to]=mvG fs k to (i+1):=by
 show _=(match fs[i]? with | some f=>_ | none=>_);rw[hf];simp only;rw[if_neg h,if_pos hk]
theorem mvG_else {fs:List File}{k:Nat}{to:ByteArray}{i:Nat}{f:File}(hf:fs[i]? = some f) (h:¬f.name=to) (hk:¬i=k):mvG fs k to i++[f]=mvG fs k to (i+1):=by
 show _=(match fs[i]? with | some f=>_ | none=>_);rw[hf];simp only;rw[if_neg h,if_neg hk]
theorem zJ (fs:List File) (k:Nat) (to:ByteArray):∀i,(mvG fs k to i).length<=i
 | 0=>Nat.le_refl _
 | i+1=>by
  have ih:=zJ fs k to i;show (match fs[i]? with | some f=>_ | none=>_:List File).length<=_;split
  ·split
   ·omega
   ·simp only[length_append,length_singleton];omega
  ·omega
noncomputable def gW (d:Disk) (fr to:ByteArray):Disk×Bool:=if ¬fAt d.files fr<0/\aP d=true/\¬fr=to/\jU to=true/\aS6 d fr=yL d fr then (⟨mvG d.files (fAt d.files fr).toNat to d.files.length⟩,true) else (d,false)
theorem bB5 {d:Disk}{fr to:ByteArray}(h:¬(¬fAt d.files fr<0/\aP d=true/\¬fr=to/\jU to=true/\aS6 d fr=yL d fr)):(d,false)=gW d fr to:=by unfold gW;rw[if_neg h]
theorem bO6 {d:Disk}{nm:ByteArray}{k:Nat}{f:File}(hk:fAt d.files nm=(k:Int)) (hf:d.files[k]? = some f):aS6 d nm=f.safe:=by
 unfold aS6;rw[hk,Int.toNat_natCast,hf]
theorem mv_yes {d:Disk}{fr to:ByteArray}{k:Nat}{f:File}(hk:fAt d.files fr=(k:Int)) (hf:d.files[k]? = some f) (h:aP d=true) (h2:¬fr=to) (h3:jU to=true) (h4:f.safe=(f.data.size:Int)):((⟨mvG d.files k to d.files.length⟩:Disk),true)=gW d fr to:=by
 unfold gW;rw[if_pos ⟨by omega,h,h2,h3,by rw[bO6 hk hf,aV2 hk hf];exact h4⟩,hk,Int.toNat_natCast]
theorem aG9 {fs:List File}{nm:ByteArray}{k:Nat}{f:File}(hk:fAt fs nm=(k:Int)) (hf:fs[k]? = some f):f.name=nm:=by
 unfold fAt at hk;cases h:fs.findIdx? (fun f=>decide (f.name=nm)) with
 | none=>rw[h]at hk;simp at hk
 | some j=>
  rw[h]at hk;simp only at hk;have hj:j=k:=by omega
  subst hj;obtain⟨hlt,hp,_⟩:=findIdx?_eq_some_iff_getElem.1 h;obtain⟨_,rfl⟩:=gsi_.1 hf;simpa using hp
theorem fAt_mem {fs:List File}{nm:ByteArray}{i:Nat}{f:File}(hf:fs[i]? = some f) (h:f.name=nm):¬fAt fs nm<0:=by
 unfold fAt;cases hq:fs.findIdx? (fun f=>decide (f.name=nm)) with
 | none=>
  have:=findIdx?_eq_none_iff.1 hq f (mem_of_getElem? hf);simp[h]at this
 | some j=>simp only;omega
theorem aN6 {α:Type}(p:α->Bool):∀xs:List α,iR p xs=xs.findIdx? p
 | []=>rfl
 | x::xs=>by rw[findIdx?_cons,iR,aN6 p xs]
theorem cB8 (fs:List File) (nm:ByteArray):ixI (iR (fun f:File=>decide (f.name=nm)) fs)=fAt fs nm:=by
 rw[aN6];unfold fAt;cases fs.findIdx? (fun f=>decide (f.name=nm))<;>rfl
structure FaJ (fs:List File) (nm:ByteArray) (k:Nat):Prop where
 le:k<=fs.length
 no:(fs.take k).any (fun f=>decide (f.name=nm))=false
theorem FaJ.next {fs:List File}{nm:ByteArray}{k:Nat}{f:File}(h:FaJ fs nm k) (hf:fs[k]? = some f) (hn:¬f.name=nm):FaJ fs nm (k+1):=by
 obtain⟨hk,rfl⟩:=gsi_.1 hf;exact⟨hk,tL hk h.no (by simp[hn])⟩
theorem FaJ.hit {fs:List File}{nm:ByteArray}{k:Nat}{f:File}(h:FaJ fs nm k) (hf:fs[k]? = some f) (hn:f.name=nm):ixI (some k)=fAt fs nm:=by
 obtain⟨hk,rfl⟩:=gsi_.1 hf;rw[<- cB8,nK hk h.no (by simp[hn])]
theorem FaJ.none_ {fs:List File}{nm:ByteArray}{k:Nat}(h:FaJ fs nm k) (hk:¬(k:Int)<fs.length):ixI none=fAt fs nm:=by
 have:=h.no;rw[show k=fs.length by have:=h.le;omega,take_length]at this;rw[<- cB8,qY this]
theorem aW6 (d:Disk) (nm:ByteArray):Ct1 prog 31 [.S d,.T nm] [.I (fAt d.files nm)]:=
 .one (fAt d.files nm) (rk:=fun x=>[.I x])<|vc func31 (fun (hg:gin [Par.S d,Par.T nm])=>let hb:=hg.1.2.1
  .in_ (R':=fun o:Option Nat=>ixI o=fAt d.files nm) func64 (
   .la (Γ:=Nat) (FaJ d.files nm) (fun k=>d.files.length-k) (fun k=>[vI 8 k]) (fun _=>[]) 0 (h:=⟨Nat.zero_le _,rfl⟩) fun k hJ t=>let hl:=hJ.le
    .s ((k:Int)<d.files.length)
     (fun h=>.x d.files k (h:=by omega) fun f hf gf=>.in_ (R':=fun _:Unit=>True) func65 (.rt () trivial) fun _ _=>.s (f.name=nm)
      (fun h1=>.rt (some k) (hJ.hit hf h1))
      (fun h1=>.p k 1<|.n t (k+1) [] (hJ.next hf h1) aA))
     (fun h=>.rt none (hJ.none_ h))) fun o=>match o with
   | none=>fun ho=>.rt (-1) ⟨ho,trivial⟩
   | some k=>fun ho=>.rt (k:Int) ⟨ho,trivial⟩) aB
theorem aD5:lF File:=fun _ _ _ _ h=>h.2.1
theorem lW:lF Wait:=fun _ _ _ _ h=>h.2.1
theorem NameOkI (nm:ByteArray):Ct1 prog 70 [.T nm] [.B (jU nm)]:=
 vc func70 (fun hg=>.c func29 (bR nm.size 1 10) fun _=>.rt () ⟨trivial,trivial⟩) aB
theorem bT2 (nm:ByteArray):Ct1 prog 78 [.T nm] [.B (jU nm)]:=
 .one (jU nm) (rk:=fun a=>[.B a])<|vc func78 (fun hg=>.s ((1:Int)<=nm.size)
  (fun h=>.rt (decide ((nm.size:Int)<=10)) ⟨by unfold jU inB;simp[h],trivial⟩)
  (fun h=>.rt false ⟨by unfold jU inB;simp[h],trivial⟩)) aB
theorem zR (d:Disk):Ct1 prog 54 [.S d] [.B (aP d)]:=
 .one (aP d) (rk:=fun a=>[.B a])<|vc func54 (fun hg=>.s ((4:Int)<d.files.length)
  (fun h=>.rt false ⟨cC7 h,trivial⟩)
  (fun h4=>.l (Γ:=Nat) (fun k=>DkJ d k) (fun k=>d.files.length-k) [1,10,11] [1] [0] (fun k=>[vI 12 k]) (fun _=>[]) 0 (h:=DkJ.start h4) fun k hJ t=>
   .s ((k:Int)<d.files.length)
    (fun h=>.x d.files k (h:=by omega) fun f hf gf=>.c func70 (NameOkI f.name) fun _=>.v (jU f.name)
     (fun h1=>.rt false ⟨pZ hf (fun h=>by rw[h.name]at h1;cases h1),trivial⟩)
     (fun h1=>.c func31 (aW6 d f.name) fun _=>.u (fAt d.files f.name=(k:Int))
      (fun h2=>.rt false ⟨pZ hf (fun h=>h2 h.at_),trivial⟩)
      (fun h2=>.s ((60000:Int)<f.data.size)
       (fun h3=>.rt false ⟨pZ hf (fun h=>by have:=h.data;omega),trivial⟩)
       (fun h3=>.c func29 (bR f.safe 0 f.data.size) fun _=>.v (inB f.safe 0 (f.data.size:Int))
        (fun h5=>.rt false ⟨pZ hf (fun h=>by rw[h.safe]at h5;cases h5),trivial⟩)
        (fun h5=>.p k 1<|.n t (k+1) [] (hJ.next hf ⟨h1,h2,by omega,h5⟩) aA)))))
    (fun h=>.rt true ⟨cC8 hJ h,trivial⟩))) aB
theorem kU (d:Disk):Ct1 prog 73 [.S d] [.B (aP d)]:=
 .one (aP d) (rk:=fun a=>[.B a])<|vc func73 (fun hg=>.s ((4:Int)<d.files.length)
  (fun h=>.rt false ⟨cC7 h,trivial⟩)
  (fun h4=>.l (Γ:=Nat) (fun k=>DkJ d k) (fun k=>d.files.length-k) [1] [1] [0] (fun k=>[vI 3 k]) (fun _=>[]) 0 (h:=DkJ.start h4) fun k hJ t=>
   .s ((k:Int)<d.files.length)
    (fun h=>.x d.files k (h:=by omega) fun f hf gf=>.c func78 (bT2 f.name) fun _=>.v (jU f.name)
     (fun h1=>.rt false ⟨pZ hf (fun h=>by rw[h.name]at h1;cases h1),trivial⟩)
     (fun h1=>.s ((60000:Int)<f.data.size)
      (fun h3=>.rt false ⟨pZ hf (fun h=>by have:=h.data;omega),trivial⟩)
      (fun h3=>.c func38 (InV f.safe 0 f.data.size) fun _=>.v (inB f.safe 0 (f.data.size:Int))
       (fun h5=>.rt false ⟨pZ hf (fun h=>by rw[h.safe]at h5;cases h5),trivial⟩)
       (fun h5=>.c func39 (oV d f.name aA) fun _=>.u (fAt d.files f.name=(k:Int))
        (fun h2=>.rt false ⟨pZ hf (fun h=>h2 h.at_),trivial⟩)
        (fun h2=>.p k 1<|.n t (k+1) [] (hJ.next hf ⟨h1,h2,by omega,h5⟩) aA)))))
    (fun h=>.rt true ⟨cC8 hJ h,trivial⟩))) aB
abbrev diskR (d:Disk):Rk := .cl [.r (inferInstance:Shape File) 95 d.files]
theorem lT (d:Disk) (hl:d.files.length<=1048600):Ct1 prog 60 [.S d] [diskR d]:=
 vc func60 (fun hg=>.as (inferInstance:Shape File) aD5 [] d.files 40 (by simp only[length_nil];unfold maxLen;omega) (by simp only[length_nil];omega)<|.rt () ⟨trivial,trivial⟩) aB
theorem dE (d:Disk) (hl:d.files.length<=1048600):Ct1 prog 62 [.S d] [diskR d]:=
 vc func62 (fun hg=>.e File<|.as (inferInstance:Shape File) aD5 [] d.files 40 (by simp only[length_nil];unfold maxLen;omega) (by simp only[length_nil];omega)<|.rt () ⟨trivial,trivial⟩) aB
theorem Co.one {P:Program}{F:FuncId}{ow:List Lr}{ag:Bool}{ps:List Par}{A:Type}{rk:A->List Rk}(a0:A) (h:Co P F ow ag ps (fun a=>a=a0) rk):Co P F ow ag ps (fun _:Unit=>True) (fun _=>rk a0):=
 ⟨fun w W0 cs r us rs hlv st hp=>(h.run w W0 cs r us rs hlv st hp).mono fun e W hh=>by
  obtain⟨a,vs,rr,ha,hh⟩:=hh;subst ha;exact⟨(),vs,rr,trivial,hh⟩⟩
theorem hk_upto {P:Program}{t:TypeId}{s:ByteArray}{b:Int}(hu:P.underlying t=some .string) (h1:0<=b) (h2:b<=s.size):LOk P t (.string s) none (some (I b)) (.string (s.extract 0 b.toNat)):=by
 intro n f W Q K d ty pos af g xo lo hi hx hl hh k;cases lo with
 | some lo=>cases hl
 | none=>
  cases hi with
  | none=>cases hh
  | some hi=>
   simp only[Option.map_some,Option.some.injEq]at hh;refine Stp.run (v := .string (s.extract 0 b.toNat)) ?_ k;have:=run_slice_string_h (P:=P) (w:=W) t s hu .i64 b h1 h2;simp only[execOp,hx,hh,Sem.run_bind,Option.map_some,Option.map_none];rw[run_sliceAt_string (h:=hu)];have e:Sem.run P (Instr.slice t (Value.string s) none (some (I b)) none) W=Result.ok (Value.string (s.extract 0 b.toNat)) W:=by simpa using this
   rw[e];rfl
noncomputable def orF (a b:Disk):Disk×Bool:=if aP a=true then (a,true) else (b,false)
theorem bT7 (a b:Disk) (hl:b.files.length<=1048600):Co prog 66 [.o (inferInstance:Shape File) a.files] true [.S b] (fun _:Unit=>True) (fun _=>[.S (orF a b).1,.B (orF a b).2]):=
 .one (orF a b) (rk:=fun p=>[.S p.1,.B p.2])<|vco func66 (fun hg ho=>.c func54 (zR a) fun _=>.v (aP a)
  (fun h=>.c func60 (lT b hl) fun _=>.sh 5<|.rt (b,false) ⟨by unfold orF;rw[if_neg (by rw[h];simp)],trivial,trivial⟩)
  (fun h=>.rt (a,true) ⟨by unfold orF;rw[if_pos h],trivial,trivial⟩)) aB
theorem wr_or {d:Disk}{nm more:ByteArray}{f:File}(h:aP d=true) (hf:(wrB d nm)[wrK d nm]? = some f):orF ⟨(wrB d nm).set (wrK d nm) (nV f more)⟩ d=dM d nm more:=by
 rw[<- sK more hf];unfold orF;by_cases h2:aP (wrD d nm more)=true
 ·rw[if_pos h2];exact bG4 h h2
 rw[if_neg h2];exact xI fun e=>h2 e.2
theorem bB0 {nm:ByteArray}(h:nm.size<=maxLen):File.ok ⟨nm,⟨#[]⟩,0⟩:=⟨h,by show 0<=_;unfold maxLen;omega,by show I64 0;unfold I64;omega⟩
theorem vM {f:File}{more:ByteArray}(gf:f.ok) (h1:f.data.size<=60000) (h2:more.size<=1000000000):File.ok (nV f more):=⟨gf.1,by show (f.data++more).size<=_;rw[ByteArray.size_append];unfold maxLen;omega,gf.2.2⟩
theorem aY1 {f:File}(gf:f.ok):File.ok (bG5 f):=⟨gf.1,gf.2.1,by have:=gf.2.1;show I64 (f.data.size:Int);unfold maxLen at this;unfold I64;omega⟩
theorem cut_good {f:File}{n:Nat}(gf:f.ok) (h:n<=f.data.size):File.ok (cutF f n):=⟨gf.1,by have:=gf.2.1;show (f.data.extract 0 n).size<=_;rw[ByteArray.size_extract];omega,by have:=gf.2.1;show I64 (n:Int);unfold maxLen at this;unfold I64;omega⟩
theorem bI3 {a:Int}{n:Nat}(h:inB a 0 (n:Int)=true):0<=a/\a<=n:=by
 unfold inB at h;simpa using h
theorem WriteFileI (d:Disk) (nm more:ByteArray) (hl:d.files.length<=1048576) (hn:nm.size<=maxLen) (hm:more.size<=1000000000):Ct1 prog 33 [.S d,.T nm,.T more] [.S (dM d nm more).1,.B (dM d nm more).2]:=
 .one (dM d nm more) (rk:=fun p=>[.S p.1,.B p.2])<|vc func33 (fun hg=>.c func54 (zR d) fun _=>.v (aP d)
  (fun hb=>.c func60 (lT d aA) fun _=>.sh 3<|.rt (d,false) ⟨xI (fun e=>by rw[hb]at e;cases e.1),trivial,trivial⟩)
  (fun hd=>.c func60 (lT d aA) fun _=>.c func31 (aW6 d nm) fun _=>.s (fAt d.files nm<0)
   (fun h=>.a d.files ⟨nm,⟨#[]⟩,0⟩ 40 (hy:=bB0 hn) (hby:=by omega)<|.g 3 (tR h).1.symm <|
    .ex (p:=fun f=>(wrB d nm)[wrK d nm]? = some f) (aK3 d nm) fun f hf=>.sh 3<|.d 3 hf fun gf=>.ie (wrK d nm) (d.files.length:Int) (he:=by rw[(tR h).2])<|.pb .add (jK f.data more (by have:=mH hd hf;omega))<|.ie (wrK d nm) (d.files.length:Int) (he:=by rw[(tR h).2]) <|
     .wt 42<|.f 3 (wrB d nm) (nV f more) (h:=vM gf (mH hd hf) hm)<|.co _ func66 (bT7 ⟨(wrB d nm).set (wrK d nm) (nV f more)⟩ d aA) ⟨trivial,trivial⟩ fun _ _ _=>.rt (orF ⟨(wrB d nm).set (wrK d nm) (nV f more)⟩ d) ⟨wr_or hd hf,trivial,trivial⟩)
   (fun h=>.g 3 (tS h).1.symm <|
    .ex (p:=fun f=>(wrB d nm)[wrK d nm]? = some f) (aK3 d nm) fun f hf=>.sh 3<|.d 3 hf fun gf=>.ie (wrK d nm) (fAt d.files nm) (he:=(tS h).2.symm)<|.pb .add (jK f.data more (by have:=mH hd hf;omega))<|.ie (wrK d nm) (fAt d.files nm) (he:=(tS h).2.symm) <|
     .wt 42<|.f 3 (wrB d nm) (nV f more) (h:=vM gf (mH hd hf) hm)<|.co _ func66 (bT7 ⟨(wrB d nm).set (wrK d nm) (nV f more)⟩ d aA) ⟨trivial,trivial⟩ fun _ _ _=>.rt (orF ⟨(wrB d nm).set (wrK d nm) (nV f more)⟩ d) ⟨wr_or hd hf,trivial,trivial⟩))) aB
theorem aI5 (d:Disk) (nm more:ByteArray) (hl:d.files.length<=1048576) (hn:nm.size<=maxLen) (hm:more.size<=1000000000):Ct1 prog 41 [.S d,.T nm,.T more] [.S (dM d nm more).1,.B (dM d nm more).2]:=
 .one (dM d nm more) (rk:=fun p=>[.S p.1,.B p.2])<|vc func41 (fun hg=>.c func62 (dE d aA) fun _=>.c func39 (oV d nm aA) fun _=>.s (fAt d.files nm<0)
   (fun h=>.a d.files ⟨nm,⟨#[]⟩,0⟩ 40 (hy:=bB0 hn) (hby:=by omega)<|.m ((d.files++[(⟨nm,⟨#[]⟩,0⟩:File)]).length:Int) 1 (h:=by unfold I64;simp only[length_append,length_singleton];omega)<|.g 3 (tR h).1.symm <|
    .c func73 (kU d) fun _=>.v (aP d)
     (fun hb=>.c func62 (dE d aA) fun _=>.sh 6<|.rt (d,false) ⟨xI (fun e=>by rw[hb]at e;cases e.1),trivial,trivial⟩)
     (fun hd=>.s ((60000:Int)<more.size)
      (fun h6=>.c func62 (dE d aA) fun _=>.sh 6<|.rt (d,false) ⟨xI (fun e=>bV9 h6 e.2),trivial,trivial⟩)
      (fun h6=>.ex (p:=fun f=>(wrB d nm)[wrK d nm]? = some f) (aK3 d nm) fun f hf=>.sh 3<|.d 3 hf fun gf=>.ie (wrK d nm) (((d.files++[(⟨nm,⟨#[]⟩,0⟩:File)]).length:Int)-1) (he:=by rw[(tR h).2];simp only[length_append,length_singleton];omega)<|.pb .add (jK f.data more (by have:=mH hd hf;omega))<|.ie (wrK d nm) (((d.files++[(⟨nm,⟨#[]⟩,0⟩:File)]).length:Int)-1) (he:=by rw[(tR h).2];simp only[length_append,length_singleton];omega) <|
       .wt 51<|.f 3 (wrB d nm) (nV f more) (h:=vM gf (mH hd hf) hm)<|.c func73 (kU ⟨(wrB d nm).set (wrK d nm) (nV f more)⟩) fun _=>.v (aP ⟨(wrB d nm).set (wrK d nm) (nV f more)⟩)
        (fun hb=>.c func62 (dE d aA) fun _=>.sh 7<|.rt (d,false) ⟨xI (fun e=>by rw[sK more hf,hb]at e;cases e.2),trivial,trivial⟩)
        (fun h2=>.rt (⟨(wrB d nm).set (wrK d nm) (nV f more)⟩,true) ⟨by rw[<- sK more hf]at h2 ⊢;exact bG4 hd h2,trivial,trivial⟩))))
   (fun h=>.g 3 (tS h).1.symm <|
    .c func73 (kU d) fun _=>.v (aP d)
     (fun hb=>.c func62 (dE d aA) fun _=>.sh 5<|.rt (d,false) ⟨xI (fun e=>by rw[hb]at e;cases e.1),trivial,trivial⟩)
     (fun hd=>.s ((60000:Int)<more.size)
      (fun h6=>.c func62 (dE d aA) fun _=>.sh 5<|.rt (d,false) ⟨xI (fun e=>bV9 h6 e.2),trivial,trivial⟩)
      (fun h6=>.ex (p:=fun f=>(wrB d nm)[wrK d nm]? = some f) (aK3 d nm) fun f hf=>.sh 3<|.d 3 hf fun gf=>.ie (wrK d nm) (fAt d.files nm) (he:=(tS h).2.symm)<|.pb .add (jK f.data more (by have:=mH hd hf;omega))<|.ie (wrK d nm) (fAt d.files nm) (he:=(tS h).2.symm) <|
       .wt 51<|.f 3 (wrB d nm) (nV f more) (h:=vM gf (mH hd hf) hm)<|.c func73 (kU ⟨(wrB d nm).set (wrK d nm) (nV f more)⟩) fun _=>.v (aP ⟨(wrB d nm).set (wrK d nm) (nV f more)⟩)
        (fun hb=>.c func62 (dE d aA) fun _=>.sh 6<|.rt (d,false) ⟨xI (fun e=>by rw[sK more hf,hb]at e;cases e.2),trivial,trivial⟩)
        (fun h2=>.rt (⟨(wrB d nm).set (wrK d nm) (nV f more)⟩,true) ⟨by rw[<- sK more hf]at h2 ⊢;exact bG4 hd h2,trivial,trivial⟩))))) aB
theorem SyncFileI (d:Disk) (nm:ByteArray) (hl:d.files.length<=1048576):Ct1 prog 35 [.S d,.T nm] [.S (gB d nm).1,.B (gB d nm).2]:=
 .one (gB d nm) (rk:=fun p=>[.S p.1,.B p.2])<|vc func35 (fun hg=>.c func60 (lT d aA) fun _=>.c func31 (aW6 d nm) fun _=>.s (fAt d.files nm<0)
  (fun h=>.sh 3<|.rt (d,false) ⟨bK7 (fun e=>e.1 h),trivial,trivial⟩)
  (fun h=>.c func54 (zR d) fun _=>.v (aP d)
   (fun hb=>.sh 3<|.rt (d,false) ⟨bK7 (fun e=>by rw[hb]at e;cases e.2),trivial,trivial⟩)
   (fun hd=>.ex (p:=fun k:Nat=>fAt d.files nm=(k:Int)/\k<d.files.length) (oK h) fun k hk=>.ex (p:=fun f=>d.files[k]? = some f) ⟨_,getElem?_eq_getElem hk.2⟩ fun f hf=>.sh 3<|.d 3 hf fun gf=>.ie k (fAt d.files nm) (he:=hk.1)<|.ie k (fAt d.files nm) (he:=hk.1) <|
    .wt 33<|.f 3 d.files (bG5 f) (h:=aY1 gf)<|.rt (⟨d.files.set k (bG5 f)⟩,true) ⟨bW2 hk.1 hf hd,trivial,trivial⟩))) aB
theorem aQ8 (d:Disk) (nm:ByteArray) (hl:d.files.length<=1048576):Ct1 prog 43 [.S d,.T nm] [.S (gB d nm).1,.B (gB d nm).2]:=
 .one (gB d nm) (rk:=fun p=>[.S p.1,.B p.2])<|vc func43 (fun hg=>.c func62 (dE d aA) fun _=>.c func39 (oV d nm aA) fun _=>.s (fAt d.files nm<0)
  (fun h=>.sh 3<|.rt (d,false) ⟨bK7 (fun e=>e.1 h),trivial,trivial⟩)
  (fun h=>.c func73 (kU d) fun _=>.v (aP d)
   (fun hb=>.sh 3<|.rt (d,false) ⟨bK7 (fun e=>by rw[hb]at e;cases e.2),trivial,trivial⟩)
   (fun hd=>.ex (p:=fun k:Nat=>fAt d.files nm=(k:Int)/\k<d.files.length) (oK h) fun k hk=>.ex (p:=fun f=>d.files[k]? = some f) ⟨_,getElem?_eq_getElem hk.2⟩ fun f hf=>.sh 3<|.d 3 hf fun gf=>.ie k (fAt d.files nm) (he:=hk.1)<|.ie k (fAt d.files nm) (he:=hk.1) <|
    .wt 33<|.f 3 d.files (bG5 f) (h:=aY1 gf)<|.rt (⟨d.files.set k (bG5 f)⟩,true) ⟨bW2 hk.1 hf hd,trivial,trivial⟩))) aB
theorem bG2 (d:Disk) (nm:ByteArray) (n:Int) (hl:d.files.length<=1048576):Ct1 prog 40 [.S d,.T nm,.I n] [.S (cY d nm n).1,.B (cY d nm n).2]:=
 .one (cY d nm n) (rk:=fun p=>[.S p.1,.B p.2])<|vc func40 (fun hg=>.c func62 (dE d aA) fun _=>.c func39 (oV d nm aA) fun _=>.s (fAt d.files nm<0)
  (fun h=>.sh 3<|.rt (d,false) ⟨cD1 (fun e=>e.1 h),trivial,trivial⟩)
  (fun h=>.c func73 (kU d) fun _=>.v (aP d)
   (fun hb=>.sh 3<|.rt (d,false) ⟨cD1 (fun e=>by rw[hb]at e;cases e.2.1),trivial,trivial⟩)
   (fun hd=>.ex (p:=fun k:Nat=>fAt d.files nm=(k:Int)/\k<d.files.length) (oK h) fun k hk=>.ex (p:=fun f=>d.files[k]? = some f) ⟨_,getElem?_eq_getElem hk.2⟩ fun f hf=>.ye hf (fAt d.files nm) (he:=hk.1) fun gf=>.c func38 (InV n 0 f.data.size) fun _=>.v (inB n 0 (f.data.size:Int))
    (fun hb=>.sh 3<|.rt (d,false) ⟨cD1 (fun e=>by rw[aV2 hk.1 hf,hb]at e;cases e.2.2),trivial,trivial⟩)
    (fun hc=>.rv 2 (I (n.toNat:Int)) (show I n=I (n.toNat:Int) by rw[Int.toNat_of_nonneg (bI3 hc).1])<|.sh 3<|.d 3 hf fun gf=>.ie k (fAt d.files nm) (he:=hk.1)<|.pl (hk_upto (s:=f.data) (b:=(n.toNat:Int)) underlying9 aA (by have:=bI3 hc;omega))<|.ie k (fAt d.files nm) (he:=hk.1)<|.ie k (fAt d.files nm) (he:=hk.1) <|
     .wt 54<|.f 3 d.files (cutF f n.toNat) (h:=cut_good gf (by have:=bI3 hc;omega))<|.rt (⟨d.files.set k (cutF f n.toNat)⟩,true) ⟨ct_yes hk.1 hf hd hc,trivial,trivial⟩)))) aB
def cT (ns:List Nat):List UInt8:=ns.flatMap aM
def gC (ns:List Nat):Prop:=∀n∈ns,n<=1000000000
theorem varBytes_inj_pre {m n:Nat}{l:List UInt8}(h1:aM m <+: l) (h2:aM n <+: l):m=n:=by
 have e:=lG (bZ m).1 (bZ n).1 h1 h2;rw[<- (bZ m).2,e,(bZ n).2]
theorem lH:∀{ns ms:List Nat}{r:List UInt8},cT ns++r=cT ms->∃ms',ms=ns++ms'/\r=cT ms'
 | [],ms,r,h=>⟨ms,rfl,h⟩
 | n::ns,[],r,h=>by
  have h2:=zX (bZ n).1;cases hv:aM n with
  | nil=>exact absurd hv h2
  | cons b l=>simp[cT,hv]at h
 | n::ns,m::ms,r,h=>by
  have h1:aM n++(cT ns++r)=aM m++cT ms:=by simpa [cT] using h
  have e:n=m:=varBytes_inj_pre (l:=aM n++(cT ns++r)) (prefix_append _ _) (by rw[h1];exact prefix_append _ _);subst e;obtain⟨ms',e1,e2⟩:=lH (append_cancel_left h1);exact⟨ms',by rw[e1];rfl,e2⟩
theorem varsB_inj {ns ms:List Nat}(h:cT ns=cT ms):ns=ms:=by
 obtain⟨ms',e1,e2⟩:=lH (ns:=ns) (ms:=ms) (r:=[]) (by simpa using h);cases ms' with
 | nil=>simpa using e1.symm
 | cons m ms'=>
  have h2:=zX (bZ m).1;cases hv:aM m with
  | nil=>exact absurd hv h2
  | cons b l=>simp[cT,hv]at e2
noncomputable def aK6 (s:ByteArray):List Int×Bool := @dite _ (∃ns:List Nat,gC ns/\cT ns=s.data.toList) (Classical.propDecidable _) (fun h=>((Classical.choose h).map fun n:Nat=>(n:Int),true)) (fun _=>([],false))
theorem varsR_some {s:ByteArray}{ns:List Nat}(h:gC ns) (e:cT ns=s.data.toList):(ns.map (fun n:Nat=>(n:Int)),true)=aK6 s:=by
 have hx:∃ns:List Nat,gC ns/\cT ns=s.data.toList:=⟨ns,h,e⟩;unfold aK6;rw[dif_pos hx,varsB_inj ((Classical.choose_spec hx).2.trans e.symm)]
theorem varsR_none {s:ByteArray}(h:∀ns:List Nat,gC ns->cT ns≠s.data.toList):([],false)=aK6 s:=by
 unfold aK6;rw[dif_neg fun ⟨ns,h1,h2⟩=>h ns h1 h2]
structure RJ (s:ByteArray) (a:Nat) (out:List Int):Prop where
 le:a<=s.size
 len:out.length<=a
 ex:∃ns:List Nat,gC ns/\cT ns=s.data.toList.take a/\out=ns.map fun n:Nat=>(n:Int)
theorem RJ.start (s:ByteArray):RJ s 0 []:=⟨Nat.zero_le _,Nat.le_refl _,[],by simp[gC],by simp[cT],rfl⟩
theorem RJ.done {s:ByteArray}{a:Nat}{out:List Int}(h:RJ s a out) (hn:¬(a:Int)<s.size):(out,true)=aK6 s:=by
 obtain⟨ns,h1,h2,rfl⟩:=h.ex;rw[take_of_length_le (by have:s.data.toList.length=s.size:=rfl;omega)]at h2;exact varsR_some h1 h2
theorem vAt_neg {s:ByteArray}{a:Nat}(h:(vAt s a).2<0):fI (s.data.toList.drop a)=none:=by
 cases hv:fI (s.data.toList.drop a) with
 | none=>rfl
 | some p=>
  obtain⟨n,k⟩:=p;rw[<- zZ hv]at h;simp only at h;omega
theorem RJ.bad {s:ByteArray}{a:Nat}{out:List Int}(h:RJ s a out) (hlt:(a:Int)<s.size) (hv:(vAt s a).2<0):([],false)=aK6 s:=by
 have hv:=vAt_neg hv;refine varsR_none fun ms h1 h2=>?_
 obtain⟨ns,h3,h4,rfl⟩:=h.ex;have h5:cT ns++s.data.toList.drop a=cT ms:=by rw[h4,take_append_drop,h2]
 obtain⟨ms',e1,e2⟩:=lH h5;cases ms' with
 | nil=>
  have:=congrArg List.length e2;rw[nQ]at this;simp[cT]at this;omega
 | cons m ms'=>
  have hm:m<=1000000000:=h1 m (by rw[e1];simp);have:=tT hm (l:=s.data.toList.drop a) (by rw[e2];exact⟨cT ms',by simp[cT]⟩);rw[this]at hv;cases hv
theorem RJ.next {s:ByteArray}{a:Nat}{out:List Int}(h:RJ s a out) (hv:¬(vAt s a).2<0):∃b:Nat,(vAt s a).2=(b:Int)/\a<b/\RJ s b (out++[(vAt s a).1])/\I64 (vAt s a).1:=by
 cases hh:fI (s.data.toList.drop a) with
 | none=>
  rw[<- aX1 hh]at hv;simp at hv
 | some p=>
  obtain⟨n,k⟩:=p;obtain⟨h1,h2,h3⟩:=iV hh;rw[<- zZ hh];obtain⟨ns,h4,h5,rfl⟩:=h.ex;have hp:=zX (bZ n).1;have hk:0<k:=by rw[h3];exact length_pos_iff.2 hp
  have hle:=h2.length_le;rw[nQ]at hle;refine⟨a+k,by simp,by omega,⟨by have:=h.le;omega,?_,ns++[n],?_,?_,by simp⟩,by simp only;unfold I64;omega⟩
  ·have:=h.len;simp only[length_append,length_map,length_singleton]at *;omega
  ·intro m hm;rcases mem_append.1 hm with hm | hm
   ·exact h4 m hm
   simp at hm;subst hm;exact h1
  rw[take_add];show (ns++[n]).flatMap aM=_;rw[flatMap_append];have e:(s.data.toList.drop a).take k=aM n:=by
   obtain⟨t,ht⟩:=h2;rw[<- ht,h3];simp
  rw[e];congr 1;simp
structure Numb where
 list:List Int
 bad:Bool
instance:Shape Numb where
 size:=2
 C:=fun w cs x fp=>∃(v1:Value) (f1:List Nat),cs=[v1,.bool x.bad]/\Sl w v1 x.list f1/\fp=f1
 len:=fun ⟨v1,f1,h,h1,hfp⟩=>by rw[h];rfl
 loc:=fun hs hk ⟨v1,f1,h,h1,hfp⟩=>⟨v1,f1,h,h1.loc (fun b hb=>hk b (by rw[hfp];simp[hb])) hs,hfp⟩
 one:=fun ⟨v1,f1,h,h1,hfp⟩ u hu=>by
  obtain⟨ao0,cap0,rfl,_⟩:=h1;subst h;simp at hu;rcases hu with rfl | rfl<;>rfl
 lt:=fun ⟨v1,f1,h,h1,hfp⟩ b hb=>by
  subst hfp;exact h1.lt b hb
instance:Dsh Numb where
 lv:=fun x=>[lS x.list,.v (.bool x.bad)]
 good:=fun _=>True
 out:=fun {w cs x fp} h=>by
  obtain⟨v0,f0,hcs,h0,hfp⟩:=h;refine⟨trivial,?_⟩;rw[hcs,hfp];exact⟨f0,[],h0,⟨rfl,rfl⟩,by simp⟩
 inn:=fun hg h=>by
  obtain⟨c0,r0,f0,g0,e0,h0,z0,p0⟩:=fX h;obtain⟨r1,e1,z1⟩:=aI z0;obtain⟨e2,p1⟩:=dW z1;subst e2 e1 e0 p1 p0;exact⟨c0,f0,rfl,h0,by simp⟩
structure LIn where
 s:ByteArray
 at_:Nat
 bad:Bool
def LIn.ok (x:LIn):Prop:=x.s.size<=maxLen/\x.at_<=1048576
def LIn.cells (x:LIn):List Value:=[.string x.s,I x.at_,.bool x.bad]
instance:Shape LIn:=Shape.flat 3 LIn.cells LIn.ok (fun _=>rfl) (fun _ v hv=>by simp[LIn.cells]at hv;rcases hv with rfl | rfl | rfl<;>rfl)
instance:Dsh LIn where
 lv:=fun x=>[.v (.string x.s),.v (I x.at_),.v (.bool x.bad)]
 good:=LIn.ok
 out:=fun {w cs x fp} h=>by obtain⟨h1,h2,h3⟩:=h;subst h1;subst h2;exact⟨h3,rfl,rfl,rfl,rfl⟩
 inn:=fun hg h=>by
  obtain⟨r0,e0,z0⟩:=aI h;obtain⟨r1,e1,z1⟩:=aI z0;obtain⟨r2,e2,z2⟩:=aI z1;obtain⟨e3,p1⟩:=dW z2;subst e3 e2 e1 e0 p1;exact⟨rfl,rfl,hg⟩
noncomputable def jJ (x:LIn):LIn×Int:=
 if x.bad=true then (x,0) else match fI (x.s.data.toList.drop x.at_) with
  | none=>(⟨x.s,x.at_,true⟩,0)
  | some (n,k)=>(⟨x.s,x.at_+k,x.bad⟩,(n:Int))
def bO1 (x:Numb):Numb×Int:=(⟨x.list.drop 1,x.bad || x.list.isEmpty⟩,x.list.headD 0)
def LIn.in_ (x:LIn):Prop:=x.s.size<=1048576/\x.at_<=x.s.size
theorem pS {x:LIn}(h:x.in_):(jJ x).1.in_:=by
 unfold jJ;split
 ·exact h
 split
 ·exact h
 next n k hh=>
 obtain⟨_,h2,h3⟩:=iV hh;have:=h2.length_le;rw[nQ]at this;exact⟨h.1,by show x.at_+k<=x.s.size;have:=h.2;omega⟩
theorem nextL_le (x:LIn):(jJ x).2<=1000000000:=by
 unfold jJ;split
 ·simp
 split
 ·simp
 next n k hh=>
 have:=(iV hh).1;simp only;omega
noncomputable def aH2 (x:LIn):LIn×Entry:=
 let a:=jJ x
 let b:=jJ a.1
 let c:=jJ b.1
 let d:=jJ c.1
 (d.1,⟨a.2,b.2,c.2,d.2⟩)
theorem entryL_in {x:LIn}(h:x.in_):(aH2 x).1.in_:=pS (pS (pS (pS h)))
noncomputable def kG (x:LIn):Nat->LIn×List Entry
 | 0=>(x,[])
 | i+1=>if (kG x i).1.bad=true then kG x i else ((aH2 (kG x i).1).1,(kG x i).2++[(aH2 (kG x i).1).2])
structure ShJ (x0:LIn) (m:Int) (g:Nat×LIn×List Entry):Prop where
 le:g.1<=m.toNat
 eq:(g.2.1,g.2.2)=kG x0 g.1
 inn:g.2.1.in_
 len:g.2.2.length<=g.1
theorem ShJ.next {x0:LIn}{m:Int}{g:Nat×LIn×List Entry}(h:ShJ x0 m g) (hi:x0.in_) (hm:(g.1:Int)<m) (hb:g.2.1.bad=false):ShJ x0 m (g.1+1,(aH2 g.2.1).1,g.2.2++[(aH2 g.2.1).2]):=by
 have e1:(kG x0 g.1).1=g.2.1:=by rw[<- h.eq]
 have e2:(kG x0 g.1).2=g.2.2:=by rw[<- h.eq]
 refine⟨by show g.1+1<=m.toNat;omega,?_,entryL_in h.inn,by have:=h.len;simp only[length_append,length_singleton];omega⟩;show _=(if (kG x0 g.1).1.bad=true then _ else _);rw[e1,e2,if_neg (by rw[hb];simp)]
theorem ShJ.all {x0:LIn}{m:Int}{g:Nat×LIn×List Entry}(h:ShJ x0 m g) (hm:¬(g.1:Int)<m):(g.2.1,g.2.2)=kG x0 m.toNat:=by
 rw[h.eq,show g.1=m.toNat by have:=h.le;omega]
def oE (p:Plan):List Int:=[p.prio,p.most,p.wait,p.tasks,(p.edges.length:Int)]
def jE (p:Plan) (k:Nat):List Int:=oE p++(p.edges.take k).flatMap fun e=>[e.from_,e.to_]
def mK (p:Plan):List Int:=jE p p.edges.length
theorem aD4 (p:Plan) (k:Nat):(jE p k).length<=5+2*k:=by
 have key:∀es:List Edge,(es.flatMap fun e=>[e.from_,e.to_]).length=2*es.length:=by
  intro es
  induction es with
  | nil=>rfl
  | cons e es ih=>rw[flatMap_cons,length_append,ih];simp only[length_cons,length_nil];omega
 unfold jE;rw[length_append,key,length_take];simp only[oE,length_cons,length_nil];omega
theorem planTo_next {p:Plan}{k:Nat}{e:Edge}(h:p.edges[k]? = some e):jE p k++[e.from_,e.to_]=jE p (k+1):=by
 obtain⟨hk,rfl⟩:=gsi_.1 h;unfold jE;rw[take_succ_eq_append_getElem hk,flatMap_append,append_assoc];rfl
theorem planHd_ok {p:Plan}(h:p.ok) (hl:p.edges.length<=1048576):∀y∈oE p,(inferInstance:Dsh Int).good y:=by
 obtain⟨h1,h2,h3,h4⟩:=h;intro y hy;simp only[oE,mem_cons,not_mem_nil,or_false]at hy;rcases hy with rfl | rfl | rfl | rfl | rfl
 ·exact h1
 ·exact h2
 ·exact h3
 ·exact h4
 show I64 _;unfold I64;omega
theorem edge_good {e:Edge}(h:e.ok):∀y∈[e.from_,e.to_],(inferInstance:Dsh Int).good y:=aV7 h.1 h.2
structure Rdr (σ:Type) where
 next:σ->σ×Int
 bad:σ->Bool
 lim:Int->Int->σ->σ
def dS {σ β:Type}(bad:σ->Bool) (one:σ->σ×β) (x:σ):Nat->σ×List β
 | 0=>(x,[])
 | i+1=>if bad (dS bad one x i).1=true then dS bad one x i else ((one (dS bad one x i).1).1,(dS bad one x i).2++[(one (dS bad one x i).1).2])
section
variable {σ:Type}(r:Rdr σ)
def vE (x:σ):σ×Edge:=
 let a:=r.next x
 let b:=r.next a.1
 (b.1,⟨a.2,b.2⟩)
def oL (x:σ):σ×Entry:=
 let a:=r.next x
 let b:=r.next a.1
 let c:=r.next b.1
 let d:=r.next c.1
 (d.1,⟨a.2,b.2,c.2,d.2⟩)
def xN (x:σ):σ×Task:=
 let a:=r.next x
 let b:=r.next a.1
 let c:=r.next b.1
 let d:=r.next c.1
 (d.1,⟨a.2,b.2,c.2,d.2⟩)
def kP (x:σ):σ×Plan:=
 let a:=r.next x
 let b:=r.next a.1
 let c:=r.next b.1
 let d:=r.next c.1
 let m:=r.next d.1
 let e:=dS r.bad (vE r) (r.lim 31 m.2 m.1) m.2.toNat
 (e.1,⟨a.2,b.2,c.2,d.2,e.2⟩)
def jC (x:σ):σ×List Entry:=
 let m:=r.next x
 dS r.bad (oL r) (r.lim 80 m.2 m.1) m.2.toNat
def yO (x:σ):σ×Run:=
 let a:=r.next x
 let p:=kP r a.1
 let b:=r.next p.1
 let t:=dS r.bad (xN r) (r.lim 12 p.2.tasks b.1) p.2.tasks.toNat
 (t.1,⟨a.2,p.2,b.2,t.2⟩)
def rQ (sb:σ->Bool) (x:σ):σ×Yard:=
 let a:=r.next x
 let b:=r.next a.1
 let s:=dS sb (jC r) b.1 4
 let m:=r.next s.1
 let q:=dS r.bad (yO r) (r.lim 8 m.2 m.1) m.2.toNat
 (q.1,⟨a.2,b.2,s.2,q.2⟩)
end
def oM (e:Edge):List Int:=[e.from_,e.to_]
def fD (e:Entry):List Int:=[e.prio,e.seq,e.run,e.task]
def fK (t:Task):List Int:=[t.state,t.need,t.try_,t.until_]
def gI (l:List Entry):List Int:=(l.length:Int)::l.flatMap fD
def jS (x:Run):List Int:=x.id::(mK x.plan++(x.state::x.tasks.flatMap fK))
def dH (y:Yard):List Int:=y.now::y.seq::(y.shelf.flatMap gI++((y.runs.length:Int)::y.runs.flatMap jS))
theorem pP (p:Plan):mK p=p.prio::p.most::p.wait::p.tasks::(p.edges.length:Int)::p.edges.flatMap oM:=by
 unfold mK jE oE;rw[take_length];rfl
structure Fwd {σ:Type}(r:Rdr σ) (Rd:σ->List Int->Prop):Prop where
 next:∀{x n ns},Rd x (n::ns)->(r.next x).2=n/\Rd (r.next x).1 ns
 ok:∀{x ns},Rd x ns->r.bad x=false
 lim:∀{k m x},m<=k->r.lim k m x=x
section
variable {σ:Type}{r:Rdr σ}{Rd:σ->List Int->Prop}
theorem pU {β:Type}{sb:σ->Bool}{one:σ->σ×β}{nums:β->List Int}{bs:List β}{ns:List Int}{x:σ}(hs:∀{x ns},Rd x ns->sb x=false)
  (h1:∀b∈bs,∀x ns,Rd x (nums b++ns)->(one x).2=b/\Rd (one x).1 ns) (h:Rd x (bs.flatMap nums++ns)):(dS sb one x bs.length).2=bs/\Rd (dS sb one x bs.length).1 ns:=by
 have key:∀i,i<=bs.length->(dS sb one x i).2=bs.take i/\Rd (dS sb one x i).1 ((bs.drop i).flatMap nums++ns):=by
  intro i
  induction i with
  | zero=>exact fun _=>⟨rfl,h⟩
  | succ i ih=>
   intro hi;obtain⟨e1,e2⟩:=ih aA;have hd:bs.drop i=bs[i]::bs.drop (i+1):=drop_eq_getElem_cons aA;rw[hd,flatMap_cons,append_assoc]at e2;have hb:=hs e2;obtain⟨e3,e4⟩:=h1 _ (getElem_mem aA) _ _ e2;unfold dS;rw[if_neg (by rw[hb];simp)];refine⟨?_,e4⟩;show _++[_]=_;rw[e1,e3,take_succ_eq_append_getElem aA]
 obtain⟨e1,e2⟩:=key _ (Nat.le_refl _);rw[take_length]at e1;rw[drop_length]at e2;exact⟨e1,e2⟩
variable (F:Fwd r Rd)
include F
theorem edge_fwd {e:Edge}{x:σ}{ns:List Int}(h:Rd x (oM e++ns)):(vE r x).2=e/\Rd (vE r x).1 ns:=by
 obtain⟨a1,h⟩:=F.next h;obtain⟨a2,h⟩:=F.next h;exact⟨by show (⟨_,_⟩:Edge)=_;rw[a1,a2],h⟩
theorem entry_fwd {e:Entry}{x:σ}{ns:List Int}(h:Rd x (fD e++ns)):(oL r x).2=e/\Rd (oL r x).1 ns:=by
 obtain⟨a1,h⟩:=F.next h;obtain⟨a2,h⟩:=F.next h;obtain⟨a3,h⟩:=F.next h;obtain⟨a4,h⟩:=F.next h;exact⟨by show (⟨_,_,_,_⟩:Entry)=_;rw[a1,a2,a3,a4],h⟩
theorem task_fwd {e:Task}{x:σ}{ns:List Int}(h:Rd x (fK e++ns)):(xN r x).2=e/\Rd (xN r x).1 ns:=by
 obtain⟨a1,h⟩:=F.next h;obtain⟨a2,h⟩:=F.next h;obtain⟨a3,h⟩:=F.next h;obtain⟨a4,h⟩:=F.next h;exact⟨by show (⟨_,_,_,_⟩:Task)=_;rw[a1,a2,a3,a4],h⟩
theorem aZ8 {p:Plan}{x:σ}{ns:List Int}(hp:p.edges.length<=31) (h:Rd x (mK p++ns)):(kP r x).2=p/\Rd (kP r x).1 ns:=by
 rw[pP]at h;obtain⟨a1,h⟩:=F.next h;obtain⟨a2,h⟩:=F.next h;obtain⟨a3,h⟩:=F.next h;obtain⟨a4,h⟩:=F.next h;obtain⟨a5,h⟩:=F.next h;have h:=pU (Rd:=Rd) (one:=vE r) (nums:=oM) (bs:=p.edges) (ns:=ns) (sb:=r.bad) F.ok (fun b _ x ns h=>edge_fwd F h) h;unfold kP;simp only;rw[a5,F.lim aA,Int.toNat_natCast,a1,a2,a3,a4,h.1];exact⟨rfl,h.2⟩
theorem shelf_fwd {l:List Entry}{x:σ}{ns:List Int}(hp:l.length<=80) (h:Rd x (gI l++ns)):(jC r x).2=l/\Rd (jC r x).1 ns:=by
 obtain⟨a5,h⟩:=F.next h;have h:=pU (Rd:=Rd) (one:=oL r) (nums:=fD) (bs:=l) (ns:=ns) (sb:=r.bad) F.ok (fun b _ x ns h=>entry_fwd F h) h;unfold jC;simp only;rw[a5,F.lim aA,Int.toNat_natCast];exact h
theorem run_fwd {q:Run}{x:σ}{ns:List Int}(hp:q.plan.edges.length<=31) (h12:q.plan.tasks<=12) (ht:(q.tasks.length:Int)=q.plan.tasks) (h:Rd x (jS q++ns)):(yO r x).2=q/\Rd (yO r x).1 ns:=by
 unfold jS at h;obtain⟨a1,h⟩:=F.next (ns:=(mK q.plan++(q.state::q.tasks.flatMap fK))++ns) h;rw[append_assoc]at h;obtain⟨a2,h⟩:=aZ8 F hp h;obtain⟨a3,h⟩:=F.next (ns:=q.tasks.flatMap fK++ns) h;have h:=pU (Rd:=Rd) (one:=xN r) (nums:=fK) (bs:=q.tasks) (ns:=ns) (sb:=r.bad) F.ok (fun b _ x ns h=>task_fwd F h) h;unfold yO;simp only;rw[a1,a2,a3,F.lim h12,<- ht,Int.toNat_natCast,h.1];exact⟨rfl,h.2⟩
structure YFits (y:Yard):Prop where
 four:y.shelf.length=4
 eighty:∀l∈y.shelf,l.length<=80
 eight:y.runs.length<=8
 runs:∀q∈y.runs,q.plan.edges.length<=31/\q.plan.tasks<=12/\(q.tasks.length:Int)=q.plan.tasks
theorem zT {sb:σ->Bool}(hs:∀{x ns},Rd x ns->sb x=false) {y:Yard}{x:σ}{ns:List Int}(hy:YFits y) (h:Rd x (dH y++ns)):(rQ r sb x).2=y/\Rd (rQ r sb x).1 ns:=by
 unfold dH at h;obtain⟨a1,h⟩:=F.next (ns:=(y.seq::(y.shelf.flatMap gI++((y.runs.length:Int)::y.runs.flatMap jS)))++ns) h;obtain⟨a2,h⟩:=F.next (ns:=(y.shelf.flatMap gI++((y.runs.length:Int)::y.runs.flatMap jS))++ns) h;rw[append_assoc]at h;have h:=pU (Rd:=Rd) (one:=jC r) (nums:=gI) (bs:=y.shelf) (sb:=sb) hs (fun b hb x ns h=>shelf_fwd F (hy.eighty b hb) h) h;rw[hy.four]at h;obtain⟨a3,h⟩:=h;obtain⟨a4,h⟩:=F.next (ns:=y.runs.flatMap jS++ns) h;have h:=pU (Rd:=Rd) (one:=yO r) (nums:=jS) (bs:=y.runs) (ns:=ns) (sb:=r.bad) F.ok (fun b hb x ns h=>run_fwd F (hy.runs b hb).1 (hy.runs b hb).2.1 (hy.runs b hb).2.2 h) h;unfold rQ;simp only;rw[a1,a2,a3,a4,F.lim (by have:=hy.eight;omega),Int.toNat_natCast,h.1];exact⟨rfl,h.2⟩
end
structure Bwd {σ:Type}(r:Rdr σ) (In:σ->Prop) (Cs:σ->σ->List Int->Prop):Prop where
 refl:∀{x},Cs x x []
 trans:∀{x y z a b},Cs x y a->Cs y z b->Cs x z (a++b)
 next:∀{x},r.bad (r.next x).1=false->r.bad x=false/\Cs x (r.next x).1 [(r.next x).2]
 lim:∀{k m x},r.bad (r.lim k m x)=false->r.lim k m x=x
 inn:∀{x},In x->In (r.next x).1/\0<=(r.next x).2/\(r.next x).2<=1000000000
 limI:∀{k m x},In x->In (r.lim k m x)
section
variable {σ:Type}{r:Rdr σ}{In:σ->Prop}{Cs:σ->σ->List Int->Prop}
theorem mL {β:Type}{sb:σ->Bool}{one:σ->σ×β}(h1:∀x,In x->In (one x).1) {x:σ}(h:In x):∀i,In (dS sb one x i).1/\(dS sb one x i).2.length<=i
 | 0=>⟨h,Nat.le_refl _⟩
 | i+1=>by
  have ih:=mL (sb:=sb) h1 h i;unfold dS;split
  ·exact⟨ih.1,by omega⟩
  ·exact⟨h1 _ ih.1,by simp only[length_append,length_singleton];omega⟩
variable (B:Bwd r In Cs)
include B
theorem nI {β:Type}{sb:σ->Bool}{one:σ->σ×β}{nums:β->List Int}{p:β->Prop}(hs:∀{x},sb x=true->r.bad x=true) (hI:∀x,In x->In (one x).1)
  (h1:∀x,In x->r.bad (one x).1=false->r.bad x=false/\Cs x (one x).1 (nums (one x).2)/\p (one x).2) {x:σ}(hx:In x) :
  ∀i,r.bad (dS sb one x i).1=false->r.bad x=false/\Cs x (dS sb one x i).1 ((dS sb one x i).2.flatMap nums)/\(dS sb one x i).2.length=i/\∀b∈(dS sb one x i).2,p b
 | 0,h=>⟨h,B.refl,rfl,fun b hb=>by cases hb⟩
 | i+1,h=>by
  have ih:=nI (sb:=sb) hs hI h1 hx i;unfold dS at h ⊢;split at h
  ·next hb=>rw[hs hb]at h;cases h
  ·next hb=>
   rw[if_neg hb];obtain⟨g1,g2,g3⟩:=h1 _ (mL hI hx i).1 h;obtain⟨k1,k2,k3,k4⟩:=ih g1;refine⟨k1,?_,by simp[k3],fun b hm=>?_⟩
   ·rw[flatMap_append];simpa using B.trans k2 g2
   ·rcases mem_append.1 hm with hm | hm
    ·exact k4 b hm
    ·simp only[mem_singleton]at hm;rw[hm];exact g3
theorem bR1 (x:σ) (h:In x):In (vE r x).1:=(B.inn (B.inn h).1).1
theorem bE9 (x:σ) (h:In x):In (oL r x).1:=(B.inn (B.inn (B.inn (B.inn h).1).1).1).1
theorem bK5 (x:σ) (h:In x):In (xN r x).1:=(B.inn (B.inn (B.inn (B.inn h).1).1).1).1
theorem n64 {x:σ}(h:In x):I64 (r.next x).2:=by have:=B.inn h;unfold I64;omega
theorem bN5 (x:σ) (h:In x):In (kP r x).1:=(mL (bR1 B) (B.limI (B.inn (B.inn (B.inn (B.inn (B.inn h).1).1).1).1).1) _).1
theorem plan_ok (x:σ) (h:In x):(kP r x).2.ok:=⟨n64 B h,n64 B (B.inn h).1,n64 B (B.inn (B.inn h).1).1,n64 B (B.inn (B.inn (B.inn h).1).1).1⟩
theorem aB7 (x:σ) (h:In x):In (jC r x).1:=(mL (bE9 B) (B.limI (B.inn h).1) _).1
theorem bX6 (x:σ) (h:In x):In (yO r x).1:=(mL (bK5 B) (B.limI (B.inn (bN5 B _ (B.inn h).1)).1) _).1
theorem edge_bwd (x:σ) (hx:In x) (h:r.bad (vE r x).1=false):r.bad x=false/\Cs x (vE r x).1 (oM (vE r x).2)/\True:=by
 obtain⟨h2,c2⟩:=B.next h;obtain⟨h1,c1⟩:=B.next h2;exact⟨h1,B.trans c1 c2,trivial⟩
theorem pW {x:σ}(h:r.bad (r.next (r.next (r.next (r.next x).1).1).1).1=false):r.bad x=false/\Cs x (r.next (r.next (r.next (r.next x).1).1).1).1 [(r.next x).2,(r.next (r.next x).1).2,(r.next (r.next (r.next x).1).1).2,(r.next (r.next (r.next (r.next x).1).1).1).2]:=by
 obtain⟨h4,c4⟩:=B.next h;obtain⟨h3,c3⟩:=B.next h4;obtain⟨h2,c2⟩:=B.next h3;obtain⟨h1,c1⟩:=B.next h2;exact⟨h1,B.trans c1 (B.trans c2 (B.trans c3 c4))⟩
theorem entry_bwd (x:σ) (hx:In x) (h:r.bad (oL r x).1=false):r.bad x=false/\Cs x (oL r x).1 (fD (oL r x).2)/\True:=⟨(pW B h).1,(pW B h).2,trivial⟩
theorem task_bwd (x:σ) (hx:In x) (h:r.bad (xN r x).1=false):r.bad x=false/\Cs x (xN r x).1 (fK (xN r x).2)/\True:=⟨(pW B h).1,(pW B h).2,trivial⟩
theorem plan_bwd (x:σ) (hx:In x) (h:r.bad (kP r x).1=false):r.bad x=false/\Cs x (kP r x).1 (mK (kP r x).2):=by
 have i4:=(B.inn (B.inn (B.inn (B.inn hx).1).1).1).1;have i5:=B.inn i4;obtain⟨g1,g2,g3,_⟩:=nI B (sb:=r.bad) (p:=fun _=>True) (fun h=>h) (bR1 B) (edge_bwd B) (B.limI i5.1) _ h;have e:=B.lim g1;rw[e]at g1;obtain⟨h5,c5⟩:=B.next g1;obtain⟨h4,c4⟩:=pW B h5;refine⟨h4,?_⟩;rw[pP];have g2':Cs (r.next (r.next (r.next (r.next (r.next x).1).1).1).1).1 (kP r x).1 ((kP r x).2.edges.flatMap oM):=by rw[<- e];exact g2
 have:=B.trans c4 (B.trans c5 g2');have e2:((kP r x).2.edges.length:Int)=(r.next (r.next (r.next (r.next (r.next x).1).1).1).1).2:=by
  show ((dS r.bad (vE r) _ _).2.length:Int)=_;rw[g3];have:=i5.2.1;omega
 rw[e2];exact this
theorem shelf_bwd (x:σ) (hx:In x) (h:r.bad (jC r x).1=false):r.bad x=false/\Cs x (jC r x).1 (gI (jC r x).2)/\True:=by
 have i1:=B.inn hx;obtain⟨g1,g2,g3,_⟩:=nI B (sb:=r.bad) (p:=fun _=>True) (fun h=>h) (bE9 B) (entry_bwd B) (B.limI i1.1) _ h;have e:=B.lim g1;rw[e]at g1;obtain⟨h1,c1⟩:=B.next g1;refine⟨h1,?_,trivial⟩;have g2':Cs (r.next x).1 (jC r x).1 ((jC r x).2.flatMap fD):=by rw[<- e];exact g2
 have e2:((jC r x).2.length:Int)=(r.next x).2:=by
  show ((dS r.bad (oL r) _ _).2.length:Int)=_;rw[g3];have:=i1.2.1;omega
 unfold gI;rw[e2];exact B.trans c1 g2'
theorem run_bwd (x:σ) (hx:In x) (h:r.bad (yO r x).1=false):r.bad x=false/\Cs x (yO r x).1 (jS (yO r x).2)/\True:=by
 have i1:=(B.inn hx).1;have i2:=bN5 B _ i1;have i3:=B.inn i2;obtain⟨g1,g2,g3,_⟩:=nI B (sb:=r.bad) (p:=fun _=>True) (fun h=>h) (bK5 B) (task_bwd B) (B.limI i3.1) _ h;have e:=B.lim g1;rw[e]at g1;obtain⟨h3,c3⟩:=B.next g1;obtain⟨h2,c2⟩:=plan_bwd B _ i1 h3;obtain⟨h1,c1⟩:=B.next h2;have g2':Cs (r.next (kP r (r.next x).1).1).1 (yO r x).1 ((yO r x).2.tasks.flatMap fK):=by rw[<- e];exact g2
 exact⟨h1,B.trans c1 (B.trans c2 (B.trans c3 g2')),trivial⟩
theorem yard_bwd {sb:σ->Bool}(hs:∀{x},sb x=true->r.bad x=true) (x:σ) (hx:In x) (h:r.bad (rQ r sb x).1=false):r.bad x=false/\Cs x (rQ r sb x).1 (dH (rQ r sb x).2):=by
 have i2:=(B.inn (B.inn hx).1).1;have i3:=(mL (sb:=sb) (aB7 B) i2 4).1;have i4:=B.inn i3;obtain⟨g1,g2,g3,_⟩:=nI B (sb:=r.bad) (p:=fun _=>True) (fun h=>h) (bX6 B) (run_bwd B) (B.limI i4.1) _ h;have e:=B.lim g1;rw[e]at g1;obtain⟨h4,c4⟩:=B.next g1;obtain⟨h3,c3,l3,_⟩:=nI B (sb:=sb) (p:=fun _=>True) hs (aB7 B) (shelf_bwd B) i2 4 h4;obtain⟨h2,c2⟩:=B.next h3;obtain⟨h1,c1⟩:=B.next h2;refine⟨h1,?_⟩;have g2':Cs (r.next (dS sb (jC r) (r.next (r.next x).1).1 4).1).1 (rQ r sb x).1 ((rQ r sb x).2.runs.flatMap jS):=by rw[<- e];exact g2
 have e2:((rQ r sb x).2.runs.length:Int)=(r.next (dS sb (jC r) (r.next (r.next x).1).1 4).1).2:=by
  show ((dS r.bad (yO r) _ _).2.length:Int)=_;rw[g3];have:=i4.2.1;omega
 unfold dH;rw[e2];exact B.trans c1 (B.trans c2 (B.trans c3 (B.trans c4 g2')))
end
noncomputable def linR:Rdr LIn:=⟨jJ,LIn.bad,fun k m x=>if k<m then ⟨x.s,x.at_,true⟩ else x⟩
def numR:Rdr Numb:=⟨bO1,Numb.bad,fun _ _ x=>x⟩
def jW (ns:List Nat):List Int:=ns.map fun n:Nat=>(n:Int)
def LRd (x:LIn) (l:List Int):Prop:=x.bad=false/\∃ns,gC ns/\l=jW ns/\cT ns=x.s.data.toList.drop x.at_
theorem linF:Fwd linR LRd where
 next:=by
  rintro x n l ⟨h,ns,h1,h2,h3⟩;cases ns with
  | nil=>cases h2
  | cons m ns=>
   simp only[jW,map_cons,List.cons.injEq]at h2;obtain⟨rfl,rfl⟩:=h2;have hm:m<=1000000000:=h1 m mem_cons_self;have e:=tT hm (l:=x.s.data.toList.drop x.at_) (by rw[<- h3];exact⟨cT ns,by simp[cT]⟩);have e2:jJ x=(⟨x.s,x.at_+(aM m).length,x.bad⟩,(m:Int)):=by
    unfold jJ;rw[if_neg (by rw[h];simp),e]
   show (jJ x).2=_/\LRd (jJ x).1 _;rw[e2];refine⟨rfl,h,ns,fun k hk=>h1 k (mem_cons_of_mem _ hk),rfl,?_⟩;show _=x.s.data.toList.drop (x.at_+(aM m).length);rw[<- drop_drop,<- h3];simp[cT]
 ok:=fun h=>h.1
 lim:=fun h=>by
  show (if _ then _ else _)=_;rw[if_neg aA]
def NRd (x:Numb) (l:List Int):Prop:=x.bad=false/\x.list=l
theorem numF:Fwd numR NRd where
 next:=by
  rintro x n l ⟨h,h2⟩;show (bO1 x).2=_/\NRd (bO1 x).1 _;unfold bO1 NRd;simp[h,h2]
 ok:=fun h=>h.1
 lim:=fun _=>rfl
def LCs (x y:LIn) (l:List Int):Prop:=y.s=x.s/\∃ns,gC ns/\l=jW ns/\x.s.data.toList.drop x.at_=cT ns++x.s.data.toList.drop y.at_
theorem small9_app {a b:List Nat}(h:gC a) (k:gC b):gC (a++b):=fun n hn=>(mem_append.1 hn).elim (h n) (k n)
theorem varsB_app (a b:List Nat):cT (a++b)=cT a++cT b:=by unfold cT;rw[flatMap_append]
theorem linB:Bwd linR LIn.in_ LCs where
 refl:=⟨rfl,[],fun _ h=>(by cases h),rfl,rfl⟩
 trans:=by
  rintro x y z a b ⟨h1,ns,h2,rfl,h3⟩ ⟨g1,ms,g2,rfl,g3⟩;rw[h1]at g1 g3;exact⟨g1,ns++ms,small9_app h2 g2,by simp[jW],by rw[h3,g3,varsB_app,append_assoc]⟩
 next:=by
  intro x h;have h:(jJ x).1.bad=false:=h;show x.bad=false/\LCs x (jJ x).1 [(jJ x).2];unfold jJ at h ⊢;split at h
  ·next hb=>rw[hb]at h;cases h
  next hb=>
  rw[if_neg hb];have hb:x.bad=false:=by cases h:x.bad<;>simp_all
  split at h
  ·cases h
  next n k hv=>
  obtain⟨h1,h2,h3⟩:=iV hv;refine⟨hb,rfl,[n],fun m hm=>?_,rfl,?_⟩
  ·simp at hm;subst hm;exact h1
  obtain⟨t,ht⟩:=h2;show x.s.data.toList.drop x.at_=cT [n]++x.s.data.toList.drop (x.at_+k);rw[<- drop_drop,<- ht,h3];simp[cT]
 lim:=by
  intro k m x h;show (if _ then _ else _)=_;by_cases hk:k<m
  ·have h:(if k<m then (⟨x.s,x.at_,true⟩:LIn) else x).bad=false:=h;rw[if_pos hk]at h;cases h
  rw[if_neg hk]
 inn:=fun {x} h=>by
  refine⟨pS h,?_,nextL_le x⟩;show 0<=(jJ x).2;unfold jJ;split
  ·simp
  split<;>simp
 limI:=by
  intro k m x h;show (if k<m then (⟨x.s,x.at_,true⟩:LIn) else x).in_;split
  ·exact h
  exact h
def Numb.in_ (x:Numb):Prop:=∀n∈x.list,0<=n/\n<=1000000000
def yard0:Yard:=⟨0,0,[],[]⟩
def rmS (ry:ByteArray->Yard×Bool) (s:ByteArray):Yard×Int×Bool:=
 if (yJ s 0).2=true/\(yJ s 4).2=true/\inB (yJ s 0).1 0 1000000000=true/\s.size<=60000/\cL (s.extract 8 s.size)=(yJ s 4).1/\(ry (s.extract 8 s.size)).2=true then ((ry (s.extract 8 s.size)).1,(yJ s 0).1,true) else (yard0,0,false)
theorem aO5 {s:ByteArray}{a:Nat}(h:(yJ s a).2=true):a+4<=s.size:=by
 unfold yJ at h;split at h
 ·assumption
 cases h
theorem fourOf_data {n:Int}(h:0<=n/\n<=4294967295):(cA n).data.toList=nM n:=by
 unfold cA;rw[if_pos (inB_iff'.2 h)]
theorem aI4 (a b:ByteArray):(a++b).data.toList=a.data.toList++b.data.toList:=by
 simp[ByteArray.data_append]
def zG (y:Yard) (j:Nat):Prop:=∀h:j<y.runs.length,dP y.runs[j]=true/\aF y y.runs[j].id=(j:Int)/\eS y.now y.runs[j] y.shelf.flatten=true
noncomputable def aG (y:Yard):Bool:=pB ((0<=y.now/\y.now<=999999980)/\(1<=y.seq/\y.seq<=1000000000)/\y.shelf.length=4/\y.runs.length<=8/\(∀l∈y.shelf,cJ l=true) /\
 (∀e∈y.shelf.flatten,1<=e.seq/\e.seq<=y.seq-1)/\(y.shelf.flatten.map (·.seq)).Nodup/\(∀j,j<y.runs.length->zG y j)/\cI y<=40)
theorem aB9 {r:Run}(h:dP r=true):(0<=r.plan.wait/\r.plan.wait<=20)/\r.tasks.length<=12:=by
 have h1:=pB_iff.1 h;have h2:=(gV h1.2.1).1;have h3:=h1.2.2.1;unfold aN at h2;omega
theorem bF7 {α:Type}{p:α->Prop}{xs:List α}{k:Nat}(hk:k<xs.length) (h:∀x∈xs.take k,p x) (h1:p xs[k]):∀x∈xs.take (k+1),p x:=by
 intro x hx;rw[take_succ_eq_append_getElem hk]at hx;rcases mem_append.1 hx with hx | hx
 ·exact h x hx
 rw[mem_singleton]at hx;subst hx;exact h1
theorem aE8 {α β:Type}(f:α->β) {xs:List α}{k:Nat}(hk:k<xs.length):(xs.take (k+1)).map f=(xs.take k).map f++[f xs[k]]:=by
 rw[take_succ_eq_append_getElem hk,map_append];rfl
theorem nodup_map_step {xs:List Entry}{k:Nat}(hk:k<xs.length) (h:((xs.take k).map (·.seq)).Nodup) (hn:xs[k].seq∉(xs.take k).map (·.seq)):((xs.take (k+1)).map (·.seq)).Nodup:=by
 rw[aE8 _ hk,nodup_append];exact⟨h,by simp,fun a ha b hb=>by simp at hb;subst hb;exact fun e=>hn (e▸ha)⟩
theorem not_nodup_map {xs:List Entry}{k:Nat}(hk:k<xs.length) (hm:xs[k].seq∈(xs.take k).map (·.seq)):¬(xs.map (·.seq)).Nodup:=by
 intro h;have h2:((xs.take (k+1)).map (·.seq)).Nodup:=h.sublist ((take_sublist _ _).map _);rw[aE8 _ hk,nodup_append]at h2;exact h2.2.2 _ hm _ (by simp) rfl

def aR5 (n:Int):List UInt8:=(aR n).data.toList
def eU (l:List Int):List UInt8:=l.flatMap aR5
theorem vtxt_nat {n:Nat}(h:n<=1000000000):aR5 (n:Int)=aM n:=by
 unfold aR5 aR;rw[if_pos (inB_iff'.2 ⟨by omega,by omega⟩)];simp
theorem pI:∀{ns:List Nat},gC ns->eU (jW ns)=cT ns
 | [],_=>rfl
 | n::ns,h=>by
  have ih:=pI (ns:=ns) fun m hm=>h m (mem_cons_of_mem _ hm)
  show aR5 (n:Int)++eU (jW ns)=aM n++cT ns;rw[ih,vtxt_nat (h n mem_cons_self)]
theorem castN_app (a b:List Nat):jW (a++b)=jW a++jW b:=by simp[jW]
theorem yard_pB {y:Yard}(h:aG y=true):(0<=y.now/\y.now<=999999980)/\(1<=y.seq/\y.seq<=1000000000)/\y.shelf.length=4/\y.runs.length<=8/\(∀l∈y.shelf,cJ l=true) /\
  (∀e∈y.shelf.flatten,1<=e.seq/\e.seq<=y.seq-1)/\(y.shelf.flatten.map (·.seq)).Nodup/\(∀j,j<y.runs.length->zG y j)/\cI y<=40:=pB_iff.1 h
theorem tC {y:Yard}(h:aG y=true):YFits y:=by
 obtain⟨_,_,h3,h4,h5,_,_,h8,_⟩:=yard_pB h;refine⟨h3,fun l hl=>(pB_iff.1 (h5 l hl)).1,h4,fun q hq=>?_⟩;obtain⟨j,hj,rfl⟩:=getElem_of_mem hq;obtain⟨hr,_⟩:=h8 j hj hj;obtain⟨_,hp,ht,_⟩:=pB_iff.1 hr;obtain⟨hm,_⟩:=gV hp;have hm:=pM hm;exact⟨by omega,by omega,ht⟩
noncomputable def gA (y:Yard):ByteArray:=if aG y=true then ⟨(eU (dH y)).toArray⟩ else ⟨#[]⟩
noncomputable def nA (s:ByteArray):LIn×Yard:=rQ linR LIn.bad ⟨s,0,false⟩
noncomputable def wF (s:ByteArray):Yard×Bool:=if s.size<=60000/\(nA s).1.bad=false/\(nA s).1.at_=s.size/\aG (nA s).2=true then ((nA s).2,true) else (yard0,false)
def YTx (y:Yard) (s:ByteArray):Prop:=aG y=true/\∃ns,gC ns/\dH y=jW ns/\cT ns=s.data.toList
theorem ba_ext {a b:ByteArray}(h:a.data.toList=b.data.toList):a=b:=by
 cases a;cases b;simp only[ByteArray.mk.injEq];exact Array.toList_inj.1 h
theorem yardL_in {s:ByteArray}(hs:s.size<=1048576):(nA s).1.in_:=
 (mL (bX6 linB) (linB.limI (linB.inn (mL (sb:=LIn.bad) (aB7 linB) (linB.inn (linB.inn (x:=⟨s,0,false⟩) ⟨hs,Nat.zero_le _⟩).1).1 4).1).1) _).1
theorem aK2 {s:ByteArray}(hs:s.size<=1048576) (h2:(nA s).1.bad=false):(nA s).1.s=s/\∃ns,gC ns/\dH (nA s).2=jW ns/\s.data.toList=cT ns++s.data.toList.drop (nA s).1.at_:=by
 obtain⟨_,hc⟩:=yard_bwd linB (sb:=LIn.bad) (fun h=>h) ⟨s,0,false⟩ ⟨hs,Nat.zero_le _⟩ h2;exact hc
theorem readYS_iff {s:ByteArray}{y:Yard}(hs:s.size<=60000):wF s=(y,true)↔YTx y s:=by
 constructor
 ·intro h;unfold wF at h;split at h
  ·next hc=>
   obtain⟨h1,h2,h3,h4⟩:=hc;simp only[Prod.mk.injEq,and_true]at h;subst h;obtain⟨_,ns,k1,k2,k3⟩:=aK2 aA h2;refine⟨h4,ns,k1,k2,?_⟩;have hd:s.data.toList.drop s.size=[]:=drop_eq_nil_of_le (Nat.le_of_eq rfl);rw[h3,hd,append_nil]at k3;exact k3.symm
  cases h
 rintro⟨h,ns,h1,h2,h3⟩;have hf:=zT linF (sb:=LIn.bad) (fun h=>h.1) (tC h) (x:=⟨s,0,false⟩) (ns:=[]) ⟨rfl,ns,h1,by rw[h2,append_nil],by rw[h3];rfl⟩;have e1:(nA s).2=y:=hf.1;obtain⟨e2,ms,_,e3,e4⟩:=hf.2;have hin:=yardL_in (s:=s) aA;have e2:(nA s).1.bad=false:=e2;have es:=(aK2 aA e2).1;cases ms with
 | cons m ms=>cases e3
 | nil=>
  have e4:[]=(nA s).1.s.data.toList.drop (nA s).1.at_:=e4;have e5:=congrArg List.length e4;rw[nQ]at e5;have hle:=hin.2;rw[es]at e5 hle;unfold wF;rw[if_pos ⟨hs,e2,by simp at e5;omega,by rw[e1];exact h⟩,e1]
theorem sumOf_4 (t:ByteArray):0<=cL t/\cL t<=4294967295:=by have:=vZ t;omega
theorem aO6 {n:Int}(h:0<=n/\n<=4294967295):(cA n).size=4:=by
 have:(cA n).data.toList.length=(cA n).size:=rfl;rw[fourOf_data h]at this;exact this.symm
structure YoH (y:Yard):Prop where
 now:0<=y.now/\y.now<=999999980
 seq:1<=y.seq/\y.seq<=1000000000
 four:y.shelf.length=4
 eight:y.runs.length<=8
theorem yo_1 {y:Yard}(h:¬(0<=y.now/\y.now<=999999980)):false=aG y:=by unfold aG;rw[kX (fun z=>h z.1)]
theorem yo_2 {y:Yard}(h:¬(1<=y.seq/\y.seq<=1000000000)):false=aG y:=by unfold aG;rw[kX (fun z=>h z.2.1)]
theorem yo_3 {y:Yard}(h:¬(y.shelf.length:Int)=4):false=aG y:=by unfold aG;rw[kX (fun z=>h (by have:=z.2.2.1;omega))]
theorem yo_4 {y:Yard}(h:(8:Int)<y.runs.length):false=aG y:=by unfold aG;rw[kX (fun z=>by have:=z.2.2.2.1;omega)]
theorem yo_5 {y:Yard}{l:List Entry}(hl:l∈y.shelf) (h:cJ l=false):false=aG y:=by unfold aG;rw[kX (fun z=>by rw[z.2.2.2.2.1 l hl]at h;cases h)]
theorem yo_6 {y:Yard}{e:Entry}(he:e∈y.shelf.flatten) (h:inB e.seq 1 (y.seq-1)=false):false=aG y:=by unfold aG;rw[kX (fun z=>sZ h (z.2.2.2.2.2.1 e he))]
theorem yo_7 {y:Yard}(h:¬(y.shelf.flatten.map (·.seq)).Nodup):false=aG y:=by unfold aG;rw[kX (fun z=>h z.2.2.2.2.2.2.1)]
theorem bU3 {y:Yard}{k:Nat}{r:Run}(hr:y.runs[k]? = some r) (h:¬(dP r=true/\aF y r.id=(k:Int)/\eS y.now r y.shelf.flatten=true)):false=aG y:=by
 obtain⟨hk,rfl⟩:=gsi_.1 hr;unfold aG;rw[kX (fun z=>h (z.2.2.2.2.2.2.2.1 k hk hk))]
structure YsJ (y:Yard) (k:Nat):Prop where
 le:k<=y.shelf.length
 ok:∀l∈y.shelf.take k,cJ l=true
theorem YsJ.start (y:Yard):YsJ y 0:=⟨Nat.zero_le _,fun l h=>by simp at h⟩
theorem YsJ.next {y:Yard}{k:Nat}{l:List Entry}(h:YsJ y k) (hl:y.shelf[k]? = some l) (ho:cJ l=true):YsJ y (k+1):=by
 obtain⟨hk,rfl⟩:=gsi_.1 hl;exact⟨hk,bF7 hk h.ok ho⟩
theorem YsJ.all {y:Yard}{k:Nat}(h:YsJ y k) (hk:¬(k:Int)<y.shelf.length):∀l∈y.shelf,cJ l=true:=by
 have:=h.ok
 rwa [take_of_length_le aA]at this
structure YeJ (y:Yard) (k:Nat):Prop where
 le:k<=y.shelf.flatten.length
 ok:∀e∈y.shelf.flatten.take k,1<=e.seq/\e.seq<=y.seq-1
 nd:((y.shelf.flatten.take k).map (·.seq)).Nodup
theorem YeJ.start (y:Yard):YeJ y 0:=⟨Nat.zero_le _,fun e h=>by simp at h,by simp⟩
theorem YeJ.next {y:Yard}{k:Nat}{e:Entry}(h:YeJ y k) (he:y.shelf.flatten[k]? = some e) (h1:inB e.seq 1 (y.seq-1)=true) (h2:e.seq∉(y.shelf.flatten.take k).map (·.seq)):YeJ y (k+1):=by
 obtain⟨hk,rfl⟩:=gsi_.1 he;exact⟨hk,bF7 hk h.ok (inB_iff.1 h1),nodup_map_step hk h.nd h2⟩
theorem bV7 {y:Yard}{k:Nat}{e:Entry}(he:y.shelf.flatten[k]? = some e) (h2:e.seq∈(y.shelf.flatten.take k).map (·.seq)):¬(y.shelf.flatten.map (·.seq)).Nodup:=by
 obtain⟨hk,rfl⟩:=gsi_.1 he;exact not_nodup_map hk h2
theorem bV6 {es:List Entry}{k:Nat}{e:Entry}(he:es[k]? = some e):(es.take k).map (·.seq)++[e.seq]=(es.take (k+1)).map (·.seq):=by
 obtain⟨hk,rfl⟩:=gsi_.1 he;rw[aE8 _ hk]
theorem YeJ.all {y:Yard}{k:Nat}(h:YeJ y k) (hk:¬(k:Int)<y.shelf.flatten.length):(∀e∈y.shelf.flatten,1<=e.seq/\e.seq<=y.seq-1)/\(y.shelf.flatten.map (·.seq)).Nodup:=by
 have h1:=h.ok;have h2:=h.nd;rw[take_of_length_le aA]at h1 h2;exact⟨h1,h2⟩
structure YrJ (y:Yard) (k:Nat):Prop where
 le:k<=y.runs.length
 ok:∀j,j<k->zG y j
theorem YrJ.start (y:Yard):YrJ y 0:=⟨Nat.zero_le _,fun j h=>by omega⟩
theorem YrJ.next {y:Yard}{k:Nat}{r:Run}(h:YrJ y k) (hr:y.runs[k]? = some r) (h1:dP r=true) (h2:aF y r.id=(k:Int)) (h3:eS y.now r y.shelf.flatten=true):YrJ y (k+1):=by
 obtain⟨hk,rfl⟩:=gsi_.1 hr;refine⟨hk,fun j hj=>?_⟩;rcases Nat.lt_succ_iff_lt_or_eq.1 hj with h4 | rfl
 ·exact h.ok j h4
 exact fun _=>⟨h1,h2,h3⟩
theorem bV5 {y:Yard}{k:Nat}(hH:YoH y) (h5:∀l∈y.shelf,cJ l=true) (h6:(∀e∈y.shelf.flatten,1<=e.seq/\e.seq<=y.seq-1)/\(y.shelf.flatten.map (·.seq)).Nodup) (h:YrJ y k) (hk:¬(k:Int)<y.runs.length):decide (cI y<=40)=aG y:=by
 unfold aG;have h7:∀j,j<y.runs.length->zG y j:=fun j hj=>h.ok j (by have:=h.le;omega)
 by_cases h8:cI y<=40
 ·rw[pQ ⟨hH.now,hH.seq,hH.four,hH.eight,h5,h6.1,h6.2,h7,h8⟩];simpa using h8
 rw[kX (fun z=>h8 z.2.2.2.2.2.2.2.2)];simpa using h8
theorem bE4 {y:Yard}{k:Nat}{e:Entry}(he:y.shelf.flatten[k]? = some e):e∈y.shelf.flatten:=mem_of_getElem? he
theorem jN (y:Yard) (hw:y.wt<=1048576):Ct1 prog 53 [.S y] [.B (aG y)]:=
 .one (aG y) (rk:=fun x=>[.B x])<|vc func53 (fun (hg:gin [Par.S y])=>let gy:=hg.1.1
  let hb:=dJ y hw
  .c func29 (bR y.now 0 999999980) fun _=>.v (inB y.now 0 999999980) (fun h=>.rt false ⟨yo_1 (sZ h),trivial⟩) (fun h1=>
  .c func29 (bR y.seq 1 1000000000) fun _=>.v (inB y.seq 1 1000000000) (fun h=>.rt false ⟨yo_2 (sZ h),trivial⟩) (fun h2=>
  .u ((y.shelf.length:Int)=4) (fun h=>.rt false ⟨yo_3 h,trivial⟩) (fun h3=>
  .s ((8:Int)<y.runs.length) (fun h=>.rt false ⟨yo_4 h,trivial⟩) (fun h4=>let hH:YoH y:=⟨inB_iff.1 h1,inB_iff.1 h2,by omega,by omega⟩
  let hseq:=inB_iff.1 h2
  .l (Γ:=Nat) (fun k=>YsJ y k) (fun k=>y.shelf.length-k) [1,34,35] [2] [0,1] (fun k=>[vI 36 k]) (fun _=>[]) 0 (h:=YsJ.start y) fun k hJ t=>let hk0:=hJ.le
   .s ((k:Int)<y.shelf.length)
    (fun h=>.x y.shelf k (h:=by omega) fun l hl gl=>.c func99 (ShelfOk_i l) fun _=>.v (cJ l)
     (fun h5=>.rt false ⟨yo_5 (mem_of_getElem? hl) h5,trivial⟩)
     (fun h5=>.p k 1<|.n t (k+1) [] (hJ.next hl h5) aA))
    (fun h=>let h5:=hJ.all h
     .c func100 (aR2 y hw) (hg:=⟨gy,trivial⟩) fun _=>.w Int 3 6 <|
     .l (Γ:=Nat) (fun k=>YeJ y k) (fun k=>y.shelf.flatten.length-k) [1,5,46,47] [2,3] [0,1] (fun k=>[vR 6 4,vI 48 k]) (fun k=>[oR 4 3 ((y.shelf.flatten.take k).map (·.seq))]) 0 (h:=YeJ.start y) fun k hJ t=>let hk0:=hJ.le
     .s ((k:Int)<y.shelf.flatten.length)
      (fun h=>.x y.shelf.flatten k (h:=by omega) fun e he ge=>.m y.seq 1<|.c func29 (bR e.seq 1 (y.seq-1)) fun _=>.v (inB e.seq 1 (y.seq-1))
       (fun h6=>.rt false ⟨yo_6 (bE4 he) h6,trivial⟩)
       (fun h6=>.c func101 (bT8 ((y.shelf.flatten.take k).map (·.seq)) e.seq (by rw[length_map,length_take];omega)) fun _=>.s (e.seq∈(y.shelf.flatten.take k).map (·.seq))
        (fun h7=>.rt false ⟨yo_7 (bV7 he h7),trivial⟩)
        (fun h7=>.a ((y.shelf.flatten.take k).map (·.seq)) e.seq 8 (hy:=(show Entry.ok e from ge).2.1) (h63:=by rw[length_map,length_take];unfold maxLen;omega) (hby:=by rw[length_map,length_take];omega)<|.g 4 (bV6 he)<|.p k 1<|.n t (k+1) [] (hJ.next he h6 h7) aA)))
      (fun h=>let h6:=hJ.all h
       .l (Γ:=Nat) (fun k=>YrJ y k) (fun k=>y.runs.length-k) [1,5,72,73] [2,3] [0,1] (fun k=>[vI 74 k]) (fun _=>[]) 0 (h:=YrJ.start y) fun k hJ t=>let hk0:=hJ.le
       .s ((k:Int)<y.runs.length)
        (fun h=>.x y.runs k (h:=by omega) fun r hr gr=>.c func102 (bT0 r) (hg:=⟨gr,trivial⟩) fun _=>.v (dP r)
         (fun h7=>.rt false ⟨bU3 hr (fun z=>by rw[z.1]at h7;cases h7),trivial⟩)
         (fun h7=>.c func103 (jP y r.id hw) (hg:=⟨gy,trivial⟩) fun _=>.u (aF y r.id=(k:Int))
          (fun h8=>.rt false ⟨bU3 hr (fun z=>h8 z.2.1),trivial⟩)
          (fun h8=>.c func104 (RunsOk_i y r y.shelf.flatten hH.now (aB9 h7).1 aA) (hg:=⟨gy,gr,trivial⟩) fun _=>.v (eS y.now r y.shelf.flatten)
           (fun h9=>.rt false ⟨bU3 hr (fun z=>by rw[z.2.2]at h9;cases h9),trivial⟩)
           (fun h9=>.p k 1<|.n t (k+1) [] (hJ.next hr h7 h8 h9) aA))))
        (fun h=>.c func105 (aR0 y hw) (hg:=⟨gy,trivial⟩) fun _=>.rt (decide (cI y<=40)) ⟨bV5 hH h5 h6 hJ h,trivial⟩)))))))) aB
noncomputable def tZ (y:Yard):Bool:=pB (y.shelf.length=4/\(∀l∈y.shelf,cJ l=true)/\(∀e∈y.shelf.flatten,1<=e.seq/\e.seq<=y.seq-1)/\(y.shelf.flatten.map (·.seq)).Nodup)
theorem bM6 {y:Yard}(h:¬(y.shelf.length=4/\(∀l∈y.shelf,cJ l=true)/\(∀e∈y.shelf.flatten,1<=e.seq/\e.seq<=y.seq-1)/\(y.shelf.flatten.map (·.seq)).Nodup)):false=tZ y:=(kX h).symm
structure YdJ (es:List Entry) (k j:Nat) (e:Entry):Prop where
 le:j<=k
 no:e.seq∉(es.take j).map (·.seq)
theorem YdJ.start (es:List Entry) (k:Nat) (e:Entry):YdJ es k 0 e:=⟨Nat.zero_le _,by simp⟩
theorem YdJ.next {es:List Entry}{k j:Nat}{e f:Entry}(h:YdJ es k j e) (hj:j<k) (hf:es[j]? = some f) (hn:¬f.seq=e.seq):YdJ es k (j+1) e:=by
 refine⟨hj,?_⟩;rw[<- bV6 hf];intro hm;rcases mem_append.1 hm with h1 | h1
 ·exact h.no h1
 simp at h1;exact hn h1.symm
theorem yd_hit {es:List Entry}{k j:Nat}{e f:Entry}(hj:j<k) (hf:es[j]? = some f) (hn:f.seq=e.seq):e.seq∈(es.take k).map (·.seq):=by
 obtain⟨hk,rfl⟩:=gsi_.1 hf;rw[<- hn];exact mem_map.2 ⟨_,yD hk hj,rfl⟩
theorem Shelves_s (y:Yard) (hsq:1<=y.seq/\y.seq<=1000000000) (hw:y.wt<=1048576):Ct1 prog 117 [.S y] [.B (tZ y)]:=
 .one (tZ y) (rk:=fun x=>[.B x])<|vc func117 (fun (hg:gin [Par.S y])=>let gy:=hg.1.1
  let hb:=dJ y hw
  .u ((y.shelf.length:Int)=4) (fun h=>.rt false ⟨bM6 (fun z=>h (by have:=z.1;omega)),trivial⟩) (fun h3=>
  .l (Γ:=Nat) (fun k=>YsJ y k) (fun k=>y.shelf.length-k) [1] [2] [0,1] (fun k=>[vI 3 k]) (fun _=>[]) 0 (h:=YsJ.start y) fun k hJ t=>let hk0:=hJ.le
   .s ((k:Int)<y.shelf.length)
    (fun h=>.x y.shelf k (h:=by omega) fun l hl gl=>.c func169 (ShelfOk_s l) fun _=>.v (cJ l)
     (fun h5=>.rt false ⟨bM6 (fun z=>by rw[z.2.1 l (mem_of_getElem? hl)]at h5;cases h5),trivial⟩)
     (fun h5=>.p k 1<|.n t (k+1) [] (hJ.next hl h5) aA))
    (fun h=>let h5:=hJ.all h
     .c func120 (aR1 y hw) (hg:=⟨gy,trivial⟩) fun _=>
     .l (Γ:=Nat) (fun k=>YeJ y k) (fun k=>y.shelf.flatten.length-k) [1,4] [2,3] [0,1] (fun k=>[vI 5 k]) (fun k=>[]) 0 (h:=YeJ.start y) fun k hJ t=>let hk0:=hJ.le
     .s ((k:Int)<y.shelf.flatten.length)
      (fun h=>.x y.shelf.flatten k (h:=by omega) fun e he ge=>.m y.seq 1<|.c func38 (InV e.seq 1 (y.seq-1)) fun _=>.v (inB e.seq 1 (y.seq-1))
       (fun h6=>.rt false ⟨bM6 (fun z=>sZ h6 (z.2.2.1 e (bE4 he))),trivial⟩)
       (fun h6=>.l (Γ:=Nat) (fun j=>YdJ y.shelf.flatten k j e) (fun j=>k-j) [1,4,5] [2,3] [0,1] (fun j=>[vI 6 j]) (fun _=>[]) 0 (h:=YdJ.start _ k e) fun j hq t2=>let hj0:=hq.le
        .s ((j:Int)<(k:Int))
         (fun h7=>.x y.shelf.flatten j (h:=by omega) fun f hf gf=>.y he fun _=>.s (f.seq=e.seq)
          (fun h8=>.rt false ⟨bM6 (fun z=>bV7 he (yd_hit aA hf h8) z.2.2.2),trivial⟩)
          (fun h8=>.p j 1<|.n t2 (j+1) [] (hq.next aA hf h8) aA))
         (fun h7=>.p k 1<|.n t (k+1) [] (hJ.next he h6 (by have:=hq.no;rwa [show j=k by omega]at this)) aA)))
      (fun h=>.rt true ⟨(pQ ⟨by omega,h5,(hJ.all h).1,(hJ.all h).2⟩).symm,trivial⟩)))) aB
structure YqJ (y:Yard) (k:Nat):Prop where
 le:k<=y.runs.length
 ok:∀j r,j<k->y.runs[j]? = some r->dP r=true/\aF y r.id=(j:Int)
theorem YqJ.start (y:Yard):YqJ y 0:=⟨Nat.zero_le _,fun j r h=>by omega⟩
theorem YqJ.next {y:Yard}{k:Nat}{r:Run}(h:YqJ y k) (hr:y.runs[k]? = some r) (h1:dP r=true) (h2:aF y r.id=(k:Int)):YqJ y (k+1):=by
 refine⟨(gsi_.1 hr).1,fun j q hj hq=>?_⟩;rcases Nat.lt_succ_iff_lt_or_eq.1 hj with h4 | rfl
 ·exact h.ok j q h4 hq
 rw[hr]at hq;cases hq;exact⟨h1,h2⟩
theorem YqJ.all {y:Yard}{k:Nat}(h:YqJ y k) (hk:¬(k:Int)<y.runs.length) {j:Nat}{r:Run}(hr:y.runs[j]? = some r):dP r=true/\aF y r.id=(j:Int):=
 h.ok j r (by have:=(gsi_.1 hr).1;omega) hr
theorem jM (y:Yard) (hw:y.wt<=1048576):Ct1 prog 72 [.S y] [.B (aG y)]:=
 .one (aG y) (rk:=fun x=>[.B x])<|vc func72 (fun (hg:gin [Par.S y])=>let gy:=hg.1.1
  let hb:=dJ y hw
  .c func38 (InV y.now 0 999999980) fun _=>.v (inB y.now 0 999999980) (fun h=>.rt false ⟨yo_1 (sZ h),trivial⟩) (fun h1=>
  .c func38 (InV y.seq 1 1000000000) fun _=>.v (inB y.seq 1 1000000000) (fun h=>.rt false ⟨yo_2 (sZ h),trivial⟩) (fun h2=>
  .s ((8:Int)<y.runs.length) (fun h=>.rt false ⟨yo_4 h,trivial⟩) (fun h4=>
  .c func117 (Shelves_s y (inB_iff.1 h2) hw) (hg:=⟨gy,trivial⟩) fun _=>.v (tZ y) (fun h=>.rt false ⟨by unfold aG;rw[kX (fun z=>bY5 h ⟨z.2.2.1,z.2.2.2.2.1,z.2.2.2.2.2.1,z.2.2.2.2.2.2.1⟩)],trivial⟩) (fun h3=>let hS:=pB_iff.1 h3
  let hH:YoH y:=⟨inB_iff.1 h1,inB_iff.1 h2,hS.1,by omega⟩
  .l (Γ:=Nat) (fun k=>YqJ y k) (fun k=>y.runs.length-k) [1] [2] [0,1] (fun k=>[vI 3 k]) (fun _=>[]) 0 (h:=YqJ.start y) fun k hJ t=>let hk0:=hJ.le
   .s ((k:Int)<y.runs.length)
    (fun h=>.x y.runs k (h:=by omega) fun r hr gr=>.c func118 (aW2 r) (hg:=⟨gr,trivial⟩) fun _=>.v (dP r)
     (fun h7=>.rt false ⟨bU3 hr (fun z=>by rw[z.1]at h7;cases h7),trivial⟩)
     (fun h7=>.y hr fun _=>.c func119 (jO y r.id hw) (hg:=⟨gy,trivial⟩) fun _=>.u (aF y r.id=(k:Int))
      (fun h8=>.rt false ⟨bU3 hr (fun z=>h8 z.2.1),trivial⟩)
      (fun h8=>.p k 1<|.n t (k+1) [] (hJ.next hr h7 h8) aA)))
    (fun h=>.c func120 (aR1 y hw) (hg:=⟨gy,trivial⟩) fun _=>
     .l (Γ:=Nat) (fun k=>YrJ y k) (fun k=>y.runs.length-k) [1,4] [2,3] [0,1] (fun k=>[vI 5 k]) (fun _=>[]) 0 (h:=YrJ.start y) fun k hq t=>let hk0:=hq.le
     .s ((k:Int)<y.runs.length)
      (fun h6=>.x y.runs k (h:=by omega) fun r hr gr=>let hro:=hJ.all h hr
       .c func121 (RunsOk_s y r y.shelf.flatten hH.now (aB9 hro.1).1 aA) (hg:=⟨gy,gr,trivial⟩) fun _=>.v (eS y.now r y.shelf.flatten)
       (fun h9=>.rt false ⟨bU3 hr (fun z=>by rw[z.2.2]at h9;cases h9),trivial⟩)
       (fun h9=>.p k 1<|.n t (k+1) [] (hq.next hr hro.1 hro.2 h9) aA))
      (fun h6=>.c func122 (aQ9 y hw) (hg:=⟨gy,trivial⟩) fun _=>.rt (decide (cI y<=40)) ⟨bV5 hH hS.2.1 ⟨hS.2.2.1,hS.2.2.2⟩ hq h6,trivial⟩))))))) aB
def sW (y:Yard) (i:Nat):List Int:=y.now::y.seq::(y.shelf.take i).flatMap gI
def yR (y:Yard) (i:Nat) (l:List Entry) (k:Nat):List Int:=sW y i++((l.length:Int)::(l.take k).flatMap fD)
def pD (y:Yard) (i:Nat):List Int:=sW y y.shelf.length++((y.runs.length:Int)::(y.runs.take i).flatMap jS)
def yQ (y:Yard) (i:Nat) (r:Run) (k:Nat):List Int:=pD y i++(r.id::(mK r.plan++(r.state::(r.tasks.take k).flatMap fK)))
theorem bA3 (y:Yard):pD y y.runs.length=dH y:=by
 unfold pD sW dH;rw[take_length,take_length];rfl
theorem nN {α β:Type}{f:α->List β}{xs:List α}{i:Nat}{x:α}(h:xs[i]? = some x):(xs.take (i+1)).flatMap f=(xs.take i).flatMap f++f x:=by
 obtain⟨hi,rfl⟩:=gsi_.1 h;rw[take_succ_eq_append_getElem hi,flatMap_append];simp
theorem outE_next {y:Yard}{i:Nat}{l:List Entry}{k:Nat}{e:Entry}(h:l[k]? = some e):yR y i l k++fD e=yR y i l (k+1):=by
 unfold yR;rw[nN h];simp[append_assoc]
theorem bA4 {y:Yard}{i:Nat}{l:List Entry}(h:y.shelf[i]? = some l):yR y i l l.length=sW y (i+1):=by
 unfold yR sW;rw[nN h,take_length];simp[gI]
theorem outT_next {y:Yard}{i:Nat}{r:Run}{k:Nat}{e:Task}(h:r.tasks[k]? = some e):yQ y i r k++fK e=yQ y i r (k+1):=by
 unfold yQ;rw[nN h];simp[append_assoc]
theorem bA2 {y:Yard}{i:Nat}{r:Run}(h:y.runs[i]? = some r):yQ y i r r.tasks.length=pD y (i+1):=by
 unfold yQ pD;rw[nN h,take_length];simp[jS,append_assoc]
theorem bY6 (y:Yard) (i:Nat) (r:Run):((pD y i++[r.id])++mK r.plan)++[r.state]=yQ y i r 0:=by
 unfold yQ;simp[append_assoc]
theorem outE_0 (y:Yard) (i:Nat) (l:List Entry):sW y i++[(l.length:Int)]=yR y i l 0:=by
 unfold yR;simp
theorem outR_0 (y:Yard):sW y y.shelf.length++[(y.runs.length:Int)]=pD y 0:=by
 unfold pD;simp
theorem uW {α β:Type}{f:α->List β}{g:α->Nat}{c:Nat}(h:∀x,(f x).length<=c*(g x+1)):∀xs:List α,(xs.flatMap f).length<=c*(xs.length+(xs.map g).sum)
 | []=>by simp
 | x::xs=>by
  have ih:=uW h xs;have h1:=h x;rw[flatMap_cons,length_append,map_cons,sum_cons,length_cons];have e:c*(xs.length+1+(g x+(xs.map g).sum))=c*(g x+1)+c*(xs.length+(xs.map g).sum):=by
   rw[<- Nat.mul_add];congr 1;omega
  omega
theorem aU6 {α β:Type}{f:α->List β}{c:Nat}(h:∀x,(f x).length<=c) (xs:List α):(xs.flatMap f).length<=c*xs.length:=by
 have h1:=uW (f:=f) (g:=fun _=>0) (c:=c) (fun x=>by simpa using h x) xs;have h2:(xs.map fun _=>0).sum=0:=by
  induction xs with
  | nil=>rfl
  | cons a xs ih=>rw[map_cons,sum_cons,ih (uW (f:=f) (g:=fun _=>0) (c:=c) (fun x=>by simpa using h x) xs)]
 rw[h2]at h1;exact h1
theorem vU (y:Yard):(dH y).length<=3+8*y.wt:=by
 have h1:(y.shelf.flatMap gI).length<=8*(y.shelf.length+(y.shelf.map fun l=>l.length).sum):=uW (fun l=>by
  have:=aU6 (f:=fD) (c:=4) (fun _=>by simp[fD]) l;simp only[gI,length_cons];omega) _
 have h2:(y.runs.flatMap jS).length<=8*(y.runs.length+(y.runs.map fun q:Run=>q.wt).sum):=uW (fun q=>by
  have a:=aU6 (f:=fK) (c:=4) (fun _=>by simp[fK]) q.tasks;have b:=aU6 (f:=oM) (c:=2) (fun _=>by simp[oM]) q.plan.edges;rw[jS,pP];simp only[Run.wt,Plan.wt,length_cons,length_append];omega) _
 unfold Yard.wt wtL dH;simp only[length_cons,length_append];omega
theorem aD6 (y:Yard) (i:Nat):pD y i <+: dH y:=by
 rw[<- bA3];unfold pD;rw[take_length];refine⟨(y.runs.drop i).flatMap jS,?_⟩;rw[append_assoc,cons_append,<- flatMap_append,take_append_drop]
theorem uP (y:Yard) (i:Nat):sW y i <+: dH y:=by
 refine List.IsPrefix.trans ?_ (aD6 y 0);unfold pD sW;rw[take_length];refine⟨(y.shelf.drop i).flatMap gI++((y.runs.length:Int)::(y.runs.take 0).flatMap jS),?_⟩;simp only[cons_append,<- append_assoc,<- flatMap_append,take_append_drop]
theorem outE_pre {y:Yard}{i:Nat}{l:List Entry}(h:y.shelf[i]? = some l) (k:Nat):yR y i l k <+: dH y:=by
 refine List.IsPrefix.trans ?_ (uP y (i+1));rw[<- bA4 h];unfold yR;rw[take_length];refine⟨(l.drop k).flatMap fD,?_⟩;rw[append_assoc,cons_append,<- flatMap_append,take_append_drop]
theorem bA1 {y:Yard}{i:Nat}{r:Run}(h:y.runs[i]? = some r) (k:Nat):yQ y i r k <+: dH y:=by
 refine List.IsPrefix.trans ?_ (aD6 y (i+1));rw[<- bA2 h];unfold yQ;rw[take_length];refine⟨(r.tasks.drop k).flatMap fK,?_⟩;simp only[append_assoc,cons_append,<- flatMap_append,take_append_drop]
theorem sV {a:List Int}{y:Yard}(h:a <+: dH y) (hw:y.wt<=1048576):a.length<=8388611:=by
 have:=h.length_le;have:=vU y;omega
theorem aS0 {α:Type}{g:α->Nat}:∀{xs:List α}{x:α},x∈xs->g x<=(xs.map g).sum
 | a::xs,x,h=>by
  rw[map_cons,sum_cons];rcases mem_cons.1 h with rfl | h
  ·omega
  ·have:=aS0 (g:=g) h;omega
theorem run_wt_le {y:Yard}{r:Run}(h:r∈y.runs):r.wt<=y.wt:=by
 have:=aS0 (g:=fun q:Run=>q.wt) h;unfold Yard.wt wtL;omega
theorem shelf_wt_le {y:Yard}{l:List Entry}(h:l∈y.shelf):l.length<=y.wt:=by
 have:=aS0 (g:=fun q:List Entry=>q.length) h;unfold Yard.wt wtL;omega
theorem aK1 (y:Yard):y.shelf.length<=y.wt/\y.runs.length<=y.wt:=by unfold Yard.wt wtL;omega
theorem sM (l:List Int):(eU l).length<=5*l.length:=aU6 (fun n=>by
 have:=cZ n;unfold aR5;exact this) l
theorem xL {l:List Int}{k:Nat}{z:Int}(h:l[k]? = some z):eU (l.take k)++(aR z).data.toList=eU (l.take (k+1)):=(nN h).symm
theorem yardT_size {y:Yard}(hw:y.wt<=1048576):(gA y).size<=1000000000:=by
 unfold gA;split
 ·have h1:=sM (dH y);have h2:=vU y;show (eU (dH y)).toArray.size<=_;rw[size_toArray];omega
 decide
theorem YardOkD (y:Yard) (hw:y.wt<=1048576):Ct1 prog 53 [.S y] [.B (aG y)]:=jN y hw
theorem bF8 (y:Yard) (hw:y.wt<=1048576):Ct1 prog 72 [.S y] [.B (aG y)]:=jM y hw
theorem aM7:lF Edge:=fun _ _ _ _ h=>h.2.1
theorem aM6:lF Task:=fun _ _ _ _ h=>h.2.1
theorem cX {α:Type}{xs:List α}{k:Nat}{x:α}(h:xs[k]? = some x):xs.take k++[x]=xs.take (k+1):=by
 rw[take_add_one,h];rfl
theorem kM {α:Type}{xs:List α}{k:Nat}(h:¬(k:Int)<xs.length):xs.take k=xs:=take_of_length_le aA
theorem fA (xs:List Entry) (hl:xs.length<=1048576):Ct1 prog 113 [.L xs] [.rw (inferInstance:Shape Entry) 121 xs]:=
 vc func113 (fun hg=>.as (inferInstance:Shape Entry) eN [] xs 32 (by simp only[length_nil];unfold maxLen;omega) (by simp only[length_nil];omega)<|.rt () ⟨trivial,trivial⟩) aB
theorem aJ2 (p:Plan) (hl:p.edges.length<=1048576):Ct1 prog 167 [.S p] [.S p]:=
 vc func167 (fun hg=>.as (inferInstance:Shape Edge) aM7 [] p.edges 16 (by simp only[length_nil];unfold maxLen;omega) (by simp only[length_nil];omega)<|.rt () ⟨trivial,hg.1.1,trivial⟩) aB
theorem aJ1 (p:Plan) (hl:p.edges.length<=1048576):Ct1 prog 168 [.S p] [.S p]:=
 vc func168 (fun hg=>.e Edge<|.as (inferInstance:Shape Edge) aM7 [] p.edges 16 (by simp only[length_nil];unfold maxLen;omega) (by simp only[length_nil];omega)<|.rt () ⟨trivial,hg.1.1,trivial⟩) aB
theorem xG (r:Run) (hl:r.plan.edges.length<=1048576) (ht:r.tasks.length<=1048576):Ct1 prog 114 [.S r] [.S r]:=
 vc func114 (fun (hg:gin [Par.S r])=>.c func167 (aJ2 r.plan hl) (hg:=⟨hg.1.1.2.1,trivial⟩) fun _=>.as (inferInstance:Shape Task) aM6 [] r.tasks 32 (by simp only[length_nil];unfold maxLen;omega) (by simp only[length_nil];omega)<|.rt () ⟨trivial,hg.1.1,trivial⟩) aB
theorem lR (r:Run) (hl:r.plan.edges.length<=1048576) (ht:r.tasks.length<=1048576):Ct1 prog 115 [.S r] [.S r]:=
 vc func115 (fun (hg:gin [Par.S r])=>.c func168 (aJ1 r.plan hl) (hg:=⟨hg.1.1.2.1,trivial⟩) fun _=>.e Task<|.as (inferInstance:Shape Task) aM6 [] r.tasks 32 (by simp only[length_nil];unfold maxLen;omega) (by simp only[length_nil];omega)<|.rt () ⟨trivial,hg.1.1,trivial⟩) aB
theorem iK {y:Yard}{k:Nat}{l:List Entry}(h:y.shelf[k]? = some l) (hw:y.wt<=1048576):l.length<=1048576:=by have:=rD h hw;omega
theorem eJ (y:Yard) (hw:y.wt<=1048576):Ct1 prog 59 [.S y] [.S y]:=
 vc func59 (fun (hg:gin [Par.S y])=>let hb:=dJ y hw
  .wt 14<|.r0 (inferInstance:Shape (List Entry)) 117<|.l (Γ:=Nat) (fun k=>k<=y.shelf.length) (fun k=>y.shelf.length-k) [1,2,3,14,15] [2,3] [0,1] (fun k=>[vI 16 k]) (fun k=>[oR 5 117 (y.shelf.take k),oB 4 [.v (I y.now),.v (I y.seq),.r 5,.v (.slice none 0 0)]]) 0 fun k hk t=>
   .s ((k:Int)<y.shelf.length)
    (fun h=>.x y.shelf k (h:=by omega) fun l hl gl=>.c func113 (fA l (iK hl hw)) fun _=>.a (y.shelf.take k) l 24 (hy:=trivial) (h63:=by rw[length_take];unfold maxLen;omega) (hby:=by rw[length_take];omega)<|.g 5 (cX hl)<|.p k 1<|.n t (k+1) [])
    (fun h=>.g 5 (kM h)<|.r0 (inferInstance:Shape Run) 125<|.l (Γ:=Nat) (fun k=>k<=y.runs.length) (fun k=>y.runs.length-k) [1,2,3,29,30] [2,3] [0,1] (fun k=>[vI 31 k]) (fun k=>[oR 5 117 y.shelf,oR 6 125 (y.runs.take k),oB 4 [.v (I y.now),.v (I y.seq),.r 5,.r 6]]) 0 fun k hk t=>
     .s ((k:Int)<y.runs.length)
      (fun h2=>.x y.runs k (h:=by omega) fun r hr gr=>let hrl:=gJ hw hr
       .c func114 (xG r hrl.2.2 hrl.2.1) (hg:=⟨gr,trivial⟩) fun _=>.a (y.runs.take k) r 96 (hy:=gr) (h63:=by rw[length_take];unfold maxLen;omega) (hby:=by rw[length_take];omega)<|.g 6 (cX hr)<|.p k 1<|.n t (k+1) [])
      (fun h2=>.g 6 (kM h2)<|.rt () ⟨trivial,hg.1.1,trivial⟩))) aB
theorem eI (y:Yard) (hw:y.wt<=1048576):Ct1 prog 61 [.S y] [.S y]:=
 vc func61 (fun (hg:gin [Par.S y])=>let hb:=dJ y hw
  .wt 4<|.r0 (inferInstance:Shape (List Entry)) 117<|.l (Γ:=Nat) (fun k=>k<=y.shelf.length) (fun k=>y.shelf.length-k) [1,2,3] [2,3] [0,1] (fun k=>[vI 4 k]) (fun k=>[oR 5 117 (y.shelf.take k),oB 4 [.v (I y.now),.v (I y.seq),.r 5,.v (.slice none 0 0)]]) 0 fun k hk t=>
   .s ((k:Int)<y.shelf.length)
    (fun h=>.x y.shelf k (h:=by omega) fun l hl gl=>let hll:=iK hl hw
     .e Entry<|.as (inferInstance:Shape Entry) eN [] l 32 (by simp only[length_nil];unfold maxLen;omega) (by simp only[length_nil];omega)<|.a (y.shelf.take k) l 24 (hy:=trivial) (h63:=by rw[length_take];unfold maxLen;omega) (hby:=by rw[length_take];omega)<|.g 5 (cX hl)<|.p k 1<|.n t (k+1) [])
    (fun h=>.g 5 (kM h)<|.r0 (inferInstance:Shape Run) 125<|.l (Γ:=Nat) (fun k=>k<=y.runs.length) (fun k=>y.runs.length-k) [1,2,3] [2,3] [0,1] (fun k=>[vI 5 k]) (fun k=>[oR 5 117 y.shelf,oR 6 125 (y.runs.take k),oB 4 [.v (I y.now),.v (I y.seq),.r 5,.r 6]]) 0 fun k hk t=>
     .s ((k:Int)<y.runs.length)
      (fun h2=>.x y.runs k (h:=by omega) fun r hr gr=>let hrl:=gJ hw hr
       .c func115 (lR r hrl.2.2 hrl.2.1) (hg:=⟨gr,trivial⟩) fun _=>.a (y.runs.take k) r 96 (hy:=gr) (h63:=by rw[length_take];unfold maxLen;omega) (hby:=by rw[length_take];omega)<|.g 6 (cX hr)<|.p k 1<|.n t (k+1) [])
      (fun h2=>.g 6 (kM h2)<|.rt () ⟨trivial,hg.1.1,trivial⟩))) aB
def yardNew:Yard:=⟨0,1,List.replicate 4 [],[]⟩
def engineNew:Engine:=⟨yardNew,⟨[]⟩,1,0,[],1,false⟩
theorem yn_ok:yardNew.ok:=⟨by show I64 0;unfold I64;omega,by show I64 1;unfold I64;omega⟩
theorem yn_to (k:Nat):List.replicate k ([]:List Entry)++[[]]=List.replicate (k+1) []:=replicate_succ'.symm
theorem yn_all {k:Nat}(h:k<=4) (h2:¬(k:Int)<4):List.replicate k ([]:List Entry)=List.replicate 4 []:=by rw[show k=4 by omega]
theorem YardNewSD:Ct1 prog 125 [] [.S yardNew]:=vc func125 (fun _=>
 .wt 1<|.r0 (inferInstance:Shape (List Entry)) 117<|.l (Γ:=Nat) (fun k=>k<=4) (fun k=>4-k) [0,1] [0] [] (fun k=>[vI 2 k]) (fun k=>[oR 2 117 (List.replicate k ([]:List Entry)),oB 1 [.v (I 0),.v (I 1),.r 2,.v (.slice none 0 0)]]) 0 (h:=by omega) fun k hk t=>
  .s ((k:Int)<4)
   (fun h=>.e Entry<|.a (List.replicate k ([]:List Entry)) ([]:List Entry) 24 (hy:=trivial) (h63:=by rw[length_replicate];unfold maxLen;omega) (hby:=by rw[length_replicate];omega)<|.g 2 (yn_to k)<|.p k 1<|.n t (k+1) [])
   (fun h=>.g 2 (yn_all hk h)<|.rt () ⟨trivial,yn_ok,trivial⟩)) aB
structure waitP (e:Engine) (k:Nat) (w:Wait):Prop where
 rng:inB w.call 1 e.calls=true
 up:∀j v,k=j+1->e.waits[j]? = some v->v.call<w.call
structure engH (e:Engine):Prop where
 yard:aG e.yard=true
 disk:aP e.disk=true
 next:inB e.next 1 999999999=true
 calls:inB e.calls 0 999999999=true
 waits:¬(60:Int)<e.waits.length
 state:inB e.state 1 3=true
structure engP (e:Engine):Prop extends engH e where
 ok:∀k w,e.waits[k]? = some w->waitP e k w
noncomputable def bA (e:Engine):Bool:=pB (engP e)
theorem engOk_iff {e:Engine}:bA e=true↔engP e:=pB_iff
structure EgJ (e:Engine) (k:Nat):Prop extends engH e where
 le:k<=e.waits.length
 ok:∀j w,j<k->e.waits[j]? = some w->waitP e j w
theorem pA {e:Engine}(h:¬engH e):false=bA e:=(kX fun hp=>h hp.toengH).symm
theorem aV1 {e:Engine}{k:Nat}{w:Wait}(hw:e.waits[k]? = some w) (h:¬waitP e k w):false=bA e:=(kX fun hp=>h (hp.ok k w hw)).symm
theorem EgJ.start {e:Engine}(h:engH e):EgJ e 0:=⟨h,Nat.zero_le _,fun j w h=>by omega⟩
theorem EgJ.step {e:Engine}{k:Nat}{w:Wait}(h:EgJ e k) (hw:e.waits[k]? = some w) (hok:waitP e k w):EgJ e (k+1):=by
 refine⟨h.toengH,(gsi_.1 hw).1,fun j g hj hg=>?_⟩;rcases Nat.lt_succ_iff_lt_or_eq.1 hj with h1 | rfl
 ·exact h.ok j g h1 hg
 rw[hw]at hg;cases hg;exact hok
theorem cC4 {e:Engine}{k:Nat}(h:EgJ e k) (hk:¬(k:Int)<e.waits.length):true=bA e:=(pQ ⟨h.toengH,fun j w hj=>h.ok j w (by have:=(gsi_.1 hj).1;omega) hj⟩).symm
theorem zV {e:Engine}{k:Nat}{w:Wait}(h1:inB w.call 1 e.calls=true) (h:¬(0:Int)<k):waitP e k w:=⟨h1,fun j v e1 _=>by omega⟩
theorem aK4 {e:Engine}{k:Nat}{w v:Wait}(h1:inB w.call 1 e.calls=true) (hv:e.waits[k-1]? = some v) (h:¬w.call<=v.call):waitP e k w:=⟨h1,fun j u e1 hu=>by subst e1;rw[Nat.add_sub_cancel,hu]at hv;cases hv;omega⟩
theorem aX0 {e:Engine}{k:Nat}{w v:Wait}(hk:(0:Int)<k) (hv:e.waits[k-1]? = some v) (h:w.call<=v.call):¬waitP e k w:=fun hp=>by
 have:=hp.up (k-1) v aA hv;omega
theorem lQ (e:Engine) (hw:e.yard.wt<=1048576):Ct1 prog 16 [.S e] [.B (bA e)]:=
 .one (bA e) (rk:=fun a=>[.B a])<|vc func16 (fun hg=>.c func53 (YardOkD e.yard hw) (hg:=⟨hg.1.1.1,trivial⟩) fun _=>.v (aG e.yard)
  (fun h=>.rt false ⟨pA (fun e=>by have:=e.yard;simp_all),trivial⟩)
  (fun g1=>.c func54 (zR e.disk) fun _=>.v (aP e.disk)
  (fun h=>.rt false ⟨pA (fun e=>by have:=e.disk;simp_all),trivial⟩)
  (fun g2=>.c func29 (bR e.next 1 999999999) fun _=>.v (inB e.next 1 999999999)
  (fun h=>.rt false ⟨pA (fun e=>by have:=e.next;simp_all),trivial⟩)
  (fun g3=>.c func29 (bR e.calls 0 999999999) fun _=>.v (inB e.calls 0 999999999)
  (fun h=>.rt false ⟨pA (fun e=>by have:=e.calls;simp_all),trivial⟩)
  (fun g4=>.s ((60:Int)<e.waits.length)
  (fun h=>.rt false ⟨pA (fun e=>e.waits h),trivial⟩)
  (fun g5=>.c func29 (bR e.state 1 3) fun _=>.v (inB e.state 1 3)
  (fun h=>.rt false ⟨pA (fun e=>by have:=e.state;simp_all),trivial⟩)
  (fun g6=>.l (Γ:=Nat) (fun k=>EgJ e k) (fun k=>e.waits.length-k) [1,40,41] [4] [0,1,2,3] (fun k=>[vI 42 k]) (fun _=>[]) 0 (h:=EgJ.start ⟨g1,g2,g3,g4,g5,g6⟩) fun k hJ t=>let hkl:k<=e.waits.length:=hJ.le
   .s ((k:Int)<e.waits.length)
    (fun h=>.x e.waits k (h:=by omega) fun w hw0 gw=>.c func29 (bR w.call 1 e.calls) fun _=>.v (inB w.call 1 e.calls)
     (fun h1=>.rt false ⟨aV1 hw0 (fun h=>by have:=h.rng;simp_all),trivial⟩)
     (fun h1=>.s ((0:Int)<(k:Int))
      (fun h2=>.m (k:Int) 1 (h:=by unfold I64;omega)<|.xe e.waits (k-1) ((k:Int)-1) (h:=by omega) (he:=by omega) fun v hv gv=>.s (w.call<=v.call)
       (fun h3=>.rt false ⟨aV1 hw0 (aX0 h2 hv h3),trivial⟩)
       (fun h3=>.p k 1<|.n t (k+1) [] (hJ.step hw0 (aK4 h1 hv h3)) aA))
      (fun h2=>.p k 1<|.n t (k+1) [] (hJ.step hw0 (zV h1 h2)) aA)))
    (fun h=>.rt true ⟨cC4 hJ h,trivial⟩)))))))) aB
theorem rI (e:Engine) (hw:e.yard.wt<=1048576):Ct1 prog 37 [.S e] [.B (bA e)]:=
 .one (bA e) (rk:=fun a=>[.B a])<|vc func37 (fun hg=>.c func72 (bF8 e.yard hw) (hg:=⟨hg.1.1.1,trivial⟩) fun _=>.v (aG e.yard)
  (fun h=>.rt false ⟨pA (fun e=>by have:=e.yard;simp_all),trivial⟩)
  (fun g1=>.c func73 (kU e.disk) fun _=>.v (aP e.disk)
  (fun h=>.rt false ⟨pA (fun e=>by have:=e.disk;simp_all),trivial⟩)
  (fun g2=>.c func38 (InV e.next 1 999999999) fun _=>.v (inB e.next 1 999999999)
  (fun h=>.rt false ⟨pA (fun e=>by have:=e.next;simp_all),trivial⟩)
  (fun g3=>.c func38 (InV e.calls 0 999999999) fun _=>.v (inB e.calls 0 999999999)
  (fun h=>.rt false ⟨pA (fun e=>by have:=e.calls;simp_all),trivial⟩)
  (fun g4=>.s ((60:Int)<e.waits.length)
  (fun h=>.rt false ⟨pA (fun e=>e.waits h),trivial⟩)
  (fun g5=>.c func38 (InV e.state 1 3) fun _=>.v (inB e.state 1 3)
  (fun h=>.rt false ⟨pA (fun e=>by have:=e.state;simp_all),trivial⟩)
  (fun g6=>.l (Γ:=Nat) (fun k=>EgJ e k) (fun k=>e.waits.length-k) [1] [4] [0,1,2,3] (fun k=>[vI 3 k]) (fun _=>[]) 0 (h:=EgJ.start ⟨g1,g2,g3,g4,g5,g6⟩) fun k hJ t=>let hkl:k<=e.waits.length:=hJ.le
   .s ((k:Int)<e.waits.length)
    (fun h=>.x e.waits k (h:=by omega) fun w hw0 gw=>.c func38 (InV w.call 1 e.calls) fun _=>.v (inB w.call 1 e.calls)
     (fun h1=>.rt false ⟨aV1 hw0 (fun h=>by have:=h.rng;simp_all),trivial⟩)
     (fun h1=>.s ((0:Int)<(k:Int))
      (fun h2=>.m (k:Int) 1 (h:=by unfold I64;omega)<|.xe e.waits (k-1) ((k:Int)-1) (h:=by omega) (he:=by omega) fun v hv gv=>.y hw0 fun _=>.s (w.call<=v.call)
       (fun h3=>.rt false ⟨aV1 hw0 (aX0 h2 hv h3),trivial⟩)
       (fun h3=>.p k 1<|.n t (k+1) [] (hJ.step hw0 (aK4 h1 hv h3)) aA))
      (fun h2=>.p k 1<|.n t (k+1) [] (hJ.step hw0 (zV h1 h2)) aA)))
    (fun h=>.rt true ⟨cC4 hJ h,trivial⟩)))))))) aB
theorem aJ0 (y:Yard) (hw:y.wt<=1048576):Ct1 prog 59 [.S y] [.S y]:=eJ y hw
theorem aI9 (y:Yard) (hw:y.wt<=1048576):Ct1 prog 61 [.S y] [.S y]:=eI y hw
theorem mS (e:Engine) (hw:e.yard.wt<=1048576) (hd:e.disk.files.length<=1048576) (hs:e.waits.length<=1048576):Ct1 prog 23 [.S e] [.S e]:=
 vc func23 (fun hg=>.c func59 (aJ0 e.yard hw) (hg:=⟨hg.1.1.1,trivial⟩) fun _=>.c func60 (lT e.disk aA) fun _=>.as (inferInstance:Shape Wait) lW [] e.waits 40 (by simp only[length_nil];unfold maxLen;omega) (by simp only[length_nil];omega)<|.wt 15<|.sh 8<|.sh 9<|.rt () ⟨trivial,hg.1.1,trivial⟩) aB
theorem eB (e:Engine) (hw:e.yard.wt<=1048576) (hd:e.disk.files.length<=1048576) (hs:e.waits.length<=1048576):Ct1 prog 26 [.S e] [.S e]:=
 vc func26 (fun hg=>.c func61 (aI9 e.yard hw) (hg:=⟨hg.1.1.1,trivial⟩) fun _=>.c func62 (dE e.disk aA) fun _=>.e Wait<|.as (inferInstance:Shape Wait) lW [] e.waits 40 (by simp only[length_nil];unfold maxLen;omega) (by simp only[length_nil];omega)<|.wt 16<|.sh 8<|.sh 9<|.rt () ⟨trivial,hg.1.1,trivial⟩) aB
def brk (e:Engine):Engine:=⟨e.yard,e.disk,e.next,e.calls,e.waits,2,false⟩
theorem bT9 (e:Engine) (hw:e.yard.wt<=1048576) (hd:e.disk.files.length<=1048576) (hs:e.waits.length<=1048576):Ct1 prog 30 [.S e] [.S (brk e)]:=
 vc func30 (fun hg=>.c func23 (mS e hw hd hs) (hg:=⟨hg.1.1,trivial⟩) fun _=>.rt () ⟨trivial,⟨hg.1.1.1,hg.1.1.2.1,hg.1.1.2.2.1,by show I64 2;unfold I64;omega⟩,trivial⟩) aB
theorem DeleteRun {w W0:World}{rs:List Res}{v:Value}{xs:List Run}{fp:List Nat}{k:Nat}(hst:St w W0 (Res.own v xs fp::rs)) (hk:k<xs.length) (hxl:xs.length<=1048576:=by omega) :
  Calls prog 152 #[v,I (k:Int),I ((k:Int)+1)] W0 fun e w'=>∃(v':Value) (fp':List Nat),e = .returned v'/\St w w' (Res.own v' (xs.eraseIdx k) fp'::rs):=by
 refine cC0 func152 rfl ntmps152 eZ (wp_seq ?_);have hq_:=St.ownOpen' hst eZ aA;obtain⟨bD,oD,cD,CD,eD,feD,hvD,hcD,hmD,hlD,st1⟩:=hq_;subst hvD;refine aS (sg (cC (v := .slice none 0 0) rfl (bO (wp_seq (aS (rn st1 5 Ag.nil.put.put.put.put [] [(8,.slice (some ⟨bD,oD,none⟩) xs.length cD),(9,I (k:Int)),(10,I ((k:Int)+1)),(12,I ((xs.length:Nat):Int))] [.l (.slice (some ⟨bD,oD,none⟩) xs.length cD) xs.length ⟨_,_,rfl⟩] aB fun f5 h5_=>(sg (stp_x3 (l:=k) (h:=k+1) (mx:=xs.length) jA (h5_.at 8) (h5_.at 9) (h5_.at 10) (h5_.at 12) aA aA aA aA aA aA ?_))))))));intro v3_;refine bO (wp_seq (wp_seq (aS (rn st1 3 h5_.put [] [(16,.bool (decide ((k:Int)=((k:Int)+1))))] [.o] aB fun f7 h7_=>(bO (vY (h7_.at 16) (fun h8p=>?_) (fun h8p=>?_)))))))
 ·omega
 refine wp_skip (wp_seq (aS (rn st1 3 h7_ [] [(7,I ((xs.length:Nat):Int))] [.l (.slice (some ⟨bD,oD,none⟩) xs.length cD) xs.length ⟨_,_,rfl⟩] aB fun f10 h10_=>(bO (wp_seq ?_)))));rcases nem (k+1<cD) with h11p | h11p
 ·refine qN 6 [] [(true,.is (.slice (some ⟨bD,oD,none⟩) xs.length cD)),(true,.is (I (k:Int))),(true,.is (.slice (some ⟨bD,oD,none⟩) k cD)),(true,.is (.slice (some ⟨bD,oD,none⟩) xs.length cD)),(true,.is (I ((k:Int)+1))),(true,.is (.slice (some ⟨bD,oD,none⟩) 0 0))] mix aB aB aB aB (rs0:=[]) rfl st1 (Below.refl _ _) ⟨(mq_ (h10_.at 0)),(mq_ (h10_.at 1)),(fun f W hst hbl hd hf=>aB3 (h:=k) jA (hd 0 20 rfl rfl) (hd 1 21 rfl rfl) aA aA aA brq),(mq_ (h10_.at 0)),(mq_ (h10_.at 2)),(fun f W hst hbl hd hf=>stp_xe (l:=k+1) jA (hd 3 23 rfl rfl) (hd 4 24 rfl rfl) aA aA aA brq),trivial⟩ ?_;intro f12 W13 rs_ hAL_ st16 hbl17 hv14 hf15;have hn_:rs_=[]:=hAL_;subst hn_
  try simp only[cap_,bB4]at st16
  have h1_:∀v∈(CD.drop (oD+(k+1)*8)).take ((xs.length-(k+1))*8),v.oneCell'=true:=fun v hv=>(st16.get 1 rfl).1.one v (bL2 hv (by show (k+1)*8+(xs.length-(k+1))*8<=xs.length*8;omega))
  have h0_:xs.length-(k+1)=0:=by omega
  refine sg (aL3 (α:=Run) (i:=k) (m:=xs.length-(k+1)) (oy:=oD+(k+1)*8) (q:=xs.length-1) jA (hv14 2 22 eZ rfl) (Eq.trans (hv14 5 25 eZ rfl) (by rw[h0_])) (fun hz=>by omega) aA aA (by show oD+(k+1)*8+(xs.length-(k+1))*8<=CD.length;have hl_:oD+xs.length*8<=CD.length:=hlD;omega) (by show oD+k*8+(xs.length-(k+1))*8<=CD.length;have hl_:oD+xs.length*8<=CD.length:=hlD;omega) h1_ st16 ?_);intro W19 st20;refine sg (cC (v := .slice (some ⟨bD,oD,none⟩) (xs.length-1) cD) rfl (bO (wp_seq (aS (rn st20 4 (Ag.cons (show f12 7=I ((xs.length:Nat):Int) from ((hf15 7 rfl).trans (h10_.at 7))) Ag.nil).put.put [] [(27,.slice (some ⟨bD,oD,none⟩) (xs.length-1) cD),(29,I (((xs.length-1):Nat):Int)),(30,I ((xs.length:Nat):Int))] [.l (.slice (some ⟨bD,oD,none⟩) (xs.length-1) cD) (xs.length-1) ⟨_,_,rfl⟩] aB fun f24 h24_=>(sg (bW7 (l:=xs.length-1) (h:=xs.length) jA (h24_.at 27) (h24_.at 29) (h24_.at 30) aA aA aA aA aA ?_)))))));refine sgn (sP (s:=8) (zs:=[I 0,I 0,I 0,I 0,I 0,.slice none 0 0,I 0,.slice none 0 0]) underlying25 aB rfl aA (by intro v hv;simp only[mem_cons,not_mem_nil,or_false]at hv;rcases hv with rfl | rfl | rfl | rfl | rfl | rfl | rfl | rfl<;>rfl) rfl aA st20 (by rw[dX];have hl_:oD+xs.length*8<=CD.length:=hlD;show oD+(xs.length-1)*8+(xs.length-(xs.length-1))*8<=_;omega) ?_);intro ZD W25 hZD st26;refine bO (wp_seq (aS (sg (bY (h24_.at 0) (sg (cC (v := .slice (some ⟨bD,oD,none⟩) (xs.length-1) cD) rfl (bO (wr (bU5 results152 rfl ?_)))))))));have hE_:=(st26.get 1 rfl).1.erase hk;obtain⟨f1,f2,f3,hfe_,hE3⟩:=hE_;have hs_:=st26.f1.es_sub (fe':=f1++f3) (by rw[hfe_];exact(List.Sublist.refl _).append (sublist_append_right _ _)) hE3;have hq_:=St.ownShut' (off:=oD) (cap:=cD) (m:=xs.length-1) hs_.f1 (aP1 hk hlD (by rw[hZD,show xs.length-(xs.length-1)=1 by omega];rfl)).symm (by rw[length_eraseIdx_of_lt hk]) aA hmD;obtain⟨fpz,stz⟩:=hq_;exact⟨_,fpz,rfl,stz⟩
 refine qN 6 [] [(true,.is (.slice (some ⟨bD,oD,none⟩) xs.length cD)),(true,.is (I (k:Int))),(true,.is (.slice (some ⟨bD,oD,none⟩) k cD)),(true,.is (.slice (some ⟨bD,oD,none⟩) xs.length cD)),(true,.is (I ((k:Int)+1))),(true,.is (.slice (some ⟨bD,oD+(k+1)*8,none⟩) (xs.length-(k+1)) (cD-(k+1))))] mix aB aB aB aB (rs0:=[]) rfl st1 (Below.refl _ _) ⟨(mq_ (h10_.at 0)),(mq_ (h10_.at 1)),(fun f W hst hbl hd hf=>aB3 (h:=k) jA (hd 0 20 rfl rfl) (hd 1 21 rfl rfl) aA aA aA brq),(mq_ (h10_.at 0)),(mq_ (h10_.at 2)),(fun f W hst hbl hd hf=>pK (l:=k+1) jA (hd 3 23 rfl rfl) (hd 4 24 rfl rfl) aA aA aA brq),trivial⟩ ?_;intro f29 W30 rs_ hAL_ st33 hbl34 hv31 hf32;have hn_:rs_=[]:=hAL_;subst hn_
 try simp only[cap_,bB4]at st33
 have h1_:∀v∈(CD.drop (oD+(k+1)*8)).take ((xs.length-(k+1))*8),v.oneCell'=true:=fun v hv=>(st33.get 1 rfl).1.one v (bL2 hv (by show (k+1)*8+(xs.length-(k+1))*8<=xs.length*8;omega))
 refine sg (aL3 (α:=Run) (i:=k) (m:=xs.length-(k+1)) (oy:=oD+(k+1)*8) (q:=xs.length-1) jA (hv31 2 22 eZ rfl) (hv31 5 25 eZ rfl) (fun _=>rfl) aA aA (by show oD+(k+1)*8+(xs.length-(k+1))*8<=CD.length;have hl_:oD+xs.length*8<=CD.length:=hlD;omega) (by show oD+k*8+(xs.length-(k+1))*8<=CD.length;have hl_:oD+xs.length*8<=CD.length:=hlD;omega) h1_ st33 ?_);intro W36 st37;refine sg (cC (v := .slice (some ⟨bD,oD,none⟩) (xs.length-1) cD) rfl (bO (wp_seq (aS (rn st37 4 (Ag.cons (show f29 7=I ((xs.length:Nat):Int) from ((hf32 7 rfl).trans (h10_.at 7))) Ag.nil).put.put [] [(27,.slice (some ⟨bD,oD,none⟩) (xs.length-1) cD),(29,I (((xs.length-1):Nat):Int)),(30,I ((xs.length:Nat):Int))] [.l (.slice (some ⟨bD,oD,none⟩) (xs.length-1) cD) (xs.length-1) ⟨_,_,rfl⟩] aB fun f41 h41_=>(sg (bW7 (l:=xs.length-1) (h:=xs.length) jA (h41_.at 27) (h41_.at 29) (h41_.at 30) aA aA aA aA aA ?_)))))));refine sgn (sP (s:=8) (zs:=[I 0,I 0,I 0,I 0,I 0,.slice none 0 0,I 0,.slice none 0 0]) underlying25 aB rfl aA (by intro v hv;simp only[mem_cons,not_mem_nil,or_false]at hv;rcases hv with rfl | rfl | rfl | rfl | rfl | rfl | rfl | rfl<;>rfl) rfl aA st37 (by rw[dX];have hl_:oD+xs.length*8<=CD.length:=hlD;show oD+(xs.length-1)*8+(xs.length-(xs.length-1))*8<=_;omega) ?_);intro ZD W42 hZD st43;refine bO (wp_seq (aS (sg (bY (h41_.at 0) (sg (cC (v := .slice (some ⟨bD,oD,none⟩) (xs.length-1) cD) rfl (bO (wr (bU5 results152 rfl ?_)))))))));have hE_:=(st43.get 1 rfl).1.erase hk;obtain⟨f1,f2,f3,hfe_,hE3⟩:=hE_;have hs_:=st43.f1.es_sub (fe':=f1++f3) (by rw[hfe_];exact(List.Sublist.refl _).append (sublist_append_right _ _)) hE3;have hq_:=St.ownShut' (off:=oD) (cap:=cD) (m:=xs.length-1) hs_.f1 (aP1 hk hlD (by rw[hZD,show xs.length-(xs.length-1)=1 by omega];rfl)).symm (by rw[length_eraseIdx_of_lt hk]) aA hmD;obtain⟨fpz,stz⟩:=hq_;exact⟨_,fpz,rfl,stz⟩
theorem mvf_good {f:File}{nm:ByteArray}(gf:f.ok) (h:jU nm=true):File.ok (mvF f nm):=⟨by show nm.size<=_;unfold jU inB at h;simp only[Bool.and_eq_true,decide_eq_true_eq]at h;unfold maxLen;omega,gf.2.1,gf.2.2⟩
theorem MoveFileS (d:Disk) (fr to:ByteArray) (hl:d.files.length<=1048576):Ct1 prog 44 [.S d,.T fr,.T to] [.S (gW d fr to).1,.B (gW d fr to).2]:=
 .one (gW d fr to) (rk:=fun p=>[.S p.1,.B p.2])<|vc func44 (fun hg=>.c func39 (oV d fr aA) fun _=>.s (fAt d.files fr<0)
  (fun h=>.c func62 (dE d aA) fun _=>.sh 3<|.rt (d,false) ⟨bB5 (fun e=>e.1 h),trivial,trivial⟩)
  (fun h=>.c func73 (kU d) fun _=>.v (aP d)
   (fun hb=>.c func62 (dE d aA) fun _=>.sh 3<|.rt (d,false) ⟨bB5 (fun e=>by rw[hb]at e;cases e.2.1),trivial,trivial⟩)
   (fun hd=>.s (fr=to)
    (fun he=>.c func62 (dE d aA) fun _=>.sh 3<|.rt (d,false) ⟨bB5 (fun e=>e.2.2.1 he),trivial,trivial⟩)
    (fun he=>.c func78 (bT2 to) fun _=>.v (jU to)
     (fun hb=>.c func62 (dE d aA) fun _=>.sh 3<|.rt (d,false) ⟨bB5 (fun e=>by rw[hb]at e;cases e.2.2.2.1),trivial,trivial⟩)
     (fun hn=>.ex (p:=fun k:Nat=>fAt d.files fr=(k:Int)/\k<d.files.length) (oK h) fun k hk=>.ex (p:=fun f=>d.files[k]? = some f) ⟨_,getElem?_eq_getElem hk.2⟩ fun f hf=>.ye hf (fAt d.files fr) (he:=hk.1) fun gf=>.ye hf (fAt d.files fr) (he:=hk.1) fun _=>.u (f.safe=(f.data.size:Int))
      (fun hs=>.c func62 (dE d aA) fun _=>.sh 5<|.rt (d,false) ⟨bB5 (fun e=>hs (by have:=e.2.2.2.2;rwa [bO6 hk.1 hf,aV2 hk.1 hf]at this)),trivial,trivial⟩)
      (fun hs=>.r0 (inferInstance:Shape File) 95<|.l (Γ:=Nat) (fun i=>i<=d.files.length) (fun i=>d.files.length-i) [2,3,6,8,9] [1,2] [0] (fun i=>[vI 10 i]) (fun i=>[oR 5 95 (mvG d.files k to i),oB 6 [.r 5]]) 0 fun i hi t=>
       let hml:(mvG d.files k to i).length<=i:=zJ _ _ _ _
       .s ((i:Int)<d.files.length)
        (fun h=>.x d.files i (h:=by omega) fun g hg gg=>.s (g.name=to)
         (fun h1=>.g 5 (mvG_skip (k:=k) hg h1)<|.p i 1<|.n t (i+1) [])
         (fun h1=>.s ((i:Int)=fAt d.files fr)
          (fun h2=>.a (mvG d.files k to i) (mvF g to) 40 (hy:=mvf_good gg hn) (hby:=by omega)<|.g 5 (mvG_here (k:=k) hg h1 aA)<|.p i 1<|.n t (i+1) [])
          (fun h2=>.a (mvG d.files k to i) g 40 (hy:=gg) (hby:=by omega)<|.g 5 (mvG_else (k:=k) hg h1 aA)<|.p i 1<|.n t (i+1) [])))
        (fun h=>.sh 5<|.rt (⟨mvG d.files k to i⟩,true) ⟨by rw[show i=d.files.length by omega];exact mv_yes hk.1 hf hd he hn hs,trivial,trivial⟩))))))) aB
theorem VarsI (l:List Int) (hl:l.length<=20000000):Ct1 prog 87 [.L l] [.T ⟨(eU l).toArray⟩]:=
 vc func87 (fun hg=>.w UInt8 5 3<|.l (Γ:=Nat) (fun k=>k<=l.length) (fun k=>l.length-k) [6,7] [] [0] (fun k=>[vR 3 1,vI 8 k]) (fun k=>[oR 1 5 (eU (l.take k))]) 0 fun k hk t=>
  let hb:(eU (l.take k)).length<=5*l.length:=by have:=sM (l.take k);rw[length_take]at this;omega
  .s ((k:Int)<l.length)
   (fun h=>.x l k (h:=by omega) fun z hz gz=>.c func86 (VarTextD z) fun _=>.bs (eU (l.take k)) (aR z) (by have:=cZ z;unfold maxLen;omega) (by have:=cZ z;omega) <|
    .g 1 (xL hz)<|.p k 1<|.n t (k+1) [])
   (fun h=>.g 1 (show eU (l.take k)=eU l by rw[take_of_length_le aA])<|.so (eU l)<|.rt () ⟨trivial,trivial⟩)) aB
theorem entryNs_good {e:Entry}(h:e.ok):∀y∈fD e,(inferInstance:Dsh Int).good y:=by
 obtain⟨h1,h2,h3,h4⟩:=h;intro y hy;simp only[fD,mem_cons,not_mem_nil,or_false]at hy;rcases hy with rfl | rfl | rfl | rfl
 ·exact h1
 ·exact h2
 ·exact h3
 exact h4
theorem taskNs_good {e:Task}(h:e.ok):∀y∈fK e,(inferInstance:Dsh Int).good y:=by
 obtain⟨h1,h2,h3,h4⟩:=h;intro y hy;simp only[fK,mem_cons,not_mem_nil,or_false]at hy;rcases hy with rfl | rfl | rfl | rfl
 ·exact h1
 ·exact h2
 ·exact h3
 exact h4
theorem yardT_no {y:Yard}(h:aG y=false):(⟨#[]⟩:ByteArray)=gA y:=by unfold gA;rw[if_neg (by rw[h];simp)]
theorem yardT_yes {y:Yard}(h:aG y=true):(⟨(eU (dH y)).toArray⟩:ByteArray)=gA y:=by unfold gA;rw[if_pos h]
def kN (l:List Int):ByteArray:=⟨(eU l).toArray⟩
theorem strOf_size (l:List Int):(kN l).size<=5*l.length:=by
 have:=sM l;show (eU l).toArray.size<=_;simpa using this
theorem str_step {l:List Int}{k:Nat}{z:Int}(h:l[k]? = some z):kN (l.take k)++aR z=kN (l.take (k+1)):=by
 apply ByteArray.ext;rw[ByteArray.data_append];apply Array.toList_inj.1;show _=eU (l.take (k+1));rw[<- xL h];simp[kN]
theorem VarsS (l:List Int) (hl:l.length<=20000000):Ct1 prog 124 [.L l] [.T (kN l)]:=
 vc func124 (fun hg=>.l (Γ:=Nat) (fun k=>k<=l.length) (fun k=>l.length-k) [0] [] [0] (fun k=>[vT 3 (kN (l.take k)),vI 4 k]) (fun _=>[]) 0 fun k hk t=>
  let hb:(kN (l.take k)).size<=5*l.length:=by have:=strOf_size (l.take k);rw[length_take]at this;omega
  .s ((k:Int)<l.length)
   (fun h=>.x l k (h:=by omega) fun z hz gz=>.c func174 (VarTextSD z) fun _=>.pb .add (jK (kN (l.take k)) (aR z) (by have:=cZ z;omega)) <|
    .rv 17 (.string (kN (l.take (k+1)))) (y := .string (kN (l.take k)++aR z)) (by rw[str_step hz])<|.p k 1<|.n t (k+1) [])
   (fun h=>.rv 3 (.string (kN l)) (y := .string (kN (l.take k))) (by rw[take_of_length_le aA])<|.rt () ⟨trivial,trivial⟩)) aB
theorem L18PlanS (out:List Int) (p:Plan) (hl:p.edges.length<=1048576) (ho:out.length<=100000000):Co prog 123 [.r (inferInstance:Shape Int) 3 out] false [.S p] (fun _:Unit=>True) (fun _=>[.rw (inferInstance:Shape Int) 3 (out++mK p)]):=
 vco func123 (fun hg _=>.ap (inferInstance:Dsh Int) out (oE p) (planHd_ok hg.1.1 hl) 8 (by simp only[oE,length_cons,length_nil];unfold maxLen;omega) (by simp only[oE,length_cons,length_nil];omega) <|
  .g 0 (show out++oE p=out++jE p 0 by simp[jE])<|.l (Γ:=Nat) (fun k=>k<=p.edges.length) (fun k=>p.edges.length-k) [3] [2,1000000] [1] (fun k=>[vR 0 0,vI 5 k]) (fun k=>[oR 0 3 (out++jE p k)]) 0 fun k hk t=>
   .s ((k:Int)<p.edges.length)
    (fun h=>.x p.edges k (h:=by omega) fun e he ge=>.y he fun _=>.ap (inferInstance:Dsh Int) (out++jE p k) [e.from_,e.to_] (edge_good ge) 8 (by have:=aD4 p k;simp only[length_append,length_cons,length_nil];unfold maxLen;omega) (by have:=aD4 p k;simp only[length_append,length_cons,length_nil];omega) <|
     .g 0 (show (out++jE p k)++[e.from_,e.to_]=out++jE p (k+1) by rw[append_assoc,planTo_next he])<|.p k 1<|.n t (k+1) [])
    (fun h=>.g 0 (show out++jE p k=out++mK p by unfold mK;rw[show k=p.edges.length by omega])<|.rt () ⟨trivial,trivial⟩)) aB
theorem YardTextS (y:Yard) (hw:y.wt<=1048576):Ct1 prog 74 [.S y] [.T (gA y)]:=
 .one (gA y) (rk:=fun a=>[.T a])<|vc func74 (fun hg=>.c func72 (bF8 y hw) (hg:=⟨hg.1.1,trivial⟩) fun _=>.v (aG y)
  (fun hb=>.rt ⟨#[]⟩ ⟨yardT_no hb,trivial⟩)
  (fun hb=>let hsl:y.shelf.length<=1048576:=Nat.le_trans (aK1 y).1 hw
   let hrl:y.runs.length<=1048576:=Nat.le_trans (aK1 y).2 hw
   .lr (inferInstance:Dsh Int) gK 18 [y.now,y.seq] (by simp) (aV7 hg.1.1.1 hg.1.1.2) <|
   .l (Γ:=Nat) (fun i=>i<=y.shelf.length) (fun i=>y.shelf.length-i) [1] [2] [0,1] (fun i=>[vR 3 3,vI 4 i]) (fun i=>[oR 3 3 (sW y i)]) 0 fun i hi t=>
   let m1:=sV (uP y i) hw
   .s ((i:Int)<y.shelf.length)
    (fun h=>.x y.shelf i (h:=by omega) fun l hl gl=>let hll:l.length<=1048576:=Nat.le_trans (shelf_wt_le (mem_of_getElem? hl)) hw
     .a (sW y i) (l.length:Int) 8 (hy:=by show I64 _;unfold I64;omega) (hby:=by omega) <|
     .g 3 (outE_0 y i l)<|.l (Γ:=Nat) (fun k=>k<=l.length) (fun k=>l.length-k) [1,4] [2] [0,1] (fun k=>[vR 3 3,vI 5 k]) (fun k=>[oR 3 3 (yR y i l k)]) 0 fun k hk t2=>
     let m2:=sV (outE_pre hl k) hw
     .y hl fun _=>.s ((k:Int)<l.length)
      (fun h2=>.y hl fun _=>.x l k (h:=by omega) fun e he ge=>.ap (inferInstance:Dsh Int) (yR y i l k) (fD e) (entryNs_good ge) 8 (by simp only[fD,length_cons,length_nil];unfold maxLen;omega) (by simp only[fD,length_cons,length_nil];omega) <|
       .g 3 (outE_next (y:=y) (i:=i) he)<|.p k 1<|.n t2 (k+1) [])
      (fun h2=>.g 3 (show yR y i l k=sW y (i+1) by rw[show k=l.length by omega];exact bA4 hl)<|.p i 1<|.n t (i+1) []))
    (fun h=>.g 3 (show sW y i=sW y y.shelf.length by rw[show i=y.shelf.length by omega])<|.a (sW y y.shelf.length) (y.runs.length:Int) 8 (hy:=by show I64 _;unfold I64;omega) (h63:=by have:=sV (uP y y.shelf.length) hw;unfold maxLen;omega) (hby:=by have:=sV (uP y y.shelf.length) hw;omega) <|
     .g 3 (outR_0 y)<|.l (Γ:=Nat) (fun i=>i<=y.runs.length) (fun i=>y.runs.length-i) [1] [2] [0,1] (fun i=>[vR 3 3,vI 7 i]) (fun i=>[oR 3 3 (pD y i)]) 0 fun i hi t=>
     let m1:=sV (aD6 y i) hw
     .s ((i:Int)<y.runs.length)
      (fun h=>.x y.runs i (h:=by omega) fun r hr gr=>let gr:r.ok:=gr
       let hwr:r.wt<=1048576:=Nat.le_trans (run_wt_le (mem_of_getElem? hr)) hw
       let m0:=sV (bA1 hr 0) hw
       let mm:(pD y i).length+(mK r.plan).length+2<=8388611:=by have:=m0;rw[<- bY6]at this;simp only[length_append,length_cons,length_nil]at this;omega
       .a (pD y i) r.id 8 (hy:=gr.1) (hby:=by omega) <|
       .co _ func123 (L18PlanS (pD y i++[r.id]) r.plan (by unfold Run.wt Plan.wt at hwr;omega) (by simp only[length_append,length_cons,length_nil];omega)) ⟨gr.2.1,trivial⟩ fun _ _ _=>
       .a ((pD y i++[r.id])++mK r.plan) r.state 8 (hy:=gr.2.2) (h63:=by simp only[length_append,length_cons,length_nil];unfold maxLen;omega) (hby:=by simp only[length_append,length_cons,length_nil];omega) <|
       .g 10 (bY6 y i r)<|.l (Γ:=Nat) (fun k=>k<=r.tasks.length) (fun k=>r.tasks.length-k) [1,7,8] [2,8] [0,1,7] (fun k=>[vR 3 10,vI 9 k]) (fun k=>[oR 10 3 (yQ y i r k)]) 0 fun k hk t2=>
       let m2:=sV (bA1 hr k) hw
       .s ((k:Int)<r.tasks.length)
        (fun h2=>.x r.tasks k (h:=by omega) fun e he ge=>.ap (inferInstance:Dsh Int) (yQ y i r k) (fK e) (taskNs_good ge) 8 (by simp only[fK,length_cons,length_nil];unfold maxLen;omega) (by simp only[fK,length_cons,length_nil];omega) <|
         .g 10 (outT_next (y:=y) (i:=i) he)<|.p k 1 (h:=by unfold Run.wt at hwr;unfold I64;omega)<|.n t2 (k+1) [])
        (fun h2=>.g 10 (show yQ y i r k=pD y (i+1) by rw[show k=r.tasks.length by omega];exact bA2 hr)<|.p i 1<|.n t (i+1) [(3,10)]))
      (fun h=>.g 3 (show pD y i=dH y by rw[show i=y.runs.length by omega];exact bA3 y)<|.sh 3<|.c func124 (VarsS (dH y) (by have:=vU y;omega)) fun _=>.rt (kN (dH y)) ⟨yardT_yes hb,trivial⟩)))) aB
abbrev nextN:ByteArray:=⟨#[110,101,120,116]⟩
abbrev logN:ByteArray:=⟨#[108,111,103]⟩
abbrev aE7:ByteArray:=⟨#[109,97,114,107]⟩
def xJ (e:Engine) (d:Disk):Engine:=⟨e.yard,d,e.next,e.calls,e.waits,e.state,e.broken⟩
noncomputable def qA (d:Disk) (nm:ByteArray):Disk×Bool:=if 0<=fAt d.files nm then cY d nm 0 else (d,true)
noncomputable def opF (e:Engine) (k:Int):Disk×Bool:=
 if k=0 then qA e.disk nextN else if k=4 then qA e.disk logN else if k=1 then dM e.disk nextN (lD (e.next-1) (gA e.yard)) else if k=2 then gB e.disk nextN else gW e.disk nextN aE7
noncomputable def fP (e:Engine) (k:Int):Engine×Bool:=
 if ¬(bA e=true/\e.state=1/\inB k 0 4=true) then (e,false) else if e.broken=true then (brk e,false) else (xJ e (opF e k).1,(opF e k).2)
theorem bI1 {e:Engine}{k:Int}(h:¬(bA e=true/\e.state=1/\inB k 0 4=true)):(e,false)=fP e k:=by unfold fP;rw[if_pos h]
theorem mst_brk {e:Engine}{k:Int}(h1:bA e=true) (h2:e.state=1) (h3:inB k 0 4=true) (h:e.broken=true):(brk e,false)=fP e k:=by unfold fP;rw[if_neg (fun h=>h ⟨h1,h2,h3⟩),if_pos h]
theorem bI0 {e:Engine}{k:Int}(h1:bA e=true) (h2:e.state=1) (h3:inB k 0 4=true) (h:e.broken=false):fP e k=(xJ e (opF e k).1,(opF e k).2):=by unfold fP;rw[if_neg (fun h=>h ⟨h1,h2,h3⟩),if_neg (by rw[h];simp)]
theorem inB4 {k:Int}(h:inB k 0 4=true):0<=k/\k<=4:=by unfold inB at h;simpa using h
theorem op_0 {e:Engine}{k:Int}(h:k=0) (h2:0<=fAt e.disk.files nextN):opF e k=cY e.disk nextN 0:=by unfold opF qA;rw[if_pos h,if_pos h2]
theorem op_0n {e:Engine}{k:Int}(h:k=0) (h2:¬0<=fAt e.disk.files nextN):opF e k=(e.disk,true):=by unfold opF qA;rw[if_pos h,if_neg h2]
theorem op_4 {e:Engine}{k:Int}(h:k=4) (h2:0<=fAt e.disk.files logN):opF e k=cY e.disk logN 0:=by unfold opF qA;rw[if_neg aA,if_pos h,if_pos h2]
theorem op_4n {e:Engine}{k:Int}(h:k=4) (h2:¬0<=fAt e.disk.files logN):opF e k=(e.disk,true):=by unfold opF qA;rw[if_neg aA,if_pos h,if_neg h2]
theorem op_1 {e:Engine}{k:Int}(h:k=1):opF e k=dM e.disk nextN (lD (e.next-1) (gA e.yard)):=by unfold opF;rw[if_neg aA,if_neg aA,if_pos h]
theorem op_2 {e:Engine}{k:Int}(h:k=2):opF e k=gB e.disk nextN:=by unfold opF;rw[if_neg aA,if_neg aA,if_neg aA,if_pos h]
theorem op_3 {e:Engine}{k:Int}(h0:¬k=0) (h4:¬k=4) (h1:¬k=1) (h2:¬k=2):opF e k=gW e.disk nextN aE7:=by unfold opF;rw[if_neg h0,if_neg h4,if_neg h1,if_neg h2]
theorem write_f {d:Disk}{nm more:ByteArray}(h:(dM d nm more).2=false):(dM d nm more).1=d:=by
 unfold dM at *;split<;>simp_all
theorem sync_f {d:Disk}{nm:ByteArray}(h:(gB d nm).2=false):(gB d nm).1=d:=by
 unfold gB at *;split<;>simp_all
theorem cut_f {d:Disk}{nm:ByteArray}{n:Int}(h:(cY d nm n).2=false):(cY d nm n).1=d:=by
 unfold cY at *;split<;>simp_all
theorem move_f {d:Disk}{fr to:ByteArray}(h:(gW d fr to).2=false):(gW d fr to).1=d:=by
 unfold gW at *;split<;>simp_all
theorem op_f {e:Engine}{k:Int}(h:(opF e k).2=false):(opF e k).1=e.disk:=by
 unfold opF qA at *;split
 ·rename_i h0;rw[if_pos h0]at h;split
  ·rename_i h1;rw[if_pos h1]at h;exact cut_f h
  rfl
 rename_i h0;rw[if_neg h0]at h;split
 ·rename_i h4;rw[if_pos h4]at h;split
  ·rename_i h1;rw[if_pos h1]at h;exact cut_f h
  rfl
 rename_i h4;rw[if_neg h4]at h;split
 ·rename_i h1;rw[if_pos h1]at h;exact write_f h
 rename_i h1;rw[if_neg h1]at h;split
 ·rename_i h2;rw[if_pos h2]at h;exact sync_f h
 rename_i h2;rw[if_neg h2]at h;exact move_f h
theorem bB6 {e:Engine}{k:Int}(h1:bA e=true) (h2:e.state=1) (h3:inB k 0 4=true) (h:e.broken=false) (hq:opF e k=(e.disk,true)):(e,true)=fP e k:=by rw[bI0 h1 h2 h3 h,hq];rfl
theorem uQ {e:Engine}{k:Int}{q:Disk×Bool}(h1:bA e=true) (h2:e.state=1) (h3:inB k 0 4=true) (h:e.broken=false) (hq:opF e k=q) (ht:q.2=true):(xJ e q.1,true)=fP e k:=by rw[bI0 h1 h2 h3 h,hq,ht]
theorem pT {e:Engine}{k:Int}{q:Disk×Bool}(h1:bA e=true) (h2:e.state=1) (h3:inB k 0 4=true) (h:e.broken=false) (hq:opF e k=q) (hf:q.2=false):(e,false)=fP e k:=by
 rw[bI0 h1 h2 h3 h];subst hq;rw[op_f hf,hf];rfl
theorem markT_size (n:Int) (t:ByteArray):(lD n t).size<=1000000000:=by
 unfold lD;split
 ·rename_i h;have:=iO n;have:=iO (cL t);rw[ByteArray.size_append,ByteArray.size_append];omega
 exact Nat.zero_le _
theorem bA9 {e:Engine}(h:bA e=true):I64 (e.next-1):=by
 have:=(engOk_iff.1 h).next;unfold inB at this;simp only[Bool.and_eq_true,decide_eq_true_eq]at this;unfold I64;omega
theorem nextN_len:nextN.size<=maxLen:=by unfold maxLen;decide
theorem MarkStepS (e:Engine) (k:Int) (hw:e.yard.wt<=1048576) (hl:e.disk.files.length<=1048576) (hs:e.waits.length<=1048576):Ct1 prog 11 [.S e,.I k] [.S (fP e k).1,.B (fP e k).2]:=
 .one (fP e k) (rk:=fun p=>[.S p.1,.B p.2])<|vc func11 (fun (hg:gin [Par.S e,Par.I k])=>let ge:e.ok:=hg.1.1
  let gb:(brk e).ok:=⟨ge.1,ge.2.1,ge.2.2.1,by show I64 2;unfold I64;omega⟩
  .c func26 (eB e hw hl hs) (hg:=⟨ge,trivial⟩) fun _=>.c func37 (rI e hw) (hg:=⟨ge,trivial⟩) fun _=>.v (bA e)
  (fun h=>.rt (e,false) ⟨bI1 (fun g=>by rw[h]at g;cases g.1),ge,trivial⟩)
  (fun g1=>.u (e.state=1)
  (fun h=>.rt (e,false) ⟨bI1 (fun g=>h g.2.1),ge,trivial⟩)
  (fun g2=>.c func38 (InV k 0 4) fun _=>.v (inB k 0 4)
  (fun h=>.rt (e,false) ⟨bI1 (fun g=>by rw[h]at g;cases g.2.2),ge,trivial⟩)
  (fun g3=>.sb e.broken
  (fun h=>.rt (brk e,false) ⟨mst_brk g1 g2 g3 h,gb,trivial⟩)
  (fun g4=>.s (k=0)
   (fun h0=>.c func39 (oV e.disk nextN aA) fun _=>.s ((0:Int)<=fAt e.disk.files nextN)
    (fun h=>.c func40 (bG2 e.disk nextN 0 hl) fun _=>.v (cY e.disk nextN 0).2 (fun hf=>.c func26 (eB e hw hl hs) (hg:=⟨ge,trivial⟩) fun _=>.rt (e,false) ⟨pT g1 g2 g3 g4 (op_0 h0 h) hf,ge,trivial⟩) (fun ht=>.rt (xJ e (cY e.disk nextN 0).1,true) ⟨uQ g1 g2 g3 g4 (op_0 h0 h) ht,ge,trivial⟩))
    (fun h=>.rt (e,true) ⟨bB6 g1 g2 g3 g4 (op_0n h0 h),ge,trivial⟩))
   (fun h0=>.s (k=1)
    (fun h1=>.m e.next 1 (h:=bA9 g1)<|.c func42 (MarkTextS (e.next-1) e.yard (gA e.yard) (bA9 g1) (YardTextS e.yard hw) (yardT_size hw)) (hg:=⟨ge.1,trivial⟩) fun _=>
     .c func41 (aI5 e.disk nextN (lD (e.next-1) (gA e.yard)) hl nextN_len (markT_size _ _)) fun _=>.v (dM e.disk nextN (lD (e.next-1) (gA e.yard))).2 (fun hf=>.c func26 (eB e hw hl hs) (hg:=⟨ge,trivial⟩) fun _=>.rt (e,false) ⟨pT g1 g2 g3 g4 (op_1 h1) hf,ge,trivial⟩) (fun ht=>.rt (xJ e (dM e.disk nextN (lD (e.next-1) (gA e.yard))).1,true) ⟨uQ g1 g2 g3 g4 (op_1 h1) ht,ge,trivial⟩))
    (fun h1=>.s (k=2)
     (fun h2=>.c func43 (aQ8 e.disk nextN hl) fun _=>.v (gB e.disk nextN).2 (fun hf=>.c func26 (eB e hw hl hs) (hg:=⟨ge,trivial⟩) fun _=>.rt (e,false) ⟨pT g1 g2 g3 g4 (op_2 h2) hf,ge,trivial⟩) (fun ht=>.rt (xJ e (gB e.disk nextN).1,true) ⟨uQ g1 g2 g3 g4 (op_2 h2) ht,ge,trivial⟩))
     (fun h2=>.s (k=3)
      (fun h3=>.c func44 (MoveFileS e.disk nextN aE7 hl) fun _=>.v (gW e.disk nextN aE7).2 (fun hf=>.c func26 (eB e hw hl hs) (hg:=⟨ge,trivial⟩) fun _=>.rt (e,false) ⟨pT g1 g2 g3 g4 (op_3 h0 aA h1 h2) hf,ge,trivial⟩) (fun ht=>.rt (xJ e (gW e.disk nextN aE7).1,true) ⟨uQ g1 g2 g3 g4 (op_3 h0 aA h1 h2) ht,ge,trivial⟩))
      (fun h3=>let h4:k=4:=(by have:=inB4 g3;omega)
       .kt (k=4) h4<|.c func39 (oV e.disk logN aA) fun _=>.s ((0:Int)<=fAt e.disk.files logN)
       (fun h=>.c func40 (bG2 e.disk logN 0 hl) fun _=>.v (cY e.disk logN 0).2 (fun hf=>.c func26 (eB e hw hl hs) (hg:=⟨ge,trivial⟩) fun _=>.rt (e,false) ⟨pT g1 g2 g3 g4 (op_4 h4 h) hf,ge,trivial⟩) (fun ht=>.rt (xJ e (cY e.disk logN 0).1,true) ⟨uQ g1 g2 g3 g4 (op_4 h4 h) ht,ge,trivial⟩))
       (fun h=>.rt (e,true) ⟨bB6 g1 g2 g3 g4 (op_4n h4 h),ge,trivial⟩)))))))))) aB
def small (d:Disk):Prop:=d.files.length<=4/\∀f∈d.files,f.wt<=60010
theorem nZ {d:Disk}(h:aP d=true) {f:File}(hf:f∈d.files):f.name.size<=10/\f.data.size<=60000:=by
 obtain⟨k,hk⟩:=mem_iff_getElem?.1 hf;have h1:=((diskOk_iff.1 h).ok k f hk);have h2:=h1.name;have h3:=h1.data;unfold jU inB at h2;simp only[Bool.and_eq_true,decide_eq_true_eq]at h2;omega
theorem bA7 {d:Disk}(h:aP d=true):small d:=⟨rE h,fun f hf=>by have:=nZ h hf;unfold File.wt;omega⟩
theorem aL6 {d:Disk}(h:aP d=true) {k:Nat}{y:File}(hy:y.wt<=60010):small ⟨d.files.set k y⟩:=⟨by show (d.files.set k y).length<=4;rw[length_set];exact rE h,fun f hf=>by
 rcases mem_or_eq_of_mem_set hf with h1 | rfl
 ·exact(bA7 h).2 f h1
 ·exact hy⟩
theorem bO7 {d:Disk}(h:aP d=true) {k:Nat}{to:ByteArray}(ht:to.size<=10):∀i,∀f∈mvG d.files k to i,f.wt<=60010
 | 0,f,hf=>by cases hf
 | i+1,f,hf=>by
  have ih:=bO7 h (k:=k) ht i;have hf:f∈(match d.files[i]? with | some g=>if g.name=to then mvG d.files k to i else mvG d.files k to i++[if i=k then mvF g to else g] | none=>mvG d.files k to i):=hf;split at hf
  ·rename_i g hg;have hs:=nZ h (mem_of_getElem? hg);split at hf
   ·exact ih f hf
   ·rcases mem_append.1 hf with h1 | h1
    ·exact ih f h1
    ·rw[mem_singleton]at h1;subst h1;split
     ·show to.size+g.data.size<=60010;omega
     ·unfold File.wt;omega
  ·exact ih f hf
theorem write_s (d:Disk) (nm more:ByteArray):(dM d nm more).1=d∨small (dM d nm more).1:=by
 unfold dM;split
 ·rename_i h;exact .inr (bA7 h.2)
 exact .inl rfl
theorem sync_s (d:Disk) (nm:ByteArray):(gB d nm).1=d∨small (gB d nm).1:=by
 unfold gB;split
 ·rename_i h;unfold synD;simp only;split
  ·rename_i f hf;have:=nZ h.2 (mem_of_getElem? hf);exact .inr (aL6 h.2 (by show f.name.size+f.data.size<=_;omega))
  exact .inl rfl
 exact .inl rfl
theorem cut_s (d:Disk) (nm:ByteArray) (n:Int):(cY d nm n).1=d∨small (cY d nm n).1:=by
 unfold cY;split
 ·rename_i h;unfold bV2;simp only;split
  ·rename_i f hf;have:=nZ h.2.1 (mem_of_getElem? hf);exact .inr (aL6 h.2.1 (by show f.name.size+(f.data.extract 0 n.toNat).size<=_;rw[ByteArray.size_extract];omega))
  exact .inl rfl
 exact .inl rfl
theorem move_s (d:Disk) (fr to:ByteArray):(gW d fr to).1=d∨small (gW d fr to).1:=by
 unfold gW;split
 ·rename_i h;have h3:=h.2.2.2.1;unfold jU inB at h3;simp only[Bool.and_eq_true,decide_eq_true_eq]at h3;refine .inr ⟨?_,fun f hf=>bO7 h.2.1 aA _ f hf⟩;have:=zJ d.files (fAt d.files fr).toNat to d.files.length;have:=rE h.2.1;simp only;omega
 exact .inl rfl
theorem bR6 (d:Disk) (nm:ByteArray):(qA d nm).1=d∨small (qA d nm).1:=by
 unfold qA;split
 ·exact cut_s d nm 0
 exact .inl rfl
theorem op_s (e:Engine) (k:Int):(opF e k).1=e.disk∨small (opF e k).1:=by
 unfold opF;split
 ·exact bR6 _ _
 split
 ·exact bR6 _ _
 split
 ·exact write_s _ _ _
 split
 ·exact sync_s _ _
 exact move_s _ _ _
def fR (n a b:Int):Int:=if b<a then a else if n<a then a else min n b
theorem BroughtID (n a b:Int):Ct1 prog 24 [.I n,.I a,.I b] [.I (fR n a b)]:=
 .one (fR n a b) (rk:=fun x=>[.I x])<|vc func24 (fun hg=>.s (b<a)
  (fun h=>.rt a ⟨by unfold fR;rw[if_pos h],trivial⟩)
  (fun h=>.s (n<a)
   (fun h2=>.rt a ⟨by unfold fR;rw[if_neg h,if_pos h2],trivial⟩)
   (fun h2=>.rt (min n b) ⟨by unfold fR;rw[if_neg h,if_neg h2],trivial⟩))) aB
theorem rJ (n a b:Int):Ct1 prog 25 [.I n,.I a,.I b] [.I (fR n a b)]:=
 .one (fR n a b) (rk:=fun x=>[.I x])<|vc func25 (fun hg=>.s (b<a)
  (fun h=>.rt a ⟨by unfold fR;rw[if_pos h],trivial⟩)
  (fun h=>.s (n<a)
   (fun h2=>.rt a ⟨by unfold fR;rw[if_neg h,if_pos h2],trivial⟩)
   (fun h2=>.s (b<n)
    (fun h3=>.rt b ⟨by unfold fR;rw[if_neg h,if_neg h2,Int.min_def,if_neg aA],trivial⟩)
    (fun h3=>.rt n ⟨by unfold fR;rw[if_neg h,if_neg h2,Int.min_def,if_pos aA],trivial⟩)))) aB
theorem cE0 (n:Int):0<=fR n 0 5/\fR n 0 5<=5:=by
 unfold fR;rw[if_neg aA];split
 ·omega
 omega
noncomputable def fY (e:Engine):Nat->Engine×Bool
 | 0=>(e,true)
 | k+1=>if (fY e k).2=true then fP (fY e k).1 k else fY e k
noncomputable def aE3 (e:Engine) (n:Int):Engine×Bool:=fY e (fR n 0 5).toNat
theorem bB7 {e:Engine}{k:Nat}(h:(fY e k).2=true):fY e (k+1)=fP (fY e k).1 k:=by
 show (if _ then _ else _)=_;rw[if_pos h]
theorem bB8 {e:Engine}{k:Nat}(h:(fY e k).2=false):∀j,fY e (k+j)=fY e k
 | 0=>rfl
 | j+1=>by
  show (if (fY e (k+j)).2=true then fP (fY e (k+j)).1 ((k+j:Nat):Int) else fY e (k+j))=_;rw[bB8 h j,if_neg (by rw[h];simp)]
theorem mst_yw (e:Engine) (k:Int):(fP e k).1.yard=e.yard/\(fP e k).1.waits=e.waits:=by
 unfold fP;split
 ·exact⟨rfl,rfl⟩
 split
 ·exact⟨rfl,rfl⟩
 exact⟨rfl,rfl⟩
theorem mst_fl (e:Engine) (k:Int) (h:e.disk.files.length<=1048576):(fP e k).1.disk.files.length<=1048576:=by
 unfold fP;split
 ·exact h
 split
 ·exact h
 show (opF e k).1.files.length<=_;rcases op_s e k with h1 | h1
 ·rw[h1];exact h
 have:=h1.1;omega
structure MkJ (e:Engine) (n:Int) (g:Nat×Engine):Prop where
 le:(g.1:Int)<=fR n 0 5
 ok:fY e g.1=(g.2,true)
 yard:g.2.yard=e.yard
 waits:g.2.waits=e.waits
 files:g.2.disk.files.length<=1048576
 good:g.2.ok
theorem MkJ.start {e:Engine}(n:Int) (h:e.disk.files.length<=1048576) (hg:e.ok):MkJ e n (0,e):=⟨(cE0 n).1,rfl,rfl,rfl,h,hg⟩
theorem MkJ.next_ {e:Engine}{n:Int}{g:Nat×Engine}(h:MkJ e n g):fY e (g.1+1)=fP g.2 g.1:=by
 have:=bB7 (e:=e) (k:=g.1) (by rw[h.ok]);rw[this,h.ok]
theorem MkJ.step {e:Engine}{n:Int}{g:Nat×Engine}(h:MkJ e n g) (hk:(g.1:Int)<fR n 0 5) (ht:(fP g.2 g.1).2=true) (hg:(fP g.2 g.1).1.ok):MkJ e n (g.1+1,(fP g.2 g.1).1):=by
 have e1:=h.next_;have h2:=mst_yw g.2 g.1;exact⟨by show ((g.1+1:Nat):Int)<=_;omega,by show fY e (g.1+1)=_;rw[e1,<- ht],h2.1.trans h.yard,h2.2.trans h.waits,mst_fl _ _ h.files,hg⟩
theorem mrk_fail {e:Engine}{n:Int}{g:Nat×Engine}(h:MkJ e n g) (hk:(g.1:Int)<fR n 0 5) (hf:(fP g.2 g.1).2=false):((fP g.2 g.1).1,false)=aE3 e n:=by
 have e1:=h.next_;unfold aE3;obtain⟨j,hj⟩:∃j,(fR n 0 5).toNat=(g.1+1)+j:=⟨(fR n 0 5).toNat-(g.1+1),by omega⟩;rw[hj,bB8 (by rw[e1];exact hf) j,e1,<- hf]
theorem mrk_end {e:Engine}{n:Int}{g:Nat×Engine}(h:MkJ e n g) (hk:¬(g.1:Int)<fR n 0 5):(g.2,true)=aE3 e n:=by
 unfold aE3;have:(fR n 0 5).toNat=g.1:=by have:=h.le;omega
 rw[this,h.ok]
theorem MarkS (e:Engine) (n:Int) (hw:e.yard.wt<=1048576) (hl:e.disk.files.length<=1048576) (hs:e.waits.length<=1048576):Ct1 prog 8 [.S e,.I n] [.S (aE3 e n).1,.B (aE3 e n).2]:=
 .one (aE3 e n) (rk:=fun p=>[.S p.1,.B p.2])<|vc func8 (fun (hg:gin [Par.S e,Par.I n])=>.c func25 (rJ n 0 5) fun _=>.c func26 (eB e hw hl hs) (hg:=⟨hg.1.1,trivial⟩) fun _=>.l (Γ:=Nat×Engine) (fun g=>MkJ e n g) (fun g=>(fR n 0 5).toNat-g.1) [1,2,4,6] [4,5] [0,1,2,3] (fun g=>[vI 7 g.1]) (fun g=>[oO 6 (g.2.yard.shelf),oO 7 (g.2.yard.runs),oO 8 (g.2.disk.files),oO 9 (g.2.waits),oB 10 [.v (I g.2.yard.now),.v (I g.2.yard.seq),.r 6,.r 7,.r 8,.v (I g.2.next),.v (I g.2.calls),.r 9,.v (I g.2.state),.b g.2.broken]]) (0,e) (h:=MkJ.start n hl hg.1.1) fun g hJ t=>
    .s ((g.1:Int)<fR n 0 5)
     (fun h=>let hkl:=cE0 n
     .c func11 (MarkStepS g.2 g.1 (by rw[hJ.yard];exact hw) hJ.files (by rw[hJ.waits];exact hs)) (hg:=⟨hJ.good,trivial⟩) fun hq=>.v (fP g.2 g.1).2
     (fun hf=>.rt ((fP g.2 g.1).1,false) ⟨mrk_fail hJ h hf,hq.1.1,trivial⟩)
     (fun ht=>.p g.1 1<|.n t (g.1+1,(fP g.2 g.1).1) [(6,11),(7,12),(8,13),(9,14)] (hJ.step h ht hq.1.1) (by dsimp only;omega)))
     (fun h=>.rt (g.2,true) ⟨mrk_end hJ h,hJ.good,trivial⟩)) aB
abbrev bN (code:List UInt8) (c:Cur) (n:Int):Int:=(eH code c n).1
abbrev bC (code:List UInt8) (c:Cur) (n:Int):Cur:=(eH code c n).2
theorem fS (code:List UInt8) (c:Cur) {n:Int}(h:0<n):0<=bN code c n/\bN code c n<n:=aQ1 code c h
theorem bS1 (code:List UInt8) (c:Cur) (n:Int):0<=bN code c n/\bN code c n<=255/\(bN code c n<n∨bN code c n=0):=below_rng0 code c n
def bV4 (es:List Edge) (e:Edge) (k:Nat):Bool:=(es.take k).any (fun x=>eqB x e)
theorem aQ6 {es:List Edge}{e x:Edge}{k:Nat}{b:Bool}(h:b=bV4 es e k) (hx:es[k]? = some x):(b || eqB x e)=bV4 es e (k+1):=by
 obtain⟨hk,rfl⟩:=gsi_.1 hx;unfold bV4 at *;rw[take_succ_eq_append_getElem hk,any_append,h];simp
theorem anyE_all {es:List Edge}{e:Edge}{k:Nat}(h:¬(k:Int)<es.length):bV4 es e k=decide (e∈es):=by
 unfold bV4;rw[take_of_length_le aA];by_cases hm:e∈es
 ·rw[decide_eq_true hm,any_eq_true];exact⟨e,hm,vA rfl⟩
 rw[decide_eq_false hm,any_eq_false];intro x hx hxe;exact hm (eqB_iff.1 hxe▸hx)
def uL (code:List UInt8) (t:Int):Nat->Nat->Cur->List Edge->List Edge×Cur
 | 0,_,c,es=>(es,c)
 | f+1,i,c,es=>
  if (i:Int)<bN code c 9/\1<t then
   uL code t f (i+1) (bC code (bC code (bC code c 9) (t-1)) (1+bN code (bC code c 9) (t-1)))
    (if (⟨bN code (bC code (bC code c 9) (t-1)) (1+bN code (bC code c 9) (t-1)),1+bN code (bC code c 9) (t-1)⟩:Edge)∈es then es else es++[⟨bN code (bC code (bC code c 9) (t-1)) (1+bN code (bC code c 9) (t-1)),1+bN code (bC code c 9) (t-1)⟩])
  else (es,bC code c 9)
def bA0 (code:List UInt8) (c:Cur):Cur:=bC code (bC code (bC code (bC code c 4) 3) 4) 6
def wH (code:List UInt8) (c:Cur):Int:=if bN code (bA0 code c) 10=0 then 12 else 1+bN code (bC code (bC code (bC code c 4) 3) 4) 6
def aZ9 (code:List UInt8) (c:Cur):List Edge×Cur:=uL code (wH code c) 9 0 (bC code (bA0 code c) 10) []
def oX (code:List UInt8) (c:Cur):Plan×Cur:=(⟨bN code c 4,1+bN code (bC code c 4) 3,1+bN code (bC code (bC code c 4) 3) 4,wH code c,(aZ9 code c).1⟩,(aZ9 code c).2)
structure PdJ (code:List UInt8) (t:Int) (tot:List Edge×Cur) (g:Nat×Cur×List Edge):Prop where
 eq:uL code t (9-g.1) g.1 g.2.1 g.2.2=tot
 cu:bQ code g.2.1
 le:g.2.2.length<=g.1
 mx:g.1<=8
theorem PdJ.go {code:List UInt8}{t:Int}{tot:List Edge×Cur}{g:Nat×Cur×List Edge}(h:PdJ code t tot g) (h1:(g.1:Int)<bN code g.2.1 9) (h2:1<t) :
  uL code t (9-(g.1+1)) (g.1+1) (bC code (bC code (bC code g.2.1 9) (t-1)) (1+bN code (bC code g.2.1 9) (t-1))) (if (⟨bN code (bC code (bC code g.2.1 9) (t-1)) (1+bN code (bC code g.2.1 9) (t-1)),1+bN code (bC code g.2.1 9) (t-1)⟩:Edge)∈g.2.2 then g.2.2 else g.2.2++[⟨bN code (bC code (bC code g.2.1 9) (t-1)) (1+bN code (bC code g.2.1 9) (t-1)),1+bN code (bC code g.2.1 9) (t-1)⟩])=tot:=by
 have hm:=h.mx;have e:=h.eq;rw[show 9-g.1=(9-(g.1+1))+1 by omega]at e;unfold uL at e;rw[if_pos ⟨h1,h2⟩]at e;exact e
theorem PdJ.fin {code:List UInt8}{t:Int}{tot:List Edge×Cur}{g:Nat×Cur×List Edge}(h:PdJ code t tot g) (h1:¬((g.1:Int)<bN code g.2.1 9/\1<t)):(g.2.2,bC code g.2.1 9)=tot:=by
 have hm:=h.mx;have e:=h.eq;rw[show 9-g.1=(8-g.1)+1 by omega]at e;unfold uL at e;rw[if_neg h1]at e;exact e
section
variable (code:List UInt8) (hl:code.length<=1048576)
include hl
theorem Plan_v (c:Cur) (hc:bQ code c):Cv1 prog 129 code [] c (oX code c).2 [.S (oX code c).1]:=
 Cv.one (oX code c) (y:=fun q=>q.2) (rk:=fun q=>[.S q.1])<|vcv func129 (fun _=>
  let c1:=bC code c 4
  let h1:bQ code c1:=aE 4 hc
  let c2:=bC code c1 3
  let h2:bQ code c2:=aE 3 h1
  let c3:=bC code c2 4
  let h3:bQ code c3:=aE 4 h2
  let c4:=bC code c3 6
  let h4:bQ code c4:=aE 6 h3
  let c5:=bC code c4 10
  let h5:bQ code c5:=aE 10 h4
  let r1:=fS code c (n:=4) aA
  let r2:=fS code c1 (n:=3) aA
  let r3:=fS code c2 (n:=4) aA
  let r4:=fS code c3 (n:=6) aA
  let go:∀t:Int,(1<=t/\t<=12)->t=wH code c->D prog (fun q:Plan×Cur=>q=oX code c/\rgd [Rk.S q.1]):=fun t ht hT=>
   .wt 4<|.r0 (inferInstance:Shape Edge) 148<|.la (Γ:=Nat×Cur×List Edge) (PdJ code t (aZ9 code c)) (fun g=>9-g.1) (fun g=>[vI 4 g.1]) (fun g=>[oR 4 148 g.2.2,oB 3 [.v (I (bN code c 4)),.v (I (1+bN code c1 3)),.v (I (1+bN code c2 4)),.v (I t),.r 4],oB 0 [.r 1,.v (I g.2.1.i),.v (I g.2.1.h)]]) (0,c5,[]) (h:=⟨by rw[hT];rfl,h5,Nat.le_refl _,by show 0<=8;omega⟩) fun g hJ tk=>
    let hge:=hJ.le
    let hgm:=hJ.mx
    let d1:=bC code g.2.1 9
    let k1:bQ code d1:=aE 9 hJ.cu
    let d2:=bC code d1 (t-1)
    let k2:bQ code d2:=aE (t-1) k1
    let to:=1+bN code d1 (t-1)
    let d3:=bC code d2 to
    let k3:bQ code d3:=aE to k2
    let e:Edge:=⟨bN code d2 to,to⟩
    let s0:=fS code g.2.1 (n:=9) aA
    let s1:=bS1 code d1 (t-1)
    let s2:=bS1 code d2 to
    let hz:∀(_:¬((g.1:Int)<bN code g.2.1 9/\1<t)),((⟨bN code c 4,1+bN code c1 3,1+bN code c2 4,t,g.2.2⟩,d1):Plan×Cur)=oX code c:=fun hn=>(by have e:=hJ.fin hn;unfold oX;rw[<- e,hT])
    let gp:(⟨bN code c 4,1+bN code c1 3,1+bN code c2 4,t,g.2.2⟩:Plan).ok:=⟨by show I64 (bN code c 4);unfold I64;omega,by show I64 (1+bN code c1 3);unfold I64;omega,by show I64 (1+bN code c2 4);unfold I64;omega,by show I64 t;unfold I64;omega⟩
    .cv _ func27 (cS code g.2.1 9 hJ.cu hl aA) trivial fun _ _ _=>.s ((g.1:Int)<bN code g.2.1 9)
     (fun hlt=>.s (1<t)
      (fun ht1=>.m t 1<|.cv _ func27 (cS code d1 (t-1) k1 hl aA) trivial fun _ _ _=>.p 1 (bN code d1 (t-1)) (h:=by unfold I64;omega) <|
       .cv _ func27 (cS code d2 to k2 hl (by show 1+bN code d1 (t-1)<=256;omega)) trivial fun _ _ _=>
       .la (Γ:=Nat×Bool) (fun q=>q.1<=g.2.2.length/\q.2=bV4 g.2.2 e q.1) (fun q=>g.2.2.length-q.1) (fun q=>[vI 8 q.1,vB 7 q.2]) (fun _=>[]) (0,false) (h:=⟨Nat.zero_le _,rfl⟩) fun q hq tq=>
        .s ((q.1:Int)<g.2.2.length)
         (fun h6=>.sb q.2
          (fun h7=>.ex (p:=fun x=>g.2.2[q.1]? = some x) ⟨_,getElem?_eq_getElem aA⟩ fun x hx=>.p q.1 1<|.n tq (q.1+1,true) [] (h1:=⟨by show q.1+1<=_;omega,by rw[<- aQ6 hq.2 hx,h7];rfl⟩) (h2:=by show g.2.2.length-(q.1+1)<_;omega))
          (fun h7=>.x g.2.2 q.1 (h:=by omega) fun x hx gx=>.qe (uD x e) aB<|.p q.1 1<|.n tq (q.1+1,eqB x e) [] (h1:=⟨by show q.1+1<=_;omega,by rw[<- aQ6 hq.2 hx,h7];rfl⟩) (h2:=by show g.2.2.length-(q.1+1)<_;omega)))
         (fun h6=>let hm:q.2=decide (e∈g.2.2):=hq.2.trans (anyE_all h6)
          .v q.2
          (fun h7=>.a g.2.2 e 16 (hy:=(show Edge.ok _ from ⟨by show I64 (bN code d2 to);unfold I64;omega,by show I64 (1+bN code d1 (t-1));unfold I64;omega⟩)) (hby:=by omega)<|.p g.1 1 (h:=by unfold I64;omega) <|
           .n tk (g.1+1,d3,g.2.2++[e]) [] (h1:=⟨by have:=hJ.go hlt ht1;rw[h7]at hm;rw[if_neg (of_decide_eq_false hm.symm)]at this;exact this,k3,by show (g.2.2++[e]).length<=g.1+1;rw[length_append,length_singleton];omega,by show g.1+1<=8;omega⟩) (h2:=by show 9-(g.1+1)<9-g.1;omega))
          (fun h7=>.p g.1 1 (h:=by unfold I64;omega) <|
           .n tk (g.1+1,d3,g.2.2) [] (h1:=⟨by have:=hJ.go hlt ht1;rw[h7]at hm;rw[if_pos (of_decide_eq_true hm.symm)]at this;exact this,k3,by show g.2.2.length<=g.1+1;omega,by show g.1+1<=8;omega⟩) (h2:=by show 9-(g.1+1)<9-g.1;omega))))
      (fun ht1=>.sh 4<|.rt (⟨bN code c 4,1+bN code c1 3,1+bN code c2 4,t,g.2.2⟩,d1) ⟨hz (fun h=>ht1 h.2),gp,trivial⟩))
     (fun hlt=>.sh 4<|.rt (⟨bN code c 4,1+bN code c1 3,1+bN code c2 4,t,g.2.2⟩,d1) ⟨hz (fun h=>hlt h.1),gp,trivial⟩)
  .cv _ func27 (cS code c 4 hc hl aA) trivial fun _ _ _=>.cv _ func27 (cS code c1 3 h1 hl aA) trivial fun _ _ _=>.p 1 (bN code c1 3) (h:=by unfold I64;omega) <|
  .cv _ func27 (cS code c2 4 h2 hl aA) trivial fun _ _ _=>.p 1 (bN code c2 4)<|.cv _ func27 (cS code c3 6 h3 hl aA) trivial fun _ _ _=>.p 1 (bN code c3 6) (h:=by unfold I64;omega) <|
  .cv _ func28 (aW3 code c4 10 h4 hl aA) trivial fun _ _ _=>.sb (aD7 code c4 10).1
   (fun h=>go 12 aA (by unfold wH;exact(if_pos (show bN code (bA0 code c) 10=0 from of_decide_eq_true h)).symm))
   (fun h=>go (1+bN code c3 6) aA (by unfold wH;exact(if_neg (show ¬bN code (bA0 code c) 10=0 from of_decide_eq_false h)).symm))) aB
end
theorem aY0 {α:Type}{xs:List α}{k:Nat}{x:α}(h:xs[k]? = some x):xs.take k++[x]=xs.take (k+1):=by
 obtain⟨hk,rfl⟩:=gsi_.1 h;rw[take_succ_eq_append_getElem hk]
theorem aH1 {α:Type}[DecidableEq α] {xs ys:List α}(h:¬(xs.length:Int)=ys.length):false=eqB xs ys:=(vC fun e=>h (by rw[e])).symm
theorem bE8 {α:Type}[DecidableEq α] {xs ys:List α}{k:Nat}{x y:α}(hx:xs[k]? = some x) (hy:ys[k]? = some y) (h:eqB x y=false):false=eqB xs ys:=(vC fun e=>by rw[e,hy]at hx;cases hx;rw[vA rfl]at h;cases h).symm
theorem bE7 {α:Type}[DecidableEq α] {xs ys:List α}{k:Nat}{x y:α}(h:xs.take k=ys.take k) (hx:xs[k]? = some x) (hy:ys[k]? = some y) (he:eqB x y=true):xs.take (k+1)=ys.take (k+1):=by
 rw[<- aY0 hx,<- aY0 hy,h,eqB_iff.1 he]
theorem aH0 {α:Type}[DecidableEq α] {xs ys:List α}{k:Nat}(hl:(xs.length:Int)=ys.length) (h:xs.take k=ys.take k) (hk:¬(k:Int)<xs.length):true=eqB xs ys:=by
 rw[take_of_length_le aA,take_of_length_le aA]at h;exact(vA h).symm
theorem bB2 {α:Type}[DecidableEq α] {x y:α}{p:Prop}(h:¬p) (k:x=y->p):false=eqB x y:=(vC fun e=>h (k e)).symm
theorem ne_c {α β:Type}[DecidableEq α] [DecidableEq β] {x y:α}{a b:β}(h:eqB a b=false) (k:x=y->a=b):false=eqB x y:=(vC fun e=>by rw[vA (k e)]at h;cases h).symm
theorem bF9 {x y:Plan}(h0:x.prio=y.prio) (h1:x.most=y.most) (h2:x.wait=y.wait) (h3:x.tasks=y.tasks) (h4:x.edges=y.edges):x=y:=by
 cases x;cases y;simp only at *;subst_vars;rfl
theorem Run_ext {x y:Run}(h0:x.id=y.id) (h1:x.plan=y.plan) (h2:x.state=y.state) (h3:x.tasks=y.tasks):x=y:=by
 cases x;cases y;simp only at *;subst_vars;rfl
theorem Yard_ext {x y:Yard}(h0:x.now=y.now) (h1:x.seq=y.seq) (h2:x.shelf=y.shelf) (h3:x.runs=y.runs):x=y:=by
 cases x;cases y;simp only at *;subst_vars;rfl
theorem Deed_ext {x y:Deed}(h0:x.kind=y.kind) (h1:x.run=y.run) (h2:x.plan=y.plan) (h3:x.task=y.task) (h4:x.try_=y.try_) (h5:x.worker=y.worker) (h6:x.draw=y.draw):x=y:=by
 cases x;cases y;simp only at *;subst_vars;rfl
def num (n:Int):Bool:=inB n 0 1000000000
def zP:Plan:=⟨0,0,0,0,[]⟩
def lA (d:Deed):Deed:=
 if d.kind=1 then ⟨d.kind,d.run,d.plan,0,0,0,0⟩
 else if d.kind=2 then ⟨d.kind,0,zP,0,0,d.worker,d.draw⟩
 else if d.kind=3∨d.kind=4 then ⟨d.kind,d.run,zP,d.task,d.try_,0,0⟩
 else if d.kind=6∨d.kind=7 then ⟨d.kind,d.run,zP,0,0,0,0⟩
 else ⟨d.kind,0,zP,0,0,0,0⟩
def cF (es:List Edge):List Int:=es.flatMap (fun e=>[e.from_,e.to_])
theorem edgeNums_s {es:List Edge}{k:Nat}(h:k<es.length):cF (es.take (k+1))=cF (es.take k)++[es[k].from_,es[k].to_]:=by
 unfold cF;rw[take_succ_eq_append_getElem h,flatMap_append];rfl
theorem lK:∀(es:List Edge),(cF es).length=2*es.length
 | []=>rfl
 | e::es=>by have:=lK es;unfold cF at *;simp only[flatMap_cons,length_append,length_cons,length_nil,this];omega
def aY (d:Deed):List Int:=
 if d.kind=1 then [d.run,d.plan.prio,d.plan.most,d.plan.wait,d.plan.tasks,(d.plan.edges.length:Int)]++cF d.plan.edges
 else if d.kind=2 then [d.worker,d.draw]
 else if d.kind=3∨d.kind=4 then [d.run,d.task,d.try_]
 else if d.kind=6∨d.kind=7 then [d.run]
 else []
theorem oQ (d:Deed):(aY d).length<=6+2*d.plan.edges.length:=by
 unfold aY;have:=lK d.plan.edges;split
 ·simp only[length_append,length_cons,length_nil,this];omega
 split
 ·simp;omega
 split
 ·simp;omega
 split<;>simp<;>omega
def aQ (d:Deed):Bool:=inB d.kind 1 8 && decide (d.plan.edges.length<=31) && eqB d (lA d) && !((aY d).any (fun n=> !num n))
def fC (p:Plan):Bool:=num p.prio && num p.most && num p.wait && num p.tasks && decide (p.edges.length<=31) && !(p.edges.any (fun e:Edge=> !(num e.from_ && num e.to_)))
def iE (p:Plan):Bool:=decide (p.prio=0) && decide (p.most=0) && decide (p.wait=0) && decide (p.tasks=0) && decide (p.edges.length=0)
theorem oF {p:Plan}:iE p=true↔p=zP:=by
 cases p;simp[iE,zP,length_eq_zero_iff,and_assoc]
theorem any_edges (es:List Edge):(cF es).any (fun n=> !num n)=es.any (fun e:Edge=> !(num e.from_ && num e.to_)):=by
 unfold cF;rw[any_flatMap];congr 1
 funext e
 simp
theorem deedOk_0 {d:Deed}(h:inB d.kind 1 8=false):aQ d=false:=by unfold aQ;rw[h];rfl
theorem rM:num 0=true:=rfl
theorem num_len {n:Nat}(h:n<=31):num (n:Int)=true:=by unfold num;rw[inB_iff'];omega
theorem bF3 {d:Deed}(h:d.kind=1):aQ d=(num d.run && decide (d.task=0) && decide (d.try_=0) && decide (d.worker=0) && decide (d.draw=0) && fC d.plan):=by
 obtain⟨k,r,p,t,y,w,dr⟩:=d;simp only at h;subst h;have h1:eqB (⟨1,r,p,t,y,w,dr⟩:Deed) (lA ⟨1,r,p,t,y,w,dr⟩)=(decide (t=0) && decide (y=0) && decide (w=0) && decide (dr=0)):=by
  rw[Bool.eq_iff_iff];simp[eqB,lA,and_assoc]
 have h2:inB (⟨1,r,p,t,y,w,dr⟩:Deed).kind 1 8=true:=rfl;unfold aQ fC;rw[h1,h2];by_cases hl:p.edges.length<=31
 ·have hn:=num_len hl;simp only[aY,if_true,any_append,any_cons,any_nil,any_edges,hn,decide_eq_true hl,Bool.not_true,Bool.or_false,Bool.not_or,Bool.not_not,Bool.true_and,Bool.and_true]
  ac_rfl
 simp[hl]
theorem bF2 {d:Deed}(h:d.kind=2):aQ d=(decide (d.run=0) && decide (d.task=0) && decide (d.try_=0) && num d.worker && num d.draw && iE d.plan):=by
 obtain⟨k,r,p,t,y,w,dr⟩:=d;simp only at h;subst h;rw[Bool.eq_iff_iff];simp only[aQ,lA,aY,Bool.and_eq_true,oF,eqB,decide_eq_true_eq,Deed.mk.injEq];simp[inB];constructor
 ·rintro⟨⟨h1,h2,h3,h4,h5⟩,h6⟩;simp_all
 rintro h;simp_all[zP]
theorem vJ {d:Deed}(h:d.kind=3∨d.kind=4):aQ d=(num d.run && num d.task && num d.try_ && decide (d.worker=0) && decide (d.draw=0) && iE d.plan):=by
 obtain⟨k,r,p,t,y,w,dr⟩:=d;simp only at h;rw[Bool.eq_iff_iff];have h1:¬k=1:=by omega
 have h2:¬k=2:=by omega
 have h8:inB k 1 8=true:=by rw[inB_iff'];omega
 simp only[aQ,lA,aY,Bool.and_eq_true,oF,eqB,decide_eq_true_eq,Deed.mk.injEq,if_neg h1,if_neg h2,if_pos h,h8];simp;constructor
 ·rintro⟨⟨h1,h2,h3,h4⟩,h6⟩;simp_all
 rintro h;simp_all[zP]
theorem vG {d:Deed}(h:d.kind=6∨d.kind=7):aQ d=(num d.run && decide (d.task=0) && decide (d.try_=0) && decide (d.worker=0) && decide (d.draw=0) && iE d.plan):=by
 obtain⟨k,r,p,t,y,w,dr⟩:=d;simp only at h;rw[Bool.eq_iff_iff];have h1:¬k=1:=by omega
 have h2:¬k=2:=by omega
 have h3:¬(k=3∨k=4):=by omega
 have h8:inB k 1 8=true:=by rw[inB_iff'];omega
 simp only[aQ,lA,aY,Bool.and_eq_true,oF,eqB,decide_eq_true_eq,Deed.mk.injEq,if_neg h1,if_neg h2,if_neg h3,if_pos h,h8];simp;constructor
 ·rintro⟨⟨h1,h2,h3,h4⟩,h6⟩;simp_all
 rintro h;simp_all[zP]
theorem vH {d:Deed}(h:d.kind=5∨d.kind=8):aQ d=(decide (d.run=0) && decide (d.task=0) && decide (d.try_=0) && decide (d.worker=0) && decide (d.draw=0) && iE d.plan):=by
 obtain⟨k,r,p,t,y,w,dr⟩:=d;simp only at h;rw[Bool.eq_iff_iff];have h1:¬k=1:=by omega
 have h2:¬k=2:=by omega
 have h3:¬(k=3∨k=4):=by omega
 have h4:¬(k=6∨k=7):=by omega
 have h8:inB k 1 8=true:=by rw[inB_iff'];omega
 simp only[aQ,lA,aY,Bool.and_eq_true,oF,eqB,decide_eq_true_eq,Deed.mk.injEq,if_neg h1,if_neg h2,if_neg h3,if_neg h4,h8];simp;constructor
 ·rintro⟨h1,h2,h3,h4⟩;simp_all
 rintro h;simp_all[zP]

def oP (d:Deed):Bool:=((((((((!decide (d.kind=2)) && (!decide (d.kind=5))) && (!decide (d.kind=8))) && (!(num d.run))) || ((!(((!decide (d.kind=2)) && (!decide (d.kind=5))) && (!decide (d.kind=8)))) && (!decide (d.run=0)))) || (((decide (d.kind=3)) || (decide (d.kind=4))) && ((!(num d.task)) || (!(num d.try_))))) || ((!((decide (d.kind=3)) || (decide (d.kind=4)))) && ((!decide (d.task=0)) || (!decide (d.try_=0))))) || ((decide (d.kind=2)) && ((!(num d.worker)) || (!(num d.draw))))) || ((!decide (d.kind=2)) && ((!decide (d.worker=0)) || (!decide (d.draw=0))))
theorem deedS_f {d:Deed}(hi:1<=d.kind/\d.kind<=8) (he:oP d=true):aQ d=false:=by
 unfold oP at he;have hkk:d.kind=1∨d.kind=2∨d.kind=3∨d.kind=4∨d.kind=5∨d.kind=6∨d.kind=7∨d.kind=8:=by omega
 rcases hkk with hk | hk | hk | hk | hk | hk | hk | hk
 ·rw[bF3 hk];simp[hk]at he ⊢;first | done | grind | (simp_all[rM];done)
 ·rw[bF2 hk];simp[hk]at he ⊢;first | done | grind | (simp_all[rM];done)
 ·rw[vJ (.inl hk)];simp[hk]at he ⊢;first | done | grind | (simp_all[rM];done)
 ·rw[vJ (.inr hk)];simp[hk]at he ⊢;first | done | grind | (simp_all[rM];done)
 ·rw[vH (.inl hk)];simp[hk]at he ⊢;first | done | grind | (simp_all[rM];done)
 ·rw[vG (.inl hk)];simp[hk]at he ⊢;first | done | grind | (simp_all[rM];done)
 ·rw[vG (.inr hk)];simp[hk]at he ⊢;first | done | grind | (simp_all[rM];done)
 rw[vH (.inr hk)];simp[hk]at he ⊢;first | done | grind | (simp_all[rM];done)
theorem tq1_ {P:Prop}(h:P:=by
 unfold oP at he;have hkk:d.kind=1∨d.kind=2∨d.kind=3∨d.kind=4∨d.kind=5∨d.kind=6∨d.kind=7∨d.kind=8:=by omega
 rcases hkk with hk | hk | hk | hk | hk | hk | hk | hk
 ·rw[bF3 hk];simp[hk]at he hx ⊢;first | done | grind | (simp_all[rM];done)
 ·rw[bF2 hk];simp[hk]at he hx ⊢;first | done | grind | (simp_all[rM];done)
 ·rw[vJ (.inl hk)];simp[hk]at he hx ⊢;first | done | grind | (simp_all[rM];done)
 ·rw[vJ (.inr hk)];simp[hk]at he hx ⊢;first | done | grind | (simp_all[rM];done)
 ·rw[vH (.inl hk)];simp[hk]at he hx ⊢;first | done | grind | (simp_all[rM];done)
 ·rw[vG (.inl hk)];simp[hk]at he hx ⊢;first | done | grind | (simp_all[rM];done)
 ·rw[vG (.inr hk)];simp[hk]at he hx ⊢;first | done | grind | (simp_all[rM];done)
 rw[vH (.inr hk)];simp[hk]at he hx ⊢;first | done | grind | (simp_all[rM];done)):P:=h
theorem deedS_1 {d:Deed}(hi:1<=d.kind/\d.kind<=8) (he:oP d=false) (hx:d.kind=1):aQ d=fC d.plan:=by exact tq1_
theorem deedS_n {d:Deed}(hi:1<=d.kind/\d.kind<=8) (he:oP d=false) (hx:¬d.kind=1):aQ d=iE d.plan:=by exact tq1_
noncomputable def gE (y:Yard) (p:Plan):Bool:=decide ((y.runs.length:Int)<8) && inB p.tasks 0 12 && decide (cI y+p.tasks<=40) && decide (y.seq<=999999000-p.tasks)
theorem aL7 (y:Yard):0<=cI y/\cI y<=2*(y.wt:Int):=by
 have h1:=aL8 y y.runs.length;rw[take_length]at h1;have h2:=Nat.le_trans (qT y y.shelf.flatten) (aU5 y);unfold cI;omega
noncomputable def kE (p:Plan) (k:Nat):Task:=⟨if (aJ p k).length=0 then 2 else 1,(aJ p k).length,0,0⟩
noncomputable def dB (p:Plan) (k:Nat):List Task:=(List.range k).map (kE p)
noncomputable def aX (id:Int) (p:Plan):Run:=⟨id,p,1,dB p p.tasks.toNat⟩
theorem aA7 {p:Plan}{k:Nat}(h:((aJ p k).length:Int)=0):dB p (k+1)=dB p k++[⟨2,(aJ p k).length,0,0⟩]:=by
 unfold dB;rw[range_succ,map_append];simp only[map_cons,map_nil,kE];rw[if_pos aA]
theorem aA8 {p:Plan}{k:Nat}(h:¬((aJ p k).length:Int)=0):dB p (k+1)=dB p k++[⟨1,(aJ p k).length,0,0⟩]:=by
 unfold dB;rw[range_succ,map_append];simp only[map_cons,map_nil,kE];rw[if_neg aA]
theorem fJ (p:Plan) (k:Nat):(dB p k).length=k:=by unfold dB;rw[length_map,length_range]
def zRun:Run:=⟨0,⟨0,0,0,0,[]⟩,0,[]⟩
noncomputable def kR (id:Int) (p:Plan):Bool:=inB id 1 9999 && decide (aC p=0)
noncomputable def aE0 (id:Int) (p:Plan):Run:=if kR id p=true then aX id p else zRun
theorem newR_f {id:Int}{p:Plan}(h:kR id p=false):aE0 id p=zRun:=by unfold aE0;rw[h];rfl
theorem bZ7 {id:Int}{p:Plan}(h:kR id p=true):aE0 id p=aX id p:=by unfold aE0;rw[if_pos h]
theorem aZ7 {p:Plan}(h:aC p=0):1<=p.tasks/\p.tasks<=12/\p.edges.length<=30:=by
 have:=(gV h).1;unfold aN at this;omega
def lC (xs:List Entry) (e:Entry):Nat:=(iR (fun x=> !bU x e) xs).getD xs.length
def eX (xs:List Entry) (e:Entry):List Entry:=xs.take (lC xs e)++e::xs.drop (lC xs e)
theorem putIx_le (xs:List Entry) (e:Entry):lC xs e<=xs.length:=by
 unfold lC;cases h:iR (fun x=> !bU x e) xs with
 | none=>exact Nat.le_refl _
 | some k=>exact Nat.le_of_lt (uT h).1
theorem aZ5 (xs:List Entry) (e:Entry):(eX xs e).length=xs.length+1:=by
 have:=putIx_le xs e;unfold eX;rw[length_append,length_cons,length_take,length_drop];omega
theorem aZ3 {xs:List Entry}{e:Entry}{k:Nat}(hk:k<=xs.length) (ha:(xs.take k).any (fun x=> !bU x e)=false) (he:k=xs.length∨∃h:k<xs.length,bU xs[k] e=false):lC xs e=k:=by
 unfold lC;rcases he with rfl | ⟨h,he⟩
 ·rw[take_length]at ha;rw[qY ha];rfl
 rw[nK h ha (by simp[he])];rfl


theorem bA8 {a b c:Nat}(h:c<=a/\c<=b) (h2:c=a∨c=b):Nat.min a b=c:=by
 have:Nat.min a b=min a b:=rfl;omega
theorem aT9 {C:List Value}{o m j:Nat}{v:Value}(h:((C.drop o).take m)[j]? = some v):C[o+j]? = some v:=by
 rw[getElem?_take]at h;split at h
 ·rwa [getElem?_drop]at h
 cases h
theorem bO8 {W:World}{C:List Value}{xs:List Entry}{k m:Nat}(he:Elems W (C.take (xs.length*Shape.size Entry)) xs []) (hkm:k*4+m<=xs.length*4:=by omega):∀v∈(C.drop (k*4)).take m,v.oneCell'=true:=by
 intro v hv;refine he.one v ?_;obtain⟨j,hj⟩:=mem_iff_getElem?.1 hv;have hjm:j<m:=by
  rw[getElem?_take]at hj;split at hj
  ·assumption
  cases hj
 have:=aT9 hj;exact mem_iff_getElem?.2 ⟨k*4+j,by rw[getElem?_take,if_pos (by show _<xs.length*4;omega)];exact this⟩
theorem overlaps_E {w0 W:World}{rs:List Res}{b b2:Nat}{C C2:List Value}{o2 n1 c1 n2 c2:Nat}{i:Nat}(hst:St w0 W (Res.bx b C 121::rs)) (hi:rs[i]? = some (Res.bx b2 C2 121)) (hC:0<C2.length) :
  (callFunc 230 #[.slice (some ⟨b,0,none⟩) n1 c1,.slice (some ⟨b2,o2,none⟩) n2 c2]).run prog W = .ok (.value (.bool false)) W:=by
 have hB:W.heap[b]? = some (.cells C.toArray 121 (0,0)):=hst.get 0 rfl;have hB2:W.heap[b2]? = some (.cells C2.toArray 121 (0,0)):=hst.get (i+1) (by simpa using hi);have hne:b≠b2:=by
  have hnd:=hst.nodup;rw[flatMap_cons,nodup_append]at hnd;exact fun e=>hnd.2.2 b (by simp[Res.bx]) b2 (mem_flatMap.2 ⟨_,mem_of_getElem? hi,by simp[Res.bx]⟩) e
 rw[run_callFunc_extern func230 aB aB aB (e:=Extern.SlicesOverlaps.overlaps #[117,117] #[4]) aB,
  Go.Lib.run_overlaps_apart W 117 4 121 underlying117 4 (fun w=>eT sl_EntryS.size w) ⟨b,0,none⟩ ⟨b2,o2,none⟩ n1 c1 n2 c2 hne 121 121 C.length C2.length
   (by simp[World.shape?,hB]) (by simp[World.shape?,hB2]) aA (by simp[World.frozen?,hB]) (by simp[World.frozen?,hB])]
 rfl

theorem InsertE {w W0:World}{rs:List Res}{v:Value}{xs:List Entry}{lb:Nat}{y:Entry}(k:Nat) (hst:St w W0 (Res.row (α:=Entry) 121 v xs []::Res.bx lb [I y.prio,I y.seq,I y.run,I y.task] 121::rs)) (hk:k<=xs.length) (hy:y.ok) (hxl:xs.length<=1048576) :
  Calls prog 221 #[v,I (k:Int),.slice (some ⟨lb,0,none⟩) 1 1] W0 fun e w'=>∃v',e = .returned v'/\St w w' (Res.row (α:=Entry) 121 v' (xs.take k++y::xs.drop k) []::rs):=by
 refine cC0 func221 rfl ntmps221 eZ (wp_seq (aS (sg (cC (v := .slice none 0 0) rfl (bO (wp_seq (aS (sg (bY (v:=v) rfl (sg (bY (v:=I (k:Int)) rfl (sg (stp_slice_l (l:=k) sl_EntryS rfl (gO (hst.get 0 rfl)) rfl rfl aA ?_)))))))))))));intro v5 g6 h7 hm8;refine bO (wp_seq (aS (rn hst 3 Ag.nil.put.put.put.put.put.put.put [] [(7,I 1)] [.l (.slice (some ⟨lb,0,none⟩) 1 1) 1 ⟨_,_,rfl⟩] aB fun f10 h10_=>(bO (wp_seq (wp_seq (aS (sg (bY (h10_.at 7) (sg (bM0 rfl rfl (bO (vY rfl (fun h13p=>?_) (fun h13p=>?_))))))))))))))
 ·exact absurd h13p eZ
 refine wp_skip (wp_seq (aS (rn hst 3 h10_.put.put [] [(8,I (xs.length:Int))] [ql (gO (hst.get 0 rfl))] aB fun f15 h15_=>(bO (wp_seq (wp_seq (aS (rn hst 3 h15_ [] [(22,.bool (decide ((k:Int)=(xs.length:Int))))] [.o] aB fun f17 h17_=>(bO (vY (h17_.at 22) (fun h18p=>?_) (fun h18p=>?_)))))))))))
 ·refine wp_seq (aS (sg (bY (h17_.at 0) (sg (bY (h17_.at 2) ?_)))));have st21:=hst.f1;refine sg (stp_append_bx (ys:=[(⟨y.prio,y.seq,y.run,y.task⟩:Entry)]) aQ4 rfl rfl rfl st21.f1 (Elems.one1 ⟨rfl,rfl,hy⟩) (by unfold maxLen;omega) aA ?_);intro v23 W24 st25;refine sg (cC (v:=v23) rfl (bO (wr (bU5 results221 rfl ?_))));have hke:k=xs.length:=by omega
  subst hke;refine⟨_,rfl,?_⟩;rw[take_length,drop_length];exact st25
 refine wp_skip (wp_seq (wp_seq (aS (rn hst 4 h17_ [] [(28,I ((xs.length:Int)+1)),(29,v)] [qad (xs.length:Int) 1] aB fun f30 h30_=>?_))));have hq_:=St.rowOpen hst aA;obtain⟨bg,cp,Cg,hvv,hcap,hmx,hCl,hel,st31⟩:=hq_;have hCl4:Cg.length=cp*4:=hCl;subst hvv;refine sg (stp_xcap sl_EntryS (h30_.at 29) (sg (bL9 (h30_.at 28) rfl (bO (vY rfl (fun h34p=>?_) (fun h34p=>?_))))))
 ·refine wp_seq (aS (sg (bY (h30_.at 0) (sg (bY (h30_.at 1) (sg (aB3 (h:=k) sl_EntryS rfl rfl aA aA aA (lw h30_.put.put.put.put.put [(0,.slice (some ⟨bg,0,none⟩) xs.length cp),(1,I (k:Int)),(2,.slice (some ⟨lb,0,none⟩) 1 1),(7,I 1),(8,I (xs.length:Int)),(34,.slice (some ⟨bg,0,none⟩) k cp)] aB fun h39_=>(rn st31 5 h39_ [] [(39,I (((xs.length:Int)+1)-(k:Int)))] [qad (xs.length:Int) 1,qsb ((xs.length:Int)+1) (k:Int)] aB fun f38 h38_=>(sg (stp_appz (α:=Entry) (k0:=xs.length+1-k) (n1:=xs.length+1) aQ4 underlying3 (h38_.at 34) (h38_.at 39) aA aA st31 (by rw[hCl];exact Nat.mul_le_mul_right _ aA) aA aA (by unfold maxLen;omega) aA ?_)))))))))));intro b40 cp2 Z2 W41 hcp2 hmx2 hZl hb2 st42;have hZl4:Z2.length=(cp2-k)*4:=hZl;refine sg (cC (v := .slice (some ⟨b40,0,none⟩) (xs.length+1) cp2) rfl (bO (wp_seq (aS (sg (bY (v := .slice (some ⟨b40,0,none⟩) (xs.length+1) cp2) rfl (sg (bY (h38_.at 1) (sg (pK (l:=k) sl_EntryS rfl rfl aA aA aA (sg (bY (h38_.at 2) ?_))))))))))));refine sg (qP (α:=Entry) (C:=(Cg.take (k*Shape.size Entry)++Z2)) (cs:=[I y.prio,I y.seq,I y.run,I y.task]) sl_EntryS rfl rfl (by rw[show Nat.min 1 ((xs.length+1)-k)=1 from Nat.min_eq_left aA];rfl) (fun j v hj=>(by rw[Addr.add_mid];exact bE (st42.get 2 rfl) j v hj)) (by intro v hv;simp only[mem_cons,not_mem_nil,or_false]at hv;rcases hv with rfl | rfl | rfl | rfl<;>rfl) st42 (by simp only[length_cons,length_nil,length_append,length_take,dX,show Shape.size Entry=4 from rfl];omega) ?_);intro _ W50 st51;refine bO (wp_seq (qN 8 [] [(true,.is (.slice (some ⟨b40,0,none⟩) (xs.length+1) cp2)),(true,.is (I (k:Int))),(true,.is (I 1)),(true,.is (I ((k:Int)+1))),(true,.is (.slice (some ⟨b40,0+(k+1)*4,none⟩) ((xs.length+1)-(k+1)) (cp2-(k+1)))),(true,.is (.slice (some ⟨bg,0,none⟩) xs.length cp)),(true,.is (I (k:Int))),(true,.is (.slice (some ⟨bg,0+k*4,none⟩) (xs.length-k) (cp-k)))] mix aB aB aB aB (rs0:=[]) rfl st51 (Below.refl _ _) ⟨(mq_ (show _=(.slice (some ⟨b40,0,none⟩) (xs.length+1) cp2:Value) from rfl)),(mq_ (h38_.at 1)),(mq_ (h38_.at 7)),(fun f W hst hbl hd hf=>nY (hd 1 47 rfl rfl) (hd 2 48 rfl rfl) i6q_ brq),(fun f W hst hbl hd hf=>pK (l:=k+1) sl_EntryS (hd 0 46 rfl rfl) (hd 3 49 rfl rfl) aA aA aA brq),(mq_ (h38_.at 0)),(mq_ (h38_.at 1)),(fun f W hst hbl hd hf=>pK (l:=k) sl_EntryS (hd 5 51 rfl rfl) (hd 6 52 rfl rfl) aA aA aA brq),trivial⟩ ?_));intro f52 W53 rs_ hAL_ st56 hbl57 hv54 hf55;have hn_:rs_=[]:=hAL_;subst hn_
  try simp only[cap_,bB4]at st56
  refine sg (qP (α:=Entry) (C:=(aK (Cg.take (k*Shape.size Entry)++Z2) (0+k*4) [I y.prio,I y.seq,I y.run,I y.task])) (cs:=((Cg.drop (k*4)).take ((xs.length-k)*4))) sl_EntryS (hv54 4 50 eZ rfl) (hv54 7 53 eZ rfl) (by rw[show Nat.min (xs.length-k) ((xs.length+1)-(k+1))=xs.length-k from bA8 aA aA];rw[length_take,length_drop,hCl4,show Shape.size Entry=4 from rfl];omega) (fun j v hj=>(by rw[Addr.add_mid,Nat.add_assoc];exact bE (st56.get 1 rfl) _ v (aT9 hj))) (bO8 hel) st56 (by simp only[length_append,length_take,length_drop,dX,show Shape.size Entry=4 from rfl];omega) ?_);intro _ W59 st60;refine bO (wp_seq (aS (sg (bY (v := .slice (some ⟨b40,0,none⟩) (xs.length+1) cp2) ((hf55 9 rfl).trans (show _=(.slice (some ⟨b40,0,none⟩) (xs.length+1) cp2:Value) from rfl)) (sg (cC (v := .slice (some ⟨b40,0,none⟩) (xs.length+1) cp2) rfl (bO (wr (bU5 results221 rfl ?_)))))))));have hel_:Elems _ (Cg.take (xs.length*4)) xs []:=hel;have hYe:Elems W59 [I y.prio,I y.seq,I y.run,I y.task] [y] []:=Elems.one1 ⟨rfl,rfl,hy⟩;have hq_:=ins_new (D:=Cg.take (k*4)++Z2) (a:=k*4) (Y:=[I y.prio,I y.seq,I y.run,I y.task]) (M:=(Cg.drop (k*4)).take ((xs.length-k)*4)) rfl (by simp only[length_append,length_take,length_drop,length_cons,length_nil,dX,show Shape.size Entry=4 from rfl];omega);obtain⟨T,hT⟩:=hq_;rw[take_append_of_le_length (by rw[length_take];omega),take_take,Nat.min_self]at hT;have hfin:=aN7 (W:=_) (W':=W59) (y:=y) (k:=k) aA (hel_) aA hYe hT;have hCe:(aK (aK (Cg.take (k*Shape.size Entry)++Z2) (0+k*4) [I y.prio,I y.seq,I y.run,I y.task]) (0+(k+1)*4) ((Cg.drop (k*4)).take ((xs.length-k)*4)))=aK (aK (Cg.take (k*4)++Z2) (k*4) [I y.prio,I y.seq,I y.run,I y.task]) (k*4+4) ((Cg.drop (k*4)).take ((xs.length-k)*4)):=by simp only[Nat.zero_add,Nat.add_mul,Nat.one_mul,show Shape.size Entry=4 from rfl]
  have stz:St w W59 (Res.bx b40 (aK (aK (Cg.take (k*Shape.size Entry)++Z2) (0+k*4) [I y.prio,I y.seq,I y.run,I y.task]) (0+(k+1)*4) ((Cg.drop (k*4)).take ((xs.length-k)*4))) 121::_):=st60;rw[hCe]at stz;have hl4:(aK (aK (Cg.take (k*4)++Z2) (k*4) [I y.prio,I y.seq,I y.run,I y.task]) (k*4+4) ((Cg.drop (k*4)).take ((xs.length-k)*4))).length=cp2*Shape.size Entry:=by rw[<- hCe];simp only[length_append,length_take,length_drop,dX,show Shape.size Entry=4 from rfl];omega
  have stf:=St.rowShut (α:=Entry) (xs:=xs.take k++y::xs.drop k) (m:=xs.length+1) (cap:=cp2) stz (by rw[length_append,length_cons,length_take,length_drop];omega) aA aA hl4 hfin;exact⟨_,rfl,stf.d1.d1⟩
 refine wp_skip (wp_seq (aS (lw h30_.put.put [(0,.slice (some ⟨bg,0,none⟩) xs.length cp),(1,I (k:Int)),(2,.slice (some ⟨lb,0,none⟩) 1 1),(7,I 1),(8,I (xs.length:Int))] aB fun h65_=>(rn st31 4 h65_ [] [(56,.slice (some ⟨bg,0,none⟩) xs.length cp),(59,I ((xs.length:Int)+1))] [qad (xs.length:Int) 1] aB fun f64 h64_=>(sg (aB3 (h:=(xs.length)+1) sl_EntryS (h64_.at 56) (h64_.at 59) aA aA aA (sg (cC (v := .slice (some ⟨bg,0,none⟩) ((xs.length)+1) cp) rfl (bO (wp_seq (wp_seq (aS (rn st31 5 h64_.put.put [] [(61,.slice (some ⟨lb,0,none⟩) 1 1),(62,.slice (some ⟨bg,0,none⟩) ((xs.length)+1) cp),(65,I ((k:Int)+1))] [qad (k:Int) 1] aB fun f69 h69_=>?_)))))))))))));refine sg (pK (l:=k+1) sl_EntryS (h69_.at 62) (h69_.at 65) aA aA aA (sg (stp_callx (h69_.at 61) rfl (overlaps_E st31.f1 (i:=0) rfl aA) (sg (zB rfl (bO (sx_t rfl rfl (wp_seq (qN 8 [] [(true,.is (.slice (some ⟨bg,0,none⟩) ((xs.length)+1) cp)),(true,.is (I (k:Int))),(true,.is (I 1)),(true,.is (I ((k:Int)+1))),(true,.is (.slice (some ⟨bg,0+(k+1)*4,none⟩) (((xs.length)+1)-(k+1)) (cp-(k+1)))),(true,.is (.slice (some ⟨bg,0,none⟩) ((xs.length)+1) cp)),(true,.is (I (k:Int))),(true,.is (.slice (some ⟨bg,0+k*4,none⟩) (((xs.length)+1)-k) (cp-k)))] mix aB aB aB aB (rs0:=[]) rfl st31.f1 (Below.refl _ _) ⟨(mq_ (h69_.at 0)),(mq_ (h69_.at 1)),(mq_ (h69_.at 7)),(fun f W hst hbl hd hf=>nY (hd 1 70 rfl rfl) (hd 2 71 rfl rfl) i6q_ brq),(fun f W hst hbl hd hf=>pK (l:=k+1) sl_EntryS (hd 0 69 rfl rfl) (hd 3 72 rfl rfl) aA aA aA brq),(mq_ (h69_.at 0)),(mq_ (h69_.at 1)),(fun f W hst hbl hd hf=>pK (l:=k) sl_EntryS (hd 5 74 rfl rfl) (hd 6 75 rfl rfl) aA aA aA brq),trivial⟩ ?_)))))))));intro f74 W75 rs_ hAL_ st78 hbl79 hv76 hf77;have hn_:rs_=[]:=hAL_;subst hn_
 try simp only[cap_,bB4]at st78
 have st81:=st78.f1;refine sg (qP (α:=Entry) (C:=Cg) (cs:=((Cg.drop (k*4)).take ((xs.length-k)*4))) sl_EntryS (hv76 4 73 eZ rfl) (hv76 7 76 eZ rfl) (by rw[show Nat.min (((xs.length)+1)-k) (((xs.length)+1)-(k+1))=xs.length-k from bA8 aA aA];rw[length_take,length_drop,hCl4,show Shape.size Entry=4 from rfl];omega) (fun j v hj=>(by rw[Addr.add_mid,Nat.add_assoc];exact bE (st81.get 0 rfl) _ v (aT9 hj))) (bO8 hel) st81 (by simp only[length_append,length_take,length_drop,dX,show Shape.size Entry=4 from rfl];omega) ?_);intro _ W82 st83;refine bO (wp_seq (aS (sg (bY (v := .slice (some ⟨bg,0,none⟩) ((xs.length)+1) cp) ((hf77 0 rfl).trans (h69_.at 0)) (sg (bY (v:=I (k:Int)) ((hf77 1 rfl).trans (h69_.at 1)) (sg (pK (l:=k) sl_EntryS rfl rfl aA aA aA (sg (bY (v := .slice (some ⟨lb,0,none⟩) 1 1) ((hf77 2 rfl).trans (h69_.at 2)) ?_))))))))));refine sg (qP (α:=Entry) (C:=(aK Cg (0+(k+1)*4) ((Cg.drop (k*4)).take ((xs.length-k)*4)))) (cs:=[I y.prio,I y.seq,I y.run,I y.task]) sl_EntryS rfl rfl (by rw[show Nat.min 1 (((xs.length)+1)-k)=1 from Nat.min_eq_left aA];rfl) (fun j v hj=>(by rw[Addr.add_mid];exact bE (st83.get 1 rfl) j v hj)) (by intro v hv;simp only[mem_cons,not_mem_nil,or_false]at hv;rcases hv with rfl | rfl | rfl | rfl<;>rfl) st83 (by simp only[length_cons,length_nil,length_append,length_take,dX,show Shape.size Entry=4 from rfl];omega) ?_);intro _ W88 st89;refine bO (wp_seq (aS (sg (bY (v := .slice (some ⟨bg,0,none⟩) ((xs.length)+1) cp) ((hf77 0 rfl).trans (h69_.at 0)) (sg (cC (v := .slice (some ⟨bg,0,none⟩) ((xs.length)+1) cp) rfl (bO (wr (bU5 results221 rfl ?_)))))))));have hel_:Elems _ (Cg.take (xs.length*4)) xs []:=hel;have hYe:Elems W88 [I y.prio,I y.seq,I y.run,I y.task] [y] []:=Elems.one1 ⟨rfl,rfl,hy⟩;have hq_:=ins_in (D:=Cg) (a:=k*4) (Y:=[I y.prio,I y.seq,I y.run,I y.task]) (M:=(Cg.drop (k*4)).take ((xs.length-k)*4)) rfl (by simp only[length_append,length_take,length_drop,length_cons,length_nil,dX,show Shape.size Entry=4 from rfl];omega);obtain⟨T,hT⟩:=hq_;have hfin:=aN7 (W:=_) (W':=W88) (y:=y) (k:=k) aA (hel_) aA hYe hT;have hCe:(aK (aK Cg (0+(k+1)*4) ((Cg.drop (k*4)).take ((xs.length-k)*4))) (0+k*4) [I y.prio,I y.seq,I y.run,I y.task])=aK (aK Cg (k*4+4) ((Cg.drop (k*4)).take ((xs.length-k)*4))) (k*4) [I y.prio,I y.seq,I y.run,I y.task]:=by simp only[Nat.zero_add,Nat.add_mul,Nat.one_mul]
 have stz:St w W88 (Res.bx bg (aK (aK Cg (0+(k+1)*4) ((Cg.drop (k*4)).take ((xs.length-k)*4))) (0+k*4) [I y.prio,I y.seq,I y.run,I y.task]) 121::_):=st89;rw[hCe]at stz;have hl4:(aK (aK Cg (k*4+4) ((Cg.drop (k*4)).take ((xs.length-k)*4))) (k*4) [I y.prio,I y.seq,I y.run,I y.task]).length=cp*Shape.size Entry:=by rw[<- hCe];simp only[length_append,length_take,length_drop,dX,show Shape.size Entry=4 from rfl];omega
 have stf:=St.rowShut (α:=Entry) (xs:=xs.take k++y::xs.drop k) (m:=xs.length+1) (cap:=cp) stz (by rw[length_append,length_cons,length_take,length_drop];omega) aA aA hl4 hfin;exact⟨_,rfl,stf.d1⟩
def dZ (sh:Nat) (prio rid:Int):List Int->List (List Entry)->Int->List (List Entry)
 | [],xss,_=>xss
 | t::ts,xss,seq=>dZ sh prio rid ts (xss.set sh (eX (xss.getD sh []) ⟨prio,seq,rid,t⟩)) (seq+1)
theorem xS (sh:Nat) (prio rid t:Int):∀(ts:List Int) (xss:List (List Entry)) (seq:Int),dZ sh prio rid (ts++[t]) xss seq=(dZ sh prio rid ts xss seq).set sh (eX ((dZ sh prio rid ts xss seq).getD sh []) ⟨prio,seq+ts.length,rid,t⟩)
 | [],xss,seq=>by simp[dZ]
 | u::ts,xss,seq=>by
  have h:=xS sh prio rid t ts (xss.set sh (eX (xss.getD sh []) ⟨prio,seq,rid,u⟩)) (seq+1);simp only[cons_append,dZ];rw[h,show seq+1+(ts.length:Int)=seq+((u::ts).length:Int) by simp;omega]
theorem iB (sh:Nat) (prio rid:Int):∀(ts:List Int) (xss:List (List Entry)) (seq:Int),(dZ sh prio rid ts xss seq).length=xss.length
 | [],xss,seq=>rfl
 | u::ts,xss,seq=>by simp only[dZ];rw[iB];simp
theorem lV (sh:Nat) (prio rid:Int):∀(ts:List Int) (xss:List (List Entry)) (seq:Int),sh<xss.length->((dZ sh prio rid ts xss seq).getD sh []).length=(xss.getD sh []).length+ts.length
 | [],xss,seq,h=>rfl
 | u::ts,xss,seq,h=>by
  simp only[dZ];rw[lV sh prio rid ts _ _ (by simpa using h)];rw[getD_eq_getElem?_getD,getElem?_set_self h];simp[aZ5];omega
theorem getD_some {α:Type}{xss:List (List α)}{k:Nat}(h:k<xss.length):xss[k]? = some (xss.getD k []):=by
 rw[getD_eq_getElem?_getD,getElem?_eq_getElem h];rfl

def cQ (r r':Run):List Int:=(aH r'.tasks 2).filter (fun t=> !decide (t∈aH r.tasks 2))
theorem kS (r r':Run):(cQ r r').length<=r'.tasks.length:=Nat.le_trans (length_filter_le _ _) (eP _ _ _)
theorem set_self {α:Type}{xs:List α}{k:Nat}{x:α}(h:xs[k]? = some x) (y:α):(xs.set k y)[k]? = some y:=getElem?_set_self (gsi_.1 h).1
def cR (y:Yard) (k:Nat) (r r':Run):Yard:=⟨y.now,y.seq+((cQ r r').length:Int),dZ (aU r'.id).toNat r'.plan.prio r'.id (cQ r r') y.shelf y.seq,y.runs.set k r'⟩
def iG (out:Yard) (k i:Nat):Yard:=match out.runs[k]? with
 | none=>out
 | some r=>match r.tasks[i]? with
  | none=>out
  | some t=>if t.state=3 then cR out k r (bJ r i) else out
def nH (y:Yard) (k:Nat):Nat->Yard
 | 0=>y
 | i+1=>iG (nH y k i) k i
def nW (y:Yard) (k:Nat):Nat:=match y.runs[k]? with | some r=>r.tasks.length | none=>0
def kO (y:Yard):Nat->Yard
 | 0=>y
 | k+1=>nH (kO y k) k (nW y k)
noncomputable def cM (y:Yard):Yard:=if aG y then kO y y.runs.length else y
theorem vX {y:Yard}{k:Nat}{r:Run}(h:y.runs[k]? = some r):nW y k=r.tasks.length:=by unfold nW;rw[h]

structure YardIs (y:Yard):Prop where
 now:0<=y.now/\y.now<=999999980
 seq:1<=y.seq/\y.seq<=1000000000
 shelf:y.shelf.length=4
 runs:y.runs.length<=8
 each:∀l∈y.shelf,cJ l=true
 run:∀(j:Nat) (r:Run),y.runs[j]? = some r->RunIs r/\bS y r.id=some j
theorem iA {y:Yard}(h:aG y=true):YardIs y:=by
 unfold aG at h;rw[pB_iff]at h;obtain⟨h1,h2,h3,h4,h5,h6,h7,h8,h9⟩:=h;refine⟨h1,h2,h3,h4,h5,fun j r hj=>?_⟩;obtain⟨hl,rfl⟩:=gsi_.1 hj;obtain⟨a,b,_⟩:=h8 j hl hl;refine⟨runIs.1 a,?_⟩;unfold aF at b;cases hq:bS y y.runs[j].id with
 | none=>rw[hq]at b;simp only[ixI]at b;omega
 | some k=>rw[hq]at b;simp only[ixI]at b;congr 1;omega
theorem RunIs.small {r:Run}(h:RunIs r):r.ok/\r.tasks.length<=12/\r.plan.edges.length<=30:=by
 have h2:=(gV h.plan).1;have hl:=h.len;have hs:=h.state;have hid:=h.id;unfold aN at h2;have hst:0<=bG r.tasks/\bG r.tasks<=4:=by
  unfold bG;split
  ·omega
  split
  ·omega
  split
  ·omega
  split<;>omega
 refine⟨⟨by unfold I64;omega,?_,by unfold I64;omega⟩,by omega,by omega⟩;unfold Plan.ok;refine⟨?_,?_,?_,?_⟩<;>(unfold I64;omega)
theorem xU {xs:List Entry}(h:cJ xs=true):xs.length<=80:=by
 unfold cJ at h
 first | exact(pB_iff.1 h).1 | exact(pB_iff.1 h).2 | (simp at h;omega)
theorem aN5 {α β:Type}{p:α->Bool}{q:β->Bool}:∀{xs:List α}{ys:List β},xs.length=ys.length->(∀(j:Nat) (x:α) (y:β),xs[j]? = some x->ys[j]? = some y->p x=q y)->iR p xs=iR q ys
 | [],[],_,_=>rfl
 | x::xs,y::ys,hl,h=>by
  have h0:=h 0 x y rfl rfl;have ih:=aN5 (xs:=xs) (ys:=ys) (by simpa using hl) (fun j a b ha hb=>h (j+1) a b (by simpa using ha) (by simpa using hb));unfold iR;rw[h0,ih]
 | [],_::_,hl,_=>by simp at hl
 | _::_,[],hl,_=>by simp at hl
structure RI (y out:Yard) (n:Nat):Prop where
 now:out.now=y.now
 seq:y.seq<=out.seq/\out.seq<=y.seq+12*(n:Int)
 shelf:out.shelf.length=y.shelf.length
 each:∀s,s<4->(out.shelf.getD s []).length<=80+12*n
 runs:out.runs.length=y.runs.length
 run:∀(j:Nat) (r:Run),y.runs[j]? = some r->∃r2:Run,out.runs[j]? = some r2/\RunIs r2/\r2.id=r.id/\r2.tasks.length=r.tasks.length/\∀(i:Nat) (t:Task),r.tasks[i]? = some t->∃t2,r2.tasks[i]? = some t2/\t2.try_=t.try_
theorem RI.start {y:Yard}(h:YardIs y):RI y y 0:=by
 refine⟨rfl,by omega,rfl,fun s hs=>?_,rfl,fun j r hj=>⟨r,hj,(h.run j r hj).1,rfl,rfl,fun i t ht=>⟨t,ht,rfl⟩⟩⟩;have hl:=h.shelf;rw[getD_eq_getElem?_getD,getElem?_eq_getElem aA];have:=xU (h.each y.shelf[s] (getElem_mem _));simpa using this
theorem RI.mono {y out:Yard}{n m:Nat}(h:RI y out n) (hm:n<=m):RI y out m:=
 ⟨h.now,by have:=h.seq;omega,h.shelf,fun s hs=>by have:=h.each s hs;omega,h.runs,h.run⟩
theorem lI (sh:Nat) (prio rid:Int) (s:Nat) (hs:s≠sh):∀(ts:List Int) (xss:List (List Entry)) (seq:Int),(dZ sh prio rid ts xss seq).getD s []=xss.getD s []
 | [],xss,seq=>rfl
 | u::ts,xss,seq=>by
  simp only[dZ];rw[lI sh prio rid s hs ts];rw[getD_eq_getElem?_getD,getElem?_set_ne (fun e=>hs e.symm),getD_eq_getElem?_getD]
theorem RI.change {y out:Yard}{n k i:Nat}{r:Run}{t:Task}(hy:YardIs y) (h:RI y out n) (hr:out.runs[k]? = some r) (ht:r.tasks[i]? = some t) (h3:t.state=3) (hR:RunIs r):RI y (cR out k r (bJ r i)) (n+1):=by
 obtain⟨hk1,hk2,hk3,hk4⟩:=jL r i;have hsm:=hR.small;have hfl:=kS r (bJ r i);have hsh:=hy.shelf;have hsr:=eQ (bJ r i).id;have hkl:=(gsi_.1 hr).1;refine⟨h.now,?_,?_,?_,?_,?_⟩
 ·show y.seq<=out.seq+_/\out.seq+_<=_;have:=h.seq;omega
 ·show (dZ _ _ _ _ _ _).length=_;rw[iB];exact h.shelf
 ·intro s hs;show ((dZ _ _ _ _ _ _).getD s []).length<=_;by_cases e:s=(aU (bJ r i).id).toNat
  ·subst e;rw[lV _ _ _ _ _ _ (by rw[h.shelf];omega)];have:=h.each _ hs;omega
  rw[lI _ _ _ s e];have:=h.each s hs;omega
 ·show (out.runs.set k _).length=_;rw[length_set];exact h.runs
 intro j r0 hj;obtain⟨r2,h1,h2,h4,h5,h6⟩:=h.run j r0 hj;show ∃r2,(out.runs.set k _)[j]? = some r2/\_;by_cases e:k=j
 ·subst e;rw[hr]at h1;have e2:=Option.some.inj h1;subst e2;refine⟨bJ r i,getElem?_set_self hkl,hR.fails ht h3,by rw[hk1];exact h4,by rw[hk3];exact h5,fun a u hu=>?_⟩;obtain⟨u2,g1,g2⟩:=h6 a u hu;obtain⟨u3,g3,g4⟩:=hk4 a u2 g1;exact⟨u3,g3,by rw[g4];exact g2⟩
 exact⟨r2,by rw[getElem?_set_ne e];exact h1,h2,h4,h5,h6⟩
theorem RI.turn {y out:Yard}{n:Nat}(hy:YardIs y) (h:RI y out n) {k i:Nat}(hk:k<y.runs.length):RI y (iG out k i) (n+1):=by
 obtain⟨r2,h1,h2,_⟩:=h.run k _ (getElem?_eq_getElem hk);unfold iG;rw[h1];simp only;cases ht:r2.tasks[i]? with
 | none=>exact h.mono aA
 | some t=>
  simp only;split
  ·next h3=>exact h.change hy h1 ht h3 h2
  exact h.mono aA
theorem RI.inner {y out:Yard}{n:Nat}(hy:YardIs y) (h:RI y out n) {k:Nat}(hk:k<y.runs.length):∀i,RI y (nH out k i) (n+i)
 | 0=>h
 | i+1=>(RI.inner hy h hk i).turn hy hk
theorem RI.outer {y:Yard}(hy:YardIs y):∀k,k<=y.runs.length->RI y (kO y k) (12*k)
 | 0,_=>RI.start hy
 | k+1,hk=>by
  have ih:=RI.outer hy k aA;have hr:y.runs[k]? = some y.runs[k]:=getElem?_eq_getElem aA;have hs:=(hy.run k _ hr).1.small;have:=ih.inner hy (k:=k) aA (nW y k);rw[vX hr]at this;show RI y (nH (kO y k) k (nW y k)) _;rw[vX hr];exact this.mono aA
theorem RI.at {y:Yard}(hy:YardIs y) {k i:Nat}(hk:k<y.runs.length):RI y (nH (kO y k) k i) (12*k+i):=(RI.outer hy k aA).inner hy hk i
theorem RI.ix {y out:Yard}{n:Nat}(hy:YardIs y) (h:RI y out n) {k:Nat}{r:Run}(hr:y.runs[k]? = some r):bS out r.id=some k:=by
 rw[<- (hy.run k r hr).2];unfold bS;rw[h.runs];congr 1;exact aN5 h.runs (fun j a b ha hb=>by
  obtain⟨r2,h1,_,h3,_⟩:=h.run j b hb;rw[ha]at h1;have:=Option.some.inj h1;subst this;rw[h3])
def eE (y:Yard) (id task try_:Int):Bool:=
 match bS y id with
 | none=>false
 | some k=>match y.runs[k]? with
  | none=>false
  | some r=>inB task 0 ((r.tasks.length:Int)-1) && (match r.tasks[task.toNat]? with | some t=>decide (t.state=3) && decide (t.try_=try_) | none=>false)
theorem RI.holds {y out:Yard}{n:Nat}(hy:YardIs y) (h:RI y out n) {k i:Nat}{r:Run}{t:Task}(hr:y.runs[k]? = some r) (ht:r.tasks[i]? = some t) :
  ∃r2 t2,out.runs[k]? = some r2/\RunIs r2/\r2.tasks[i]? = some t2/\eE out r.id (i:Int) t.try_=decide (t2.state=3):=by
 obtain⟨r2,h1,h2,h3,h4,h5⟩:=h.run k r hr;obtain⟨t2,h6,h7⟩:=h5 i t ht;refine⟨r2,t2,h1,h2,h6,?_⟩;have hl:=(gsi_.1 ht).1;unfold eE;rw[h.ix hy hr];simp only[h1,Int.toNat_natCast,h6,h7,decide_true,Bool.and_true];have:inB (i:Int) 0 ((r2.tasks.length:Int)-1)=true:=inB_iff'.2 aA;rw[this];rfl
theorem bJ9 {out:Yard}{k i:Nat}{r:Run}{t:Task}(hr:out.runs[k]? = some r) (ht:r.tasks[i]? = some t) (h3:t.state=3):iG out k i=cR out k r (bJ r i):=by unfold iG;rw[hr];simp only[ht,h3,if_true]
theorem yW {out:Yard}{k i:Nat}{r:Run}{t:Task}(hr:out.runs[k]? = some r) (ht:r.tasks[i]? = some t) (h3:¬t.state=3):iG out k i=out:=by unfold iG;rw[hr];simp only[ht,h3,if_false]
theorem aG1 {y y':Yard}(h:y'.runs=y.runs) (e:Entry):fresh y' e=fresh y e:=by
 unfold fresh bS;rw[h]
theorem fresh_at {y:Yard}{e:Entry}(h:fresh y e=true):∃k r t,bS y e.run=some k/\y.runs[k]? = some r/\0<=e.task/\r.tasks[e.task.toNat]? = some t/\t.state=2:=by
 unfold fresh at h;cases h1:bS y e.run with
 | none=>rw[h1]at h;cases h
 | some k=>
  rw[h1]at h;simp only at h;cases h2:y.runs[k]? with
  | none=>rw[h2]at h;cases h
  | some r=>
   rw[h2]at h;simp only[Bool.and_eq_true]at h;obtain⟨h3,h4⟩:=h;cases h5:r.tasks[e.task.toNat]? with
   | none=>rw[h5]at h4;cases h4
   | some t=>rw[h5]at h4;exact⟨k,r,t,rfl,h2,(inB_iff'.1 h3).1,h5,by simpa using h4⟩
def kV (y:Yard) (s:Nat) (l:List Entry):Yard:=⟨y.now,y.seq,y.shelf.set s l,y.runs⟩
def aT (y:Yard) (s:Int):Yard:=if inB s 0 ((y.shelf.length:Int)-1) then kV y s.toNat ((y.shelf.getD s.toNat []).filter (fresh y)) else y
def bH (xs:List Entry):Nat:=(xs.length+1) / 2
def cP (a b:List Entry):List Entry:=if 80<a.length+b.length then a else b.foldl eX a
theorem sF (b:List Entry):∀a:List Entry,(b.foldl eX a).length=a.length+b.length:=by
 induction b with
 | nil=>intro a;rfl
 | cons e b ih=>intro a;rw[foldl_cons,ih,aZ5,length_cons];omega
theorem foldl_put_to {a b:List Entry}{k:Nat}(h:k<b.length):(b.take (k+1)).foldl eX a=eX ((b.take k).foldl eX a) b[k]:=by
 rw[take_succ_eq_append_getElem h,foldl_append];rfl
theorem merged_len {a b:List Entry}(h:a.length<=80):(cP a b).length<=80:=by
 unfold cP;split
 ·exact h
 rw[sF];omega
theorem putE_mem {xs:List Entry}{e x:Entry}(h:x∈eX xs e):x∈xs∨x=e:=by
 unfold eX at h;rw[mem_append,mem_cons]at h;rcases h with h | h | h
 ·exact .inl (mem_of_mem_take h)
 ·exact .inr h
 exact .inl (mem_of_mem_drop h)
theorem foldl_put_mem (b:List Entry):∀{a:List Entry}{x:Entry},x∈b.foldl eX a->x∈a∨x∈b:=by
 induction b with
 | nil=>intro a x h;exact .inl h
 | cons e b ih=>
  intro a x h;rcases ih h with h | h
  ·rcases putE_mem h with h | h
   ·exact .inl h
   exact .inr (by simp[h])
  exact .inr (by simp[h])
theorem merged_mem {a b:List Entry}{x:Entry}(h:x∈cP a b):x∈a∨x∈b:=by
 unfold cP at h;split at h
 ·exact .inl h
 exact foldl_put_mem b h
def mU (home draw:Int) (i:Nat):Int:=(home+1+(max draw 0 % 3+(i:Int)) % 3) % 4
def bL (home draw:Int):List Int:=[mU home draw 0,mU home draw 1,mU home draw 2]
theorem zW (home draw:Int) (i:Nat) (hh:0<=home/\home<=3):0<=mU home draw i/\mU home draw i<=3/\mU home draw i≠home:=by unfold mU;omega
theorem kL {home draw:Int}(hh:0<=home/\home<=3):∀o∈bL home draw,0<=o/\o<=3/\o≠home:=by
 intro o ho;simp only[bL,mem_cons,not_mem_nil,or_false]at ho;rcases ho with rfl | rfl | rfl<;>exact zW _ _ _ hh
def yP (y:Yard) (home o:Nat):Yard:=kV (kV y home (cP (y.shelf.getD home []) ((y.shelf.getD o []).take (bH (y.shelf.getD o []))))) o ((y.shelf.getD o []).drop (bH (y.shelf.getD o [])))
theorem robY_comm {y:Yard}{home o:Nat}(h:home≠o):yP y home o=kV (kV y o ((y.shelf.getD o []).drop (bH (y.shelf.getD o [])))) home (cP (y.shelf.getD home []) ((y.shelf.getD o []).take (bH (y.shelf.getD o [])))):=by
 unfold yP kV;simp only[Yard.mk.injEq,true_and,and_true];rw[set_comm _ _ h]
def uI (home:Nat) (y:Yard) (o:Int):Yard:=if y.shelf.getD home []=[] then yP (aT y o) home o.toNat else y
def dN (home:Nat) (y:Yard) (l:List Int):Yard:=l.foldl (uI home) y
theorem xX (home:Nat) (y:Yard) (l:List Int):dN home y (l.take 0)=y:=rfl
theorem aM1 {home:Nat}{y:Yard}{l:List Int}{k:Nat}{o:Int}(h:l[k]? = some o) (he:(dN home y (l.take k)).shelf.getD home []=[]):dN home y (l.take (k+1))=yP (aT (dN home y (l.take k)) o) home o.toNat:=by
 obtain⟨hj,rfl⟩:=gsi_.1 h;rw[take_succ_eq_append_getElem hj];unfold dN at he ⊢;rw[foldl_append,foldl_cons,foldl_nil];have hz:∀(z:Yard) (o:Int),z.shelf.getD home []=[]->uI home z o=yP (aT z o) home o.toNat:=fun z o h=>by unfold uI;rw[if_pos h]
 exact hz _ _ he
theorem xY {home:Nat}{y:Yard}:∀{l:List Int},¬y.shelf.getD home []=[]->dN home y l=y
 | [],_=>rfl
 | o::l,h=>by
  show dN home (uI home y o) l=y;have:uI home y o=y:=by unfold uI;rw[if_neg h]
  rw[this];exact xY h
theorem aC6 {home:Nat}{y:Yard}{l:List Int}{k:Nat}(h:¬(dN home y (l.take k)).shelf.getD home []=[]):dN home y l=dN home y (l.take k):=by
 have e:dN home y l=dN home (dN home y (l.take k)) (l.drop k):=by
  unfold dN;rw[<- foldl_append,take_append_drop]
 rw[e];exact xY h
theorem aC7 {home:Nat}{y:Yard}{l:List Int}{k:Nat}(h:k=l.length):dN home y (l.take k)=dN home y l:=by rw[h,take_length]
structure PI (y out:Yard) (home:Nat):Prop where
 now:out.now=y.now
 seq:out.seq=y.seq
 runs:out.runs=y.runs
 len:out.shelf.length=4
 each:∀s,s<4->(out.shelf.getD s []).length<=80
 fresh:∀e∈out.shelf.getD home [],fresh y e=true
theorem kJ {xss:List (List Entry)}{s:Nat}(h:s<xss.length) (l:List Entry):(xss.set s l).getD s []=l:=by rw[getD_eq_getElem?_getD,getElem?_set_self h];rfl
theorem mN {xss:List (List Entry)}{s j:Nat}(h:s≠j) (l:List Entry):(xss.set s l).getD j []=xss.getD j []:=by rw[getD_eq_getElem?_getD,getElem?_set_ne h,getD_eq_getElem?_getD]
theorem qO {y:Yard}{s:Int}(h:0<=s/\s<=3) (h4:y.shelf.length=4):aT y s=kV y s.toNat ((y.shelf.getD s.toNat []).filter (Go.Proofs.YtpdgdnpajmcaeaaGreat.fresh y)):=by
 unfold aT;rw[if_pos (inB_iff'.2 aA)]
theorem kK {y:Yard}(h:YardIs y):∀s,s<4->(y.shelf.getD s []).length<=80:=by
 intro s hs;have hl:=h.shelf;rw[getD_eq_getElem?_getD,getElem?_eq_getElem aA];have:=xU (h.each y.shelf[s] (getElem_mem _));simpa using this
theorem mD {xss:List (List Entry)}{n s:Nat}{l:List Entry}(h:∀j,j<4->(xss.getD j []).length<=n) (hl:l.length<=n) (h4:xss.length=4):∀j,j<4->((xss.set s l).getD j []).length<=n:=by
 intro j hj;by_cases e:s=j
 ·subst e;rw[kJ aA];exact hl
 rw[mN e];exact h j hj
theorem PI.start {y:Yard}(h:YardIs y) {home:Nat}(hh:home<4):PI y (aT y (home:Int)) home:=by
 have h4:=h.shelf;rw[qO aA h4];simp only[Int.toNat_natCast];refine⟨rfl,rfl,rfl,by show (y.shelf.set _ _).length=4;rw[length_set];exact h4,?_,?_⟩
 ·exact mD (kK h) (Nat.le_trans (length_filter_le _ _) (kK h home hh)) h4
 intro e he;have:e∈(y.shelf.set home ((y.shelf.getD home []).filter (Go.Proofs.YtpdgdnpajmcaeaaGreat.fresh y))).getD home []:=he;rw[kJ aA]at this;exact(mem_filter.1 this).2
theorem PI.rob {y out:Yard}{home:Nat}(h:PI y out home) (hh:home<4) {o:Int}(ho:0<=o/\o<=3/\o≠(home:Int)):PI y (yP (aT out o) home o.toNat) home:=by
 have h4:=h.len;have e4:(out.shelf.set o.toNat ((out.shelf.getD o.toNat []).filter (Go.Proofs.YtpdgdnpajmcaeaaGreat.fresh out))).length=4:=by rw[length_set];exact h4
 have e0:(out.shelf.set o.toNat ((out.shelf.getD o.toNat []).filter (Go.Proofs.YtpdgdnpajmcaeaaGreat.fresh out))).getD o.toNat []=(out.shelf.getD o.toNat []).filter (Go.Proofs.YtpdgdnpajmcaeaaGreat.fresh out):=kJ aA _;have e1:(out.shelf.set o.toNat ((out.shelf.getD o.toNat []).filter (Go.Proofs.YtpdgdnpajmcaeaaGreat.fresh out))).getD home []=out.shelf.getD home []:=mN aA _;have hfl:((out.shelf.getD o.toNat []).filter (Go.Proofs.YtpdgdnpajmcaeaaGreat.fresh out)).length<=80:=Nat.le_trans (length_filter_le _ _) (h.each _ aA);rw[qO aA h4];refine⟨h.now,h.seq,h.runs,?_,?_,?_⟩
 ·unfold yP kV;simp only[length_set];exact h4
 ·refine mD (mD (mD h.each hfl h4) ?_ e4) ?_ (by unfold kV;simp only[length_set];exact h4)
  ·exact merged_len (by show ((List.set _ _ _).getD home []).length<=80;rw[e1];exact h.each _ hh)
  show (List.drop _ ((List.set _ _ _).getD _ [])).length<=80;rw[e0,length_drop];omega
 intro e he;have he':e∈(((out.shelf.set o.toNat ((out.shelf.getD o.toNat []).filter (Go.Proofs.YtpdgdnpajmcaeaaGreat.fresh out))).set home (cP ((out.shelf.set o.toNat ((out.shelf.getD o.toNat []).filter (Go.Proofs.YtpdgdnpajmcaeaaGreat.fresh out))).getD home []) (((out.shelf.set o.toNat ((out.shelf.getD o.toNat []).filter (Go.Proofs.YtpdgdnpajmcaeaaGreat.fresh out))).getD o.toNat []).take (bH ((out.shelf.set o.toNat ((out.shelf.getD o.toNat []).filter (Go.Proofs.YtpdgdnpajmcaeaaGreat.fresh out))).getD o.toNat []))))).set o.toNat _).getD home []:=he;rw[mN aA,kJ aA,e0,e1]at he';rcases merged_mem he' with h1 | h1
 ·exact h.fresh e h1
 have:=(mem_filter.1 (mem_of_mem_take h1)).2
 rwa [aG1 h.runs]at this
theorem PI.all {y:Yard}(h:YardIs y) {home:Nat}(hh:home<4) {l:List Int}(hl:∀o∈l,0<=o/\o<=3/\o≠(home:Int)):∀{out:Yard},PI y out home->PI y (dN home out l) home:=by
 induction l with
 | nil=>intro out ho;exact ho
 | cons o l ih=>
  intro out ho;refine ih (fun a ha=>hl a (by simp[ha])) (out:=uI home out o) ?_;unfold uI;split
  ·exact ho.rob hh (hl o (by simp))
  exact ho
theorem PI.take {y:Yard}(h:YardIs y) {home:Nat}(hh:home<4) {l:List Int}(hl:∀o∈l,0<=o/\o<=3/\o≠(home:Int)) (k:Nat):PI y (dN home (aT y (home:Int)) (l.take k)) home:=PI.all h hh (fun o ho=>hl o (mem_of_mem_take ho)) (PI.start h hh)
def eW (r:Run) (i:Nat) (t:Task) (now:Int):Run:=⟨r.id,r.plan,r.state,r.tasks.set i ⟨3,t.need,t.try_+1,now+r.plan.wait⟩⟩
def mY (out:Yard) (home:Nat):Yard×Reply:=match out.shelf.getD home [] with
 | []=>(out,⟨9,0,0,0⟩)
 | e::rest=>match bS out e.run with
  | none=>(out,⟨9,0,0,0⟩)
  | some k=>match out.runs[k]? with
   | none=>(out,⟨9,0,0,0⟩)
   | some r=>match r.tasks[e.task.toNat]? with
    | none=>(out,⟨9,0,0,0⟩)
    | some t=>(⟨out.now,out.seq,out.shelf.set home rest,out.runs.set k (eW r e.task.toNat t out.now)⟩,⟨0,e.run,e.task,t.try_+1⟩)
noncomputable def eL (y:Yard) (worker draw:Int):Yard×Reply:=
 if ¬aG y=true then (y,⟨8,0,0,0⟩) else if ¬inB worker 0 99=true then (y,⟨5,0,0,0⟩)
 else mY (dN (worker % 4).toNat (aT y (worker % 4)) (bL (worker % 4) draw)) (worker % 4).toNat
theorem aF9 {out:Yard}{home:Nat}(h:out.shelf.getD home []=[]):mY out home=(out,⟨9,0,0,0⟩):=by unfold mY;rw[h]
theorem aO0 {out:Yard}{home k:Nat}{e:Entry}{rest:List Entry}{r:Run}{t:Task}(h:out.shelf.getD home []=e::rest) (hk:bS out e.run=some k) (hr:out.runs[k]? = some r) (ht:r.tasks[e.task.toNat]? = some t):mY out home=(⟨out.now,out.seq,out.shelf.set home rest,out.runs.set k (eW r e.task.toNat t out.now)⟩,⟨0,e.run,e.task,t.try_+1⟩):=by
 unfold mY;rw[h];simp only[hk,hr,ht]
theorem bD0 {y:Yard}{id task try_:Int}(h:¬(0:Int)<=aF y id):false=eE y id task try_:=by
 have:bS y id=none:=by
  cases hi:bS y id with
  | none=>rfl
  | some k=>rw[cE hi]at h;omega
 unfold eE;rw[this]
theorem bD2 {y:Yard}{id task try_:Int}{k:Nat}{r:Run}(hk:bS y id=some k) (hr:y.runs[k]? = some r):eE y id task try_=(inB task 0 ((r.tasks.length:Int)-1) && (match r.tasks[task.toNat]? with | some t=>decide (t.state=3) && decide (t.try_=try_) | none=>false)):=by
 unfold eE;rw[hk];simp only[hr]<;>rfl
theorem aN9 {y:Yard}{id task try_:Int}{k:Nat}{r:Run}(hk:bS y id=some k) (hr:y.runs[k]? = some r) (h:inB task 0 ((r.tasks.length:Int)-1)=false):false=eE y id task try_:=by rw[bD2 hk hr,h];rfl
theorem bD3 {y:Yard}{id task try_:Int}{k:Nat}{r:Run}{t:Task}(hk:bS y id=some k) (hr:y.runs[k]? = some r) (h:inB task 0 ((r.tasks.length:Int)-1)=true) (ht:r.tasks[task.toNat]? = some t):(decide (t.state=3) && decide (t.try_=try_))=eE y id task try_:=by rw[bD2 hk hr,h,ht];rfl
theorem bP8 {y:Yard}{id task try_:Int}{k:Nat}{r:Run}{t:Task}(hk:bS y id=some k) (hr:y.runs[k]? = some r) (h:inB task 0 ((r.tasks.length:Int)-1)=true) (ht:r.tasks[task.toNat]? = some t) (h3:t.state=3):decide (t.try_=try_)=eE y id task try_:=by rw[<- bD3 hk hr h ht,decide_eq_true h3];rfl
theorem bD1 {y:Yard}{id task try_:Int}{k:Nat}{r:Run}{t:Task}(hk:bS y id=some k) (hr:y.runs[k]? = some r) (h:inB task 0 ((r.tasks.length:Int)-1)=true) (ht:r.tasks[task.toNat]? = some t) (h3:¬t.state=3):false=eE y id task try_:=by rw[<- bD3 hk hr h ht,decide_eq_false h3];rfl
theorem aW4 (y:Yard) (id task try_:Int) (hw:y.wt<=1048576):Ct1 prog 149 [.S y,.I id,.I task,.I try_] [.B (eE y id task try_)]:=
 .one (eE y id task try_) (rk:=fun x=>[.B x])<|vc func149 (fun (hg:gin [Par.S y,Par.I id,Par.I task,Par.I try_])=>.c func103 (jP y id hw) (hg:=⟨hg.1.1,trivial⟩) fun _=>.s (aF y id<0)
  (fun h=>.rt false ⟨bD0 aA,trivial⟩)
  (fun h=>.ex (uG (show (0:Int)<=aF y id by omega)) fun q hq=>.ye hq.2.2 (aF y id) (he:=hq.2.1) fun gr=>.m (q.2.tasks.length:Int) 1 (h:=by have:=gJ hw hq.2.2;unfold I64;omega)<|.c func29 (bR task 0 ((q.2.tasks.length:Int)-1)) fun _=>
   .v (inB task 0 ((q.2.tasks.length:Int)-1))
    (fun h1=>.rt false ⟨aN9 hq.1 hq.2.2 h1,trivial⟩)
    (fun h1=>.ye hq.2.2 (aF y id) (he:=hq.2.1) fun _=>.ex (tA h1) fun t ht=>.ye ht task (he:=hQ h1) fun _=>.s (t.state=3)
     (fun h3=>.rt (decide (t.try_=try_)) ⟨bP8 hq.1 hq.2.2 h1 ht h3,trivial⟩)
     (fun h3=>.rt false ⟨bD1 hq.1 hq.2.2 h1 ht h3,trivial⟩)))) aB
theorem Holds_s (y:Yard) (id task try_:Int) (hw:y.wt<=1048576):Ct1 prog 227 [.S y,.I id,.I task,.I try_] [.B (eE y id task try_)]:=
 .one (eE y id task try_) (rk:=fun x=>[.B x])<|vc func227 (fun (hg:gin [Par.S y,Par.I id,Par.I task,Par.I try_])=>.c func119 (jO y id hw) (hg:=⟨hg.1.1,trivial⟩) fun _=>.s ((0:Int)<=aF y id)
  (fun h=>.ex (uG h) fun q hq=>.ye hq.2.2 (aF y id) (he:=hq.2.1) fun gr=>.m (q.2.tasks.length:Int) 1 (h:=by have:=gJ hw hq.2.2;unfold I64;omega)<|.c func38 (InV task 0 ((q.2.tasks.length:Int)-1)) fun _=>
   .sb (inB task 0 ((q.2.tasks.length:Int)-1))
    (fun h1=>.ye hq.2.2 (aF y id) (he:=hq.2.1) fun _=>.ex (tA h1) fun t ht=>.ye ht task (he:=hQ h1) fun _=>.s (t.state=3)
     (fun h3=>.ye hq.2.2 (aF y id) (he:=hq.2.1) fun _=>.ye ht task (he:=hQ h1) fun _=>.rt (decide (t.try_=try_)) ⟨bP8 hq.1 hq.2.2 h1 ht h3,trivial⟩)
     (fun h3=>.rt false ⟨bD1 hq.1 hq.2.2 h1 ht h3,trivial⟩))
    (fun h1=>.rt false ⟨aN9 hq.1 hq.2.2 h1,trivial⟩))
  (fun h=>.rt false ⟨bD0 h,trivial⟩)) aB
theorem bY0 {y:Yard}{p:Plan}(h:¬(y.runs.length:Int)<8):false=gE y p:=by unfold gE;simp[h]
theorem bX9 {y:Yard}{p:Plan}(h:inB p.tasks 0 12=false):false=gE y p:=by unfold gE;simp[h]
theorem bX8 {y:Yard}{p:Plan}(h:¬cI y+p.tasks<=40):false=gE y p:=by unfold gE;simp[h]
theorem bX7 {y:Yard}{p:Plan}(h1:(y.runs.length:Int)<8) (h2:inB p.tasks 0 12=true) (h3:cI y+p.tasks<=40):decide (y.seq<=999999000-p.tasks)=gE y p:=by unfold gE;simp[h1,h2,h3]
theorem RoomFor_i (y:Yard) (p:Plan) (hw:y.wt<=1048576):Ct1 prog 133 [.S y,.S p] [.B (gE y p)]:=
 .one (gE y p) (rk:=fun x=>[.B x])<|vc func133 (fun (hg:gin [Par.S y,Par.S p])=>let hs:=aL7 y
  .s ((y.runs.length:Int)<8)
  (fun h1=>.c func29 (bR p.tasks 0 12) fun _=>.sb (inB p.tasks 0 12)
   (fun h2=>let hp:=inB_iff.1 h2
    .c func105 (aR0 y hw) (hg:=⟨hg.1.1,trivial⟩) fun _=>.p (cI y) p.tasks<|.s (cI y+p.tasks<=40)
    (fun h3=>.m 999999000 p.tasks<|.rt (decide (y.seq<=999999000-p.tasks)) ⟨bX7 h1 h2 h3,trivial⟩)
    (fun h3=>.rt false ⟨bX8 h3,trivial⟩))
   (fun h2=>.rt false ⟨bX9 h2,trivial⟩))
  (fun h1=>.rt false ⟨bY0 h1,trivial⟩)) aB
theorem RoomFor_s (y:Yard) (p:Plan) (hw:y.wt<=1048576):Ct1 prog 208 [.S y,.S p] [.B (gE y p)]:=
 .one (gE y p) (rk:=fun x=>[.B x])<|vc func208 (fun (hg:gin [Par.S y,Par.S p])=>let hs:=aL7 y
  .s ((y.runs.length:Int)<8)
  (fun h1=>.c func38 (InV p.tasks 0 12) fun _=>.sb (inB p.tasks 0 12)
   (fun h2=>let hp:=inB_iff.1 h2
    .c func122 (aQ9 y hw) (hg:=⟨hg.1.1,trivial⟩) fun _=>.p (cI y) p.tasks<|.s (cI y+p.tasks<=40)
    (fun h3=>.m 999999000 p.tasks<|.rt (decide (y.seq<=999999000-p.tasks)) ⟨bX7 h1 h2 h3,trivial⟩)
    (fun h3=>.rt false ⟨bX8 h3,trivial⟩))
   (fun h2=>.rt false ⟨bX9 h2,trivial⟩))
  (fun h1=>.rt false ⟨bY0 h1,trivial⟩)) aB
theorem aT6 {id:Int}{p:Plan}(h:¬(inB id 1 9999=true/\aC p=0)):(zRun,false)=(aE0 id p,kR id p):=by
 have:kR id p=false:=by
  unfold kR;cases h1:inB id 1 9999 with
  | false=>rfl
  | true=>simp only[Bool.true_and,decide_eq_false_iff_not];exact fun h2=>h ⟨h1,h2⟩
 rw[newR_f this,this]
theorem bO3 {id:Int}{p:Plan}(h1:inB id 1 9999=true) (h2:aC p=0):(aX id p,true)=(aE0 id p,kR id p):=by
 have:kR id p=true:=by unfold kR;rw[h1,decide_eq_true h2];rfl
 rw[bZ7 this,this]
theorem yV:zRun.ok:=by unfold Run.ok Plan.ok zRun I64;simp
theorem aM0 {id:Int}{p:Plan}(h1:inB id 1 9999=true) (hp:p.ok):(aX id p).ok:=⟨by have:=inB_iff.1 h1;show I64 id;unfold I64;omega,hp,by show I64 1;unfold I64;omega⟩
theorem aR9 {a b c d:Int}(ha:0<=a/\a<=100) (hb:0<=b/\b<=100) (hc:0<=c/\c<=100) (hd:0<=d/\d<=100):Task.ok ⟨a,b,c,d⟩:=⟨by show I64 a;unfold I64;omega,by show I64 b;unfold I64;omega,by show I64 c;unfold I64;omega,by show I64 d;unfold I64;omega⟩
theorem RunNew_i (id:Int) (p:Plan):Ct1 prog 134 [.I id,.S p] [.S (aE0 id p),.B (kR id p)]:=
 .one (aE0 id p,kR id p) (rk:=fun q=>[.S q.1,.B q.2])<|vc func134 (fun (hg:gin [Par.I id,Par.S p])=>let gp:p.ok:=hg.1.1
  .c func29 (bR id 1 9999) fun _=>.v (inB id 1 9999) (fun h=>.rt (zRun,false) ⟨aT6 (fun z=>by rw[h]at z;cases z.1),yV,trivial⟩) (fun h1=>
  .c func132 (iQ p) (hg:=⟨gp,trivial⟩) fun _=>.u (aC p=0) (fun h=>.rt (zRun,false) ⟨aT6 (fun z=>h z.2),yV,trivial⟩) (fun h2=>let hp:=oY h2
  .c func167 (aJ2 p aA) (hg:=⟨gp,trivial⟩) fun _=>.wt 6<|.r0 (inferInstance:Shape Task) 141 <|
  .l (Γ:=Nat) (fun k=>k<=p.tasks.toNat) (fun k=>p.tasks.toNat-k) [3,4,6] [1,2] [0] (fun k=>[vI 7 k]) (fun k=>[oO 3 p.edges,oR 5 141 (dB p k),oB 4 [.v (I id),.v (I p.prio),.v (I p.most),.v (I p.wait),.v (I p.tasks),.r 3,.v (I 1),.r 5]]) 0 fun k hk t=>let hln:=fJ p k
   .s ((k:Int)<p.tasks)
    (fun h=>let hbl:=kC p (k:Int)
     .c func188 (aJ4 p k) (hg:=⟨gp,trivial⟩) fun _=>.s (((aJ p (k:Int)).length:Int)=0)
     (fun h3=>.a (dB p k) (⟨2,(aJ p (k:Int)).length,0,0⟩:Task) 32 (hy:=aR9 aA aA aA aA) (hby:=by omega)<|.g 5 (aA7 h3).symm<|.p k 1<|.n t (k+1) [])
     (fun h3=>.a (dB p k) (⟨1,(aJ p (k:Int)).length,0,0⟩:Task) 32 (hy:=aR9 aA aA aA aA) (hby:=by omega)<|.g 5 (aA8 h3).symm<|.p k 1<|.n t (k+1) []))
    (fun h=>.g 5 (show dB p k=dB p p.tasks.toNat by rw[show k=p.tasks.toNat by omega])<|.rt (aX id p,true) ⟨bO3 h1 h2,aM0 h1 gp,trivial⟩)))) aB
theorem RunNew_s (id:Int) (p:Plan):Ct1 prog 197 [.I id,.S p] [.S (aE0 id p),.B (kR id p)]:=
 .one (aE0 id p,kR id p) (rk:=fun q=>[.S q.1,.B q.2])<|vc func197 (fun (hg:gin [Par.I id,Par.S p])=>let gp:p.ok:=hg.1.1
  .c func38 (InV id 1 9999) fun _=>.v (inB id 1 9999) (fun h=>.rt (zRun,false) ⟨aT6 (fun z=>by rw[h]at z;cases z.1),yV,trivial⟩) (fun h1=>
  .c func170 (mR p) (hg:=⟨gp,trivial⟩) fun _=>.u (aC p=0) (fun h=>.rt (zRun,false) ⟨aT6 (fun z=>h z.2),yV,trivial⟩) (fun h2=>let hp:=oY h2
  .c func168 (aJ1 p aA) (hg:=⟨gp,trivial⟩) fun _=>.wt 6<|.r0 (inferInstance:Shape Task) 141 <|
  .l (Γ:=Nat) (fun k=>k<=p.tasks.toNat) (fun k=>p.tasks.toNat-k) [3,4,6] [1,2] [0] (fun k=>[vI 7 k]) (fun k=>[oO 3 p.edges,oR 5 141 (dB p k),oB 4 [.v (I id),.v (I p.prio),.v (I p.most),.v (I p.wait),.v (I p.tasks),.r 3,.v (I 1),.r 5]]) 0 fun k hk t=>let hln:=fJ p k
   .s ((k:Int)<p.tasks)
    (fun h=>let hbl:=kC p (k:Int)
     .c func205 (aR3 p k h2) (hg:=⟨gp,trivial⟩) fun _=>.s ((0:Int)<((aJ p (k:Int)).length:Int))
     (fun h3=>.a (dB p k) (⟨1,(aJ p (k:Int)).length,0,0⟩:Task) 32 (hy:=aR9 aA aA aA aA) (hby:=by omega)<|.g 5 (aA8 (p:=p) (k:=k) aA).symm<|.p k 1<|.n t (k+1) [])
     (fun h3=>.a (dB p k) (⟨2,(aJ p (k:Int)).length,0,0⟩:Task) 32 (hy:=aR9 aA aA aA aA) (hby:=by omega)<|.g 5 (aA7 (p:=p) (k:=k) aA).symm<|.p k 1<|.n t (k+1) []))
    (fun h=>.g 5 (show dB p k=dB p p.tasks.toNat by rw[show k=p.tasks.toNat by omega])<|.rt (aX id p,true) ⟨bO3 h1 h2,aM0 h1 gp,trivial⟩)))) aB
def bP:List Entry->Entry×List Entry×Bool
 | []=>(zE,[],false)
 | e::r=>(e,r,true)
theorem bK6 {xs:List Entry}(h:(xs.length:Int)=0):(zE,[],false)=bP xs:=by
 rw[eq_nil_of_length_eq_zero (show xs.length=0 by omega)];rfl
theorem aX9 {xs:List Entry}{e:Entry}(h:xs[0]? = some e):(e,xs.drop 1,true)=bP xs:=by
 cases xs with
 | nil=>cases h
 | cons a r=>cases h;rfl
theorem TakeEntry_i (xs:List Entry) (hl:xs.length<=1048576):Ct1 prog 141 [.L xs] [.S (bP xs).1,.L (bP xs).2.1,.B (bP xs).2.2]:=
 .one (bP xs) (rk:=fun q=>[.S q.1,.L q.2.1,.B q.2.2])<|vc func141 (fun hg=>.s ((xs.length:Int)=0)
  (fun h=>.rt (zE,[],false) ⟨bK6 h,zE_ok,trivial⟩)
  (fun h=>.x xs 0 (h:=by omega) fun e he ge=>.dp inferInstance xs 1 aA 1 rfl<|.c func113 (fA (xs.drop 1) (by rw[length_drop];omega)) fun _=>.rt (e,xs.drop 1,true) ⟨aX9 he,ge,trivial⟩)) aB
theorem TakeEntry_s (xs:List Entry) (hl:xs.length<=1048576):Ct1 prog 214 [.L xs] [.S (bP xs).1,.L (bP xs).2.1,.B (bP xs).2.2]:=
 .one (bP xs) (rk:=fun q=>[.S q.1,.L q.2.1,.B q.2.2])<|vc func214 (fun hg=>.s ((xs.length:Int)=0)
  (fun h=>.e Entry<|.rt (zE,[],false) ⟨bK6 h,zE_ok,trivial⟩)
  (fun h=>.x xs 0 (h:=by omega) fun e he ge=>.dp inferInstance xs 1 aA 1 rfl<|.e Entry<|.as (inferInstance:Shape Entry) eN [] (xs.drop 1) 32 (by rw[length_drop];simp only[length_nil];unfold maxLen;omega) (by rw[length_drop];simp only[length_nil];omega)<|.rt (e,xs.drop 1,true) ⟨aX9 he,ge,trivial⟩)) aB
theorem HalfOf_i (xs:List Entry) (hl:xs.length<=1048576):Ct1 prog 139 [.L xs] [.L (xs.take (bH xs)),.L (xs.drop (bH xs))]:=
 vc func139 (fun hg=>let hh:bH xs<=xs.length:=(by unfold bH;omega)
  let he:((xs.length:Int)+1) / 2=(bH xs:Int):=(by unfold bH;omega)
  .p (xs.length:Int) 1 (h:=by unfold I64;omega)<|.q ((xs.length:Int)+1) 2 (h:=by omega)<|.tk inferInstance xs (bH xs) hh (((xs.length:Int)+1) / 2) he<|.dp inferInstance xs (bH xs) hh (((xs.length:Int)+1) / 2) he <|
  .c func113 (fA (xs.take (bH xs)) (by rw[length_take];omega)) fun _=>.c func113 (fA (xs.drop (bH xs)) (by rw[length_drop];omega)) fun _=>.rt () ⟨trivial,trivial⟩) aB
theorem HalfOf_s (xs:List Entry) (hl:xs.length<=1048576):Ct1 prog 212 [.L xs] [.L (xs.take (bH xs)),.L (xs.drop (bH xs))]:=
 vc func212 (fun hg=>let hh:bH xs<=xs.length:=(by unfold bH;omega)
  let he:((xs.length:Int)+1) / 2=(bH xs:Int):=(by unfold bH;omega)
  .p (xs.length:Int) 1 (h:=by unfold I64;omega)<|.q ((xs.length:Int)+1) 2 (h:=by omega)<|.tk inferInstance xs (bH xs) hh (((xs.length:Int)+1) / 2) he<|.dp inferInstance xs (bH xs) hh (((xs.length:Int)+1) / 2) he <|
  let one:=fun k=>D.as (P:=prog) (A:=Unit) (R:=fun _=>True/\rgd [Rk.L (xs.take (bH xs)),Rk.L (xs.drop (bH xs))]) (inferInstance:Shape Entry) eN [] (xs.take (bH xs)) 32 (by rw[length_take];simp only[length_nil];unfold maxLen;omega) (by rw[length_take];simp only[length_nil];omega) k
  let two:=D.as (P:=prog) (A:=Unit) (R:=fun _=>True/\rgd [Rk.L (xs.take (bH xs)),Rk.L (xs.drop (bH xs))]) (inferInstance:Shape Entry) eN [] (xs.drop (bH xs)) 32 (by rw[length_drop];simp only[length_nil];unfold maxLen;omega) (by rw[length_drop];simp only[length_nil];omega) (.rt () ⟨trivial,trivial⟩)
  .pm fun i=>match i with
   | 0=>.e Entry<|.pm fun i=>match i with
    | 4=>one<|.pm fun _=>.e Entry<|two
    | _=>.e Entry<|one<|two
   | _=>.e Entry<|.e Entry<|one<|two) aB
def PxF (xs:List Entry) (e:Entry):Option Nat->Prop
 | none=>lC xs e=xs.length
 | some k=>lC xs e=k/\k<xs.length
structure PxJ (xs:List Entry) (e:Entry) (k:Nat):Prop where
 le:k<=xs.length
 no:(xs.take k).any (fun x=> !bU x e)=false
theorem PxJ.next {xs:List Entry}{e x:Entry}{k:Nat}(h:PxJ xs e k) (hx:xs[k]? = some x) (ha:bU x e=true):PxJ xs e (k+1):=by
 obtain⟨hk,rfl⟩:=gsi_.1 hx;exact⟨hk,tL hk h.no (by rw[ha];rfl)⟩
theorem PxJ.hit {xs:List Entry}{e x:Entry}{k:Nat}(h:PxJ xs e k) (hx:xs[k]? = some x) (ha:bU x e=false):lC xs e=k/\k<xs.length:=by
 obtain⟨hk,rfl⟩:=gsi_.1 hx;exact⟨aZ3 h.le h.no (.inr ⟨hk,ha⟩),hk⟩
theorem PxJ.all {xs:List Entry}{e:Entry}{k:Nat}(h:PxJ xs e k) (hn:¬(k:Int)<xs.length):lC xs e=k/\k=xs.length:=by
 have:=h.le;exact⟨aZ3 h.le h.no (.inl aA),by omega⟩
noncomputable def insInc (xs:List Entry) (y:Entry) (k:Nat) (hk:k<=xs.length) (hy:y.ok) (hxl:xs.length<=1048576) (zs:List Entry) (hz:xs.take k++y::xs.drop k=zs):Inc prog 221 (fun _:Unit=>True) where
 T:=fun s us K=>match us with
  | [.on (.ce (.rf j h)),.on (.ce (.vl v1)),.on (.ce (.lt r b n))]=>match lku s.O j,lku (bB s.O j) r with
   | some (.row i e' h' xs' fe),some (.bx b' [] cs [] t)=>.e0 h h'<|.e0 e' 121<|.e1 (⟨i,xs'⟩:Dat) ⟨instShapeEntry,xs⟩<|.e0 v1 (I (k:Int))<|.e0 b b'<|.e0 n 1<|.e0 t 121<|.e0 (cs.map Sc.val) [I y.prio,I y.seq,I y.run,I y.task] <|
     .fn fun g:Hd×List Nat=>K () (.on (.ce (.rf j g.1))) ⟨s.E,(j,.own instShapeEntry g.1 zs g.2)::bB (bB s.O j) r,lasting s.B,s.nx⟩
   | _,_=>.no
  | _=>.no
 ok:=by
  intro w0 W s us K h st fa;split at h
  ·next j hd v1 r b n=>
   split at h
   ·next i e' h' xs' fe b' cs t hj hr=>
    obtain⟨rfl,rfl,h2,rfl,rfl,rfl,rfl,h6,h7⟩:=h;simp only[Dat.mk.injEq]at h2;obtain⟨rfl,h8,h9⟩:=h2;obtain⟨rfl,rfl⟩:=And.intro (eq_of_heq h8) (eq_of_heq h9);have st2:=St.take (rs:=[]) (by simpa [Or,S.rs] using st) hj;rw[append_nil]at st2;have st3:=(St.take (rs:=[_]) (st2.perm (perm_append_comm (l₂:=[_]))) hr).perm (perm_append_comm (l₁:=[_]) (l₂:=_::_));have st3:St w0 W (Res.row 121 hd.val xs' fe::Res.bx b ([]++cs.map Sc.val++[]) 121::Or (bB (bB s.O j) r)):=st3;rw[nil_append,append_nil,h6]at st3;obtain⟨cl,_,hE⟩:=(st3.get 0 rfl).1;obtain rfl:=uN eN hE;refine(InsertE k st3 hk hy hxl).mono ?_;rintro e W' ⟨v',rfl,st'⟩;obtain⟨fp,st'⟩:=st'.shut;obtain⟨hd,rfl,_⟩:=Sl.hd (gQ (st'.get 0 rfl));exact⟨(),.on (.ce (.rf j hd)),_,trivial,h7 (hd,fp),rfl,by rw[<- hz];exact st',fa.lasting⟩
   exact h.elim
  exact h.elim
theorem aI7 (xs:List Entry) (e:Entry) (hl:xs.length<=1048576):Ct1 prog 190 [.L xs,.S e] [.L (eX xs e)]:=
 vc func190 (fun (hg:gin [Par.L xs,Par.S e])=>let ge:e.ok:=hg.2.1.1
  let fin:∀k,lC xs e=k->k<=xs.length->D prog (fun _:Unit=>True/\rgd [Rk.L (eX xs e)]):=fun k h1 h2=>.c func113 (fA xs hl) fun _=>.iv _ func221 (insInc xs e k h2 ge hl (eX xs e) (by rw[<- h1];rfl)) fun _ _=>.rt () ⟨trivial,trivial⟩
  .in_ (R':=PxF xs e) func194 (
   .la (Γ:=Nat) (PxJ xs e) (fun k=>xs.length-k) (fun k=>[vI 8 k]) (fun _=>[]) 0 (h:=⟨Nat.zero_le _,rfl⟩) fun k hJ t=>let hk:=hJ.le
    .s ((k:Int)<xs.length)
     (fun h=>.x xs k (h:=by omega) fun x hx gx=>.in_ (R':=fun _:Unit=>True) func220 (.c func156 (bU2 x e) (hg:=⟨gx,ge,trivial⟩) fun _=>.rt () trivial) fun _ _=>.v (bU x e)
      (fun h1=>.rt (some k) (hJ.hit hx h1))
      (fun h1=>.p k 1<|.n t (k+1) [] (hJ.next hx h1) aA))
     (fun h=>.rt none ((hJ.all h).1.trans (hJ.all h).2))) fun o=>match o with
   | none=>fun ho=>.kt ((-1:Int)<0) eZ<|fin xs.length ho (Nat.le_refl _)
   | some k=>fun ho=>.kf ((k:Int)<0) aA<|fin k ho.1 (Nat.le_of_lt ho.2)) aB
theorem aI6 (xs:List Entry) (e:Entry) (hl:xs.length<=1048576):Ct1 prog 226 [.L xs,.S e] [.L (eX xs e)]:=
 .one (eX xs e) (rk:=fun l=>[.L l])<|vc func226 (fun (hg:gin [Par.L xs,Par.S e])=>let ge:e.ok:=hg.2.1.1
  let fin:∀k,lC xs e=k->k<=xs.length->D prog (fun l:List Entry=>l=eX xs e/\rgd [Rk.L l]):=fun k h1 h2=>.e Entry<|.tk inferInstance xs k h2 (k:Int) rfl<|.as (inferInstance:Shape Entry) eN [] (xs.take k) 32 (by rw[length_take];simp only[length_nil];unfold maxLen;omega) (by rw[length_take];simp only[length_nil];omega) <|
   .a (xs.take k) e 32 (hy:=ge) (h63:=by rw[length_take];unfold maxLen;omega) (hby:=by rw[length_take];omega)<|.dp inferInstance xs k h2 (k:Int) rfl<|.as (inferInstance:Shape Entry) eN (xs.take k++[e]) (xs.drop k) 32 (by rw[length_append,length_take,length_drop];simp only[length_cons,length_nil];unfold maxLen;omega) (by rw[length_append,length_take,length_drop];simp only[length_cons,length_nil];omega) <|
   .rt (xs.take k++[e]++xs.drop k) ⟨by rw[append_assoc,<- h1];rfl,trivial⟩
  .la (Γ:=Nat) (PxJ xs e) (fun k=>xs.length-k) (fun k=>[vI 5 k]) (fun _=>[]) 0 (h:=⟨Nat.zero_le _,rfl⟩) fun k hJ t=>let hk:=hJ.le
   .s ((k:Int)<xs.length)
    (fun h=>.x xs k (h:=by omega) fun x hx gx=>.c func202 (bU1 x e) (hg:=⟨gx,ge,trivial⟩) fun _=>.sb (bU x e)
     (fun h1=>.p k 1<|.n t (k+1) [] (hJ.next hx h1) aA)
     (fun h1=>fin k (hJ.hit hx h1).1 hk))
    (fun h=>fin k (hJ.all h).1 hk)) aB
def aE6 (a b:List Entry) (k:Nat):List Entry:=(b.take k).foldl eX a
theorem bB9 (a b:List Entry) (k:Nat):(aE6 a b k).length<=a.length+b.length:=by
 unfold aE6;rw[sF,length_take];omega
theorem aN0 {a b:List Entry}{k:Nat}{e:Entry}(h:b[k]? = some e):eX (aE6 a b k) e=aE6 a b (k+1):=by
 obtain⟨hk,rfl⟩:=gsi_.1 h;unfold aE6;rw[foldl_put_to hk]
theorem bC0 {a b:List Entry}{k:Nat}(h:¬(80:Int)<(a.length:Int)+b.length) (hk:¬(k:Int)<b.length):aE6 a b k=cP a b:=by
 unfold aE6 cP;rw[if_neg aA,take_of_length_le aA]
theorem mg_no {a b:List Entry}(h:(80:Int)<(a.length:Int)+b.length):a=cP a b:=by unfold cP;rw[if_pos aA]
theorem Merged_i (a b:List Entry) (ha:a.length<=1048576) (hb:b.length<=1048576):Ct1 prog 140 [.L a,.L b] [.L (cP a b)]:=
 vc func140 (fun hg=>.c func113 (fA a ha) fun _=>.p (a.length:Int) (b.length:Int) (h:=by unfold I64;omega)<|.s ((80:Int)<(a.length:Int)+b.length)
  (fun h=>.g 2 (show a=cP a b from mg_no h)<|.rt () ⟨trivial,trivial⟩)
  (fun h=>.wt 18<|.sh 2<|.l (Γ:=Nat) (fun k=>k<=b.length) (fun k=>b.length-k) [17,18] [] [0,1] (fun k=>[vR 5 2,vI 19 k]) (fun k=>[oO 2 (aE6 a b k)]) 0 fun k hk t=>let hln:=bB9 a b k
   .s ((k:Int)<b.length)
    (fun h2=>.x b k (h:=by omega) fun e he ge=>.c func190 (aI7 (aE6 a b k) e aA) (hg:=⟨ge,trivial⟩) fun _=>.g 5 (aN0 (a:=a) he)<|.p k 1<|.n t (k+1) [(2,5)])
    (fun h2=>.g 2 (bC0 (a:=a) (b:=b) (k:=k) h h2)<|.rt () ⟨trivial,trivial⟩))) aB
theorem Merged_s (a b:List Entry) (ha:a.length<=1048576) (hb:b.length<=1048576):Ct1 prog 213 [.L a,.L b] [.L (cP a b)]:=
 vc func213 (fun hg=>.e Entry<|.as (inferInstance:Shape Entry) eN [] a 32 (by simp only[length_nil];unfold maxLen;omega) (by simp only[length_nil];omega)<|.p (a.length:Int) (b.length:Int) (h:=by unfold I64;omega)<|.s ((80:Int)<(a.length:Int)+b.length)
  (fun h=>.g 2 (show ([]:List Entry)++a=cP a b from mg_no h)<|.rt () ⟨trivial,trivial⟩)
  (fun h=>.sh 2<|.l (Γ:=Nat) (fun k=>k<=b.length) (fun k=>b.length-k) [1] [] [0,1] (fun k=>[vR 5 2,vI 6 k]) (fun k=>[oO 2 (aE6 a b k)]) 0 fun k hk t=>let hln:=bB9 a b k
   .s ((k:Int)<b.length)
    (fun h2=>.x b k (h:=by omega) fun e he ge=>.c func226 (aI6 (aE6 a b k) e aA) (hg:=⟨ge,trivial⟩) fun _=>.g 4 (aN0 (a:=a) he)<|.p k 1<|.n t (k+1) [(2,4)])
    (fun h2=>.g 2 (bC0 (a:=a) (b:=b) (k:=k) h h2)<|.rt () ⟨trivial,trivial⟩))) aB
theorem vic_step {home draw:Int}{k:Nat}(h:k<3):(bL home draw).take k++[mU home draw k]=(bL home draw).take (k+1):=by
 match k,h with
 | 0,_=>rfl
 | 1,_=>rfl
 | 2,_=>rfl
theorem cE1 {home:Int}(h:0<=home/\home<=3):I (fR home 0 3)=I home:=by
 unfold fR;rw[if_neg aA,if_neg aA,Int.min_def,if_pos aA]
theorem Victims_i (home draw:Int) (hh:0<=home/\home<=3) (hd:I64 draw):Ct1 prog 138 [.I home,.I draw] [.L (bL home draw)]:=
 vc func138 (fun hg=>let hm:0<=max draw 0/\max draw 0<=9223372036854775807:=(by unfold I64 at hd;omega)
  .c func24 (BroughtID home 0 3) fun _=>.rv 8 (I home) (y:=I (fR home 0 3)) (cE1 hh)<|.w Int 3 5<|.l (Γ:=Nat) (fun k=>k<=3) (fun k=>3-k) [0,1] [] [] (fun k=>[vR 5 0,vI 6 k]) (fun k=>[oR 0 3 ((bL home draw).take k)]) 0 fun k hk t=>
   .s ((k:Int)<3)
    (fun h=>.p home 1<|.q (max draw 0) 3 (h:=by omega)<|.p (max draw 0 % 3) (k:Int) (h:=by unfold I64;omega)<|.q (max draw 0 % 3+k) 3 (h:=by omega)<|.p (home+1) ((max draw 0 % 3+k) % 3)<|.q (home+1+(max draw 0 % 3+k) % 3) 4 (h:=by omega) <|
     .a ((bL home draw).take k) (mU home draw k) 8 (hy:=by have:=zW home draw k hh;show I64 _;unfold I64;omega) (h63:=by rw[length_take];unfold maxLen;omega) (hby:=by rw[length_take];omega)<|.g 0 (vic_step (home:=home) (draw:=draw) (k:=k) aA)<|.p k 1<|.n t (k+1) [])
    (fun h=>.g 0 (show (bL home draw).take k=bL home draw by rw[show k=3 by omega];rfl)<|.rt () ⟨trivial,trivial⟩)) aB
theorem CopyYardR_i (y:Yard) (hw:y.wt<=1048576):Ct1 prog 59 [.S y] [.cl [.v (I y.now),.v (I y.seq),.o (inferInstance:Shape (List Entry)) y.shelf,.r (inferInstance:Shape Run) 125 y.runs]]:=
 vc func59 (fun (hg:gin [Par.S y])=>let hb:=dJ y hw
  .wt 14<|.r0 (inferInstance:Shape (List Entry)) 117<|.l (Γ:=Nat) (fun k=>k<=y.shelf.length) (fun k=>y.shelf.length-k) [1,2,3,14,15] [2,3] [0,1] (fun k=>[vI 16 k]) (fun k=>[oR 5 117 (y.shelf.take k),oB 4 [.v (I y.now),.v (I y.seq),.r 5,.v (.slice none 0 0)]]) 0 fun k hk t=>
   .s ((k:Int)<y.shelf.length)
    (fun h=>.x y.shelf k (h:=by omega) fun l hl gl=>.c func113 (fA l (iK hl hw)) fun _=>.a (y.shelf.take k) l 24 (hy:=trivial) (h63:=by rw[length_take];unfold maxLen;omega) (hby:=by rw[length_take];omega)<|.g 5 (cX hl)<|.p k 1<|.n t (k+1) [])
    (fun h=>.g 5 (kM h)<|.r0 (inferInstance:Shape Run) 125<|.l (Γ:=Nat) (fun k=>k<=y.runs.length) (fun k=>y.runs.length-k) [1,2,3,29,30] [2,3] [0,1] (fun k=>[vI 31 k]) (fun k=>[oR 5 117 y.shelf,oR 6 125 (y.runs.take k),oB 4 [.v (I y.now),.v (I y.seq),.r 5,.r 6]]) 0 fun k hk t=>
     .s ((k:Int)<y.runs.length)
      (fun h2=>.x y.runs k (h:=by omega) fun r hr gr=>let hrl:=gJ hw hr
       .c func114 (xG r hrl.2.2 hrl.2.1) (hg:=⟨gr,trivial⟩) fun _=>.a (y.runs.take k) r 96 (hy:=gr) (h63:=by rw[length_take];unfold maxLen;omega) (hby:=by rw[length_take];omega)<|.g 6 (cX hr)<|.p k 1<|.n t (k+1) [])
      (fun h2=>.g 6 (kM h2)<|.rt () ⟨trivial,trivial⟩))) aB
theorem CopyYardR_s (y:Yard) (hw:y.wt<=1048576):Ct1 prog 61 [.S y] [.cl [.v (I y.now),.v (I y.seq),.o (inferInstance:Shape (List Entry)) y.shelf,.r (inferInstance:Shape Run) 125 y.runs]]:=
 vc func61 (fun (hg:gin [Par.S y])=>let hb:=dJ y hw
  .wt 4<|.r0 (inferInstance:Shape (List Entry)) 117<|.l (Γ:=Nat) (fun k=>k<=y.shelf.length) (fun k=>y.shelf.length-k) [1,2,3] [2,3] [0,1] (fun k=>[vI 4 k]) (fun k=>[oR 5 117 (y.shelf.take k),oB 4 [.v (I y.now),.v (I y.seq),.r 5,.v (.slice none 0 0)]]) 0 fun k hk t=>
   .s ((k:Int)<y.shelf.length)
    (fun h=>.x y.shelf k (h:=by omega) fun l hl gl=>let hll:=iK hl hw
     .e Entry<|.as (inferInstance:Shape Entry) eN [] l 32 (by simp only[length_nil];unfold maxLen;omega) (by simp only[length_nil];omega)<|.a (y.shelf.take k) l 24 (hy:=trivial) (h63:=by rw[length_take];unfold maxLen;omega) (hby:=by rw[length_take];omega)<|.g 5 (cX hl)<|.p k 1<|.n t (k+1) [])
    (fun h=>.g 5 (kM h)<|.r0 (inferInstance:Shape Run) 125<|.l (Γ:=Nat) (fun k=>k<=y.runs.length) (fun k=>y.runs.length-k) [1,2,3] [2,3] [0,1] (fun k=>[vI 5 k]) (fun k=>[oR 5 117 y.shelf,oR 6 125 (y.runs.take k),oB 4 [.v (I y.now),.v (I y.seq),.r 5,.r 6]]) 0 fun k hk t=>
     .s ((k:Int)<y.runs.length)
      (fun h2=>.x y.runs k (h:=by omega) fun r hr gr=>let hrl:=gJ hw hr
       .c func115 (lR r hrl.2.2 hrl.2.1) (hg:=⟨gr,trivial⟩) fun _=>.a (y.runs.take k) r 96 (hy:=gr) (h63:=by rw[length_take];unfold maxLen;omega) (hby:=by rw[length_take];omega)<|.g 6 (cX hr)<|.p k 1<|.n t (k+1) [])
      (fun h2=>.g 6 (kM h2)<|.rt () ⟨trivial,trivial⟩))) aB
end Go.Proofs.YtpdgdnpajmcaeaaGreat
