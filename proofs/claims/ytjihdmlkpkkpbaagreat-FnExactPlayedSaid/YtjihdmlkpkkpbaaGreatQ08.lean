/-
  A yard read out of a text, of the reference.
  The mark of a disk, of both; as calls.
  Notes replayed, and what is recovered from a disk, of both; told to the reader.
  A call to an engine, of both; told to the reader.
  An engine that boots, of both; told to the reader.
  What a mark on a disk holds: a good yard's text, or the beginning of one. Plain theory.
  Disks whose marks are good, through all that an engine does. Plain theory.
  Worlds copied, of both; told to the reader.
  A disk behind a crash, of both; told to the reader.
  A world behind a crash, of both; told to the reader.
  An engine commits, is shut, breaks, of both; told to the reader.
  What happens to a world, of both; told to the reader.
  Worlds through acts: what holds behind k acts, and what is played. Plain theory.
  Acts that are played, of both; told to the reader.
  The law on Played, told to the reader.
  What is handed to a law, taken out of the row's reading: it is data in memory, as the walks want it.
  A law's arguments, taken out of the row's reading.
-/
import Derived.ProofKit
import Derived.OpenShut
import Derived.Test.YtjihdmlkpkkpbaaGreatQ01
import Derived.Test.YtjihdmlkpkkpbaaGreatQ03
import Derived.Test.YtjihdmlkpkkpbaaGreatQ04
import Derived.Test.YtjihdmlkpkkpbaaGreatQ05
import Derived.Test.YtjihdmlkpkkpbaaGreatQ06
import Derived.Test.YtjihdmlkpkkpbaaGreatQ07
set_option linter.unusedSimpArgs false
set_option linter.unusedVariables false
namespace Go.Proofs.YtjihdmlkpkkpbaaGreat
set_option maxRecDepth 100000
set_option maxHeartbeats 2000000
open Go.RowKit Go.Proofs.Tryz List
theorem cI9 {s:ByteArray}(h:¬(s.size<=60000/\(iX s).1.bad=false/\(iX s).1.at_=s.size/\aG (iX s).2=true)):(yard0,false)=eB s:=by unfold eB;rw[if_neg h]
section
variable {A:Type}{R:A->Prop}
noncomputable def cmSh (x:LIn) (h:x.in_) (k:D prog R):D prog R := .cm 302 func302 (show Cm prog 302 [] (inferInstance:Dsh LIn) x (fun _:Unit=>True) (fun _=>(dX linR x).1) (fun _=>[.L (dX linR x).2]) by rw[<- shelfL_eq];exact ShelfL x h) trivial fun _ _ _ _=>k
noncomputable def cmRn (x:LIn) (h:x.in_) (k:D prog R):D prog R := .cm 303 func303 (RunL x h) trivial fun _ _ _ _=>k
end
noncomputable def rsEnd (s:ByteArray) (hs:s.size<=60000) (w:LIn×List Run) (y:Yard) (hok:y.ok) (e:(w.1,y)=iX s):D prog (fun a:Yard×Bool=>a=eB s/\rgd [Rk.S a.1,Rk.B a.2]):=
 let e1:(iX s).1=w.1:=by rw[<- e]
 let e2:(iX s).2=y:=by rw[<- e]
 .sb w.1.bad (fun hb=>.rt (yard0,false) ⟨cI9 (fun h=>by rw[e1,hb]at h;exact absurd h.2.1 (by simp)),dB,trivial⟩)
  (fun hb=>.u ((w.1.at_:Int)=s.size)
   (fun hn=>.rt (yard0,false) ⟨cI9 (fun h=>hn (by rw[<- e1,h.2.2.1])),dB,trivial⟩)
   (fun he=>.c func74 (aY4 y (by have:=bR2 (s:=s) aA (by rw[e1];exact hb);rw[e2]at this;omega)) (hg:=⟨hok,trivial⟩) fun _=>.v (aG y)
    (fun h2=>.rt (yard0,false) ⟨cI9 (fun h=>by rw[e2,h2]at h;exact absurd h.2.2.2 (by simp)),dB,trivial⟩)
    (fun h2=>.rt (y,true) ⟨by unfold eB;rw[if_pos ⟨hs,by rw[e1];exact hb,by rw[e1];omega,by rw[e2];exact h2⟩,e2],hok,trivial⟩)))
noncomputable def cU6 (s:ByteArray) (hs:s.size<=60000) (now seq m:Int) (ss:List (List Entry)) (hok:I64 now/\I64 seq) (hm:m<=1000000000) (x4:LIn) (hi:x4.in_) (e:∀w,w=bA LIn.bad (iL linR) x4 m.toNat->(w.1,(⟨now,seq,ss,w.2⟩:Yard))=iX s):D prog (fun a:Yard×Bool=>a=eB s/\rgd [Rk.S a.1,Rk.B a.2]):=
 .r0 (inferInstance:Shape Run) 145<|.lx (Γ:=Nat×LIn×List Run) (fun g=>MJ LIn.bad (iL linR) LIn.in_ x4 m g) (fun g=>m.toNat-g.1) [0,2,4,5,7] [0,2] [] (fun g=>[vI 8 g.1]) (fun g=>[oR 4 145 g.2.2,oB 3 [.v (I now),.v (I seq),.r 2,.r 4],oB 1 (lbx g.2.1)]) (0,x4,[]) (MJ.start hi) []
  (fun g hJ t=>.s ((g.1:Int)<m)
   (fun h=>.sb (!g.2.1.bad)
    (fun hb=>cmRn g.2.1 hJ.inn<|.a g.2.2 (iL linR g.2.1).2 96 (hy:=cU5 linB _ hJ.inn) (h63:=by have:=hJ.len;have:=hJ.le;unfold maxLen;omega) (hby:=by have:=hJ.len;have:=hJ.le;omega)<|.p g.1 1 (h:=by unfold I64;omega) <|
     .n t (g.1+1,(iL linR g.2.1).1,g.2.2++[(iL linR g.2.1).2]) [] (hJ.next (bL6 linB) h (bnT hb)) (by dsimp only;omega))
    (fun hb=>.xt (fun w:LIn×List Run=>w=bA LIn.bad (iL linR) x4 m.toNat) (g.2.1,g.2.2) (hJ.stop (bnF hb)) []))
   (fun h=>.xt (fun w:LIn×List Run=>w=bA LIn.bad (iL linR) x4 m.toNat) (g.2.1,g.2.2) (hJ.all h) []))
  (fun w:LIn×List Run=>w=bA LIn.bad (iL linR) x4 m.toNat) 2 [0,2,4,5] [0,2] [] (fun _=>[]) (fun w=>[oR 4 145 w.2,oB 3 [.v (I now),.v (I seq),.r 2,.r 4],oB 1 (lbx w.1)])
  fun w hw=>rsEnd s hs w ⟨now,seq,ss,w.2⟩ hok (e w hw)
theorem ReadYardS (s:ByteArray) (hs:s.size<=1048576):Ct1 prog 281 [.T s] [.S (eB s).1,.B (eB s).2]:=
 .one (eB s) (rk:=fun a=>[.S a.1,.B a.2])<|vc func281 (fun hg=>.s ((60000:Int)<s.size)
  (fun h=>.rt (yard0,false) ⟨cI9 (fun h2=>by omega),dB,trivial⟩)
  (fun h0=>
   let x0:LIn:=⟨s,0,false⟩
   let x1:=(aD x0).1
   let x2:=(aD x1).1
   let i0:x0.in_:=⟨hs,Nat.zero_le _⟩
   let i1:=bB i0
   let i2:=bB i1
   cmL x0 i0<|cmL x1 i1<|.r0 (inferInstance:Shape (List Entry)) 139 <|
   .lx (Γ:=Nat×LIn×List (List Entry)) (fun g=>MJ LIn.bad (dX linR) LIn.in_ x2 4 g) (fun g=>(4:Int).toNat-g.1) [0,2,4,5] [0] [] (fun g=>[vI 6 g.1]) (fun g=>[oR 2 139 g.2.2,oB 3 [.v (I (aD x0).2),.v (I (aD x1).2),.r 2,.v (.slice none 0 0)],oB 1 (lbx g.2.1)]) (0,x2,[]) (MJ.start i2) []
    (fun g hJ t=>.s ((g.1:Int)<4)
     (fun h=>.sb (!g.2.1.bad)
      (fun hb=>cmSh g.2.1 hJ.inn<|.a g.2.2 (dX linR g.2.1).2 24 (hy:=trivial) (h63:=by have:=hJ.len;have:=hJ.le;unfold maxLen;omega) (hby:=by have:=hJ.len;have:=hJ.le;omega)<|.p g.1 1 (h:=by unfold I64;omega) <|
       .n t (g.1+1,(dX linR g.2.1).1,g.2.2++[(dX linR g.2.1).2]) [] (hJ.next (lG linB) h (bnT hb)) (by dsimp only;omega))
      (fun hb=>.xt (fun z:LIn×List (List Entry)=>z=bA LIn.bad (dX linR) x2 4) (g.2.1,g.2.2) (hJ.stop (bnF hb)) []))
     (fun h=>.xt (fun z:LIn×List (List Entry)=>z=bA LIn.bad (dX linR) x2 4) (g.2.1,g.2.2) (hJ.all h) []))
    (fun z:LIn×List (List Entry)=>z=bA LIn.bad (dX linR) x2 4) 0 [0,2,4,5] [0] [] (fun _=>[]) (fun z=>[oR 2 139 z.2,oB 3 [.v (I (aD x0).2),.v (I (aD x1).2),.r 2,.v (.slice none 0 0)],oB 1 (lbx z.1)])
    fun z hz=>
     let i3:z.1.in_:=by rw[hz];exact(nX (lG linB) i2 4).1
     cmL z.1 i3<|.s ((8:Int)<(aD z.1).2)
      (fun h8=>cU6 s aA (aD x0).2 (aD x1).2 (aD z.1).2 z.2 ⟨cB _,cB _⟩ (rA _) ⟨(aD z.1).1.s,(aD z.1).1.at_,true⟩ (bB i3) (fun w hw=>by
       show _=(fun z:LIn×List (List Entry)=>(fun w:LIn×List Run=>(w.1,(⟨(aD x0).2,(aD x1).2,z.2,w.2⟩:Yard))) (bA LIn.bad (iL linR) (bA0 8 (aD z.1).2 (aD z.1).1) (aD z.1).2.toNat)) (bA LIn.bad (dX linR) x2 4);rw[<- hz];show _=(fun w:LIn×List Run=>(w.1,(⟨(aD x0).2,(aD x1).2,z.2,w.2⟩:Yard))) (bA LIn.bad (iL linR) (bA0 8 (aD z.1).2 (aD z.1).1) (aD z.1).2.toNat);rw[cD4 h8,<- hw]))
      (fun h8=>cU6 s aA (aD x0).2 (aD x1).2 (aD z.1).2 z.2 ⟨cB _,cB _⟩ (rA _) (aD z.1).1 (bB i3) (fun w hw=>by
       show _=(fun z:LIn×List (List Entry)=>(fun w:LIn×List Run=>(w.1,(⟨(aD x0).2,(aD x1).2,z.2,w.2⟩:Yard))) (bA LIn.bad (iL linR) (bA0 8 (aD z.1).2 (aD z.1).1) (aD z.1).2.toNat)) (bA LIn.bad (dX linR) x2 4);rw[<- hz];show _=(fun w:LIn×List Run=>(w.1,(⟨(aD x0).2,(aD x1).2,z.2,w.2⟩:Yard))) (bA LIn.bad (iL linR) (bA0 8 (aD z.1).2 (aD z.1).1) (aD z.1).2.toNat);rw[cD5 h8,<- hw])))) aB
noncomputable def moC (d:Disk):Yard×Int×Bool:=moR yardNew (rmS eB) d
theorem file_wt_le {d:Disk}{f:File}(h:f∈d.files):f.wt<=d.wt:=by
 have:=yW (g:=fun q:File=>q.wt) h;unfold Disk.wt wtL;omega
theorem rM (d:Disk):d.files.length<=d.wt:=by unfold Disk.wt wtL;omega
theorem qY (d:Disk) (nm:ByteArray):(cX d.files nm).size<=d.wt:=by
 unfold cX;split
 ·exact Nat.zero_le _
 cases h:d.files[(fAt d.files nm).toNat]? with
 | none=>exact Nat.zero_le _
 | some f=>
  have:=file_wt_le (mem_of_getElem? h);show f.data.size<=_;unfold File.wt at this;omega
theorem readYS_wt {s:ByteArray}(h:(eB s).2=true):(eB s).1.wt<=s.size:=by
 unfold eB at h ⊢;split at h
 ·next hc=>rw[if_pos hc];exact bR2 aA hc.2.1
 cases h
theorem MarkOfID (d:Disk) (hw:d.wt<=1048576):Ct1 prog 258 [.S d] [.S (moC d).1,.I (moC d).2.1,.B (moC d).2.2]:=by
 have hs:(cX d.files gR).size<=1048576:=Nat.le_trans (qY d gR) hw;have hl:d.files.length<=1048576:=Nat.le_trans (rM d) hw;have hR:=ReadMarkI eN dW (cX d.files gR) hs (fun t ht=>ReadYardI t ht) (fun t ht h=>Nat.le_trans (readYI_wt h) ht) (fun y hy=>aH0 y hy) (fun y hy=>wX hy);rw[rm_eq]at hR;exact MarkOfI yardNew (rmS eB) d (lW d gR) (aH4 d gR hl) cA9 hR
theorem MarkOfSD (d:Disk) (hw:d.wt<=1048576):Ct1 prog 145 [.S d] [.S (moC d).1,.I (moC d).2.1,.B (moC d).2.2]:=by
 have hs:(cX d.files gR).size<=1048576:=Nat.le_trans (qY d gR) hw;have hl:d.files.length<=1048576:=Nat.le_trans (rM d) hw;exact MarkOfS yardNew (rmS eB) d hl bI6 (ReadMarkS eB (cX d.files gR) hs (fun t ht=>ReadYardS t ht))
noncomputable def moY (d:Disk):Yard:=(moC d).1
noncomputable def moN (d:Disk):Int:=(moC d).2.1
noncomputable def moB (d:Disk):Bool:=(moC d).2.2
noncomputable def repSt (y:Yard) (n:Note):Yard:=(doD y n.deed).1
noncomputable def tF (y:Yard) (ns:List Note):Yard:=ns.foldl repSt y
theorem repY_to {y:Yard}{ns:List Note}{k:Nat}{n:Note}(h:ns[k]? = some n):tF y (ns.take (k+1))=(doD (tF y (ns.take k)) n.deed).1:=by
 unfold tF;rw[<- dJ h,foldl_append];rfl
theorem bM1:∀(ns:List Note) {y:Yard},y.wt<=1048576->(tF y ns).wt<=1048576
 | [],y,h=>h
 | n::ns,y,h=>bM1 ns (y:=repSt y n) (cE0 n.deed aA h)
structure RpJ (y:Yard) (ns:List Note) (g:Nat×Yard):Prop where
 le:g.1<=ns.length
 eq:g.2=tF y (ns.take g.1)
 ok:g.2.ok
theorem RpJ.wt {y:Yard}{ns:List Note}{g:Nat×Yard}(h:RpJ y ns g) (hw:y.wt<=1048576):g.2.wt<=1048576:=by rw[h.eq];exact bM1 _ hw
theorem RpJ.all {y:Yard}{ns:List Note}{g:Nat×Yard}(h:RpJ y ns g) (hk:¬(g.1:Int)<ns.length):g.2=tF y ns:=by rw[h.eq,take_of_length_le aA]
theorem RpJ.next {y:Yard}{ns:List Note}{g:Nat×Yard}{n:Note}(h:RpJ y ns g) (hn:ns[g.1]? = some n) (ho:(doD g.2 n.deed).1.ok):RpJ y ns (g.1+1,(doD g.2 n.deed).1):=
 ⟨(gsi_.1 hn).1,by show _=tF y (ns.take (g.1+1));rw[repY_to hn,<- h.eq],ho⟩
theorem Replay_i (y:Yard) (ns:List Note) (hw:y.wt<=1048576) (hl:ns.length<=1048576):Ct1 prog 260 [.S y,.L ns] [.S (tF y ns)]:=
 .one (tF y ns) (rk:=fun q=>[.S q])<|vc func260 (fun (hg:gin [Par.S y,Par.L ns])=>let gy:=hg.1.1
  .c func149 (fK y hw) (hg:=⟨gy,trivial⟩) fun _=>
   .l (Γ:=Nat×Yard) (RpJ y ns) (fun g=>ns.length-g.1) [4,5,10,11] [4] [2] (fun g=>[vI 12 g.1]) (fun g=>ryS g.2 7 5 6) (0,y) (h:=⟨Nat.zero_le _,rfl,gy⟩) fun g hJ tk=>let hwg:=hJ.wt hw
    .s ((g.1:Int)<ns.length)
     (fun h=>.x ns g.1 (h:=by omega) fun n hn gn=>let gn:n.ok:=gn
      .c func98 (Do_i g.2 n.deed hwg) (hg:=⟨hJ.ok,gn.2,trivial⟩) fun hz=>.p g.1 1 (h:=by unfold I64;omega) <|
      .n tk (g.1+1,(doD g.2 n.deed).1) [(5,11),(6,12)] (h1:=hJ.next hn hz.1.1) (h2:=by show ns.length-(g.1+1)<_;omega))
     (fun h=>.rt g.2 ⟨hJ.all h,hJ.ok,trivial⟩)) aB
theorem Replay_s (y:Yard) (ns:List Note) (hw:y.wt<=1048576) (hl:ns.length<=1048576):Ct1 prog 147 [.S y,.L ns] [.S (tF y ns)]:=
 .one (tF y ns) (rk:=fun q=>[.S q])<|vc func147 (fun (hg:gin [Par.S y,Par.L ns])=>let gy:=hg.1.1
  .c func117 (fJ y hw) (hg:=⟨gy,trivial⟩) fun _=>
   .l (Γ:=Nat×Yard) (RpJ y ns) (fun g=>ns.length-g.1) [1,4,5] [4] [2] (fun g=>[vI 6 g.1]) (fun g=>ryS g.2 7 5 6) (0,y) (h:=⟨Nat.zero_le _,rfl,gy⟩) fun g hJ tk=>let hwg:=hJ.wt hw
    .s ((g.1:Int)<ns.length)
     (fun h=>.x ns g.1 (h:=by omega) fun n hn gn=>let gn:n.ok:=gn
      .c func79 (Do_s g.2 n.deed hwg) (hg:=⟨hJ.ok,gn.2,trivial⟩) fun hz=>.p g.1 1 (h:=by unfold I64;omega) <|
      .n tk (g.1+1,(doD g.2 n.deed).1) [(5,10),(6,11)] (h1:=hJ.next hn hz.1.1) (h2:=by show ns.length-(g.1+1)<_;omega))
     (fun h=>.rt g.2 ⟨hJ.all h,hJ.ok,trivial⟩)) aB
noncomputable def iM (d:Disk):List Note:=jP ([],moN d) (fO (cX d.files logN)).1
def pU (q:Int) (ns:List Note):Int:=match ns.getLast? with | some n=>n.seq | none=>q
noncomputable def cW (d:Disk):Yard×Int×Bool:=if moB d=true/\aS d=true then (tF (moY d) (iM d),pU (moN d) (iM d),true) else (yard0,0,false)
theorem bM2 {d:Disk}(h:¬(moB d=true/\aS d=true)):(yard0,0,false)=cW d:=by unfold cW;rw[if_neg h]
theorem cJ4 {d:Disk}{q:Int}(h1:moB d=true) (h2:aS d=true) (hq:q=pU (moN d) (iM d)):(tF (moY d) (iM d),q,true)=cW d:=by unfold cW;rw[if_pos ⟨h1,h2⟩,hq]
theorem bE5 {q:Int}{ns:List Note}{n:Note}(h:ns[ns.length-1]? = some n):n.seq=pU q ns:=by
 unfold pU;rw[getLast?_eq_getElem?,h]
theorem bE7 {q:Int}{ns:List Note}(h:¬(0:Int)<ns.length):q=pU q ns:=by
 have:ns=[]:=eq_nil_of_length_eq_zero aA;subst this;rfl
theorem cD2 (d:Disk):(moY d).wt<=60100:=by
 unfold moY moC moR;split
 ·exact(by decide:yardNew.wt<=60100)
 unfold rmS;split
 ·next hc=>
  have h1:=readYS_wt hc.2.2.2.2.2;have h2:=hc.2.2.2.1;rw[ByteArray.size_extract]at h1;simp only;omega
 exact(by decide:yard0.wt<=60100)
theorem cX7 (d:Disk):I64 (moN d):=by
 unfold moN moC moR;split
 ·exact z64
 unfold rmS;split
 ·exact bY7 _ _
 exact z64
theorem uW (d:Disk):(iM d).length<=60000/\∀n∈iM d,n.ok/\1<=n.seq/\n.seq<=1000000000:=by
 have h1:=aT4 (cX d.files logN);have h2:=aQ9 (fO (cX d.files logN)).1 ([],moN d);refine⟨by have:=h2.2;simp only[length_nil]at this;unfold iM;omega,fun n hn=>?_⟩;rcases h2.1 n hn with h | h
 ·cases h
 exact h1.1 n h
theorem bD0 (s:ByteArray):∀n∈(fO s).1,n.deed.plan.edges.length<=1048576:=by
 have key:∀(bs:List ByteArray) (a:List Note×Int),(∀n∈a.1,n.deed.plan.edges.length<=31)->∀n∈(lL a bs).1,n.deed.plan.edges.length<=31:=by
  intro bs
  induction bs with
  | nil=>exact fun a h=>h
  | cons b bs ih=>
   intro a h;rw[pR];split
   ·next hn=>
    refine ih _ fun n hm=>?_
    rcases mem_append.1 hm with hm | hm
    ·exact h n hm
    rw[mem_singleton]at hm;rw[hm];exact(xJ hn.1).2.2.1
   exact h
 intro n hn;have:=key (iK s).1 ([],0) (fun n h=>by cases h) n hn;omega
theorem Recovered_i (d:Disk) (hw:d.wt<=1048576):Ct1 prog 179 [.S d] [.S (cW d).1,.I (cW d).2.1,.B (cW d).2.2]:=
 .one (cW d) (rk:=fun q=>[.S q.1,.I q.2.1,.B q.2.2])<|vc func179 (fun (hg:gin [Par.S d])=>let hl:d.files.length<=1048576:=Nat.le_trans (rM d) hw
  let hs:(cX d.files logN).size<=1048576:=Nat.le_trans (qY d logN) hw
  .c func258 (show Ct1 prog 258 [.S d] [.S (moY d),.I (moN d),.B (moB d)] from MarkOfID d hw) (hg:=⟨hg.1.1,trivial⟩) fun gm=>let gy:(moY d).ok:=gm.1.1
  .v (moB d)
   (fun h=>.rt (yard0,0,false) ⟨bM2 (fun hc=>by rw[h]at hc;cases hc.1),dB,trivial⟩)
   (fun h1=>.c func92 (qB d) (hg:=⟨hg.1.1,trivial⟩) fun _=>.v (aS d)
    (fun h=>.rt (yard0,0,false) ⟨bM2 (fun hc=>by rw[h]at hc;cases hc.2),dB,trivial⟩)
    (fun h2=>.c func181 (aH4 d logN hl) (hg:=⟨hg.1.1,trivial⟩) fun _=>.c func180 (bJ4 (cX d.files logN) hs) fun _=>
     .c func259 (Since_i (fO (cX d.files logN)).1 (moN d) (cX7 d) (by have:=(aT4 (cX d.files logN)).2.1;omega) (bD0 _)) fun _=>
     let fin:∀q:Int,q=pU (moN d) (iM d)->D prog (fun a:Yard×Int×Bool=>a=cW d/\rgd [Rk.S a.1,Rk.I a.2.1,Rk.B a.2.2]):=fun q hq=>.c func260 (Replay_i (moY d) (iM d) (by have:=cD2 d;omega) (by have:=(uW d).1;omega)) (hg:=⟨gy,trivial⟩) fun gr=>.rt (tF (moY d) (iM d),q,true) ⟨cJ4 h1 h2 hq,gr.1.1,trivial⟩
     .s ((0:Int)<(iM d).length)
      (fun h3=>.m (iM d).length 1 (h:=by unfold I64;have:=(uW d).1;omega)<|.xe (iM d) ((iM d).length-1) (((iM d).length:Int)-1) (h:=by omega) (he:=by omega) fun n hn gn=>fin n.seq (bE5 hn))
      (fun h3=>fin (moN d) (bE7 h3))))) aB
theorem aL4 (d:Disk) (hw:d.wt<=1048576):Ct1 prog 86 [.S d] [.S (cW d).1,.I (cW d).2.1,.B (cW d).2.2]:=
 .one (cW d) (rk:=fun q=>[.S q.1,.I q.2.1,.B q.2.2])<|vc func86 (fun (hg:gin [Par.S d])=>let hl:d.files.length<=1048576:=Nat.le_trans (rM d) hw
  let hs:(cX d.files logN).size<=1048576:=Nat.le_trans (qY d logN) hw
  .c func145 (show Ct1 prog 145 [.S d] [.S (moY d),.I (moN d),.B (moB d)] from MarkOfSD d hw) (hg:=⟨hg.1.1,trivial⟩) fun gm=>let gy:(moY d).ok:=gm.1.1
  .c func75 (jZ d) (hg:=⟨hg.1.1,trivial⟩) fun _=>.v (aS d)
   (fun h=>.rt (yard0,0,false) ⟨bM2 (fun hc=>by rw[h]at hc;cases hc.2),dB,trivial⟩)
   (fun h2=>.v (moB d)
    (fun h=>.rt (yard0,0,false) ⟨bM2 (fun hc=>by rw[h]at hc;cases hc.1),dB,trivial⟩)
    (fun h1=>.c func144 (aH3 d logN hl) (hg:=⟨hg.1.1,trivial⟩) fun _=>.c func143 (bJ3 (cX d.files logN) hs) fun _=>
     .c func146 (Since_s (fO (cX d.files logN)).1 (moN d) (cX7 d) (by have:=(aT4 (cX d.files logN)).2.1;omega) (bD0 _)) fun _=>
     let fin:∀q:Int,q=pU (moN d) (iM d)->D prog (fun a:Yard×Int×Bool=>a=cW d/\rgd [Rk.S a.1,Rk.I a.2.1,Rk.B a.2.2]):=fun q hq=>.c func147 (Replay_s (moY d) (iM d) (by have:=cD2 d;omega) (by have:=(uW d).1;omega)) (hg:=⟨gy,trivial⟩) fun gr=>.rt (tF (moY d) (iM d),q,true) ⟨cJ4 h1 h2 hq,gr.1.1,trivial⟩
     .s ((0:Int)<(iM d).length)
      (fun h3=>.m (iM d).length 1 (h:=by unfold I64;have:=(uW d).1;omega)<|.xe (iM d) ((iM d).length-1) (((iM d).length:Int)-1) (h:=by omega) (he:=by omega) fun n hn gn=>fin n.seq (bE5 hn))
      (fun h3=>fin (moN d) (bE7 h3))))) aB
noncomputable def uG (e:Engine) (d:Deed):ByteArray:=dG (gQ ⟨e.next,d⟩)
noncomputable def bH6 (e:Engine) (d:Deed):Disk×Bool:=eC e.disk logN (uG e d)
noncomputable def bH7 (e:Engine) (d:Deed):Engine:=⟨(doD e.yard d).1,(bH6 e d).1,e.next+1,e.calls+1,e.waits++[⟨e.calls+1,(doD e.yard d).2⟩],e.state,e.broken⟩
noncomputable def bS (e:Engine) (d:Deed):Engine×Int:=
 if dQ e=false then (e,8) else if e.state=3 then (e,15) else if e.state=2 then (e,14) else if uG e d=⟨#[]⟩ then (e,5) else if (e.waits.length:Int)=60 then (e,7) else if e.broken=true then (brk e,14) else if (bH6 e d).2=false then (e,7) else (bH7 e d,0)
section
variable {e:Engine}{d:Deed}
theorem cal_8 (h:dQ e=false):(e,8)=bS e d:=by unfold bS;rw[if_pos h]
variable (h0:dQ e=true)
include h0
theorem dB4 (h1:e.state=3):(e,15)=bS e d:=by unfold bS;rw[if_neg (by rw[h0];simp),if_pos h1]
variable (h1:¬e.state=3)
include h1
theorem dB5 (h2:e.state=2):(e,14)=bS e d:=by unfold bS;rw[if_neg (by rw[h0];simp),if_neg h1,if_pos h2]
variable (h2:¬e.state=2)
include h2
theorem dB3 (h3:uG e d=⟨#[]⟩):(e,5)=bS e d:=by unfold bS;rw[if_neg (by rw[h0];simp),if_neg h1,if_neg h2,if_pos h3]
variable (h3:¬uG e d=⟨#[]⟩)
include h3
theorem cal_7 (h4:(e.waits.length:Int)=60):(e,7)=bS e d:=by unfold bS;rw[if_neg (by rw[h0];simp),if_neg h1,if_neg h2,if_neg h3,if_pos h4]
variable (h4:¬(e.waits.length:Int)=60)
include h4
theorem cal_b (h5:e.broken=true):(brk e,14)=bS e d:=by unfold bS;rw[if_neg (by rw[h0];simp),if_neg h1,if_neg h2,if_neg h3,if_neg h4,if_pos h5]
variable (h5:e.broken=false)
include h5
theorem cal_w (h6:(bH6 e d).2=false):(e,7)=bS e d:=by unfold bS;rw[if_neg (by rw[h0];simp),if_neg h1,if_neg h2,if_neg h3,if_neg h4,if_neg (by rw[h5];simp),if_pos h6]
theorem cal_0 (h6:(bH6 e d).2=true):(bH7 e d,0)=bS e d:=by unfold bS;rw[if_neg (by rw[h0];simp),if_neg h1,if_neg h2,if_neg h3,if_neg h4,if_neg (by rw[h5];simp),if_neg (by rw[h6];simp)]
end
theorem callT_no {e:Engine}{d:Deed}(h:aV d=false):uG e d=⟨#[]⟩:=by
 unfold uG;rw[<- nA (fun hc=>by have:aV d=true:=hc.1;rw[h]at this;cases this)];exact(fo_e rfl).symm
theorem vH (t:ByteArray):(dG t).size<=1000000000:=by
 unfold dG;split
 ·next h=>
  have:=inB_iff'.1 h;have:=eW (t.size:Int);have:=vJ (cA t);rw[ByteArray.size_append,ByteArray.size_append];omega
 exact Nat.zero_le _
theorem zY:logN.size<=maxLen:=by unfold maxLen;decide
theorem sS {e:Engine}(h:dQ e=true):(1<=e.next/\e.next<=999999999)/\(0<=e.calls/\e.calls<=999999999)/\e.waits.length<=60:=by
 have hp:=engOk_iff.1 h;have h1:=inB_iff'.1 hp.next;have h2:=inB_iff'.1 hp.calls;have h3:=hp.waits;exact⟨h1,h2,by omega⟩
theorem bD9 {e:Engine}{d:Deed}(ge:e.ok) (gd:d.ok):Note.ok ⟨e.next,d⟩:=⟨ge.2.1,gd⟩
abbrev engR (e:Engine):Rk := .cl [.v (I e.yard.now),.v (I e.yard.seq),.o (inferInstance:Shape (List Entry)) e.yard.shelf,.o (inferInstance:Shape Run) e.yard.runs,.o (inferInstance:Shape File) e.disk.files,.v (I e.next),.v (I e.calls),.r (inferInstance:Shape Wait) 88 e.waits,.v (I e.state),.v (.bool e.broken)]
theorem CopyEngineR_i (e:Engine) (hw:e.yard.wt<=1048576) (hd:e.disk.files.length<=1048576) (hs:e.waits.length<=1048576):Ct1 prog 89 [.S e] [engR e]:=
 vc func89 (fun hg=>.c func149 (aZ1 e.yard hw) (hg:=⟨hg.1.1.1,trivial⟩) fun _=>.c func150 (iR e.disk aA) fun _=>.as (inferInstance:Shape Wait) oT [] e.waits 40 (by simp only[length_nil];unfold maxLen;omega) (by simp only[length_nil];omega)<|.wt 15<|.sh 8<|.rt () ⟨trivial,trivial⟩) aB
theorem CopyEngineR_s (e:Engine) (hw:e.yard.wt<=1048576) (hd:e.disk.files.length<=1048576) (hs:e.waits.length<=1048576):Ct1 prog 73 [.S e] [engR e]:=
 vc func73 (fun hg=>.c func117 (aZ0 e.yard hw) (hg:=⟨hg.1.1.1,trivial⟩) fun _=>.c func118 (dN e.disk aA) fun _=>.e Wait<|.as (inferInstance:Shape Wait) oT [] e.waits 40 (by simp only[length_nil];unfold maxLen;omega) (by simp only[length_nil];omega)<|.wt 16<|.sh 8<|.rt () ⟨trivial,trivial⟩) aB
theorem bH5 {e:Engine}{d:Deed}(ge:e.ok) (h:dQ e=true) (gy:(doD e.yard d).1.ok):(bH7 e d).ok:=by
 have hc:=sS h;exact⟨gy,by show I64 (e.next+1);unfold I64;omega,by show I64 (e.calls+1);unfold I64;omega,ge.2.2.2⟩
theorem Call_i (e:Engine) (d:Deed) (hw:e.yard.wt<=1048576) (hl:e.disk.files.length<=1048576) (hs:e.waits.length<=1048576):Ct1 prog 52 [.S e,.S d] [.S (bS e d).1,.I (bS e d).2]:=
 .one (bS e d) (rk:=fun q=>[.S q.1,.I q.2])<|vc func52 (fun (hg:gin [Par.S e,Par.S d])=>let ge:e.ok:=hg.1.1
  let gd:d.ok:=hg.2.1.1
  let gb:(brk e).ok:=⟨ge.1,ge.2.1,ge.2.2.1,by show I64 2;unfold I64;omega⟩
  .c func89 (CopyEngineR_i e hw hl hs) (hg:=⟨ge,trivial⟩) fun _=>.c func94 (yK ⟨e.next,d⟩) (hg:=⟨bD9 ge gd,trivial⟩) fun _=>.c func93 (aH6 (gQ ⟨e.next,d⟩) (by have:=sI ⟨e.next,d⟩;omega)) fun _=>
  .c func51 (rZ e hw) (hg:=⟨ge,trivial⟩) fun _=>.v (dQ e) (fun h=>.sh 11<|.rt (e,8) ⟨cal_8 h,ge,trivial⟩) (fun h0=>
  .s (e.state=3) (fun h=>.sh 11<|.rt (e,15) ⟨dB4 h0 h,ge,trivial⟩) (fun h1=>
  .s (e.state=2) (fun h=>.sh 11<|.rt (e,14) ⟨dB5 h0 h1 h,ge,trivial⟩) (fun h2=>
  .c func95 (aY7 d) (hg:=⟨gd,trivial⟩) fun _=>.v (aV d) (fun h=>.sh 11<|.rt (e,5) ⟨dB3 h0 h1 h2 (callT_no h),ge,trivial⟩) (fun _=>
  .s (uG e d=⟨#[]⟩) (fun h=>.sh 11<|.rt (e,5) ⟨dB3 h0 h1 h2 h,ge,trivial⟩) (fun h3=>
  .s ((e.waits.length:Int)=60) (fun h=>.sh 11<|.rt (e,7) ⟨cal_7 h0 h1 h2 h3 h,ge,trivial⟩) (fun h4=>
  .sb e.broken (fun h=>.c func96 (bQ8 e hw hl hs) (hg:=⟨ge,trivial⟩) fun _=>.rt (brk e,14) ⟨cal_b h0 h1 h2 h3 h4 h,gb,trivial⟩) (fun h5=>
  .c func97 (yG e.disk logN (uG e d) hl zY (vH _)) fun _=>.v (bH6 e d).2 (fun h=>.sh 11<|.rt (e,7) ⟨cal_w h0 h1 h2 h3 h4 h5 h,ge,trivial⟩) (fun h6=>let hc:=sS h0
  .c func98 (Do_i e.yard d hw) (hg:=⟨ge.1,gd,trivial⟩) fun hz=>.p e.next 1<|.p e.calls 1<|.a e.waits ⟨e.calls+1,(doD e.yard d).2⟩ 40 (hy:=(show Wait.ok ⟨e.calls+1,(doD e.yard d).2⟩ from ⟨by show I64 (e.calls+1);unfold I64;omega,hz.2.1.1⟩)) (hby:=by omega)<|.sh 11 <|
   .rt (bH7 e d,0) ⟨cal_0 h0 h1 h2 h3 h4 h5 h6,bH5 ge h0 hz.1.1,trivial⟩))))))))) aB
theorem Call_s (e:Engine) (d:Deed) (hw:e.yard.wt<=1048576) (hl:e.disk.files.length<=1048576) (hs:e.waits.length<=1048576):Ct1 prog 39 [.S e,.S d] [.S (bS e d).1,.I (bS e d).2]:=
 .one (bS e d) (rk:=fun q=>[.S q.1,.I q.2])<|vc func39 (fun (hg:gin [Par.S e,Par.S d])=>let ge:e.ok:=hg.1.1
  let gd:d.ok:=hg.2.1.1
  let gb:(brk e).ok:=⟨ge.1,ge.2.1,ge.2.2.1,by show I64 2;unfold I64;omega⟩
  .c func73 (CopyEngineR_s e hw hl hs) (hg:=⟨ge,trivial⟩) fun _=>.c func77 (yJ ⟨e.next,d⟩) (hg:=⟨bD9 ge gd,trivial⟩) fun _=>.c func76 (aH5 (gQ ⟨e.next,d⟩) (by have:=sI ⟨e.next,d⟩;omega)) fun _=>
  .c func38 (rY e hw) (hg:=⟨ge,trivial⟩) fun _=>.v (dQ e) (fun h=>.sh 11<|.rt (e,8) ⟨cal_8 h,ge,trivial⟩) (fun h0=>
  .s (e.state=3) (fun h=>.sh 11<|.rt (e,15) ⟨dB4 h0 h,ge,trivial⟩) (fun h1=>
  .s (e.state=2) (fun h=>.sh 11<|.rt (e,14) ⟨dB5 h0 h1 h,ge,trivial⟩) (fun h2=>
  .s (uG e d=⟨#[]⟩) (fun h=>.sh 11<|.rt (e,5) ⟨dB3 h0 h1 h2 h,ge,trivial⟩) (fun h3=>
  .s ((e.waits.length:Int)=60) (fun h=>.sh 11<|.rt (e,7) ⟨cal_7 h0 h1 h2 h3 h,ge,trivial⟩) (fun h4=>
  .sb e.broken (fun h=>.sh 11<|.rt (brk e,14) ⟨cal_b h0 h1 h2 h3 h4 h,gb,trivial⟩) (fun h5=>
  .c func78 (yF e.disk logN (uG e d) hl zY (vH _)) fun _=>.v (bH6 e d).2 (fun h=>.sh 11<|.rt (e,7) ⟨cal_w h0 h1 h2 h3 h4 h5 h,ge,trivial⟩) (fun h6=>let hc:=sS h0
  .c func79 (Do_s e.yard d hw) (hg:=⟨ge.1,gd,trivial⟩) fun hz=>.p e.next 1<|.p e.calls 1<|.a e.waits ⟨e.calls+1,(doD e.yard d).2⟩ 40 (hy:=(show Wait.ok ⟨e.calls+1,(doD e.yard d).2⟩ from ⟨by show I64 (e.calls+1);unfold I64;omega,hz.2.1.1⟩)) (hby:=by omega)<|.sh 11 <|
   .rt (bH7 e d,0) ⟨cal_0 h0 h1 h2 h3 h4 h5 h6,bH5 ge h0 hz.1.1,trivial⟩)))))))) aB
def startD:Deed:=⟨8,0,zP,0,0,0,0⟩
theorem mB:startD.ok:=⟨by show I64 8;unfold I64;omega,z64,pJ,z64,z64,z64,z64⟩
def eng0:Engine:=⟨yard0,⟨[]⟩,0,0,[],0,false⟩
theorem vN:eng0.ok:=⟨dB,z64,z64,z64⟩
noncomputable def aB7 (d:Disk):Disk:=if 0<=fAt d.files logN then (bY d logN (fO (cX d.files logN)).2).1 else d
noncomputable def rW (d:Disk):Disk×Bool:=eC (aB7 d) logN (dG (gQ ⟨(cW d).2.1+1,startD⟩))
noncomputable def cA6 (d:Disk):Engine:=⟨(doD (cW d).1 startD).1,(rW d).1,(cW d).2.1+2,0,[],1,false⟩
noncomputable def bW (d:Disk):Engine×Bool:=if ¬((cW d).2.2=true/\¬(999999997:Int)<(cW d).2.1) then (eng0,false) else if (rW d).2=false then (eng0,false) else (cA6 d,true)
theorem bP4 {d:Disk}(h:¬((cW d).2.2=true/\¬(999999997:Int)<(cW d).2.1)):(eng0,false)=bW d:=by unfold bW;rw[if_pos h]
theorem boo_w {d:Disk}(h1:(cW d).2.2=true) (h2:¬(999999997:Int)<(cW d).2.1) (h:(rW d).2=false):(eng0,false)=bW d:=by unfold bW;rw[if_neg (fun hc=>hc ⟨h1,h2⟩),if_pos h]
theorem boo_0 {d:Disk}(h1:(cW d).2.2=true) (h2:¬(999999997:Int)<(cW d).2.1) (h:(rW d).2=true):(cA6 d,true)=bW d:=by unfold bW;rw[if_neg (fun hc=>hc ⟨h1,h2⟩),if_neg (by rw[h];simp)]
theorem recW (d:Disk):(cW d).1.wt<=1048576:=by
 unfold cW;split
 ·exact bM1 _ (by have:=cD2 d;omega)
 exact(by decide:yard0.wt<=1048576)
theorem recQ {d:Disk}(h:(cW d).2.2=true):0<=(cW d).2.1:=by
 unfold cW at h ⊢;split
 ·simp only;have hq:0<=moN d:=by
   unfold moN moC moR;split
   ·exact Int.le_refl _
   unfold rmS;split
   ·next hc=>
    have:=(aF1 hc.1).1;simp only;omega
   exact Int.le_refl _
  unfold pU;split
  ·next n hn=>
   have:=(uW d).2 n (mem_of_getLast? hn);omega
  exact hq
 next hc=>rw[if_neg hc]at h;cases h
theorem cut_len (d:Disk) (nm:ByteArray) (n:Int) (hl:d.files.length<=1048576):(bY d nm n).1.files.length<=1048576:=by
 unfold bY;split
 ·unfold cR6;simp only;split
  ·rw[length_set];exact hl
  exact hl
 exact hl
theorem dA6 {d:Disk}(h:0<=fAt d.files logN):(bY d logN (fO (cX d.files logN)).2).1=aB7 d:=by unfold aB7;rw[if_pos h]
theorem dA7 {d:Disk}(h:¬0<=fAt d.files logN):d=aB7 d:=by unfold aB7;rw[if_neg h]
theorem cA0 (d:Disk) (hl:d.files.length<=1048576):(aB7 d).files.length<=1048576:=by
 unfold aB7;split
 ·exact cut_len _ _ _ hl
 exact hl
theorem aR2 {d:Disk}(h:(cW d).2.2=true) (h2:¬(999999997:Int)<(cW d).2.1):I64 ((cW d).2.1+1)/\I64 ((cW d).2.1+2):=by
 have:=recQ h;unfold I64;omega
theorem bI0 {d:Disk}(h:(cW d).2.2=true) (h2:¬(999999997:Int)<(cW d).2.1) (gy:(doD (cW d).1 startD).1.ok):(cA6 d).ok:=⟨gy,(aR2 h h2).2,z64,by show I64 1;unfold I64;omega⟩
theorem Boot_i (d:Disk) (hw:d.wt<=1048576):Ct1 prog 103 [.S d] [.S (bW d).1,.B (bW d).2]:=
 .one (bW d) (rk:=fun q=>[.S q.1,.B q.2])<|vc func103 (fun (hg:gin [Par.S d])=>let hl:d.files.length<=1048576:=Nat.le_trans (rM d) hw
  let hs:(cX d.files logN).size<=1048576:=Nat.le_trans (qY d logN) hw
  .c func179 (Recovered_i d hw) (hg:=⟨hg.1.1,trivial⟩) fun gr=>let gy:(cW d).1.ok:=gr.1.1
  .v (cW d).2.2 (fun h=>.rt (eng0,false) ⟨bP4 (fun hc=>by rw[h]at hc;cases hc.1),vN,trivial⟩) (fun h1=>
  .s ((999999997:Int)<(cW d).2.1) (fun h=>.rt (eng0,false) ⟨bP4 (fun hc=>hc.2 h),vN,trivial⟩) (fun h2=>
  let fin:∀x:Disk,x=aB7 d->D prog (fun a:Engine×Bool=>a=bW d/\rgd [Rk.S a.1,Rk.B a.2]):=fun x hx=>.p (cW d).2.1 1 (h:=(aR2 h1 h2).1)<|.c func94 (yK ⟨(cW d).2.1+1,startD⟩) (hg:=⟨⟨(aR2 h1 h2).1,mB⟩,trivial⟩) fun _=>.c func93 (aH6 (gQ ⟨(cW d).2.1+1,startD⟩) (by have:=sI ⟨(cW d).2.1+1,startD⟩;omega)) fun _=>
   .c func97 (show Ct1 prog 97 [.S x,.T logN,.T (dG (gQ ⟨(cW d).2.1+1,startD⟩))] [.S (rW d).1,.B (rW d).2] by subst hx;exact yG (aB7 d) logN _ (cA0 d hl) zY (vH _)) fun _=>.v (rW d).2
    (fun h=>.rt (eng0,false) ⟨boo_w h1 h2 h,vN,trivial⟩)
    (fun h3=>.c func98 (Do_i (cW d).1 startD (recW d)) (hg:=⟨gy,mB,trivial⟩) fun hz=>.p (cW d).2.1 2 (h:=(aR2 h1 h2).2)<|.rt (cA6 d,true) ⟨boo_0 h1 h2 h3,bI0 h1 h2 hz.1.1,trivial⟩)
  .c func150 (iR d aA) (hg:=⟨hg.1.1,trivial⟩) fun _=>.sh 6<|.c func159 (lW d logN) (hg:=⟨hg.1.1,trivial⟩) fun _=>.s ((0:Int)<=fAt d.files logN)
   (fun h3=>.c func181 (aH4 d logN hl) (hg:=⟨hg.1.1,trivial⟩) fun _=>.c func180 (bJ4 (cX d.files logN) hs) fun _=>.c func176 (aY9 d logN (fO (cX d.files logN)).2 hl) (hg:=⟨hg.1.1,trivial⟩) fun _=>fin (bY d logN (fO (cX d.files logN)).2).1 (dA6 h3))
   (fun h3=>fin d (dA7 h3))))) aB
theorem Boot_s (d:Disk) (hw:d.wt<=1048576):Ct1 prog 84 [.S d] [.S (bW d).1,.B (bW d).2]:=
 .one (bW d) (rk:=fun q=>[.S q.1,.B q.2])<|vc func84 (fun (hg:gin [Par.S d])=>let hl:d.files.length<=1048576:=Nat.le_trans (rM d) hw
  let hs:(cX d.files logN).size<=1048576:=Nat.le_trans (qY d logN) hw
  .c func86 (aL4 d hw) (hg:=⟨hg.1.1,trivial⟩) fun gr=>let gy:(cW d).1.ok:=gr.1.1
  .v (cW d).2.2 (fun h=>.rt (eng0,false) ⟨bP4 (fun hc=>by rw[h]at hc;cases hc.1),vN,trivial⟩) (fun h1=>
  .s ((999999997:Int)<(cW d).2.1) (fun h=>.rt (eng0,false) ⟨bP4 (fun hc=>hc.2 h),vN,trivial⟩) (fun h2=>
  let fin:∀x:Disk,x=aB7 d->D prog (fun a:Engine×Bool=>a=bW d/\rgd [Rk.S a.1,Rk.B a.2]):=fun x hx=>.p (cW d).2.1 1 (h:=(aR2 h1 h2).1)<|.c func77 (yJ ⟨(cW d).2.1+1,startD⟩) (hg:=⟨⟨(aR2 h1 h2).1,mB⟩,trivial⟩) fun _=>.c func76 (aH5 (gQ ⟨(cW d).2.1+1,startD⟩) (by have:=sI ⟨(cW d).2.1+1,startD⟩;omega)) fun _=>
   .c func78 (show Ct1 prog 78 [.S x,.T logN,.T (dG (gQ ⟨(cW d).2.1+1,startD⟩))] [.S (rW d).1,.B (rW d).2] by subst hx;exact yF (aB7 d) logN _ (cA0 d hl) zY (vH _)) fun _=>.v (rW d).2
    (fun h=>.rt (eng0,false) ⟨boo_w h1 h2 h,vN,trivial⟩)
    (fun h3=>.p (cW d).2.1 2 (h:=(aR2 h1 h2).2)<|.c func79 (Do_s (cW d).1 startD (recW d)) (hg:=⟨gy,mB,trivial⟩) fun hz=>.rt (cA6 d,true) ⟨boo_0 h1 h2 h3,bI0 h1 h2 hz.1.1,trivial⟩)
  .c func118 (dN d aA) (hg:=⟨hg.1.1,trivial⟩) fun _=>.sh 6<|.c func126 (mT d logN aA) fun _=>.s ((0:Int)<=fAt d.files logN)
   (fun h3=>.c func144 (aH3 d logN hl) fun _=>.c func143 (bJ3 (cX d.files logN) hs) fun _=>.c func140 (aY8 d logN (fO (cX d.files logN)).2 hl) fun _=>fin (bY d logN (fO (cX d.files logN)).2).1 (dA6 h3))
   (fun h3=>fin d (dA7 h3))))) aB
abbrev N9 (z:Int):Prop:=0<=z/\z<=1000000000
theorem plan_n9 {p:Plan}(h:aC p=0):∀z∈jN p,N9 z:=by
 obtain⟨h1,h2,_,_⟩:=jV h;have hm:(1<=p.tasks/\p.tasks<=12)/\p.edges.length<=30/\(0<=p.prio/\p.prio<=9)/\(1<=p.most/\p.most<=5)/\(1<=p.wait/\p.wait<=20):=by unfold aR at h1;omega
 intro z hz;rw[qZ]at hz;simp only[mem_cons,mem_flatMap]at hz;rcases hz with rfl | rfl | rfl | rfl | rfl | ⟨e,he,hz⟩
 ·exact⟨by omega,by omega⟩
 ·exact⟨by omega,by omega⟩
 ·exact⟨by omega,by omega⟩
 ·exact⟨by omega,by omega⟩
 ·exact⟨by omega,by omega⟩
 have:=h2 e he;simp only[pD,mem_cons,not_mem_nil,or_false]at hz;rcases hz with rfl | rfl
 ·exact⟨by omega,by omega⟩
 exact⟨by omega,by omega⟩
theorem run_n9 {r:Run}(h:RunIs r):∀z∈kR r,N9 z:=by
 have hid:=h.id;have hst:0<=r.state/\r.state<=4:=by
  have:=h.state;unfold bK at this
  repeat' split at this
  all_goals omega
 intro z hz;simp only[kR,mem_cons,mem_append,mem_flatMap]at hz;rcases hz with rfl | hz | rfl | ⟨t,ht,hz⟩
 ·exact⟨by omega,by omega⟩
 ·exact plan_n9 h.plan z hz
 ·exact⟨by omega,by omega⟩
 obtain⟨k,hk,rfl⟩:=getElem_of_mem ht;obtain⟨t1,t2,t3,t4,t5,_⟩:=h.task k hk hk;have hn:=h.need _ (getElem_mem hk);have hm:r.plan.most<=5:=by have:=(jV h.plan).1;unfold aR at this;omega
 simp only[fT,mem_cons,not_mem_nil,or_false]at hz;rcases hz with rfl | rfl | rfl | rfl
 ·exact⟨by omega,by omega⟩
 ·exact⟨by omega,by omega⟩
 ·exact⟨by omega,by omega⟩
 by_cases h3:r.tasks[k].state=3
 ·have:=t4 h3;exact⟨by omega,by omega⟩
 have:=t5 h3;exact⟨by omega,by omega⟩
theorem yard_n9 {y:Yard}(h:YG y) (hs:y.seq<=1000000000):∀z∈dA y,N9 z:=by
 have hc:=h.core;have h1:=hc.seq1;have h2:=h.now;have h8:=hc.eight;intro z hz;simp only[dA,mem_cons,mem_append,mem_flatMap]at hz;rcases hz with rfl | rfl | ⟨l,hl,hz⟩ | rfl | ⟨r,hr,hz⟩
 ·exact⟨by omega,by omega⟩
 ·exact⟨by omega,by omega⟩
 ·simp only[gT,mem_cons,mem_flatMap]at hz;rcases hz with rfl | ⟨e,he,hz⟩
  ·have:=(sublist_flatten_of_mem hl).length_le;have:=hc.len;exact⟨by omega,by omega⟩
  have hem:e∈y.shelf.flatten:=mem_flatten.2 ⟨l,hl,he⟩;obtain⟨r,hr⟩:=hc.ent e hem;have hq:=hc.seqs e hem;have hR:=(hc.runs r hr.mem).1;have hp:0<=r.plan.prio/\r.plan.prio<=9:=by have:=(jV hR.plan).1;unfold aR at this;omega
  have hid:=hR.id;have h12:=hR.small.2.1;obtain⟨t,ht,_⟩:=hr.task;have hlt:=(gsi_.1 ht).1;have hlo:=hr.lo;have e1:=hr.id;have e2:=hr.prio;simp only[eX,mem_cons,not_mem_nil,or_false]at hz;rcases hz with rfl | rfl | rfl | rfl
  ·exact⟨by omega,by omega⟩
  ·exact⟨by omega,by omega⟩
  ·exact⟨by omega,by omega⟩
  exact⟨by omega,by omega⟩
 ·exact⟨by omega,by omega⟩
 exact run_n9 (hc.runs r hr).1 z hz
theorem n9_cast {l:List Int}(h:∀z∈l,N9 z):∃ns,gW ns/\l=gS ns:=by
 refine⟨l.map Int.toNat,fun m hm=>?_,?_⟩
 ·obtain⟨z,hz,rfl⟩:=mem_map.1 hm;have:=h z hz;omega
 unfold gS;rw[map_map]
 conv=>lhs;rw[<- map_id l]
 exact map_congr_left fun z hz=>by have:=h z hz;simp only[id_eq,Function.comp_apply];omega
theorem yard_same {y y':Yard}{r:List Int}(h:aG y=true) (h':aG y'=true) (e:dA y=dA y'++r):y'=y:=by
 have f1:=yQ numF (sb:=fun _=>false) (fun _=>rfl) (sQ h) (x:=⟨dA y,false⟩) (ns:=[]) ⟨rfl,by rw[append_nil]⟩;have f2:=yQ numF (sb:=fun _=>false) (fun _=>rfl) (sQ h') (x:=⟨dA y,false⟩) (ns:=r) ⟨rfl,e⟩;exact f2.1.symm.trans f1.1
structure MkY (B:Int) (y:Yard):Prop where
 good:YG y
 time:InTime y
 seq:y.seq<=B
def MkP (B:Int) (s:ByteArray):Prop:=∃q y n,MkY B y/\s.data.toList=(iP q (dW y)).data.toList.take n
theorem MkP.mono {B B':Int}{s:ByteArray}(h:MkP B s) (hb:B<=B'):MkP B' s:=by
 obtain⟨q,y,n,hy,e⟩:=h;exact⟨q,y,n,⟨hy.good,hy.time,by have:=hy.seq;omega⟩,e⟩
theorem MkP.cut {B:Int}{s:ByteArray}(h:MkP B s) (k:Nat):MkP B (s.extract 0 k):=by
 obtain⟨q,y,n,hy,e⟩:=h;refine⟨q,y,min k n,hy,?_⟩;rw[Lib.extract_data,drop_zero,Nat.sub_zero,e,take_take]
theorem MkP.none_ {B:Int}(hB:1<=B):MkP B ⟨#[]⟩:=⟨0,yardNew,0,⟨gd_new.1,gd_new.2,by show (1:Int)<=B;exact hB⟩,by simp⟩
theorem MkP.all {B q:Int}{y:Yard}(hy:MkY B y):MkP B (iP q (dW y)):=⟨q,y,(iP q (dW y)).data.toList.length,hy,by rw[take_length]⟩
theorem MkP.read {B:Int}{s:ByteArray}(h:MkP B s) (hB:B<=1000000000) (hr:(rmS eB s).2.2=true):MkY B (rmS eB s).1:=by
 obtain⟨q,y,n,hy,e⟩:=h;unfold rmS at hr ⊢;split at hr
 ·next hc=>
  rw[if_pos hc];obtain⟨c1,c2,c3,c4,c5,c6⟩:=hc;have hl4:=oI c1;have hl8:=oI c2;have hlen:s.data.toList.length=s.size:=rfl;have hok:=hy.good.ok hy.time (by have:=hy.seq;omega);have hm:inB q 0 1000000000=true/\¬dW y=⟨#[]⟩/\(dW y).size+8<=60000:=by
   apply Classical.byContradiction;intro hn;rw[<- nD hn]at e;have:s.data.toList.length=0:=by rw[e];simp
   omega
  obtain⟨m1,m2,m3⟩:=hm;rw[<- rF m1 m2 m3,rX,rX]at e;have hq:=inB_iff.1 m1;have l1:(bV q).data.toList.length=4:=aF2 ⟨hq.1,by omega⟩;have l2:(bV (cA (dW y))).data.toList.length=4:=aF2 (cH1 _);have e8:(s.extract 8 s.size).data.toList=((dW y).data.toList).take (s.size-8):=by
   rw[Lib.extract_data,e,drop_take,drop_append_of_le_length (by rw[length_append];omega)];rw[drop_of_length_le (by rw[length_append];omega),nil_append,take_take];have hz:s.size<=n:=by
    have:=congrArg List.length e;rw[hlen,length_take]at this;omega
   rw[Nat.min_eq_left aA]
  have hx:=(xI (s:=s.extract 8 s.size) (y:=(eB (s.extract 8 s.size)).1) (by rw[ByteArray.size_extract];omega)).1 (by rw[<- c6]);obtain⟨ok',ns',s9',n9',t9'⟩:=hx;obtain⟨ns,s9,n9⟩:=n9_cast (yard_n9 hy.good (by have:=hy.seq;omega));have et:(dW y).data.toList=dH ns:=by
   unfold dW;rw[if_pos hok,n9];exact mV s9
  rw[e8,et]at t9';have ec:dH ns'++(dH ns).drop (s.size-8)=dH ns:=by rw[t9',take_append_drop]
  obtain⟨ms,e1,_⟩:=nT ec;have:=yard_same hok ok' (r:=gS ms) (by rw[n9,n9',e1,castN_app]);rw[this];exact hy
 cases hr
def isMk (nm:ByteArray):Prop:=nm=nextN∨nm=wO
theorem log_no:¬isMk logN:=by
 rintro(h | h)
 ·exact absurd (congrArg (fun b:ByteArray=>b.size) h) fL
 exact absurd (congrArg (fun b:ByteArray=>b.size) h) fL
def DI (B:Int) (d:Disk):Prop:=∀f∈d.files,isMk f.name->MkP B f.data
theorem DI.mono {B B':Int}{d:Disk}(h:DI B d) (hb:B<=B'):DI B' d:=fun f hf hn=>(h f hf hn).mono hb
theorem DI.set {B:Int}{d:Disk}(h:DI B d) {k:Nat}{g:File}(hg:isMk g.name->MkP B g.data):DI B ⟨d.files.set k g⟩:=fun f hf hn=>by
 rcases mem_or_eq_of_mem_set hf with h1 | rfl
 ·exact h f h1 hn
 ·exact hg hn
theorem DI.sync {B:Int}{d:Disk}(h:DI B d) (nm:ByteArray):DI B (iH d nm).1:=by
 unfold iH;split
 ·unfold synD;simp only;split
  ·next f hf=>exact h.set fun hn=>h f (mem_of_getElem? hf) hn
  exact h
 exact h
theorem DI.cut {B:Int}{d:Disk}(h:DI B d) (nm:ByteArray) (n:Int):DI B (bY d nm n).1:=by
 unfold bY;split
 ·unfold cR6;simp only;split
  ·next f hf=>exact h.set fun hn=>(h f (mem_of_getElem? hf) hn).cut _
  exact h
 exact h
theorem cF3 {d:Disk}{nm:ByteArray}{f:File}(hf:(wrB d nm)[wrK d nm]? = some f):f.name=nm:=by
 by_cases h:fAt d.files nm<0
 ·obtain⟨e1,e2⟩:=yS h;rw[e1,e2,getElem?_append_right (Nat.le_refl _),Nat.sub_self]at hf;cases hf;rfl
 obtain⟨e1,e2⟩:=yT h;rw[e1]at hf;exact rO e2.symm hf
theorem DI.wrB {B:Int}{d:Disk}(h:DI B d) {nm:ByteArray}(hz:MkP B ⟨#[]⟩):DI B ⟨wrB d nm⟩:=by
 unfold Go.Proofs.YtjihdmlkpkkpbaaGreat.wrB;split
 ·intro f hf hn;rcases mem_append.1 hf with h1 | h1
  ·exact h f h1 hn
  rw[mem_singleton]at h1;rw[h1];exact hz
 exact h
theorem DI.write {B:Int}{d:Disk}(h:DI B d) {nm more:ByteArray}(hz:MkP B ⟨#[]⟩) (hm:∀f,(Go.Proofs.YtjihdmlkpkkpbaaGreat.wrB d nm)[wrK d nm]? = some f->isMk nm->MkP B (f.data++more)):DI B (eC d nm more).1:=by
 unfold eC;split
 ·simp only;obtain⟨f,hf⟩:=bA6 d nm;rw[wY more hf];exact(h.wrB hz).set (d:=⟨Go.Proofs.YtjihdmlkpkkpbaaGreat.wrB d nm⟩) fun hn=>hm f hf (by have:=cF3 hf;rw[<- this];exact hn)
 exact h
theorem DI.log {B:Int}{d:Disk}(h:DI B d) (hB:1<=B) (more:ByteArray):DI B (eC d logN more).1:=h.write (MkP.none_ hB) fun f _ hn=>absurd hn log_no
theorem cX4 {B:Int}{d:Disk}(h:DI B d) {k:Nat}{to:ByteArray}(hk:∀f,d.files[k]? = some f->MkP B f.data):∀i,∀f∈mvG d.files k to i,isMk f.name->MkP B f.data
 | 0,f,hf,_=>by cases hf
 | i+1,f,hf,hn=>by
  have ih:=cX4 h (k:=k) (to:=to) hk i;have hf:f∈(match d.files[i]? with | some g=>if g.name=to then mvG d.files k to i else mvG d.files k to i++[if i=k then mvF g to else g] | none=>mvG d.files k to i):=hf;split at hf
  ·next g hg=>
   split at hf
   ·exact ih f hf hn
   ·rcases mem_append.1 hf with h1 | h1
    ·exact ih f h1 hn
    ·rw[mem_singleton]at h1;subst h1;split
     ·next e=>subst e;exact hk g hg
     ·next e=>rw[if_neg e]at hn;exact h g (mem_of_getElem? hg) hn
  ·exact ih f hf hn
theorem DI.move {B:Int}{d:Disk}(h:DI B d):DI B (gZ d nextN wO).1:=by
 unfold gZ;split
 ·next hc=>
  refine cX4 h (fun f hf=>?_) _;obtain⟨k,hk,hlt⟩:=jK hc.1;rw[hk,Int.toNat_natCast]at hf;exact h f (mem_of_getElem? hf) (.inl (rO hk hf))
 exact h
def NE (d:Disk):Prop:=∀f∈d.files,f.name=nextN->f.data=⟨#[]⟩
theorem DI.next {B:Int}{d:Disk}(h:DI B d) (hB:1<=B) (hn:NE d) {more:ByteArray}(hm:MkP B more):DI B (eC d nextN more).1:=h.write (MkP.none_ hB) fun f hf _=>by
 have hd:f.data=⟨#[]⟩:=by
  by_cases hl:fAt d.files nextN<0
  ·obtain⟨e1,e2⟩:=yS hl;rw[e1,e2,getElem?_append_right (Nat.le_refl _),Nat.sub_self]at hf;cases hf;rfl
  obtain⟨e1,e2⟩:=yT hl;have hnm:=cF3 hf;rw[e1]at hf;exact hn f (mem_of_getElem? hf) hnm
 rw[hd];have:(⟨#[]⟩:ByteArray)++more=more:=aG7 (by rw[rX];rfl);rw[this];exact hm
theorem cut_ne {d:Disk}(hd:aS d=true) (h:(pG d nextN).2=true):NE (pG d nextN).1:=by
 unfold pG at h ⊢;split
 ·next h0=>
  rw[if_pos h0]at h;unfold bY at h ⊢;split
  ·next hc=>
   obtain⟨k,hk,hlt⟩:=jK hc.1;intro f hf hn;unfold cR6 at hf;simp only at hf;rw[hk,Int.toNat_natCast,getElem?_eq_getElem hlt]at hf;simp only at hf;obtain⟨j,hj,rfl⟩:=getElem_of_mem hf;rw[length_set]at hj;by_cases e:k=j
   ·subst e;rw[getElem_set_self];show d.files[k].data.extract 0 _=_;refine aG7 ?_;rw[Lib.extract_data];simp
   rw[getElem_set_ne e]at hn ⊢;have:=((diskOk_iff.1 hd).ok j _ (getElem?_eq_getElem hj)).at_;rw[hn,hk]at this;omega
  next hc=>rw[if_neg hc]at h;cases h
 next h0=>
 intro f hf hn;obtain⟨i,hi,rfl⟩:=getElem_of_mem hf;have hi':i<d.files.length:=hi;exact absurd (show fAt d.files nextN<0 by omega) (cN2 (fs:=d.files) (getElem?_eq_getElem hi') hn)
structure EG (B:Int) (e:Engine):Prop where
 yard:MkY B e.yard
 disk:DI B e.disk
theorem EG.mono {B B':Int}{e:Engine}(h:EG B e) (hb:B<=B'):EG B' e:=⟨⟨h.yard.good,h.yard.time,by have:=h.yard.seq;omega⟩,h.disk.mono hb⟩
theorem mst_eg {B:Int}{e:Engine}{k:Nat}(h:EG B e) (hB:1<=B) (hk:k=1->NE e.disk):EG B (gA e k).1:=by
 unfold gA;split
 ·exact h
 split
 ·exact⟨h.yard,h.disk⟩
 refine⟨h.yard,?_⟩;show DI B (opF e k).1;unfold opF pG
 repeat' split
 ·exact h.disk.cut _ _
 ·exact h.disk
 ·exact h.disk.cut _ _
 ·exact h.disk
 ·next h1=>exact h.disk.next hB (hk aA) (MkP.all h.yard)
 ·exact h.disk.sync _
 exact h.disk.move
theorem cX6 {B:Int}{e:Engine}(h:EG B e) (hB:1<=B):∀k,EG B (iO e k).1/\(k=1->(iO e k).2=true->NE (iO e k).1.disk)
 | 0=>⟨h,fun h=>by omega⟩
 | k+1=>by
  obtain⟨h1,h2⟩:=cX6 h hB k;show EG B (if (iO e k).2=true then gA (iO e k).1 k else iO e k).1/\_;split
  ·next hok=>
   refine⟨mst_eg h1 hB (fun hk=>h2 hk hok),fun hk=>?_⟩;have hk0:k=0:=by omega
   subst hk0;intro ht;have ht:(gA e (0:Nat)).2=true:=ht;show NE (gA e (0:Nat)).1.disk;unfold gA at ht ⊢;split
   ·next hc=>rw[if_pos hc]at ht;cases ht
   next hc=>
   rw[if_neg hc]at ht;split
   ·next hb=>rw[if_pos hb]at ht;cases ht
   next hb=>
   rw[if_neg hb]at ht;have hc':dQ e=true/\e.state=1/\inB ((0:Nat):Int) 0 4=true:=Classical.byContradiction hc;have hd:=(engOk_iff.1 hc'.1).disk;have e0:opF e ((0:Nat):Int)=pG e.disk nextN:=by unfold opF;rw[if_pos (show ((0:Nat):Int)=0 from rfl)]
   rw[e0]at ht;show NE (opF e ((0:Nat):Int)).1;rw[e0];exact cut_ne hd ht
  next hno=>exact⟨h1,fun hk ht=>absurd ht (by
   have hk0:k=0:=by omega
   subst hk0;exact absurd rfl hno)⟩
theorem bT6:∀(ns:List Note) {B:Int}{y:Yard},MkY B y->B+100*(ns.length:Int)<=1000000000->MkY (B+100*(ns.length:Int)) (tF y ns)
 | [],B,y,h,_=>⟨h.good,h.time,by have:=h.seq;simp;exact this⟩
 | n::ns,B,y,h,hb=>by
  simp only[length_cons]at hb ⊢;have g:=bP2 n.deed h.good h.time (by have:=h.seq;omega);have:=bT6 ns (B:=B+100) (y:=(doD y n.deed).1) ⟨g.good,g.time,by have:=g.seq;have:=h.seq;omega⟩ aA;refine⟨this.good,this.time,?_⟩;have:=this.seq;show (tF (doD y n.deed).1 ns).seq<=_;omega
theorem mo_good {B:Int}{d:Disk}(h:DI B d) (hB:1<=B/\B<=1000000000) (hr:moB d=true):MkY B (moY d):=by
 unfold moB moC moR at hr;unfold moY moC moR;split
 ·exact⟨gd_new.1,gd_new.2,by show (1:Int)<=B;omega⟩
 next hf=>
 rw[if_neg hf]at hr;refine MkP.read ?_ hB.2 hr;obtain⟨k,hk,hlt⟩:=jK hf;unfold cX;rw[if_neg hf,hk,Int.toNat_natCast,getElem?_eq_getElem hlt];exact h _ (getElem_mem hlt) (.inr (rO hk (getElem?_eq_getElem hlt)))
theorem bT7 {B:Int}{d:Disk}(h:DI B d) (hB:1<=B/\B+6000000<=1000000000) (hr:(cW d).2.2=true):MkY (B+6000000) (cW d).1:=by
 unfold cW at hr ⊢;split
 ·next hc=>
  have h1:=mo_good h aA hc.1;have h2:=(uW d).1;have h3:=bT6 (iM d) h1 aA;exact⟨h3.good,h3.time,by have:=h3.seq;show (tF (moY d) (iM d)).seq<=_;omega⟩
 next hc=>rw[if_neg hc]at hr;cases hr
theorem boot_eg {B:Int}{d:Disk}(h:DI B d) (hB:1<=B/\B+6000000<=1000000000) (hr:(bW d).2=true):EG (B+6000100) (bW d).1:=by
 unfold bW at hr ⊢;split
 ·next hc=>rw[if_pos hc]at hr;cases hr
 next hc=>
 rw[if_neg hc]at hr;have hc':(cW d).2.2=true/\¬(999999997:Int)<(cW d).2.1:=Classical.byContradiction hc;split
 ·next hw=>rw[if_pos hw]at hr;cases hr
 have h1:=bT7 h hB hc'.1;have g:=bP2 startD h1.good h1.time (by have:=h1.seq;omega);refine⟨⟨g.good,g.time,by have:=g.seq;have:=h1.seq;show (doD (cW d).1 startD).1.seq<=_;omega⟩,?_⟩;show DI _ (rW d).1;unfold rW;refine DI.log ?_ aA _;unfold aB7;split
 ·exact(h.cut _ _).mono aA
 exact h.mono aA
theorem rec_ok {B:Int}{d:Disk}(h:DI B d) (hB:1<=B/\B+6000000<=1000000000) (hr:(cW d).2.2=true):aG (cW d).1=true:=by
 have h1:=bT7 h hB hr;exact h1.good.ok h1.time (by have:=h1.seq;omega)
theorem call_eg {B:Int}{e:Engine}{d:Deed}(h:EG B e) (hB:1<=B/\B<=1000000000):EG (B+100) (bS e d).1:=by
 unfold bS
 repeat' split
 all_goals first | exact h.mono aA | exact(show EG B (brk e) from ⟨h.yard,h.disk⟩).mono aA | skip
 have g:=bP2 d h.yard.good h.yard.time (by have:=h.yard.seq;omega);exact⟨⟨g.good,g.time,by have:=g.seq;have:=h.yard.seq;show (doD e.yard d).1.seq<=_;omega⟩,(h.disk.mono aA).log aA _⟩
theorem cS9 {α:Type}{xs:List α}{k:Nat}(h:¬(k:Int)<xs.length):xs.take k=xs:=take_of_length_le aA
theorem bK6 {α:Type}{xs:List α}{k:Nat}(hl:xs.length<=1048576):(xs.take k).length+1<=maxLen/\((xs.take k).length+1)*104<=140737488355328:=by rw[length_take];unfold maxLen;omega
theorem CopyDeeds_i (xs:List Deed) (hl:xs.length<=1048576) (he:∀d∈xs,d.plan.edges.length<=1048576):Ct1 prog 90 [.L xs] [.rw (inferInstance:Shape Deed) 65 xs]:=
 vc func90 (fun hg=>.w Deed 65 3<|.la (Γ:=Nat) (fun k=>k<=xs.length) (fun k=>xs.length-k) (fun k=>[vI 8 k,vR 3 1]) (fun k=>[oR 1 65 (xs.take k)]) 0 (h:=Nat.zero_le _) fun k hk t=>
  .s ((k:Int)<xs.length)
   (fun h=>.x xs k (h:=by omega) fun d hd gd=>.c func53 (yN d (he d (mem_of_getElem? hd))) (hg:=⟨gd,trivial⟩) fun _=>.a (xs.take k) d 104 (hy:=gd) (h63:=(bK6 hl).1) (hby:=(bK6 hl).2)<|.g 1 (dJ hd)<|.p k 1<|.n t (k+1) [] (h1:=by omega))
   (fun h=>.g 1 (cS9 h)<|.rt () ⟨trivial,trivial⟩)) aB
theorem aL6 (xs:List Deed) (hl:xs.length<=1048576) (he:∀d∈xs,d.plan.edges.length<=1048576):Ct1 prog 40 [.L xs] [.rw (inferInstance:Shape Deed) 65 xs]:=
 vc func40 (fun hg=>.e Deed<|.l (Γ:=Nat) (fun k=>k<=xs.length) (fun k=>xs.length-k) [0] [] [0] (fun k=>[vI 4 k,vR 3 1]) (fun k=>[oR 1 65 (xs.take k)]) 0 (h:=Nat.zero_le _) fun k hk t=>
  .s ((k:Int)<xs.length)
   (fun h=>.x xs k (h:=by omega) fun d hd gd=>.c func80 (tB d.plan (he d (mem_of_getElem? hd))) (hg:=⟨(show d.ok from gd).2.2.1,trivial⟩) fun _=>.a (xs.take k) d 104 (hy:=gd) (h63:=(bK6 hl).1) (hby:=(bK6 hl).2)<|.g 1 (dJ hd)<|.p k 1<|.n t (k+1) [] (h1:=by omega))
   (fun h=>.g 1 (cS9 h)<|.rt () ⟨trivial,trivial⟩)) aB
theorem bD4:nR Reply:=fun _ _ _ _ h=>h.2.1
abbrev cS2 (w:WorldD):Rk := .cl [.v (I w.engine.yard.now),.v (I w.engine.yard.seq),.o (inferInstance:Shape (List Entry)) w.engine.yard.shelf,.o (inferInstance:Shape Run) w.engine.yard.runs,.o (inferInstance:Shape File) w.engine.disk.files,.v (I w.engine.next),.v (I w.engine.calls),.o (inferInstance:Shape Wait) w.engine.waits,.v (I w.engine.state),.v (.bool w.engine.broken),.r (inferInstance:Shape Deed) 65 w.deeds,.r (inferInstance:Shape Reply) 86 w.replies,.v (I w.told),.v (I w.fell)]
structure WdS (w:WorldD):Prop where
 yw:w.engine.yard.wt<=1048576
 dl:w.engine.disk.files.length<=1048576
 wl:w.engine.waits.length<=1048576
 deeds:w.deeds.length<=1048576
 edges:∀d∈w.deeds,d.plan.edges.length<=1048576
 reps:w.replies.length<=1048576
theorem aL5 (w:WorldD) (h:WdS w):Ct1 prog 49 [.S w] [cS2 w]:=
 vc func49 (fun (hg:gin [Par.S w])=>.c func89 (jF w.engine h.yw h.dl h.wl) (hg:=⟨(show w.ok from hg.1.1).1,trivial⟩) fun _=>.c func90 (CopyDeeds_i w.deeds h.deeds h.edges) fun _=>.as (inferInstance:Shape Reply) bD4 [] w.replies 32 (by have:=h.reps;simp only[length_nil];unfold maxLen;omega) (by have:=h.reps;simp only[length_nil];omega)<|.rt () ⟨trivial,trivial⟩) aB
theorem CopyWorld_s (w:WorldD) (h:WdS w):Ct1 prog 36 [.S w] [cS2 w]:=
 vc func36 (fun (hg:gin [Par.S w])=>.c func73 (fD w.engine h.yw h.dl h.wl) (hg:=⟨(show w.ok from hg.1.1).1,trivial⟩) fun _=>.c func40 (aL6 w.deeds h.deeds h.edges) fun _=>.e Reply<|.as (inferInstance:Shape Reply) bD4 [] w.replies 32 (by have:=h.reps;simp only[length_nil];unfold maxLen;omega) (by have:=h.reps;simp only[length_nil];omega)<|.rt () ⟨trivial,trivial⟩) aB
def bA1 (keep:List Int) (i:Nat):Int:=keep.getD i 0
def crN (keep:List Int) (i:Nat) (f:File):Int:=f.safe+fQ (bA1 keep i) 0 ((f.data.size:Int)-f.safe)
def crG (keep:List Int) (i:Nat) (f:File):File:=cA1 f (crN keep i f).toNat
def qK (keep:List Int) (fs:List File) (k:Nat):List File:=(fs.take k).mapIdx (crG keep)++fs.drop k
noncomputable def bF (d:Disk) (keep:List Int):Disk:=if aS d=true then ⟨qK keep d.files d.files.length⟩ else d
theorem cA4 (keep:List Int) (fs:List File) (k:Nat):(qK keep fs k).length=fs.length:=by unfold qK;rw[length_append,length_mapIdx,length_take,length_drop];omega
theorem aX0 {keep:List Int}{fs:List File}{k:Nat}{f:File}(h:fs[k]? = some f):(qK keep fs k)[k]? = some f:=by
 have hk:=(gsi_.1 h).1;unfold qK;rw[getElem?_append_right (by rw[length_mapIdx,length_take];omega),length_mapIdx,length_take,Nat.min_eq_left aA,Nat.sub_self,getElem?_drop];exact h
theorem bG8 {keep:List Int}{fs:List File}{k:Nat}{f:File}(h:fs[k]? = some f):(qK keep fs k).set k (crG keep k f)=qK keep fs (k+1):=by
 obtain⟨hk,rfl⟩:=gsi_.1 h;unfold qK;have e1:((fs.take k).mapIdx (crG keep)).length=k:=by rw[length_mapIdx,length_take];omega
 rw[set_append_right _ _ aA,e1,Nat.sub_self,drop_eq_getElem_cons hk,set_cons_zero,take_succ_eq_append_getElem hk,mapIdx_append,append_assoc];simp[length_take,Nat.min_eq_left (Nat.le_of_lt hk)]
theorem cA3 {d:Disk}{keep:List Int}(h:aS d=false):d=bF d keep:=by unfold bF;rw[if_neg (by rw[h];simp)]
theorem bG7 {d:Disk}{keep:List Int}{k:Nat}(h:aS d=true) (hk:k<=d.files.length) (h2:¬(k:Int)<d.files.length):(⟨qK keep d.files k⟩:Disk)=bF d keep:=by unfold bF;rw[if_pos h,show k=d.files.length by omega]
theorem bro_0 {b:Int}(h:0<=b):fQ 0 0 b=0:=by unfold fQ;rw[if_neg aA,if_neg aA,Int.min_def,if_pos h]
theorem bro_rng {n b:Int}(h:0<=b):0<=fQ n 0 b/\fQ n 0 b<=b:=by
 unfold fQ;rw[if_neg aA];split
 ·omega
 omega
theorem kp_in {keep:List Int}{k:Nat}{m:Int}(h:keep[k]? = some m):bA1 keep k=m:=by unfold bA1;rw[getD_eq_getElem?_getD,h];rfl
theorem cY2 {keep:List Int}{k:Nat}(h:¬(k:Int)<keep.length):bA1 keep k=0:=by unfold bA1;rw[getD_eq_getElem?_getD,getElem?_eq_none aA];rfl
theorem cE2 {d:Disk}(h:aS d=true) (keep:List Int) {k:Nat}{f:File}(hf:d.files[k]? = some f):(0<=f.safe/\f.safe<=(f.data.size:Int))/\(0<=crN keep k f/\crN keep k f<=(f.data.size:Int))/\f.data.size<=60000:=by
 have hp:=(diskOk_iff.1 h).ok k f hf;have h1:=xV hp.safe;have h2:=bro_rng (n:=bA1 keep k) (b:=(f.data.size:Int)-f.safe) aA;have h3:=hp.data;unfold crN;omega
theorem cO2 {d:Disk}(h:aS d=true) (keep:List Int) {k:Nat}{f:File}(hf:d.files[k]? = some f) (gf:f.ok):(crG keep k f).ok:=aW8 gf (by have:=(cE2 h keep hf).2.1;omega)
theorem Crashed_i (d:Disk) (keep:List Int) (hl:d.files.length<=1048576):Ct1 prog 104 [.S d,.L keep] [.S (bF d keep)]:=
 .one (bF d keep) (rk:=fun q=>[.S q])<|vc func104 (fun (hg:gin [Par.S d,Par.L keep])=>let hkl:=hg.2.1
  .c func150 (iR d aA) (hg:=⟨hg.1.1,trivial⟩) fun _=>.sh 4<|.c func92 (qB d) (hg:=⟨hg.1.1,trivial⟩) fun _=>.v (aS d) (fun h=>.rt d ⟨cA3 h,trivial,trivial⟩) (fun hd=>
  .la (Γ:=Nat) (fun k=>k<=d.files.length) (fun k=>d.files.length-k) (fun k=>[vI 19 k]) (fun k=>[oO 4 (qK keep d.files k)]) 0 (h:=Nat.zero_le _) fun k hk t=>
   .s ((k:Int)<d.files.length)
    (fun h=>.x d.files k (h:=by omega) fun f hf gf=>let hr:=cE2 hd keep hf
     let go:∀m:Int,bA1 keep k=m->D prog (fun q:Disk=>q=bF d keep/\rgd [Rk.S q]):=fun m hm=>let hc:crN keep k f=f.safe+fQ m 0 ((f.data.size:Int)-f.safe):=(by unfold crN;rw[hm])
      .m f.data.size f.safe<|.c func101 (aH9 m 0 ((f.data.size:Int)-f.safe)) fun _=>.p f.safe (fQ m 0 ((f.data.size:Int)-f.safe)) (h:=by unfold I64;omega) <|
      .wt 9<|.rv 9 (I ((crN keep k f).toNat:Int)) (y:=I (f.safe+fQ m 0 ((f.data.size:Int)-f.safe))) (congrArg I aA) <|
      .d 4 (aX0 (keep:=keep) hf) fun _=>.pl (aN8 (s:=f.data) (b:=((crN keep k f).toNat:Int)) underlying9 aA aA)<|.i k<|.wt 54<|.f 4 (qK keep d.files k) (crG keep k f) (h:=cO2 hd keep hf gf)<|.g 4 (bG8 (keep:=keep) hf)<|.p k 1<|.n t (k+1) [] (h1:=by omega)
     .s ((k:Int)<keep.length)
      (fun h2=>.x keep k (h:=by omega) fun m hm _=>go m (kp_in hm))
      (fun h2=>go 0 (cY2 h2)))
    (fun h=>.rt ⟨qK keep d.files k⟩ ⟨bG7 hd hk h,trivial,trivial⟩))) aB
theorem bJ8 (d:Disk) (keep:List Int) (hl:d.files.length<=1048576):Ct1 prog 85 [.S d,.L keep] [.S (bF d keep)]:=
 .one (bF d keep) (rk:=fun q=>[.S q])<|vc func85 (fun (hg:gin [Par.S d,Par.L keep])=>let hkl:=hg.2.1
  .c func118 (dN d aA) (hg:=⟨hg.1.1,trivial⟩) fun _=>.sh 4<|.c func75 (jZ d) (hg:=⟨hg.1.1,trivial⟩) fun _=>.v (aS d) (fun h=>.rt d ⟨cA3 h,trivial,trivial⟩) (fun hd=>
  .la (Γ:=Nat) (fun k=>k<=d.files.length) (fun k=>d.files.length-k) (fun k=>[vI 6 k]) (fun k=>[oO 4 (qK keep d.files k)]) 0 (h:=Nat.zero_le _) fun k hk t=>let hcl:=cA4 keep d.files k
   .s ((k:Int)<(qK keep d.files k).length)
    (fun h=>.ex (p:=fun f=>d.files[k]? = some f) ⟨_,getElem?_eq_getElem aA⟩ fun f hf=>.y (aX0 (keep:=keep) hf) fun gf=>let hr:=cE2 hd keep hf
     let go:fQ (bA1 keep k) 0 ((f.data.size:Int)-f.safe)=fQ (bA1 keep k) 0 ((f.data.size:Int)-f.safe)->∀m:Int,m=fQ (bA1 keep k) 0 ((f.data.size:Int)-f.safe)->D prog (fun q:Disk=>q=bF d keep/\rgd [Rk.S q]):=fun _ m hm=>let hc:crN keep k f=f.safe+m:=(by unfold crN;rw[hm])
      .p f.safe m<|.rv 47 (I ((crN keep k f).toNat:Int)) (y:=I (f.safe+m)) (congrArg I aA)<|.pl (aN8 (s:=f.data) (b:=((crN keep k f).toNat:Int)) underlying9 aA aA) <|
      .wt 52<|.rv 52 (I ((crN keep k f).toNat:Int)) (y:=I ((f.data.extract 0 (crN keep k f).toNat).size:Int)) (congrArg I (by rw[ByteArray.size_extract];omega)) <|
      .wt 53<|.d 4 (aX0 (keep:=keep) hf) fun _=>.i k<|.wt 20<|.f 4 (qK keep d.files k) (crG keep k f) (h:=cO2 hd keep hf gf)<|.g 4 (bG8 (keep:=keep) hf)<|.p k 1<|.n t (k+1) [] (h1:=by omega)
     .s ((k:Int)<keep.length)
      (fun h2=>.x keep k (h:=by omega) fun m hm _=>.m f.data.size f.safe<|.c func82 (aH8 m 0 ((f.data.size:Int)-f.safe)) fun _=>go rfl (fQ m 0 ((f.data.size:Int)-f.safe)) (by rw[kp_in hm]))
      (fun h2=>go rfl 0 (by rw[cY2 h2,bro_0 aA])))
    (fun h=>.rt ⟨qK keep d.files k⟩ ⟨bG7 hd hk aA,trivial,trivial⟩))) aB
theorem pX {d:Disk}(h:aS d=true) (keep:List Int):small (bF d keep):=by
 unfold bF;rw[if_pos h];refine⟨by show (qK keep d.files d.files.length).length<=4;rw[cA4];exact vO h,fun f hf=>?_⟩;obtain⟨k,hk⟩:=mem_iff_getElem?.1 hf;have hk:(qK keep d.files d.files.length)[k]? = some f:=hk;unfold qK at hk;rw[take_length,drop_length,append_nil,getElem?_mapIdx]at hk;cases hq:d.files[k]? with
 | none=>rw[hq]at hk;cases hk
 | some g=>
  rw[hq]at hk;simp only[Option.map_some,Option.some.injEq]at hk;subst hk;have hs:=oQ h (mem_of_getElem? hq);show g.name.size+(g.data.extract 0 _).size<=_;rw[ByteArray.size_extract];omega
theorem vU {d:Disk}(h:(bW d).2=true):2<=(bW d).1.next/\(bW d).1.next<=1000000000/\(cW d).2.2=true:=by
 unfold bW at h ⊢;split
 ·next hc=>rw[if_pos hc]at h;cases h
 next hc=>
 rw[if_neg hc]at h;have hc':(cW d).2.2=true/\¬(999999997:Int)<(cW d).2.1:=Classical.byContradiction hc;have hq:=recQ hc'.1;split
 ·next hw=>rw[if_pos hw]at h;cases h
 exact⟨by show 2<=(cW d).2.1+2;omega,by show (cW d).2.1+2<=_;omega,hc'.1⟩
noncomputable def lO (w:WorldD) (keep:List Int) (r:Reply):WorldD×Int:=
 if ¬((bW (bF w.engine.disk keep)).2=true/\¬(w.deeds.length:Int)<(bW (bF w.engine.disk keep)).1.next-2) then (w,8)
 else (⟨(bW (bF w.engine.disk keep)).1,w.deeds.take ((bW (bF w.engine.disk keep)).1.next-2).toNat++[startD],w.replies.take ((bW (bF w.engine.disk keep)).1.next-2).toNat++[r],w.told,w.fell+1⟩,0)
theorem bO9 {w:WorldD}{keep:List Int}{r:Reply}(h:¬((bW (bF w.engine.disk keep)).2=true/\¬(w.deeds.length:Int)<(bW (bF w.engine.disk keep)).1.next-2)):(w,8)=lO w keep r:=by unfold lO;rw[if_pos h]
theorem fal_0 {w:WorldD}{keep:List Int}{r:Reply}{n:Nat}(h:(bW (bF w.engine.disk keep)).2=true) (h2:¬(w.deeds.length:Int)<(bW (bF w.engine.disk keep)).1.next-2) (hn:n=((bW (bF w.engine.disk keep)).1.next-2).toNat) :
  (⟨(bW (bF w.engine.disk keep)).1,w.deeds.take n++[startD],w.replies.take n++[r],w.told,w.fell+1⟩,0)=lO w keep r:=by unfold lO;rw[if_neg (fun hc=>hc ⟨h,h2⟩),hn]
def rep0:Reply:=⟨0,0,0,0⟩
theorem rep0_ok:rep0.ok:=⟨z64,z64,z64,z64⟩
noncomputable def jC (w:WorldD) (keep:List Int):Reply:=(doD (cW (bF w.engine.disk keep)).1 startD).2
structure FaS (w:WorldD):Prop extends WdS w where
 disk:aS w.engine.disk=true
 same:w.replies.length=w.deeds.length
 fell:0<=w.fell/\w.fell<=1000000
theorem Falls_i (w:WorldD) (keep:List Int) (h:FaS w):Ct1 prog 56 [.S w,.L keep] [.S (lO w keep rep0).1,.I (lO w keep rep0).2]:=
 .one (lO w keep rep0) (rk:=fun q=>[.S q.1,.I q.2])<|vc func56 (fun (hg:gin [Par.S w,Par.L keep])=>let gw:w.ok:=hg.1.1
  let hdl:=h.deeds
  let hrl:=h.reps
  .c func49 (aL5 w h.toWdS) (hg:=⟨gw,trivial⟩) fun _=>.c func104 (Crashed_i w.engine.disk keep h.dl) (hg:=⟨trivial,trivial⟩) fun _=>.c func103 (Boot_i (bF w.engine.disk keep) (by have:=zA (pX h.disk keep);omega)) (hg:=⟨trivial,trivial⟩) fun gb=>
  .v (bW (bF w.engine.disk keep)).2 (fun h1=>.sh 13<|.sh 14<|.rt (w,8) ⟨bO9 (fun hc=>by rw[h1]at hc;cases hc.1),gw,trivial⟩) (fun h1=>let hn:=vU h1
  .m (bW (bF w.engine.disk keep)).1.next 2<|.s ((w.deeds.length:Int)<(bW (bF w.engine.disk keep)).1.next-2) (fun h2=>.sh 13<|.sh 14<|.rt (w,8) ⟨bO9 (fun hc=>hc.2 h2),gw,trivial⟩) (fun h2=>
  .ex (p:=fun n:Nat=>n=((bW (bF w.engine.disk keep)).1.next-2).toNat) ⟨_,rfl⟩ fun n hnn=>let hfl:=h.fell
  let hs:=h.same
  .m (bW (bF w.engine.disk keep)).1.next 2 (h:=by unfold I64;omega) <|
  .tk inferInstance w.deeds n aA ((bW (bF w.engine.disk keep)).1.next-2) aA<|.ac inferInstance true 13 w.deeds n aA [startD] (by simp) (aY3 mB) 104 (by simp only[length_cons,length_nil];unfold maxLen;omega) (by simp only[length_cons,length_nil];omega) <|
  .tk inferInstance w.replies n aA ((bW (bF w.engine.disk keep)).1.next-2) aA<|.ac inferInstance true 14 w.replies n aA [rep0] (by simp) (aY3 rep0_ok) 32 (by simp only[length_cons,length_nil];unfold maxLen;omega) (by simp only[length_cons,length_nil];omega) <|
  .p w.fell 1<|.sh 13<|.sh 14<|.rt (⟨(bW (bF w.engine.disk keep)).1,w.deeds.take n++[startD],w.replies.take n++[rep0],w.told,w.fell+1⟩,0) ⟨fal_0 h1 h2 hnn,⟨gb.1.1,gw.2.1,by show I64 (w.fell+1);unfold I64;omega⟩,trivial⟩))) aB
abbrev wdL (w:WorldD):List Lr:=[.v (I w.engine.yard.now),.v (I w.engine.yard.seq),.o (inferInstance:Shape (List Entry)) w.engine.yard.shelf,.o (inferInstance:Shape Run) w.engine.yard.runs,.o (inferInstance:Shape File) w.engine.disk.files,.v (I w.engine.next),.v (I w.engine.calls),.o (inferInstance:Shape Wait) w.engine.waits,.v (I w.engine.state),.v (.bool w.engine.broken),.r (inferInstance:Shape Deed) 65 w.deeds,.r (inferInstance:Shape Reply) 86 w.replies,.v (I w.told),.v (I w.fell)]
theorem Falls_s (w:WorldD) (keep:List Int) (h:FaS w) (gw:w.ok):Co prog 43 (wdL w) true [.L keep] (fun _:Unit=>True) (fun _=>[.S (lO w keep (jC w keep)).1,.I (lO w keep (jC w keep)).2]):=
 .one (lO w keep (jC w keep)) (rk:=fun q=>[.S q.1,.I q.2])<|vco func43 (fun (hg:gin [Par.L keep]) ho=>
  let hdl:=h.deeds
  let hrl:=h.reps
  .c func85 (bJ8 w.engine.disk keep h.dl) (hg:=⟨trivial,trivial⟩) fun _=>.c func84 (Boot_s (bF w.engine.disk keep) (by have:=zA (pX h.disk keep);omega)) (hg:=⟨trivial,trivial⟩) fun gb=>
  .v (bW (bF w.engine.disk keep)).2 (fun h1=>.sh 4<|.sh 5<|.rt (w,8) ⟨bO9 (fun hc=>by rw[h1]at hc;cases hc.1),gw,trivial⟩) (fun h1=>let hn:=vU h1
  .m (bW (bF w.engine.disk keep)).1.next 2<|.s ((w.deeds.length:Int)<(bW (bF w.engine.disk keep)).1.next-2) (fun h2=>.sh 4<|.sh 5<|.rt (w,8) ⟨bO9 (fun hc=>hc.2 h2),gw,trivial⟩) (fun h2=>
  .ex (p:=fun n:Nat=>n=((bW (bF w.engine.disk keep)).1.next-2).toNat) ⟨_,rfl⟩ fun n hnn=>let hfl:=h.fell
  let hs:=h.same
  .c func85 (bJ8 w.engine.disk keep h.dl) (hg:=⟨trivial,trivial⟩) fun _=>.c func86 (aL4 (bF w.engine.disk keep) (by have:=zA (pX h.disk keep);omega)) (hg:=⟨trivial,trivial⟩) fun gr=>
  .c func79 (Do_s (cW (bF w.engine.disk keep)).1 startD (recW _)) (hg:=⟨gr.1.1,mB,trivial⟩) fun hz=>
  .m (bW (bF w.engine.disk keep)).1.next 2 (h:=by unfold I64;omega) <|
  .tk inferInstance w.deeds n aA ((bW (bF w.engine.disk keep)).1.next-2) aA<|.ac inferInstance false 4 w.deeds n aA [startD] (by simp) (aY3 mB) 104 (by simp only[length_cons,length_nil];unfold maxLen;omega) (by simp only[length_cons,length_nil];omega) <|
  .m (bW (bF w.engine.disk keep)).1.next 2 (h:=by unfold I64;omega) <|
  .tk inferInstance w.replies n aA ((bW (bF w.engine.disk keep)).1.next-2) aA<|.ac inferInstance false 5 w.replies n aA [jC w keep] (by simp) (aY3 hz.2.1.1) 32 (by simp only[length_cons,length_nil];unfold maxLen;omega) (by simp only[length_cons,length_nil];omega) <|
  .p w.fell 1<|.sh 4<|.sh 5<|.rt (⟨(bW (bF w.engine.disk keep)).1,w.deeds.take n++[startD],w.replies.take n++[jC w keep],w.told,w.fell+1⟩,0) ⟨fal_0 h1 h2 hnn,⟨gb.1.1,gw.2.1,by show I64 (w.fell+1);unfold I64;omega⟩,trivial⟩))) aB
noncomputable def comE (e:Engine):Engine:=⟨e.yard,(iH e.disk logN).1,e.next,e.calls,[],e.state,e.broken⟩
noncomputable def cH (e:Engine):Engine×List Wait:=if ¬(dQ e=true/\e.state=1/\¬(e.waits.length:Int)=0) then (e,[]) else if e.broken=true then (brk e,[]) else (comE e,e.waits)
theorem aG0 {e:Engine}(h:¬(dQ e=true/\e.state=1/\¬(e.waits.length:Int)=0)):(e,[])=cH e:=by unfold cH;rw[if_pos h]
theorem com_b {e:Engine}(h1:dQ e=true) (h2:e.state=1) (h3:¬(e.waits.length:Int)=0) (h:e.broken=true):(brk e,[])=cH e:=by unfold cH;rw[if_neg (fun hc=>hc ⟨h1,h2,h3⟩),if_pos h]
theorem com_0 {e:Engine}(h1:dQ e=true) (h2:e.state=1) (h3:¬(e.waits.length:Int)=0) (h:e.broken=false):(comE e,e.waits)=cH e:=by unfold cH;rw[if_neg (fun hc=>hc ⟨h1,h2,h3⟩),if_neg (by rw[h];simp)]
theorem dB7 {e:Engine}(ge:e.ok):(brk e).ok:=⟨ge.1,ge.2.1,ge.2.2.1,by show I64 2;unfold I64;omega⟩
theorem Commit_i (e:Engine) (hw:e.yard.wt<=1048576) (hl:e.disk.files.length<=1048576) (hs:e.waits.length<=1048576):Ct1 prog 54 [.S e] [.S (cH e).1,.L (cH e).2]:=
 .one (cH e) (rk:=fun q=>[.S q.1,.L q.2])<|vc func54 (fun (hg:gin [Par.S e])=>let ge:e.ok:=hg.1.1
  .c func89 (jF e hw hl hs) (hg:=⟨ge,trivial⟩) fun _=>.c func51 (rZ e hw) (hg:=⟨ge,trivial⟩) fun _=>.v (dQ e) (fun h=>.rt (e,[]) ⟨aG0 (fun hc=>by rw[h]at hc;cases hc.1),ge,trivial⟩) (fun h1=>
  .u (e.state=1) (fun h=>.rt (e,[]) ⟨aG0 (fun hc=>h hc.2.1),ge,trivial⟩) (fun h2=>
  .s ((e.waits.length:Int)=0) (fun h=>.rt (e,[]) ⟨aG0 (fun hc=>hc.2.2 h),ge,trivial⟩) (fun h3=>
  .sb e.broken (fun h=>.c func96 (bQ8 e hw hl hs) (hg:=⟨ge,trivial⟩) fun _=>.rt (brk e,[]) ⟨com_b h1 h2 h3 h,dB7 ge,trivial⟩) (fun h4=>
  .c func100 (bI9 e.disk logN hl) fun _=>.rt (comE e,e.waits) ⟨com_0 h1 h2 h3 h4,ge,trivial⟩))))) aB
theorem Commit_s (e:Engine) (hw:e.yard.wt<=1048576) (hl:e.disk.files.length<=1048576) (hs:e.waits.length<=1048576):Ct1 prog 41 [.S e] [.S (cH e).1,.L (cH e).2]:=
 .one (cH e) (rk:=fun q=>[.S q.1,.L q.2])<|vc func41 (fun (hg:gin [Par.S e])=>let ge:e.ok:=hg.1.1
  .c func73 (fD e hw hl hs) (hg:=⟨ge,trivial⟩) fun _=>.e Wait<|.c func38 (rY e hw) (hg:=⟨ge,trivial⟩) fun _=>.v (dQ e) (fun h=>.rt (e,[]) ⟨aG0 (fun hc=>by rw[h]at hc;cases hc.1),ge,trivial⟩) (fun h1=>
  .u (e.state=1) (fun h=>.rt (e,[]) ⟨aG0 (fun hc=>h hc.2.1),ge,trivial⟩) (fun h2=>
  .s ((e.waits.length:Int)=0) (fun h=>.rt (e,[]) ⟨aG0 (fun hc=>hc.2.2 h),ge,trivial⟩) (fun h3=>
  .sb e.broken (fun h=>.rt (brk e,[]) ⟨com_b h1 h2 h3 h,dB7 ge,trivial⟩) (fun h4=>
  .c func81 (bI8 e.disk logN hl) fun _=>.sh 11<|.e Wait<|.as (inferInstance:Shape Wait) oT [] e.waits 40 (by simp only[length_nil];unfold maxLen;omega) (by simp only[length_nil];omega)<|.rt (comE e,e.waits) ⟨com_0 h1 h2 h3 h4,ge,trivial⟩))))) aB
def bS8 (e:Engine):Engine:=⟨e.yard,e.disk,e.next,e.calls,[],3,e.broken⟩
noncomputable def iI (e:Engine):Engine×Int:=if dQ e=false then (e,8) else if e.state=3 then (e,15) else (bS8 e,0)
theorem shu_8 {e:Engine}(h:dQ e=false):(e,8)=iI e:=by unfold iI;rw[if_pos h]
theorem cU2 {e:Engine}(h:dQ e=true) (h2:e.state=3):(e,15)=iI e:=by unfold iI;rw[if_neg (by rw[h];simp),if_pos h2]
theorem shu_0 {e:Engine}(h:dQ e=true) (h2:¬e.state=3):(bS8 e,0)=iI e:=by unfold iI;rw[if_neg (by rw[h];simp),if_neg h2]
theorem cI5 {e:Engine}(ge:e.ok):(bS8 e).ok:=⟨ge.1,ge.2.1,ge.2.2.1,by show I64 3;unfold I64;omega⟩
theorem Shut_i (e:Engine) (hw:e.yard.wt<=1048576) (hl:e.disk.files.length<=1048576) (hs:e.waits.length<=1048576):Ct1 prog 58 [.S e] [.S (iI e).1,.I (iI e).2]:=
 .one (iI e) (rk:=fun q=>[.S q.1,.I q.2])<|vc func58 (fun (hg:gin [Par.S e])=>let ge:e.ok:=hg.1.1
  .c func89 (jF e hw hl hs) (hg:=⟨ge,trivial⟩) fun _=>.c func51 (rZ e hw) (hg:=⟨ge,trivial⟩) fun _=>.v (dQ e) (fun h=>.rt (e,8) ⟨shu_8 h,ge,trivial⟩) (fun h1=>
  .s (e.state=3) (fun h=>.rt (e,15) ⟨cU2 h1 h,ge,trivial⟩) (fun h2=>.rt (bS8 e,0) ⟨shu_0 h1 h2,cI5 ge,trivial⟩))) aB
theorem Shut_s (e:Engine) (hw:e.yard.wt<=1048576) (hl:e.disk.files.length<=1048576) (hs:e.waits.length<=1048576):Ct1 prog 45 [.S e] [.S (iI e).1,.I (iI e).2]:=
 .one (iI e) (rk:=fun q=>[.S q.1,.I q.2])<|vc func45 (fun (hg:gin [Par.S e])=>let ge:e.ok:=hg.1.1
  .c func73 (fD e hw hl hs) (hg:=⟨ge,trivial⟩) fun _=>.c func38 (rY e hw) (hg:=⟨ge,trivial⟩) fun _=>.v (dQ e) (fun h=>.rt (e,8) ⟨shu_8 h,ge,trivial⟩) (fun h1=>
  .s (e.state=3) (fun h=>.rt (e,15) ⟨cU2 h1 h,ge,trivial⟩) (fun h2=>.e Wait<|.sh 11<|.rt (bS8 e,0) ⟨shu_0 h1 h2,cI5 ge,trivial⟩))) aB
def aC3 (e:Engine):Engine:=if e.state=1 then ⟨e.yard,e.disk,e.next,e.calls,e.waits,e.state,true⟩ else e
theorem Break_i (e:Engine) (hw:e.yard.wt<=1048576) (hl:e.disk.files.length<=1048576) (hs:e.waits.length<=1048576):Ct1 prog 57 [.S e] [.S (aC3 e)]:=
 .one (aC3 e) (rk:=fun q=>[.S q])<|vc func57 (fun (hg:gin [Par.S e])=>let ge:e.ok:=hg.1.1
  .c func89 (jF e hw hl hs) (hg:=⟨ge,trivial⟩) fun _=>.s (e.state=1) (fun h=>.rt ⟨e.yard,e.disk,e.next,e.calls,e.waits,e.state,true⟩ ⟨by unfold aC3;rw[if_pos h],ge,trivial⟩) (fun h=>.rt e ⟨by unfold aC3;rw[if_neg h],ge,trivial⟩)) aB
theorem Break_s (e:Engine) (hw:e.yard.wt<=1048576) (hl:e.disk.files.length<=1048576) (hs:e.waits.length<=1048576):Ct1 prog 44 [.S e] [.S (aC3 e)]:=
 .one (aC3 e) (rk:=fun q=>[.S q])<|vc func44 (fun (hg:gin [Par.S e])=>let ge:e.ok:=hg.1.1
  .c func73 (fD e hw hl hs) (hg:=⟨ge,trivial⟩) fun _=>.s (e.state=1) (fun h=>.rt ⟨e.yard,e.disk,e.next,e.calls,e.waits,e.state,true⟩ ⟨by unfold aC3;rw[if_pos h],ge,trivial⟩) (fun h=>.rt e ⟨by unfold aC3;rw[if_neg h],ge,trivial⟩)) aB
def iF (w:WorldD) (e:Engine):WorldD:=⟨e,w.deeds,w.replies,w.told,w.fell⟩
def vZ (w:WorldD):Prop:=dQ w.engine=true/\(w.deeds.length:Int)=w.engine.next-1/\(w.replies.length:Int)=w.engine.next-1
noncomputable def bO4 (w:WorldD) (d:Deed):WorldD:=⟨(bS w.engine d).1,w.deeds++[d],w.replies++[(doD w.engine.yard d).2],w.told,w.fell⟩
noncomputable def cZ0 (w:WorldD):WorldD:=⟨(cH w.engine).1,w.deeds,w.replies,if 0<(cH w.engine).2.length then (w.deeds.length:Int) else w.told,w.fell⟩
open Classical in
noncomputable def cR (r:WorldD->List Int->Reply) (w:WorldD) (a:ActD):WorldD×Int:=
 if inB a.kind 1 6=false then (w,5) else if ¬vZ w then (w,8)
 else if a.kind=1 then (if (bS w.engine a.deed).2=0 then bO4 w a.deed else iF w (bS w.engine a.deed).1,(bS w.engine a.deed).2)
 else if a.kind=2 then (cZ0 w,0)
 else if a.kind=3 then (iF w (nW w.engine a.n).1,if (nW w.engine a.n).2=true then 0 else 14)
 else if a.kind=4 then lO w a.keep (r w a.keep)
 else if a.kind=5 then (iF w (aC3 w.engine),0)
 else (iF w (iI w.engine).1,(iI w.engine).2)
section
variable {r:WorldD->List Int->Reply}{w:WorldD}{a:ActD}
theorem hp_5 (h:inB a.kind 1 6=false):(w,5)=cR r w a:=by unfold cR;rw[if_pos h]
theorem cR3 (h:inB a.kind 1 6=true) (h2:¬vZ w):(w,8)=cR r w a:=by unfold cR;rw[if_neg (by rw[h];simp),if_pos h2]
theorem hp_c0 (h:inB a.kind 1 6=true) (h2:vZ w) (h3:a.kind=1) (h4:(bS w.engine a.deed).2=0):(bO4 w a.deed,(bS w.engine a.deed).2)=cR r w a:=by unfold cR;rw[if_neg (by rw[h];simp),if_neg (fun hc=>hc h2),if_pos h3,if_pos h4]
theorem hp_c1 (h:inB a.kind 1 6=true) (h2:vZ w) (h3:a.kind=1) (h4:¬(bS w.engine a.deed).2=0):(iF w (bS w.engine a.deed).1,(bS w.engine a.deed).2)=cR r w a:=by unfold cR;rw[if_neg (by rw[h];simp),if_neg (fun hc=>hc h2),if_pos h3,if_neg h4]
theorem cM0 (h:inB a.kind 1 6=true) (h2:vZ w) (h3:¬a.kind=1) (h4:a.kind=2) (h5:(0:Int)<(cH w.engine).2.length):(⟨(cH w.engine).1,w.deeds,w.replies,(w.deeds.length:Int),w.fell⟩,0)=cR r w a:=by unfold cR;rw[if_neg (by rw[h];simp),if_neg (fun hc=>hc h2),if_neg h3,if_pos h4];unfold cZ0;rw[if_pos aA]
theorem cM1 (h:inB a.kind 1 6=true) (h2:vZ w) (h3:¬a.kind=1) (h4:a.kind=2) (h5:¬(0:Int)<(cH w.engine).2.length):(iF w (cH w.engine).1,0)=cR r w a:=by unfold cR;rw[if_neg (by rw[h];simp),if_neg (fun hc=>hc h2),if_neg h3,if_pos h4];unfold cZ0;rw[if_neg aA];rfl
theorem hp_m0 (h:inB a.kind 1 6=true) (h2:vZ w) (h3:¬a.kind=1) (h4:¬a.kind=2) (h5:a.kind=3) (h6:(nW w.engine a.n).2=true):(iF w (nW w.engine a.n).1,0)=cR r w a:=by unfold cR;rw[if_neg (by rw[h];simp),if_neg (fun hc=>hc h2),if_neg h3,if_neg h4,if_pos h5,if_pos h6]
theorem hp_m1 (h:inB a.kind 1 6=true) (h2:vZ w) (h3:¬a.kind=1) (h4:¬a.kind=2) (h5:a.kind=3) (h6:(nW w.engine a.n).2=false):(iF w (nW w.engine a.n).1,14)=cR r w a:=by unfold cR;rw[if_neg (by rw[h];simp),if_neg (fun hc=>hc h2),if_neg h3,if_neg h4,if_pos h5,if_neg (by rw[h6];simp)]
theorem hp_f (h:inB a.kind 1 6=true) (h2:vZ w) (h3:¬a.kind=1) (h4:¬a.kind=2) (h5:¬a.kind=3) (h6:a.kind=4):lO w a.keep (r w a.keep)=cR r w a:=by unfold cR;rw[if_neg (by rw[h];simp),if_neg (fun hc=>hc h2),if_neg h3,if_neg h4,if_neg h5,if_pos h6]
theorem hp_b (h:inB a.kind 1 6=true) (h2:vZ w) (h3:¬a.kind=1) (h4:¬a.kind=2) (h5:¬a.kind=3) (h6:¬a.kind=4) (h7:a.kind=5):(iF w (aC3 w.engine),0)=cR r w a:=by unfold cR;rw[if_neg (by rw[h];simp),if_neg (fun hc=>hc h2),if_neg h3,if_neg h4,if_neg h5,if_neg h6,if_pos h7]
theorem hp_s (h:inB a.kind 1 6=true) (h2:vZ w) (h3:¬a.kind=1) (h4:¬a.kind=2) (h5:¬a.kind=3) (h6:¬a.kind=4) (h7:¬a.kind=5):(iF w (iI w.engine).1,(iI w.engine).2)=cR r w a:=by unfold cR;rw[if_neg (by rw[h];simp),if_neg (fun hc=>hc h2),if_neg h3,if_neg h4,if_neg h5,if_neg h6,if_neg h7]
end
theorem call_yes {e:Engine}{d:Deed}(h:(bS e d).2=0):bS e d=(bH7 e d,0):=by
 unfold bS at h ⊢
 repeat' split at h
 all_goals first | (simp only at h;omega) | skip
 repeat' split
 all_goals first | (exfalso;simp_all;done) | rfl
structure HaS (w:WorldD) (a:ActD):Prop extends WdS w where
 fell:0<=w.fell/\w.fell<=1000000
 act:a.deed.plan.edges.length<=1048576
 next:0<=w.engine.next/\w.engine.next<=2000000000
theorem HaS.fall {w:WorldD}{a:ActD}(h:HaS w a) (h2:vZ w):FaS w:=⟨h.toWdS,(engOk_iff.1 h2.1).disk,by have:=h2.2;omega,h.fell⟩
theorem bH4 {e:Engine}{d:Deed}(h:(bS e d).2=0):(bS e d).1.waits=e.waits++[⟨e.calls+1,(doD e.yard d).2⟩]:=by rw[call_yes h];rfl
theorem aC2 {e:Engine}{d:Deed}(h:(bS e d).2=0):(bS e d).1.waits.length=e.waits.length+1:=by rw[bH4 h,length_append];rfl
theorem cO5 {e:Engine}{d:Deed}(h:(bS e d).2=0):(bS e d).1.waits[e.waits.length]? = some ⟨e.calls+1,(doD e.yard d).2⟩:=by rw[bH4 h];simp
theorem Happens_i (w:WorldD) (a:ActD) (h:HaS w a):Ct1 prog 21 [.S w,.S a] [.S (cR (fun _ _=>rep0) w a).1,.I (cR (fun _ _=>rep0) w a).2]:=
 .one (cR (fun _ _=>rep0) w a) (rk:=fun q=>[.S q.1,.I q.2])<|vc func21 (fun (hg:gin [Par.S w,Par.S a])=>let gw:w.ok:=hg.1.1
  let ga:a.ok:=hg.2.1.1
  let hdl:=h.deeds
  let hrl:=h.reps
  let ge:w.engine.ok:=gw.1
  let gt:∀e:Engine,e.ok->(iF w e).ok:=fun e he=>⟨he,gw.2⟩
  .c func49 (aL5 w h.toWdS) (hg:=⟨gw,trivial⟩) fun _=>.m w.engine.next 1 (h:=by have:=h.next;unfold I64;omega) <|
  .c func50 (bL a.kind 1 6) fun _=>.v (inB a.kind 1 6) (fun h1=>.sh 15<|.sh 16<|.rt (w,5) ⟨hp_5 h1,gw,trivial⟩) (fun h1=>
  .c func51 (rZ w.engine h.yw) (hg:=⟨ge,trivial⟩) fun _=>.v (dQ w.engine) (fun h2=>.sh 15<|.sh 16<|.rt (w,8) ⟨cR3 h1 (fun hc=>by rw[hc.1]at h2;cases h2),gw,trivial⟩) (fun h2=>let hc:=sS h2
  .u ((w.deeds.length:Int)=w.engine.next-1) (fun h3=>.sh 15<|.sh 16<|.rt (w,8) ⟨cR3 h1 (fun hc=>h3 hc.2.1),gw,trivial⟩) (fun h3=>
  .u ((w.replies.length:Int)=w.engine.next-1) (fun h4=>.sh 15<|.sh 16<|.rt (w,8) ⟨cR3 h1 (fun hc=>h4 hc.2.2),gw,trivial⟩) (fun h4=>let ok:vZ w:=⟨h2,h3,h4⟩
  .s (a.kind=1) (fun k1=>.c func52 (Call_i w.engine a.deed h.yw h.dl h.wl) (hg:=⟨ge,ga.2.1,trivial⟩) fun gc=>.s ((bS w.engine a.deed).2=0)
   (fun h5=>.c func53 (yN a.deed h.act) (hg:=⟨ga.2.1,trivial⟩) fun _=>.a w.deeds a.deed 104 (hy:=ga.2.1) (hby:=by omega) <|
    .m (bS w.engine a.deed).1.waits.length 1 (h:=by have:=aC2 h5;unfold I64;omega)<|.ye (cO5 h5) (((bS w.engine a.deed).1.waits.length:Int)-1) (he:=by have:=aC2 h5;omega) fun gt=>.a w.replies (doD w.engine.yard a.deed).2 32 (hy:=(show Wait.ok ⟨w.engine.calls+1,(doD w.engine.yard a.deed).2⟩ from gt).2) (hby:=by omega) <|
    .sh 15<|.sh 16<|.rt (bO4 w a.deed,(bS w.engine a.deed).2) ⟨hp_c0 h1 ok k1 h5,⟨gc.1.1,gw.2⟩,trivial⟩)
   (fun h5=>.sh 15<|.sh 16<|.rt (iF w (bS w.engine a.deed).1,(bS w.engine a.deed).2) ⟨hp_c1 h1 ok k1 h5,gt _ gc.1.1,trivial⟩)) (fun k1=>
  .s (a.kind=2) (fun k2=>.c func54 (Commit_i w.engine h.yw h.dl h.wl) (hg:=⟨ge,trivial⟩) fun gc=>.s ((0:Int)<(cH w.engine).2.length)
   (fun h5=>.sh 15<|.sh 16<|.rt (⟨(cH w.engine).1,w.deeds,w.replies,(w.deeds.length:Int),w.fell⟩,0) ⟨cM0 h1 ok k1 k2 h5,⟨gc.1.1,by show I64 (w.deeds.length:Int);unfold I64;omega,gw.2.2⟩,trivial⟩)
   (fun h5=>.sh 15<|.sh 16<|.rt (iF w (cH w.engine).1,0) ⟨cM1 h1 ok k1 k2 h5,gt _ gc.1.1,trivial⟩)) (fun k2=>
  .s (a.kind=3) (fun k3=>.c func55 (MarkI w.engine a.n h.yw h.dl h.wl) (hg:=⟨ge,trivial⟩) fun gc=>.v (nW w.engine a.n).2
   (fun h5=>.sh 15<|.sh 16<|.rt (iF w (nW w.engine a.n).1,14) ⟨hp_m1 h1 ok k1 k2 k3 h5,gt _ gc.1.1,trivial⟩)
   (fun h5=>.sh 15<|.sh 16<|.rt (iF w (nW w.engine a.n).1,0) ⟨hp_m0 h1 ok k1 k2 k3 h5,gt _ gc.1.1,trivial⟩)) (fun k3=>
  .s (a.kind=4) (fun k4=>.c func56 (Falls_i w a.keep (h.fall ok)) (hg:=⟨gw,trivial⟩) fun gc=>.rt (lO w a.keep rep0) ⟨hp_f (r:=fun _ _=>rep0) h1 ok k1 k2 k3 k4,gc.1.1,trivial⟩) (fun k4=>
  .s (a.kind=5) (fun k5=>.c func57 (Break_i w.engine h.yw h.dl h.wl) (hg:=⟨ge,trivial⟩) fun gc=>.sh 15<|.sh 16<|.rt (iF w (aC3 w.engine),0) ⟨hp_b h1 ok k1 k2 k3 k4 k5,gt _ gc.1.1,trivial⟩) (fun k5=>
  .c func58 (Shut_i w.engine h.yw h.dl h.wl) (hg:=⟨ge,trivial⟩) fun gc=>.sh 15<|.sh 16<|.rt (iF w (iI w.engine).1,(iI w.engine).2) ⟨hp_s h1 ok k1 k2 k3 k4 k5,gt _ gc.1.1,trivial⟩)))))))))) aB
theorem Happens_s (w:WorldD) (a:ActD) (h:HaS w a):Ct1 prog 18 [.S w,.S a] [.S (cR jC w a).1,.I (cR jC w a).2]:=
 .one (cR jC w a) (rk:=fun q=>[.S q.1,.I q.2])<|vc func18 (fun (hg:gin [Par.S w,Par.S a])=>let gw:w.ok:=hg.1.1
  let ga:a.ok:=hg.2.1.1
  let hdl:=h.deeds
  let hrl:=h.reps
  let ge:w.engine.ok:=gw.1
  let gt:∀e:Engine,e.ok->(iF w e).ok:=fun e he=>⟨he,gw.2⟩
  .c func36 (CopyWorld_s w h.toWdS) (hg:=⟨gw,trivial⟩) fun _=>
  .c func37 (InV a.kind 1 6) fun _=>.v (inB a.kind 1 6) (fun h1=>.sh 15<|.sh 16<|.rt (w,5) ⟨hp_5 h1,gw,trivial⟩) (fun h1=>
  .c func38 (rY w.engine h.yw) (hg:=⟨ge,trivial⟩) fun _=>.v (dQ w.engine) (fun h2=>.sh 15<|.sh 16<|.rt (w,8) ⟨cR3 h1 (fun hc=>by rw[hc.1]at h2;cases h2),gw,trivial⟩) (fun h2=>let hc:=sS h2
  .m w.engine.next 1<|.u ((w.deeds.length:Int)=w.engine.next-1) (fun h3=>.sh 15<|.sh 16<|.rt (w,8) ⟨cR3 h1 (fun hc=>h3 hc.2.1),gw,trivial⟩) (fun h3=>
  .m w.engine.next 1<|.u ((w.replies.length:Int)=w.engine.next-1) (fun h4=>.sh 15<|.sh 16<|.rt (w,8) ⟨cR3 h1 (fun hc=>h4 hc.2.2),gw,trivial⟩) (fun h4=>let ok:vZ w:=⟨h2,h3,h4⟩
  .s (a.kind=1) (fun k1=>.c func39 (Call_s w.engine a.deed h.yw h.dl h.wl) (hg:=⟨ge,ga.2.1,trivial⟩) fun gc=>.s ((bS w.engine a.deed).2=0)
   (fun h5=>.lb inferInstance [a.deed] (by simp) (by simp) (aY3 ga.2.1)<|.c func40 (aL6 [a.deed] (by simp) (aY3 h.act)) fun _=>.ar inferInstance w.deeds [a.deed] (by simp) 104 (by simp only[length_cons,length_nil];unfold maxLen;omega) (by simp only[length_cons,length_nil];omega) <|
    .m (bS w.engine a.deed).1.waits.length 1 (h:=by have:=aC2 h5;unfold I64;omega)<|.ye (cO5 h5) (((bS w.engine a.deed).1.waits.length:Int)-1) (he:=by have:=aC2 h5;omega) fun gt=>.a w.replies (doD w.engine.yard a.deed).2 32 (hy:=(show Wait.ok ⟨w.engine.calls+1,(doD w.engine.yard a.deed).2⟩ from gt).2) (hby:=by omega) <|
    .sh 15<|.sh 16<|.rt (bO4 w a.deed,(bS w.engine a.deed).2) ⟨hp_c0 h1 ok k1 h5,⟨gc.1.1,gw.2⟩,trivial⟩)
   (fun h5=>.sh 15<|.sh 16<|.rt (iF w (bS w.engine a.deed).1,(bS w.engine a.deed).2) ⟨hp_c1 h1 ok k1 h5,gt _ gc.1.1,trivial⟩)) (fun k1=>
  .s (a.kind=2) (fun k2=>.e Wait<|.c func41 (Commit_s w.engine h.yw h.dl h.wl) (hg:=⟨ge,trivial⟩) fun gc=>.s ((0:Int)<(cH w.engine).2.length)
   (fun h5=>.sh 15<|.sh 16<|.rt (⟨(cH w.engine).1,w.deeds,w.replies,(w.deeds.length:Int),w.fell⟩,0) ⟨cM0 h1 ok k1 k2 h5,⟨gc.1.1,by show I64 (w.deeds.length:Int);unfold I64;omega,gw.2.2⟩,trivial⟩)
   (fun h5=>.sh 15<|.sh 16<|.rt (iF w (cH w.engine).1,0) ⟨cM1 h1 ok k1 k2 h5,gt _ gc.1.1,trivial⟩)) (fun k2=>
  .s (a.kind=3) (fun k3=>.c func42 (MarkS w.engine a.n h.yw h.dl h.wl) (hg:=⟨ge,trivial⟩) fun gc=>.v (nW w.engine a.n).2
   (fun h5=>.sh 15<|.sh 16<|.rt (iF w (nW w.engine a.n).1,14) ⟨hp_m1 h1 ok k1 k2 k3 h5,gt _ gc.1.1,trivial⟩)
   (fun h5=>.sh 15<|.sh 16<|.rt (iF w (nW w.engine a.n).1,0) ⟨hp_m0 h1 ok k1 k2 k3 h5,gt _ gc.1.1,trivial⟩)) (fun k3=>
  .s (a.kind=4) (fun k4=>.co _ func43 (Falls_s w a.keep (h.fall ok) gw) trivial fun _ _ gc=>.rt (lO w a.keep (jC w a.keep)) ⟨hp_f (r:=jC) h1 ok k1 k2 k3 k4,gc.1.1,trivial⟩) (fun k4=>
  .s (a.kind=5) (fun k5=>.c func44 (Break_s w.engine h.yw h.dl h.wl) (hg:=⟨ge,trivial⟩) fun gc=>.sh 15<|.sh 16<|.rt (iF w (aC3 w.engine),0) ⟨hp_b h1 ok k1 k2 k3 k4 k5,gt _ gc.1.1,trivial⟩) (fun k5=>
  .c func45 (Shut_s w.engine h.yw h.dl h.wl) (hg:=⟨ge,trivial⟩) fun gc=>.sh 15<|.sh 16<|.rt (iF w (iI w.engine).1,(iI w.engine).2) ⟨hp_s h1 ok k1 k2 k3 k4 k5,gt _ gc.1.1,trivial⟩)))))))))) aB
structure PW (k:Nat) (w:WorldD):Prop where
 eg:EG (1+6000300*(k:Int)) w.engine
 yw:w.engine.yard.wt<=1048576
 sm:small w.engine.disk
 wl:w.engine.waits.length<=61
 nx:0<=w.engine.next/\w.engine.next<=1000000000
 dl:w.deeds.length<=k
 rl:w.replies.length<=k
 de:∀d∈w.deeds,d.wt<=1048576
 fe:0<=w.fell/\w.fell<=k
theorem PW.next {k:Nat}{w:WorldD}(h:PW k w):PW (k+1) w:=
 ⟨h.eg.mono aA,h.yw,h.sm,h.wl,h.nx,by have:=h.dl;omega,by have:=h.rl;omega,h.de,by have:=h.fe;omega⟩
theorem PW.eng {k:Nat}{w:WorldD}(h:PW k w) {e:Engine}(h1:EG (1+6000300*((k+1:Nat):Int)) e) (h2:e.yard.wt<=1048576) (h3:small e.disk) (h4:e.waits.length<=61) (h5:0<=e.next/\e.next<=1000000000):PW (k+1) (iF w e):=
 ⟨h1,h2,h3,h4,h5,h.next.dl,h.next.rl,h.de,h.next.fe⟩
theorem dA3 {y:Yard}(d:Deed) (h:y.wt<=1048576):(doD y d).1.wt<=1048576:=cE0 d aA h
theorem tL {d d':Disk}(h:d'=d∨small d') (hs:small d):small d':=by
 rcases h with h | h
 ·rw[h];exact hs
 exact h
theorem mst_keep {e:Engine}(k:Int) (hs:small e.disk):small (gA e k).1.disk/\(gA e k).1.next=e.next:=by
 unfold gA;split
 ·exact⟨hs,rfl⟩
 split
 ·exact⟨hs,rfl⟩
 exact⟨tL (op_s e k) hs,rfl⟩
theorem bW3 {e:Engine}(hs:small e.disk):∀k,((iO e k).1.yard=e.yard/\(iO e k).1.waits=e.waits)/\small (iO e k).1.disk/\(iO e k).1.next=e.next
 | 0=>⟨⟨rfl,rfl⟩,hs,rfl⟩
 | k+1=>by
  obtain⟨⟨h1,h2⟩,h3,h4⟩:=bW3 hs k;show ((if (iO e k).2=true then gA (iO e k).1 k else iO e k).1.yard=_/\_)/\_;by_cases hk:(iO e k).2=true
  ·have e1:=cX5 (iO e k).1 k;have e2:=mst_keep (e:=(iO e k).1) k h3;rw[bW1 hk,if_pos hk];exact⟨⟨e1.1.trans h1,e1.2.trans h2⟩,e2.1,e2.2.trans h4⟩
  have e0:iO e (k+1)=iO e k:=by
   show (if _ then _ else _)=_;rw[if_neg hk]
  rw[if_neg hk,e0];exact⟨⟨h1,h2⟩,h3,h4⟩
theorem call_keep {e:Engine}(d:Deed) (hw:e.yard.wt<=1048576) (hs:small e.disk) (hl:e.waits.length<=61) (hn:0<=e.next/\e.next<=1000000000) :
  (bS e d).1.yard.wt<=1048576/\small (bS e d).1.disk/\(bS e d).1.waits.length<=61/\(0<=(bS e d).1.next/\(bS e d).1.next<=1000000000):=by
 unfold bS
 repeat' split
 all_goals first | exact⟨hw,hs,hl,hn⟩ | skip
 next h0 _ _ _ _ _ _=>
  have h0:dQ e=true:=by simpa using h0
  have hc:=sS h0;refine⟨dA3 d hw,tL (bK1 e.disk logN (uG e d)) hs,?_,?_⟩
  ·show (e.waits++[_]).length<=_;rw[length_append];simp only[length_cons,length_nil];omega
  show 0<=e.next+1/\e.next+1<=_;omega
theorem bZ6 {B:Int}{d:Disk}(h:DI B d) (hk:aS d=true) (keep:List Int):DI B (bF d keep):=by
 intro f hf hn;unfold bF at hf;rw[if_pos hk]at hf;obtain⟨k,hk⟩:=mem_iff_getElem?.1 hf;have hk:(qK keep d.files d.files.length)[k]? = some f:=hk;unfold qK at hk;rw[take_length,drop_length,append_nil,getElem?_mapIdx]at hk;cases hq:d.files[k]? with
 | none=>rw[hq]at hk;cases hk
 | some g=>
  rw[hq]at hk;simp only[Option.map_some,Option.some.injEq]at hk;subst hk;exact(h g (mem_of_getElem? hq) hn).cut _
theorem boot_keep {d:Disk}(hs:small d) (h:(bW d).2=true) :
  (bW d).1.yard.wt<=1048576/\small (bW d).1.disk/\(bW d).1.waits.length<=61:=by
 unfold bW at h ⊢;split
 ·next hc=>rw[if_pos hc]at h;cases h
 next hc=>
 rw[if_neg hc]at h;split
 ·next hw=>rw[if_pos hw]at h;cases h
 refine⟨dA3 startD (recW d),?_,by show (0:Nat)<=61;omega⟩;show small (rW d).1;refine tL (bK1 (aB7 d) logN (dG (gQ ⟨(cW d).2.1+1,startD⟩))) ?_;unfold aB7;split
 ·exact tL (cut_s d logN _) hs
 exact hs
theorem commit_pw {e:Engine}{B:Int}(hg:EG B e) (hs:small e.disk):EG B (cH e).1/\(cH e).1.yard=e.yard/\small (cH e).1.disk/\(cH e).1.waits.length<=e.waits.length/\(cH e).1.next=e.next:=by
 unfold cH;split
 ·exact⟨hg,rfl,hs,Nat.le_refl _,rfl⟩
 split
 ·exact⟨⟨hg.yard,hg.disk⟩,rfl,hs,Nat.le_refl _,rfl⟩
 exact⟨⟨hg.yard,hg.disk.sync _⟩,rfl,tL (cT0 _ _) hs,Nat.zero_le _,rfl⟩
theorem deed_start:startD.wt<=1048576:=by decide
theorem happ_pw {k:Nat}{w:WorldD}{a:ActD}(r:WorldD->List Int->Reply) (h:PW k w) (hk:k<80) (ha:a.deed.wt<=1048576):PW (k+1) (cR r w a).1:=by
 unfold cR;split
 ·exact h.next
 split
 ·exact h.next
 next hok=>
 have hok:vZ w:=Classical.byContradiction hok;have hcn:=sS hok.1;split
 ·have hc:=call_keep a.deed h.yw h.sm h.wl h.nx;have he:EG (1+6000300*((k+1:Nat):Int)) (bS w.engine a.deed).1:=(call_eg (d:=a.deed) h.eg aA).mono aA;split
  ·refine⟨he,hc.1,hc.2.1,hc.2.2.1,hc.2.2.2,?_,?_,?_,h.next.fe⟩
   ·show (w.deeds++[a.deed]).length<=_;rw[length_append];have:=h.dl;simp only[length_cons,length_nil];omega
   ·show (w.replies++[_]).length<=_;rw[length_append];have:=h.rl;simp only[length_cons,length_nil];omega
   intro d hd;have hd:d∈w.deeds++[a.deed]:=hd;rcases mem_append.1 hd with h1 | h1
   ·exact h.de d h1
   rw[mem_singleton]at h1;rw[h1];exact ha
  exact h.eng he hc.1 hc.2.1 hc.2.2.1 hc.2.2.2
 split
 ·obtain⟨c1,c2,c3,c4,c5⟩:=commit_pw h.eg h.sm;exact⟨c1.mono aA,by show (cH w.engine).1.yard.wt<=_;rw[c2];exact h.yw,c3,Nat.le_trans c4 h.wl,by show 0<=(cH w.engine).1.next/\(cH w.engine).1.next<=_;rw[c5];exact h.nx,h.next.dl,h.next.rl,h.de,h.next.fe⟩
 split
 ·have m1:=(cX6 h.eg aA (fQ a.n 0 5).toNat).1;obtain⟨⟨m2,m3⟩,m4,m5⟩:=bW3 (e:=w.engine) h.sm (fQ a.n 0 5).toNat;refine h.eng (e:=(nW w.engine a.n).1) ((show EG _ (nW w.engine a.n).1 from m1).mono aA) ?_ m4 ?_ ?_
  ·show (iO w.engine (fQ a.n 0 5).toNat).1.yard.wt<=_;rw[m2];exact h.yw
  ·show (iO w.engine (fQ a.n 0 5).toNat).1.waits.length<=_;rw[m3];exact h.wl
  show 0<=(iO w.engine (fQ a.n 0 5).toNat).1.next/\(iO w.engine (fQ a.n 0 5).toNat).1.next<=_;rw[m5];exact h.nx
 split
 ·have hd:=(engOk_iff.1 hok.1).disk;unfold lO;split
  ·exact h.next
  next hf=>
  have hf:(bW (bF w.engine.disk a.keep)).2=true/\¬(w.deeds.length:Int)<(bW (bF w.engine.disk a.keep)).1.next-2:=Classical.byContradiction hf;have b1:=boot_keep (pX hd a.keep) hf.1;have b2:=vU hf.1;have b3:=boot_eg (bZ6 h.eg.disk hd a.keep) aA hf.1;refine⟨b3.mono aA,b1.1,b1.2.1,b1.2.2,by show 0<=(bW (bF w.engine.disk a.keep)).1.next/\(bW (bF w.engine.disk a.keep)).1.next<=_;omega,?_,?_,?_,?_⟩
  ·show (w.deeds.take _++[startD]).length<=_;rw[length_append,length_take];have:=h.dl;simp only[length_cons,length_nil];omega
  ·show (w.replies.take _++[_]).length<=_;rw[length_append,length_take];have:=h.rl;simp only[length_cons,length_nil];omega
  ·intro d hdm;have hdm:d∈w.deeds.take ((bW (bF w.engine.disk a.keep)).1.next-2).toNat++[startD]:=hdm;rcases mem_append.1 hdm with h1 | h1
   ·exact h.de d (mem_of_mem_take h1)
   rw[mem_singleton]at h1;rw[h1];exact deed_start
  show 0<=w.fell+1/\w.fell+1<=_;have:=h.fe;omega
 split
 ·refine h.eng (e:=aC3 w.engine) ?_ ?_ ?_ ?_ ?_
  all_goals unfold aC3
  all_goals split
  ·exact⟨(h.eg.mono aA).yard,(h.eg.mono aA).disk⟩
  ·exact h.eg.mono aA
  ·exact h.yw
  ·exact h.yw
  ·exact h.sm
  ·exact h.sm
  ·exact h.wl
  ·exact h.wl
  ·exact h.nx
  exact h.nx
 refine h.eng (e:=(iI w.engine).1) ?_ ?_ ?_ ?_ ?_
 all_goals unfold iI
 all_goals repeat' split
 all_goals first | exact h.eg.mono aA | exact h.yw | exact h.sm | exact h.wl | exact h.nx | exact⟨(h.eg.mono aA).yard,(h.eg.mono aA).disk⟩ | exact Nat.zero_le _
theorem start_rep {y:Yard}(h:aG y=true):(doD y startD).2=rep0:=by
 have e:=do_8 (y:=y) (d:=startD) fL rfl 0 (by rw[if_pos h]);rw[<- e];rfl
theorem happ_one {k:Nat}{w:WorldD}{a:ActD}(h:PW k w) (hk:k<80):cR (fun _ _=>rep0) w a=cR jC w a:=by
 unfold cR;split
 ·rfl
 split
 ·rfl
 next hok=>
 have hok:vZ w:=Classical.byContradiction hok;have hd:=(engOk_iff.1 hok.1).disk;split
 ·rfl
 split
 ·rfl
 split
 ·rfl
 split
 ·unfold lO;split
  ·rfl
  next hf=>
  have hf:(bW (bF w.engine.disk a.keep)).2=true/\¬(w.deeds.length:Int)<(bW (bF w.engine.disk a.keep)).1.next-2:=Classical.byContradiction hf;have b2:=vU hf.1;have b3:=rec_ok (bZ6 h.eg.disk hd a.keep) aA b2.2.2;have b4:jC w a.keep=rep0:=start_rep b3;rw[b4]
 rfl
theorem PW.ha {k:Nat}{w:WorldD}{a:ActD}(h:PW k w) (hk:k<=80) (ha:a.deed.wt<=1048576):HaS w a:=
 { yw:=h.yw,dl:=(by have:=h.sm.1;omega),wl:=(by have:=h.wl;omega),deeds:=(by have:=h.dl;omega),edges:=fun d hd=>(by have:=h.de d hd;unfold Deed.wt Plan.wt at this;omega),reps:=(by have:=h.rl;omega),fell:=(by have:=h.fe;omega),act:=(by unfold Deed.wt Plan.wt at ha;omega),next:=by have:=h.nx;omega }
theorem new_pw:PW 0 worldNew:=by
 refine⟨⟨⟨gd_new.1,gd_new.2,by decide⟩,fun f hf _=>by cases hf⟩,by decide,⟨by decide,fun f hf=>by cases hf⟩,by decide,by decide,by decide,by decide,(fun d hd=>by cases hd),by decide⟩
noncomputable def plG (al:List ActD):Nat->WorldD×List Int
 | 0=>(worldNew,[])
 | k+1=>match al[k]? with
  | some a=>((cR jC (plG al k).1 a).1,(plG al k).2++[(cR jC (plG al k).1 a).2])
  | none=>plG al k
noncomputable def zN (al:List ActD):WorldD×List Int:=plG al (min al.length 80)
theorem cV6 {al:List ActD}{k:Nat}{a:ActD}(h:al[k]? = some a):plG al (k+1)=((cR jC (plG al k).1 a).1,(plG al k).2++[(cR jC (plG al k).1 a).2]):=by
 show (match al[k]? with | some a=>_ | none=>_)=_;rw[h]
theorem cC8 {al:List ActD}(ha:∀a∈al,a.deed.wt<=1048576):∀k,k<=80->PW k (plG al k).1
 | 0,_=>new_pw
 | k+1,hk=>by
  have ih:=cC8 ha k aA;cases h:al[k]? with
  | some a=>rw[cV6 h];exact happ_pw jC ih aA (ha a (mem_of_getElem? h))
  | none=>
   have e:plG al (k+1)=plG al k:=by
    show (match al[k]? with | some a=>_ | none=>_)=_;rw[h]
   rw[e];exact ih.next
theorem bM4 (al:List ActD):∀k,(plG al k).2.length<=k
 | 0=>Nat.le_refl _
 | k+1=>by
  have ih:=bM4 al k;cases h:al[k]? with
  | some a=>rw[cV6 h];show (_++[_]).length<=_;rw[length_append];simp only[length_cons,length_nil];omega
  | none=>
   have e:plG al (k+1)=plG al k:=by
    show (match al[k]? with | some a=>_ | none=>_)=_;rw[h]
   rw[e];omega
structure PlJ (al:List ActD) (g:Nat×WorldD×List Int):Prop where
 le:g.1<=al.length
 mx:g.1<=80
 eq:g.2=plG al g.1
 ok:g.2.1.ok
theorem worldNew_ok:worldNew.ok:=by simp[worldNew,vM,yardNew,WorldD.ok,Engine.ok,Yard.ok,Disk.ok,I64]
theorem PlJ.start (al:List ActD):PlJ al (0,worldNew,[]):=⟨Nat.zero_le _,Nat.zero_le _,rfl,worldNew_ok⟩
theorem call_c {e:Engine}{d:Deed}:0<=(bS e d).2/\(bS e d).2<=20:=by
 unfold bS
 repeat' split
 all_goals exact⟨of_decide_eq_true rfl,of_decide_eq_true rfl⟩
theorem shut_c {e:Engine}:0<=(iI e).2/\(iI e).2<=20:=by
 unfold iI
 repeat' split
 all_goals exact⟨of_decide_eq_true rfl,of_decide_eq_true rfl⟩
theorem fall_c {w:WorldD}{k:List Int}{r:Reply}:0<=(lO w k r).2/\(lO w k r).2<=20:=by
 unfold lO;split
 all_goals exact⟨of_decide_eq_true rfl,of_decide_eq_true rfl⟩
theorem happ_c {r:WorldD->List Int->Reply}{w:WorldD}{a:ActD}:0<=(cR r w a).2/\(cR r w a).2<=20:=by
 unfold cR;split
 ·exact⟨of_decide_eq_true rfl,of_decide_eq_true rfl⟩
 split
 ·exact⟨of_decide_eq_true rfl,of_decide_eq_true rfl⟩
 split
 ·exact call_c
 split
 ·exact⟨of_decide_eq_true rfl,of_decide_eq_true rfl⟩
 split
 ·show 0<=(if _ then (0:Int) else 14)/\(if _ then (0:Int) else 14)<=20;split
  ·exact⟨of_decide_eq_true rfl,of_decide_eq_true rfl⟩
  exact⟨of_decide_eq_true rfl,of_decide_eq_true rfl⟩
 split
 ·exact fall_c
 split
 ·exact⟨of_decide_eq_true rfl,of_decide_eq_true rfl⟩
 exact shut_c
theorem cZ1 {r:WorldD->List Int->Reply}{w:WorldD}{a:ActD}:I64 (cR r w a).2:=by
 have:=happ_c (r:=r) (w:=w) (a:=a);unfold I64;omega
theorem PlJ.pw {al:List ActD}{g:Nat×WorldD×List Int}(h:PlJ al g) (ha:∀a∈al,a.deed.wt<=1048576):PW g.1 g.2.1:=by rw[h.eq];exact cC8 ha _ h.mx
theorem PlJ.len {al:List ActD}{g:Nat×WorldD×List Int}(h:PlJ al g):g.2.2.length<=80:=by rw[h.eq];exact Nat.le_trans (bM4 al _) h.mx
theorem PlJ.nextS {al:List ActD}{g:Nat×WorldD×List Int}(h:PlJ al g) {a:ActD}(hx:al[g.1]? = some a) (hk:g.1<80) (ho:(cR jC g.2.1 a).1.ok):PlJ al (g.1+1,(cR jC g.2.1 a).1,g.2.2++[(cR jC g.2.1 a).2]):=by
 refine⟨(gsi_.1 hx).1,hk,?_,ho⟩;show _=plG al (g.1+1);rw[cV6 hx,<- h.eq]
theorem PlJ.nextI {al:List ActD}{g:Nat×WorldD×List Int}(h:PlJ al g) (ha:∀a∈al,a.deed.wt<=1048576) {a:ActD}(hx:al[g.1]? = some a) (hk:g.1<80) (ho:(cR (fun _ _=>rep0) g.2.1 a).1.ok):PlJ al (g.1+1,(cR (fun _ _=>rep0) g.2.1 a).1,g.2.2++[(cR (fun _ _=>rep0) g.2.1 a).2]):=by
 rw[happ_one (h.pw ha) hk]at ho ⊢;exact h.nextS hx hk ho
theorem PlJ.fin {al:List ActD}{g:Nat×WorldD×List Int}(h:PlJ al g) (hk:¬g.1<min al.length 80):g.2=zN al:=by
 have h1:=h.le;have h2:=h.mx;rw[h.eq];unfold zN;rw[show g.1=min al.length 80 by omega]
theorem EngineNewD:Ct1 prog 48 [] [.S vM]:=vc func48 (fun _=>.c func88 cA9 fun _=>.rt () ⟨trivial,worldNew_ok.1,trivial⟩) aB
theorem WorldNewD:Ct1 prog 20 [] [.S worldNew]:=vc func20 (fun _=>.c func48 EngineNewD fun _=>.rt () ⟨trivial,worldNew_ok,trivial⟩) aB
theorem EngineNewSD:Ct1 prog 35 [] [.S vM]:=vc func35 (fun _=>.c func72 bI6 fun _=>.rt () ⟨trivial,worldNew_ok.1,trivial⟩) aB
theorem WorldNewSD:Ct1 prog 17 [] [.S worldNew]:=vc func17 (fun _=>.c func35 EngineNewSD fun _=>.rt () ⟨trivial,worldNew_ok,trivial⟩) aB
abbrev wdS (w:WorldD) (b s r f q d p:Nat):List (Nat×To):=[oB b [.v (I w.engine.yard.now),.v (I w.engine.yard.seq),.r s,.r r,.r f,.v (I w.engine.next),.v (I w.engine.calls),.r q,.v (I w.engine.state),.b w.engine.broken,.r d,.r p,.v (I w.told),.v (I w.fell)],oO s w.engine.yard.shelf,oO r w.engine.yard.runs,oO f w.engine.disk.files,oO q w.engine.waits,oO d w.deeds,oO p w.replies]
theorem cB2 (al:List ActD) (hs:∀a∈al,a.deed.wt<=1048576) (hl:al.length<=1048576):Ct1 prog 7 [.L al] [.S (zN al).1,.L (zN al).2]:=
 .one (zN al) (rk:=fun q=>[.S q.1,.L q.2])<|vc func7 (fun (hg:gin [Par.L al])=>
  .c func20 WorldNewD fun _=>.w Int 3 5<|.tk inferInstance al (min al.length 80) aA (min (al.length:Int) 80) aA <|
  .l (Γ:=Nat×WorldD×List Int) (PlJ al) (fun g=>min al.length 80-g.1) [2,4,15,16] [1] [0,10] (fun g=>[vI 17 g.1,vR 5 9]) (fun g=>oR 9 3 g.2.2::wdS g.2.1 8 2 3 4 5 6 7) (0,worldNew,[]) (h:=PlJ.start al) fun g hJ tk=>
   let hjl:=hJ.len
   let hjm:=hJ.mx
   .s ((g.1:Int)<(al.take (min al.length 80)).length)
    (fun h=>.x (al.take (min al.length 80)) g.1 (h:=by omega) fun a ha ga=>
     let hk:g.1<min al.length 80:=(by rw[length_take]at h;omega)
     let hx:al[g.1]? = some a:=(by rw[getElem?_take_of_lt hk]at ha;exact ha)
     let ha1:=hs a (mem_of_getElem? hx)
     .c func21 (Happens_i g.2.1 a ((hJ.pw hs).ha hJ.mx ha1)) (hg:=⟨hJ.ok,ga,trivial⟩) fun hz=>
     .a g.2.2 (cR (fun _ _=>rep0) g.2.1 a).2 8 (hy:=cZ1) (hby:=by omega)<|.p g.1 1 (h:=by unfold I64;omega) <|
     .n tk (g.1+1,(cR (fun _ _=>rep0) g.2.1 a).1,g.2.2++[(cR (fun _ _=>rep0) g.2.1 a).2]) [(2,15),(3,16),(4,17),(5,18),(6,19),(7,20)] (h1:=hJ.nextI hs hx aA hz.1.1) (h2:=by show min al.length 80-(g.1+1)<_;omega))
    (fun h=>.rt g.2 ⟨hJ.fin (by rw[length_take]at h;omega),hJ.ok,trivial⟩)) aB
theorem Played_s (al:List ActD) (hs:∀a∈al,a.deed.wt<=1048576) (hl:al.length<=1048576):Ct1 prog 5 [.L al] [.S (zN al).1,.L (zN al).2]:=
 .one (zN al) (rk:=fun q=>[.S q.1,.L q.2])<|vc func5 (fun (hg:gin [Par.L al])=>
  .c func17 WorldNewSD fun _=>.e Int <|
  .l (Γ:=Nat×WorldD×List Int) (PlJ al) (fun g=>min al.length 80-g.1) [0,2,4] [1] [0] (fun g=>[vI 6 g.1,vR 5 9]) (fun g=>oR 9 3 g.2.2::wdS g.2.1 8 2 3 4 5 6 7) (0,worldNew,[]) (h:=PlJ.start al) fun g hJ tk=>
   let hjl:=hJ.len
   let hjm:=hJ.mx
   .s ((g.1:Int)<al.length)
    (fun h=>.s ((g.1:Int)<80)
     (fun h2=>.x al g.1 (h:=by omega) fun a ha ga=>
      let hx:al[g.1]? = some a:=ha
      let ha1:=hs a (mem_of_getElem? hx)
      .c func18 (Happens_s g.2.1 a ((hJ.pw hs).ha hJ.mx ha1)) (hg:=⟨hJ.ok,ga,trivial⟩) fun hz=>
      .a g.2.2 (cR jC g.2.1 a).2 8 (hy:=cZ1) (hby:=by omega)<|.p g.1 1 (h:=by unfold I64;omega) <|
      .n tk (g.1+1,(cR jC g.2.1 a).1,g.2.2++[(cR jC g.2.1 a).2]) [(2,13),(3,14),(4,15),(5,16),(6,17),(7,18)] (h1:=hJ.nextS hx aA hz.1.1) (h2:=by show min al.length 80-(g.1+1)<_;omega))
     (fun h2=>.rt g.2 ⟨hJ.fin aA,hJ.ok,trivial⟩))
    (fun h=>.rt g.2 ⟨hJ.fin aA,hJ.ok,trivial⟩)) aB
theorem xZ {α:Type}[DecidableEq α] {x:α}(h:eqB x x=false):False:=by unfold eqB at h;simp at h
theorem wtL_mem {α:Type}{f:α->Nat}{xs:List α}{n:Nat}(h:wtL f xs<=n):xs.length<=n/\∀x∈xs,f x<=n:=by
 unfold wtL at h;refine⟨by omega,fun x hx=>?_⟩;have:=yW (g:=f) hx;omega
theorem PW.wt {k:Nat}{w:WorldD}(h:PW k w) (hk:k<=80):w.wt<=200000000:=by
 have h1:=zA h.sm;have h2:=h.yw;have h3:=h.wl;have h4:=h.dl;have h5:=h.rl;have h6:∀ds:List Deed,(∀d∈ds,d.wt<=1048576)->(ds.map (fun y:Deed=>y.wt)).sum<=1048576*ds.length:=by
  intro ds
  induction ds with
  | nil=>intro _;simp
  | cons d ds ih=>
   intro hd;have e1:=hd d mem_cons_self;have e2:=ih fun x hx=>hd x (mem_cons_of_mem _ hx)
   simp only[map_cons,sum_cons,length_cons];omega
 have h7:=h6 w.deeds h.de;unfold WorldD.wt wtL;unfold Engine.wt;omega
theorem playedLaw_d (al:List ActD):Ct1 prog 3 [.L al] [.B true]:=
 .one (true) (rk:=fun b=>[.B b])<|vc func3 (fun (hg:gin [Par.L al])=>
  .c func4 (szActS_d al 1048576 aA aA) fun _=>.s (szL 1048576 (wtL (fun y:ActD=>y.wt) al)<0) (fun h=>.rt true ⟨rfl,trivial⟩) (fun h1=>let q1:=aD0 h1 aA
  let hw:wtL (fun y:ActD=>y.wt) al<=1048576:=by omega
  let hm:=wtL_mem hw
  let hs:∀a∈al,a.deed.wt<=1048576:=fun a ha=>(by have:=hm.2 a ha;unfold ActD.wt at this;omega)
  let n1:=cb_ActS al
  let z:=zN al
  let hp:PW (min al.length 80) z.1:=cC8 hs _ aA
  let hz:z.1.wt<=200000000:=hp.wt aA
  let hzl:z.2.length<=80:=Nat.le_trans (bM4 al _) aA
  let n3:=nt_World z.1
  let n4:=cO3 z.2
  let hsh:z.1.engine.yard.shelf.length<=4611686018427387904:=by { have e1:=(qN z.1.engine.yard).1;have e2:=hp.yw;omega }
  let toA:=toActS_d al hw
  .c func6 toA fun _=>.c func5 (Played_s al hs hm.1) fun hr=>let gz:z.1.ok:=hr.1.1
  .c func6 toA fun _=>.c func7 (cB2 al hs hm.1) fun _=>
  .c func8 (aF5 z.1 z.1) (hg:=⟨gz,gz,trivial⟩) fun _=>.v (eqB z.1 z.1) (fun h=>.ab (xZ h)) (fun _=>.c func9 (aB0 z.2 z.2) fun _=>.v (eqB z.2 z.2) (fun h=>.ab (xZ h)) (fun _=>
  .c func6 toA fun _=>.c func10 (eqActS_d al al) fun _=>.v (eqB al al) (fun h=>.ab (xZ h)) (fun _=>
  .in_ (R':=fun _:Unit=>True) func11 (mkActS_D 20 10 al 1 aA aA) fun _ _=>
  .kf ((1:Int)+(cL kB al:Nat)<0) aA<|.c func8 (aF5 z.1 z.1) (hg:=⟨gz,gz,trivial⟩) fun _=>.v (eqB z.1 z.1) (fun h=>.ab (xZ h)) (fun _=>.c func9 (aB0 z.2 z.2) fun _=>.v (eqB z.2 z.2) (fun h=>.ab (xZ h)) (fun _=>
  .in_ (R':=fun _:Unit=>True) func12 (mkWorld_D 20 11 12 13 14 15 16 z.1 hsh 1 aA aA) fun _ _=>.in_ (R':=fun _:Unit=>True) func13 (bW6 24 17 z.2 ((1:Int)+(cY z.1:Nat)) aA aA) fun _ _=>
  .c func14 (aK6 z.1 1 aA aA) (hg:=⟨(show (vB z.1 1).ok from gz),trivial⟩) fun _=>.kf ((1:Int)+(cY z.1:Nat)<0) aA <|
  .c func15 (aV5 z.2 ((1:Int)+(cY z.1:Nat)) aA aA) fun _=>.kf ((1:Int)+(cY z.1:Nat)+(cL neI z.2:Nat)<0) aA<|.uf ((1:Int)+(cY z.1:Nat)+(cL neI z.2:Nat)=(1:Int)+(cY z.1:Nat)+(cL neI z.2:Nat)) rfl <|
  .c func6 toA fun _=>.c func7 (cB2 al hs hm.1) fun _=>
  .c func8 (aF5 z.1 z.1) (hg:=⟨gz,gz,trivial⟩) fun _=>.v (eqB z.1 z.1) (fun h=>.ab (xZ h)) (fun _=>.c func9 (aB0 z.2 z.2) fun _=>.v (eqB z.2 z.2) (fun h=>.ab (xZ h)) (fun _=>
  .c func14 (aK6 z.1 1 aA aA) (hg:=⟨(show (vB z.1 1).ok from gz),trivial⟩) fun _=>.kf ((1:Int)+(cY z.1:Nat)<0) aA <|
  .c func15 (aV5 z.2 ((1:Int)+(cY z.1:Nat)) aA aA) fun _=>.kf ((1:Int)+(cY z.1:Nat)+(cL neI z.2:Nat)<0) aA<|.uf ((1:Int)+(cY z.1:Nat)+(cL neI z.2:Nat)=(1:Int)+(cY z.1:Nat)+(cL neI z.2:Nat)) rfl<|.rt true ⟨rfl,trivial⟩))))))))) aB
theorem law_end {w W:World}{vs:List Value}{rs:List Res}{e:Ending}(he:e = .returned (aD6 vs)) (hr:Rks vs [Rk.B true] rs) (st:St w W rs):e = .returned (.bool true)/\Below w.heap.size w W:=by
 match vs,hr with
 | [v1],hr=>
  obtain⟨r1,r2,⟨h1,h4⟩,h2,h3⟩:=hr;subst h1;exact⟨he,st.below⟩
theorem played_law (w:World) (v0:Value) (xs0:List ActD) (fp0:List Nat) (hs0:Sl w v0 xs0 fp0) :
  Calls prog 3 #[v0] w fun e w'=>e = .returned (.bool true)/\Below w.heap.size w w':=
 ((playedLaw_d xs0).run w [v0] trivial ⟨⟨fp0,hs0⟩,trivial⟩).mono fun e W ⟨_,vs,rs,_,he,hr,st⟩=>law_end he hr st
end Go.Proofs.YtjihdmlkpkkpbaaGreat
namespace Go.Proofs.YtjihdmlkpkkpbaaGreat
set_option maxRecDepth 100000
set_option maxHeartbeats 2000000
open Go.ChangeShapes Go.WideShapes Go.ChangeAt Go.RowKit Go.Deep
def uK (t:TypeId) (α:Type) [Shape α]:Prop:=∀{H:Type}(enc:TypeId×Value->H) (w:World) (fuel:Nat) (cs:List Value) (x:DataW H×List MemPlace),
 DataW.trod enc Tryz.prog w 0 (fun _=>true) true fuel t cs=some x->∃(a:α) (fp:List Nat),Shape.C w cs a fp

theorem kF {n:Int}(h:(Lit.int .i64 n).wf=true):I64 n:=by
 have:=bounds_i64 h;exact this

theorem opens_int:uK 3 Int:=by
 intro H enc w fuel cs x h;obtain⟨n,rfl,_,hw⟩:=DataW.trod_int Tryz.underlying3 h;exact⟨n,[],rfl,rfl,kF hw⟩

theorem tM {t e:TypeId}{α:Type}[Shape α] (ht:Tryz.prog.underlying t=some (.slice e)) (hC:Tryz.prog.cellsOf e=Shape.size α) (hp:0<Shape.size α) (he:uK e α):uK t (List α):=by
 intro H enc w fuel cs x h;rcases open_slice ht h with⟨rfl,_⟩ | ⟨a,len,cap,m,n,D,Pl,rfl,_,hl,hm,hmm,_,hi⟩
 ·exact⟨[],[],_,rfl,none,0,rfl,Nat.le_refl _,by omega,.inl ⟨rfl,rfl⟩⟩
 simp only[if_true]at hmm;subst hmm;unfold maxLen at hm;have key:∀k,k<=len->0<len->∃(xs:List α) (fp:List Nat),xs.length=k/\a.spot=none/\SlAt w a.block a.off xs fp:=by
  intro k
  induction k with
  | zero=>
   intro _ hlp;obtain⟨cs',hc,_⟩:=hi 0 aA;obtain⟨_,hcl,hat⟩:=World.cells?_some hc;rw[hC]at hcl hat;have h0:=hat 0 hp;have:a.spot=none:=by
    have hlt:0<cs'.length:=by omega
    rw[List.getElem?_eq_getElem hlt]at h0;simpa [Addr.add] using World.cell?_spot h0
   exact⟨[],[],rfl,this,rfl⟩
  | succ k ih=>
   intro hk hlp;obtain⟨xs,fp,hxl,hsp,hS⟩:=ih aA hlp;obtain⟨cs',hc,ht'⟩:=hi k aA;obtain⟨_,hcl,hat⟩:=World.cells?_some hc;rw[hC]at hcl hat;obtain⟨x,f,hx⟩:=he enc w n cs' _ ht';refine⟨xs++[x],fp++f,by simp[hxl],hsp,SlAt.snoc hS ?_ hx⟩;intro j v hj;have hjl:j<cs'.length:=(gsi_.1 hj).1;have:=hat j aA;rw[hj]at this;rw[<- this,hxl];obtain⟨ab,ao,asp⟩:=a;simp only at hsp;subst hsp;rw[Addr.add_mid,Addr.add_mid]
 by_cases hlp:0<len
 ·obtain⟨xs,fp,hxl,hsp,hS⟩:=key len (Nat.le_refl _) hlp;obtain⟨ab,ao,asp⟩:=a;simp only at hsp;subst hsp;subst hxl;have hne:xs≠[]:=by rintro rfl;simp at hlp
  refine⟨xs,ab::fp,_,rfl,_,m,rfl,hl,hm,.inr ⟨ab,ao,fp,hne,rfl,rfl,?_,hS⟩⟩;cases xs with
  | nil=>exact absurd rfl hne
  | cons x xs=>
   obtain⟨cs',f1,f2,hr,hc,_,_⟩:=hS;have hl':=Shape.len hc;have h0:=hr 0 _ (List.getElem?_eq_getElem aA);exact World.block_lt_of_cell? w _ h0
 obtain rfl:len=0:=by omega
 exact⟨[],[],_,rfl,_,m,rfl,by simp,hm,.inl ⟨rfl,rfl⟩⟩

theorem wE {H:Type}{enc:TypeId×Value->H}{W W':World}(hl:laidOutB Tryz.prog=true) (hb:Below W.heap.size W W'):∀{ts:List TypeId}{vs:List Value}{ds:List (DataW H)}{p:List MemPlace},
  (∀t∈ts,Tryz.prog.readableRec t=true/\t<Tryz.prog.types.size)->DataW.TrodAll enc Tryz.prog W 0 (fun _=>true) true ts vs ds p->(∀x∈p,x.block<W.heap.size) ->
  DataW.TrodAll enc Tryz.prog W' 0 (fun b=>decide (b<W.heap.size)) true ts vs ds p
 | [],_,_,_,_,h,_=>by
  obtain⟨rfl,rfl,rfl⟩:=trodAll_nil h;exact trodAll_mk0
 | t::ts,_,_,_,ht,h,hp=>by
  obtain⟨v1,vs1,d1,ds1,p1,q1,rfl,rfl,rfl,h1,r1⟩:=trodAll_cons h;exact trodAll_cons_mk (Below.trod hl (ht t (by simp)).1 (ht t (by simp)).2 h1 hb (fun x hx=>hp x (by simp[hx]))) (wE hl hb (fun t' h'=>ht t' (by simp[h'])) r1 (fun x hx=>hp x (by simp[hx])))

theorem open_param_slice {H:Type}{enc:TypeId×Value->H}{W:World}{base:Nat}{t e:TypeId}{α:Type}[Shape α] (ht:Tryz.prog.underlying t=some (.slice e)) (ho:uK t (List α)) {v:Value}{d:DataW H}{p:List MemPlace}
  (hv:Value.okWide Tryz.prog W .any base t v) (h:DataW.Trod enc Tryz.prog W 0 (fun _=>true) true t v d p):∃(xs:List α) (fp:List Nat),Sl W v xs fp:=by
 obtain⟨a,len,cap,rfl⟩:=okWide_slice ht hv;obtain⟨fuel,hf⟩:=h;obtain⟨xs,fp,v',hv',hs⟩:=ho enc W fuel _ _ hf;have:v' = .slice a len cap:=(List.singleton_inj.1 hv').symm;subst this;exact⟨xs,fp,hs⟩
theorem ownKnobTry:ownKnob Tryz.prog.godebug=none:=by kernel_rfl
theorem laidOutTry:laidOutB Tryz.prog=true:=by kernel_rfl
end Go.Proofs.YtjihdmlkpkkpbaaGreat
namespace Go.Proofs.YtjihdmlkpkkpbaaGreat
set_option maxRecDepth 100000
set_option maxHeartbeats 2000000
open Go.ChangeShapes Go.WideShapes Go.ChangeAt Go.RowKit Go.Deep
theorem opens_intS:uK 38 (List Int):=tM Tryz.underlying38 aB fL opens_int
theorem opens_Edge:uK 219 Edge:=by
 intro H enc w fuel cs x h;obtain⟨xs,n,_,hx,hl,hlen,hf⟩:=DataW.trod_struct Tryz.underlying219 h;have hl':cs.length=2:=hl;have hlen':xs.length=2:=hlen
 match cs,hl',xs,hlen' with
 | [c0,c1],_,[y0,y1],_=>
  obtain⟨n0,e0,_,w0⟩:=DataW.trod_int Tryz.underlying3 (hf 0 _ rfl);have e0':[c0]=[I n0]:=e0;obtain rfl:=List.singleton_inj.1 e0';obtain⟨n1,e1,_,w1⟩:=DataW.trod_int Tryz.underlying3 (hf 1 _ rfl);have e1':[c1]=[I n1]:=e1;obtain rfl:=List.singleton_inj.1 e1';exact⟨⟨n0,n1⟩,[],rfl,rfl,⟨kF w0,kF w1⟩⟩
theorem opens_EdgeS:uK 51 (List Edge):=tM Tryz.underlying51 aB fL opens_Edge
theorem opens_Plan:uK 53 Plan:=by
 intro H enc w fuel cs x h;obtain⟨xs,n,_,hx,hl,hlen,hf⟩:=DataW.trod_struct Tryz.underlying53 h;have hl':cs.length=5:=hl;have hlen':xs.length=5:=hlen
 match cs,hl',xs,hlen' with
 | [c0,c1,c2,c3,c4],_,[y0,y1,y2,y3,y4],_=>
  obtain⟨n0,e0,_,w0⟩:=DataW.trod_int Tryz.underlying3 (hf 0 _ rfl);have e0':[c0]=[I n0]:=e0;obtain rfl:=List.singleton_inj.1 e0';obtain⟨n1,e1,_,w1⟩:=DataW.trod_int Tryz.underlying3 (hf 1 _ rfl);have e1':[c1]=[I n1]:=e1;obtain rfl:=List.singleton_inj.1 e1';obtain⟨n2,e2,_,w2⟩:=DataW.trod_int Tryz.underlying3 (hf 2 _ rfl);have e2':[c2]=[I n2]:=e2;obtain rfl:=List.singleton_inj.1 e2';obtain⟨n3,e3,_,w3⟩:=DataW.trod_int Tryz.underlying3 (hf 3 _ rfl);have e3':[c3]=[I n3]:=e3;obtain rfl:=List.singleton_inj.1 e3';obtain⟨l4,g4,u4,e4,s4⟩:=opens_EdgeS enc w n _ _ (hf 4 _ rfl);have e4':[c4]=[u4]:=e4;obtain rfl:=List.singleton_inj.1 e4';exact⟨⟨n0,n1,n2,n3,l4⟩,_,_,g4,rfl,⟨kF w0,kF w1,kF w2,kF w3⟩,s4,rfl⟩
theorem opens_Deed:uK 55 Deed:=by
 intro H enc w fuel cs x h;obtain⟨xs,n,_,hx,hl,hlen,hf⟩:=DataW.trod_struct Tryz.underlying55 h;have hl':cs.length=11:=hl;have hlen':xs.length=7:=hlen
 match cs,hl',xs,hlen' with
 | [c0,c1,c2,c3,c4,c5,c6,c7,c8,c9,c10],_,[y0,y1,y2,y3,y4,y5,y6],_=>
  obtain⟨n0,e0,_,w0⟩:=DataW.trod_int Tryz.underlying3 (hf 0 _ rfl);have e0':[c0]=[I n0]:=e0;obtain rfl:=List.singleton_inj.1 e0';obtain⟨n1,e1,_,w1⟩:=DataW.trod_int Tryz.underlying3 (hf 1 _ rfl);have e1':[c1]=[I n1]:=e1;obtain rfl:=List.singleton_inj.1 e1';obtain⟨z2,gz2,u2_0,g2_0,e2,ok2,s2_0,_⟩:=opens_Plan enc w n _ _ (hf 2 _ rfl);have e2':[c2,c3,c4,c5,c6]=[I z2.prio,I z2.most,I z2.wait,I z2.tasks,u2_0]:=e2;simp only[List.cons.injEq,and_true]at e2';obtain⟨rfl,rfl,rfl,rfl,rfl⟩:=e2';obtain⟨n3,e3,_,w3⟩:=DataW.trod_int Tryz.underlying3 (hf 3 _ rfl);have e3':[c7]=[I n3]:=e3;obtain rfl:=List.singleton_inj.1 e3';obtain⟨n4,e4,_,w4⟩:=DataW.trod_int Tryz.underlying3 (hf 4 _ rfl);have e4':[c8]=[I n4]:=e4;obtain rfl:=List.singleton_inj.1 e4';obtain⟨n5,e5,_,w5⟩:=DataW.trod_int Tryz.underlying3 (hf 5 _ rfl);have e5':[c9]=[I n5]:=e5;obtain rfl:=List.singleton_inj.1 e5';obtain⟨n6,e6,_,w6⟩:=DataW.trod_int Tryz.underlying3 (hf 6 _ rfl);have e6':[c10]=[I n6]:=e6;obtain rfl:=List.singleton_inj.1 e6';exact⟨⟨n0,n1,z2,n3,n4,n5,n6⟩,_,_,g2_0,rfl,⟨kF w0,kF w1,ok2,kF w3,kF w4,kF w5,kF w6⟩,s2_0,rfl⟩
theorem opens_Act:uK 57 ActD:=by
 intro H enc w fuel cs x h;obtain⟨xs,n,_,hx,hl,hlen,hf⟩:=DataW.trod_struct Tryz.underlying57 h;have hl':cs.length=14:=hl;have hlen':xs.length=4:=hlen
 match cs,hl',xs,hlen' with
 | [c0,c1,c2,c3,c4,c5,c6,c7,c8,c9,c10,c11,c12,c13],_,[y0,y1,y2,y3],_=>
  obtain⟨n0,e0,_,w0⟩:=DataW.trod_int Tryz.underlying3 (hf 0 _ rfl);have e0':[c0]=[I n0]:=e0;obtain rfl:=List.singleton_inj.1 e0';obtain⟨z1,gz1,u1_0,g1_0,e1,ok1,s1_0,_⟩:=opens_Deed enc w n _ _ (hf 1 _ rfl);have e1':[c1,c2,c3,c4,c5,c6,c7,c8,c9,c10,c11]=[I z1.kind,I z1.run,I z1.plan.prio,I z1.plan.most,I z1.plan.wait,I z1.plan.tasks,u1_0,I z1.task,I z1.try_,I z1.worker,I z1.draw]:=e1;simp only[List.cons.injEq,and_true]at e1';obtain⟨rfl,rfl,rfl,rfl,rfl,rfl,rfl,rfl,rfl,rfl,rfl⟩:=e1';obtain⟨n2,e2,_,w2⟩:=DataW.trod_int Tryz.underlying3 (hf 2 _ rfl);have e2':[c12]=[I n2]:=e2;obtain rfl:=List.singleton_inj.1 e2';obtain⟨l3,g3,u3,e3,s3⟩:=opens_intS enc w n _ _ (hf 3 _ rfl);have e3':[c13]=[u3]:=e3;obtain rfl:=List.singleton_inj.1 e3';exact⟨⟨n0,z1,n2,l3⟩,_,_,_,g1_0,g3,rfl,⟨kF w0,ok1,kF w2⟩,s1_0,s3,rfl⟩
theorem opens_ActS:uK 22 (List ActD):=tM Tryz.underlying22 aB fL opens_Act
end Go.Proofs.YtjihdmlkpkkpbaaGreat
