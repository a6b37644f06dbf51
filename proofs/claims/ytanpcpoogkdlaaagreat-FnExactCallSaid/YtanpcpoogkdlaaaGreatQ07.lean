/-
  Frames of a text, and notes as texts, of both; told to the reader.
  A call to an engine, of both; told to the reader.
  Calls to engines, as calls.
  The law on Call, told to the reader.
  What is handed to a law, taken out of the row's reading: it is data in memory, as the walks want it.
  A law's arguments, taken out of the row's reading.
-/
import Derived.ProofKit
import Derived.OpenShut
import Derived.Test.YtanpcpoogkdlaaaGreatQ01
import Derived.Test.YtanpcpoogkdlaaaGreatQ03
import Derived.Test.YtanpcpoogkdlaaaGreatQ04
import Derived.Test.YtanpcpoogkdlaaaGreatQ05
import Derived.Test.YtanpcpoogkdlaaaGreatQ06
namespace Go.Proofs.YtanpcpoogkdlaaaGreat
set_option linter.unusedSimpArgs false
set_option linter.unusedVariables false
set_option maxRecDepth 100000
set_option maxHeartbeats 2000000
open Go.RowKit Go.Proofs.Tryz List
theorem xO {n:Note} (h:n.ok):∀ y∈[n.seq,n.deed.kind],(inferInstance:Dsh Int).good y:=aX6 h.1 h.2.1
theorem yW {n:Note} (h:n.deed.plan.edges.length≤31):(cP n).length≤100:=by
 have:=oF n.deed
 unfold cP
 simp only[length_cons]
 omega
theorem NoteText_i (n:Note):Ct1 prog 105 [.S n] [.T (iQ n)]:=
 .one (iQ n) (rk:=fun t=>[.T t])<|vc func105 (fun (hg:gin [Par.S n])=>let gn:n.ok:=hg.1.1
  .c func151 (aC7 n.deed) (hg:=⟨gn.2,trivial⟩) fun _ => .v (aT n.deed)
  (fun h => .rt ⟨#[]⟩ ⟨kC (fun hc=>by rw[h] at hc;cases hc.1),trivial⟩)
  (fun h => .c func92 (bN n.seq 1 1000000000) fun _ => .v (inB n.seq 1 1000000000)
   (fun h2 => .rt ⟨#[]⟩ ⟨kC (fun hc=>by rw[h2] at hc;cases hc.2.1),trivial⟩)
   (fun h2=>let he:=(lQ h).2.1
    let hl:=oF n.deed
    let fin:D prog (fun t:ByteArray=>t=iQ n∧rgd [Rk.T t]) := .as (inferInstance:Shape Int) hQ [n.seq,n.deed.kind] (aZ n.deed) 8 (by simp only[length_cons,length_nil];unfold maxLen;omega) (by simp only[length_cons,length_nil];omega) <|
     .c func203 (VarsI (cP n) (by have:=yW he;omega)) fun _ => .s ((400:Int)<(aD6 (cP n)).size)
     (fun h3 => .rt ⟨#[]⟩ ⟨kC (fun hc=>by omega),trivial⟩)
     (fun h3 => .rt (aD6 (cP n)) ⟨uM ⟨h,h2,by omega⟩,trivial⟩)
    .pm fun i=>match i with
     | 5 => .lr (inferInstance:Dsh Int) hQ 999999 [n.seq,n.deed.kind] (by simp) (xO gn) <| .c func204 (sI n.deed aA) (hg:=⟨gn.2,trivial⟩) fun _=>fin
     | _ => .c func204 (sI n.deed aA) (hg:=⟨gn.2,trivial⟩) fun _ => .lr (inferInstance:Dsh Int) hQ 999999 [n.seq,n.deed.kind] (by simp) (xO gn) fin))) aC
noncomputable def bM8 (n:Note) (j:Nat) (h:aT n.deed=true) (h2:inB n.seq 1 1000000000=true):D prog (fun t:ByteArray=>t=iQ n∧rgd [Rk.T t]):=
 .sh j <| .c func218 (VarsS (cP n) (by have:=yW (lQ h).2.1;omega)) fun _ => .s ((400:Int)<(kM (cP n)).size)
  (fun h3 => .rt ⟨#[]⟩ ⟨kC (fun hc=>by have:(aD6 (cP n)).size=(kM (cP n)).size:=rfl;omega),trivial⟩)
  (fun h3 => .rt (kM (cP n)) ⟨uM ⟨h,h2,by have:(aD6 (cP n)).size=(kM (cP n)).size:=rfl;omega⟩,trivial⟩)
theorem NoteText_s (n:Note):Ct1 prog 114 [.S n] [.T (iQ n)]:=
 .one (iQ n) (rk:=fun t=>[.T t])<|vc func114 (fun (hg:gin [Par.S n])=>let gn:n.ok:=hg.1.1
  let gd:n.deed.ok:=gn.2
  let gi:Dsh Int:=inferInstance
  let d:=n.deed
  .c func217 (aV2 n.deed) (hg:=⟨gn.2,trivial⟩) fun _ => .v (aT n.deed)
  (fun h => .rt ⟨#[]⟩ ⟨kC (fun hc=>by rw[h] at hc;cases hc.1),trivial⟩)
  (fun h => .c func138 (InV n.seq 1 1000000000) fun _ => .v (inB n.seq 1 1000000000)
   (fun h2 => .rt ⟨#[]⟩ ⟨kC (fun hc=>by rw[h2] at hc;cases hc.2.1),trivial⟩)
   (fun h2=>let he:d.plan.edges.length≤31:=(lQ h).2.1
    let add:∀ ys:List Int,(∀ y∈ys,(inferInstance:Dsh Int).good y)→ys.length≤6→ys=aZ d→D prog (fun t:ByteArray=>t=iQ n∧rgd [Rk.T t]):=fun ys hy hl e => .ap gi [n.seq,d.kind] ys hy 8 (by simp only[length_cons,length_nil];unfold maxLen;omega) (by simp only[length_cons,length_nil];omega) <| .g 3 (show [n.seq,d.kind]++ys=cP n by rw[e];rfl)<|bM8 n 3 h h2
    .lr gi hQ 22 [n.seq,n.deed.kind] (by simp) (xO gn) <| .s (d.kind=1)
     (fun k1 => .ap gi [n.seq,d.kind] (iN d) (good6 gd aA) 8 (by simp only[iN,length_cons,length_nil];unfold maxLen;omega) (by simp only[iN,length_cons,length_nil];omega) <|
      .l (Γ:=Nat) (fun k=>k≤d.plan.edges.length) (fun k=>d.plan.edges.length - k) [777777,22,27,47] [777777] [777777] (fun k=>[vI 5 k,vR 4 3]) (fun k=>[oR 3 3 ([n.seq,d.kind]++(iN d++cF (d.plan.edges.take k)))]) 0 fun k hk t=>
       let hln:([n.seq,d.kind]++(iN d++cF (d.plan.edges.take k))).length≤70:=(by rw[length_append,length_append,kX,length_take];simp only[length_cons,length_nil];omega)
       .s ((k:Int)<d.plan.edges.length)
        (fun h5 => .x d.plan.edges k (h:=by omega) fun e he ge => .y he fun _ => .ap gi ([n.seq,d.kind]++(iN d++cF (d.plan.edges.take k))) [e.from_,e.to_] (aX6 (show e.ok from ge).1 (show e.ok from ge).2) 8 (by simp only[length_cons,length_nil];unfold maxLen;omega) (by simp only[length_cons,length_nil];omega) <|
         .g 3 (show ([n.seq,d.kind]++(iN d++cF (d.plan.edges.take k)))++[e.from_,e.to_]=[n.seq,d.kind]++(iN d++cF (d.plan.edges.take (k+1))) by rw[append_assoc,append_assoc,bE5 he]) <| .p k 1 (h:=by unfold I64;omega) <| .n t (k+1) [])
        (fun h5 => .g 3 (show [n.seq,d.kind]++(iN d++cF (d.plan.edges.take k))=cP n by rw[bM7 k1 h5];rfl)<|bM8 n 3 h h2))
     (fun k1 => .s (d.kind=2)
      (fun k2=>add [d.worker,d.draw] (aX6 gd.2.2.2.2.2.1 gd.2.2.2.2.2.2) (by simp) (bM6 k2))
      (fun k2=>let three:d.kind=3∨d.kind=4→D prog (fun t:ByteArray=>t=iQ n∧rgd [Rk.T t]):=fun k=>add [d.run,d.task,d.try_] (fun z hz=>(mem_cons.1 hz).elim (fun e=>by rw[e];exact gd.2.1) (aX6 gd.2.2.2.1 gd.2.2.2.2.1 z)) (by simp) (bM5 k)
       let one:d.kind=6∨d.kind=7→D prog (fun t:ByteArray=>t=iQ n∧rgd [Rk.T t]):=fun k=>add [d.run] (all1 gd.2.1) (by simp) (bM4 k)
       .s (d.kind=3) (fun k=>three (.inl k)) (fun k3 => .s (d.kind=4) (fun k=>three (.inr k)) (fun k4 => .s (d.kind=6) (fun k=>one (.inl k)) (fun k6 => .s (d.kind=7) (fun k=>one (.inr k)) (fun k7=>
        .g 3 (show [n.seq,d.kind]=cP n by unfold cP;rw[← bM3 k1 k2 aA aA])<|bM8 n 3 h h2)))))))))  aC
noncomputable def pN (e:Engine) (d:Deed):ByteArray:=eI (iQ ⟨e.next,d⟩)
noncomputable def tS (e:Engine) (d:Deed):Disk×Bool:=gH e.disk logN (pN e d)
noncomputable def aJ3 (e:Engine) (d:Deed):Engine:=⟨(doD e.yard d).1,(tS e d).1,e.next+1,e.calls+1,e.waits++[⟨e.calls+1,(doD e.yard d).2⟩],e.state,e.broken⟩
noncomputable def fK (e:Engine) (d:Deed):Engine×Int:=
 if kE e=false then (e,8) else if e.state=3 then (e,15) else if e.state=2 then (e,14) else if pN e d=⟨#[]⟩ then (e,5) else if (e.waits.length:Int)=60 then (e,7) else if e.broken=true then (brk e,14) else if (tS e d).2=false then (e,7) else (aJ3 e d,0)
section
variable {e:Engine} {d:Deed}
theorem cal_8 (h:kE e=false):(e,8)=fK e d:=by unfold fK;rw[if_pos h]
variable (h0:kE e=true)
include h0
theorem bQ8 (h1:e.state=3):(e,15)=fK e d:=by unfold fK;rw[if_neg (by rw[h0];simp),if_pos h1]
variable (h1:¬ e.state=3)
include h1
theorem bQ9 (h2:e.state=2):(e,14)=fK e d:=by unfold fK;rw[if_neg (by rw[h0];simp),if_neg h1,if_pos h2]
variable (h2:¬ e.state=2)
include h2
theorem bQ7 (h3:pN e d=⟨#[]⟩):(e,5)=fK e d:=by unfold fK;rw[if_neg (by rw[h0];simp),if_neg h1,if_neg h2,if_pos h3]
variable (h3:¬ pN e d=⟨#[]⟩)
include h3
theorem cal_7 (h4:(e.waits.length:Int)=60):(e,7)=fK e d:=by unfold fK;rw[if_neg (by rw[h0];simp),if_neg h1,if_neg h2,if_neg h3,if_pos h4]
variable (h4:¬ (e.waits.length:Int)=60)
include h4
theorem cal_b (h5:e.broken=true):(brk e,14)=fK e d:=by unfold fK;rw[if_neg (by rw[h0];simp),if_neg h1,if_neg h2,if_neg h3,if_neg h4,if_pos h5]
variable (h5:e.broken=false)
include h5
theorem cal_w (h6:(tS e d).2=false):(e,7)=fK e d:=by unfold fK;rw[if_neg (by rw[h0];simp),if_neg h1,if_neg h2,if_neg h3,if_neg h4,if_neg (by rw[h5];simp),if_pos h6]
theorem cal_0 (h6:(tS e d).2=true):(aJ3 e d,0)=fK e d:=by unfold fK;rw[if_neg (by rw[h0];simp),if_neg h1,if_neg h2,if_neg h3,if_neg h4,if_neg (by rw[h5];simp),if_neg (by rw[h6];simp)]
end
theorem callT_no {e:Engine} {d:Deed} (h:aT d=false):pN e d=⟨#[]⟩:=by
 unfold pN
 rw[← kC (fun hc=>by have:aT d=true:=hc.1;rw[h] at this;cases this)]
 exact (fo_e rfl).symm
theorem aI1 (t:ByteArray):(eI t).size≤1000000000:=by
 unfold eI
 split
 ·next h=>
  have:=inB_iff'.1 h
  have:=dJ (t.size:Int)
  have:=qF (eJ t)
  rw[ByteArray.size_append,ByteArray.size_append]
  omega
 exact Nat.zero_le _
theorem aS1:logN.size≤maxLen:=by unfold maxLen;decide
theorem xC {e:Engine} (h:kE e=true):(1≤e.next∧e.next≤999999999)∧(0≤e.calls∧e.calls≤999999999)∧e.waits.length≤60:=by
 have hp:=engOk_iff.1 h
 have h1:=inB_iff'.1 hp.next
 have h2:=inB_iff'.1 hp.calls
 have h3:=hp.waits
 exact ⟨h1,h2,by omega⟩
theorem aG2 {e:Engine} {d:Deed} (ge:e.ok) (gd:d.ok):Note.ok ⟨e.next,d⟩:=⟨ge.2.1,gd⟩
abbrev engR (e:Engine):Rk := .cl [.v (I e.yard.now),.v (I e.yard.seq),.o (inferInstance:Shape (List Entry)) e.yard.shelf,.o (inferInstance:Shape Run) e.yard.runs,.o (inferInstance:Shape File) e.disk.files,.v (I e.next),.v (I e.calls),.r (inferInstance:Shape Wait) 87 e.waits,.v (I e.state),.v (.bool e.broken)]
theorem CopyEngineR_i (e:Engine) (hw:e.yard.wt≤1048576) (hd:e.disk.files.length≤1048576) (hs:e.waits.length≤1048576):Ct1 prog 82 [.S e] [engR e]:=
 vc func82 (fun hg => .c func119 (aC8 e.yard hw) (hg:=⟨hg.1.1.1,trivial⟩) fun _ => .c func89 (nF e.disk aA) fun _ => .as (inferInstance:Shape Wait) rO [] e.waits 40 (by simp only[length_nil];unfold maxLen;omega) (by simp only[length_nil];omega) <| .wt 15 <| .sh 8 <| .rt () ⟨trivial,trivial⟩) aC
theorem CopyEngineR_s (e:Engine) (hw:e.yard.wt≤1048576) (hd:e.disk.files.length≤1048576) (hs:e.waits.length≤1048576):Ct1 prog 79 [.S e] [engR e]:=
 vc func79 (fun hg => .c func184 (CopyYardSD e.yard hw) (hg:=⟨hg.1.1.1,trivial⟩) fun _ => .c func107 (iC e.disk aA) fun _ => .e Wait <| .as (inferInstance:Shape Wait) rO [] e.waits 40 (by simp only[length_nil];unfold maxLen;omega) (by simp only[length_nil];omega) <| .wt 16 <| .sh 8 <| .rt () ⟨trivial,trivial⟩) aC
theorem aJ2 {e:Engine} {d:Deed} (ge:e.ok) (h:kE e=true) (gy:(doD e.yard d).1.ok):(aJ3 e d).ok:=by
 have hc:=xC h
 exact ⟨gy,by show I64 (e.next+1);unfold I64;omega,by show I64 (e.calls+1);unfold I64;omega,ge.2.2.2⟩
theorem bS1 (e:Engine) (d:Deed) (hw:e.yard.wt≤1048576) (hl:e.disk.files.length≤1048576) (hs:e.waits.length≤1048576):Ct1 prog 50 [.S e,.S d] [.S (fK e d).1,.I (fK e d).2]:=
 .one (fK e d) (rk:=fun q=>[.S q.1,.I q.2])<|vc func50 (fun (hg:gin [Par.S e,Par.S d])=>let ge:e.ok:=hg.1.1
  let gd:d.ok:=hg.2.1.1
  let gb:(brk e).ok:=⟨ge.1,ge.2.1,ge.2.2.1,by show I64 2;unfold I64;omega⟩
  .c func82 (CopyEngineR_i e hw hl hs) (hg:=⟨ge,trivial⟩) fun _ => .c func105 (NoteText_i ⟨e.next,d⟩) (hg:=⟨aG2 ge gd,trivial⟩) fun _ => .c func104 (FrameOf_i (iQ ⟨e.next,d⟩) (by have:=yV ⟨e.next,d⟩;omega)) fun _=>
  .c func29 (EngineOkI e hw) (hg:=⟨ge,trivial⟩) fun _ => .v (kE e) (fun h => .sh 11 <| .rt (e,8) ⟨cal_8 h,ge,trivial⟩) (fun h0=>
  .s (e.state=3) (fun h => .sh 11 <| .rt (e,15) ⟨bQ8 h0 h,ge,trivial⟩) (fun h1=>
  .s (e.state=2) (fun h => .sh 11 <| .rt (e,14) ⟨bQ9 h0 h1 h,ge,trivial⟩) (fun h2=>
  .c func151 (aC7 d) (hg:=⟨gd,trivial⟩) fun _ => .v (aT d) (fun h => .sh 11 <| .rt (e,5) ⟨bQ7 h0 h1 h2 (callT_no h),ge,trivial⟩) (fun _=>
  .s (pN e d=⟨#[]⟩) (fun h => .sh 11 <| .rt (e,5) ⟨bQ7 h0 h1 h2 h,ge,trivial⟩) (fun h3=>
  .s ((e.waits.length:Int)=60) (fun h => .sh 11 <| .rt (e,7) ⟨cal_7 h0 h1 h2 h3 h,ge,trivial⟩) (fun h4=>
  .sb e.broken (fun h => .c func93 (BrokenI e hw hl hs) (hg:=⟨ge,trivial⟩) fun _ => .rt (brk e,14) ⟨cal_b h0 h1 h2 h3 h4 h,gb,trivial⟩) (fun h5=>
  .c func96 (WriteFileI e.disk logN (pN e d) hl aS1 (aI1 _)) fun _ => .v (tS e d).2 (fun h => .sh 11 <| .rt (e,7) ⟨cal_w h0 h1 h2 h3 h4 h5 h,ge,trivial⟩) (fun h6=>let hc:=xC h0
  .c func106 (Do_i e.yard d hw) (hg:=⟨ge.1,gd,trivial⟩) fun hz => .p e.next 1 (h:=by unfold I64;omega) <| .p e.calls 1 (h:=by unfold I64;omega) <| .a e.waits ⟨e.calls+1,(doD e.yard d).2⟩ 40 (hy:=(show Wait.ok ⟨e.calls+1,(doD e.yard d).2⟩ from ⟨by show I64 (e.calls+1);unfold I64;omega,hz.2.1.1⟩)) (h63:=by unfold maxLen;omega) (hby:=by omega) <| .sh 11 <|
   .rt (aJ3 e d,0) ⟨cal_0 h0 h1 h2 h3 h4 h5 h6,aJ2 ge h0 hz.1.1,trivial⟩))))))))) aC
theorem Call_s (e:Engine) (d:Deed) (hw:e.yard.wt≤1048576) (hl:e.disk.files.length≤1048576) (hs:e.waits.length≤1048576):Ct1 prog 61 [.S e,.S d] [.S (fK e d).1,.I (fK e d).2]:=
 .one (fK e d) (rk:=fun q=>[.S q.1,.I q.2])<|vc func61 (fun (hg:gin [Par.S e,Par.S d])=>let ge:e.ok:=hg.1.1
  let gd:d.ok:=hg.2.1.1
  let gb:(brk e).ok:=⟨ge.1,ge.2.1,ge.2.2.1,by show I64 2;unfold I64;omega⟩
  .c func79 (CopyEngineR_s e hw hl hs) (hg:=⟨ge,trivial⟩) fun _ => .c func114 (NoteText_s ⟨e.next,d⟩) (hg:=⟨aG2 ge gd,trivial⟩) fun _ => .c func113 (FrameOf_s (iQ ⟨e.next,d⟩) (by have:=yV ⟨e.next,d⟩;omega)) fun _=>
  .c func80 (EngineOkS e hw) (hg:=⟨ge,trivial⟩) fun _ => .v (kE e) (fun h => .sh 11 <| .rt (e,8) ⟨cal_8 h,ge,trivial⟩) (fun h0=>
  .s (e.state=3) (fun h => .sh 11 <| .rt (e,15) ⟨bQ8 h0 h,ge,trivial⟩) (fun h1=>
  .s (e.state=2) (fun h => .sh 11 <| .rt (e,14) ⟨bQ9 h0 h1 h,ge,trivial⟩) (fun h2=>
  .s (pN e d=⟨#[]⟩) (fun h => .sh 11 <| .rt (e,5) ⟨bQ7 h0 h1 h2 h,ge,trivial⟩) (fun h3=>
  .s ((e.waits.length:Int)=60) (fun h => .sh 11 <| .rt (e,7) ⟨cal_7 h0 h1 h2 h3 h,ge,trivial⟩) (fun h4=>
  .sb e.broken (fun h => .sh 11 <| .rt (brk e,14) ⟨cal_b h0 h1 h2 h3 h4 h,gb,trivial⟩) (fun h5=>
  .c func112 (WriteFileS e.disk logN (pN e d) hl aS1 (aI1 _)) fun _ => .v (tS e d).2 (fun h => .sh 11 <| .rt (e,7) ⟨cal_w h0 h1 h2 h3 h4 h5 h,ge,trivial⟩) (fun h6=>let hc:=xC h0
  .c func115 (Do_s e.yard d hw) (hg:=⟨ge.1,gd,trivial⟩) fun hz => .p e.next 1 (h:=by unfold I64;omega) <| .p e.calls 1 (h:=by unfold I64;omega) <| .a e.waits ⟨e.calls+1,(doD e.yard d).2⟩ 40 (hy:=(show Wait.ok ⟨e.calls+1,(doD e.yard d).2⟩ from ⟨by show I64 (e.calls+1);unfold I64;omega,hz.2.1.1⟩)) (h63:=by unfold maxLen;omega) (hby:=by omega) <| .sh 11 <|
   .rt (aJ3 e d,0) ⟨cal_0 h0 h1 h2 h3 h4 h5 h6,aJ2 ge h0 hz.1.1,trivial⟩)))))))) aC
noncomputable def calE (e:Engine) (d:Deed):Engine:=(fK e d).1
theorem cal_wt (e:Engine) (d:Deed) (hw:e.wt≤1048576):(calE e d).wt≤3500000:=by
 have key:∀ x:Engine,x.yard.wt≤1048576→x.disk.wt≤1400000→x.waits.length≤100000∨x.waits=e.waits→x.wt≤3500000:=by
  intro x h1 h2 h3
  have:x.waits.length≤400000∨x.waits=e.waits:=h3.imp aA id
  unfold Engine.wt at hw ⊢
  rcases this with h | h
  ·omega
  rw[h];omega
 have hy:=(aU1 hw).1
 have hd:e.disk.wt≤1048576:=by unfold Engine.wt at hw;omega
 unfold calE fK
 repeat' split
 all_goals first | exact key e hy aA (.inr rfl) | exact key (brk e) hy (by show e.disk.wt≤_;omega) (.inr rfl) | skip
 next h0 _ _ _ h4 _ _=>
  have h0:kE e=true:=by simpa using h0
  have hc:=(xC h0).2.2
  refine key (aJ3 e d) (bQ0 d aA hy) ?_ (.inl (by show (e.waits++[_]).length≤_;rw[length_append];simp only[length_cons,length_nil];omega))
  show (tS e d).1.wt≤_
  rcases aY1 e.disk logN (pN e d) with h | h
  ·unfold tS;rw[h];omega
  have:=small_wt h;unfold tS;omega
theorem aA7 {α:Type} [DecidableEq α] {x:α} (h:eqB x x=false):False:=by unfold eqB at h;simp at h
theorem aI5 {e:Engine} {n:Nat} (h:e.wt≤n) (hn:n≤4611686018427387904:=by decide):e.yard.shelf.length≤4611686018427387904:=by
 have h1:=(yard_lens e.yard).1
 unfold Engine.wt at h
 omega
theorem callLaw_d (e:Engine) (d:Deed):Ct1 prog 12 [.S e,.S d] [.B true]:=
 .one (true) (rk:=fun b=>[.B b])<|vc func12 (fun (hg:gin [Par.S e,Par.S d])=>let ge:e.ok:=hg.1.1
  let gd:d.ok:=hg.2.1.1
  .c func41 (szEngine_d e 1048576 aA aA) (hg:=⟨ge,trivial⟩) fun _ => .s (szL 1048576 e.wt<0) (fun h => .rt true ⟨rfl,trivial⟩) (fun h1=>let q1:=gV h1 aA
  .rv 5 (I (1048576 - ((e.wt:Nat):Int))) (congrArg I q1.2) <| .c func60 (szDeed_d d (1048576 - ((e.wt:Nat):Int)) aA aA) (hg:=⟨gd,trivial⟩) fun _ => .s (szL (1048576 - ((e.wt:Nat):Int)) d.wt<0) (fun h => .rt true ⟨rfl,trivial⟩) (fun h2=>let q2:=gV h2 aA
  let hw:e.wt≤1048576:=by omega
  let hd:d.wt≤1048576:=by omega
  let hl:=aU1 hw
  let n1:=aG1 e
  let n2:=nt_Deed d
  let z:=fK e d
  let hz:z.1.wt≤3500000:=cal_wt e d hw
  let n3:=aG1 z.1
  let toE:=toEngine_d e hw
  let toD:=toDeed_d d hd
  .c func43 toE (hg:=⟨ge,trivial⟩) fun _ => .c func62 toD (hg:=⟨gd,trivial⟩) fun _ => .c func61 (Call_s e d hl.1 hl.2.1 hl.2.2) (hg:=⟨ge,gd,trivial⟩) fun hr=>let gz:z.1.ok:=hr.1.1
  .c func43 toE (hg:=⟨ge,trivial⟩) fun _ => .c func62 toD (hg:=⟨gd,trivial⟩) fun _ => .c func50 (bS1 e d hl.1 hl.2.1 hl.2.2) (hg:=⟨ge,gd,trivial⟩) fun _=>
  .c func44 (oC z.1 z.1) (hg:=⟨gz,gz,trivial⟩) fun _ => .v (eqB z.1 z.1) (fun h => .ab (aA7 h)) (fun _ => .uf (z.2=z.2) rfl <|
  .c func43 toE (hg:=⟨ge,trivial⟩) fun _ => .c func44 (oC e e) (hg:=⟨ge,ge,trivial⟩) fun _ => .v (eqB e e) (fun h => .ab (aA7 h)) (fun _=>
  .c func62 toD (hg:=⟨gd,trivial⟩) fun _ => .c func63 (eqDeed_d d d) (hg:=⟨gd,gd,trivial⟩) fun _ => .v (eqB d d) (fun h => .ab (aA7 h)) (fun _=>
  .in_ (R':=fun _:Unit=>True) func45 (zH 244 227 228 229 230 e (aI5 hw) 1 aA aA) fun _ _ => .in_ (R':=fun _:Unit=>True) func64 (mkDeed_D 247 232 d ((1:Int)+(cC e:Nat)) aA aA) fun _ _=>
  .kf ((1:Int)+(cC e:Nat)+(mZ d:Nat)<0) aA <| .c func44 (oC z.1 z.1) (hg:=⟨gz,gz,trivial⟩) fun _ => .v (eqB z.1 z.1) (fun h => .ab (aA7 h)) (fun _ => .uf (z.2=z.2) rfl <|
  .in_ (R':=fun _:Unit=>True) func45 (zH 249 234 235 236 237 z.1 (aI5 hz) 1 aA aA) fun _ _=>
  .c func46 (tF z.1 1 aA aA) (hg:=⟨(show (nS z.1 1).ok from gz),trivial⟩) fun _ => .kf ((1:Int)+(cC z.1:Nat)<0) aA <| .uf ((1:Int)+(cC z.1:Nat)=(1:Int)+(cC z.1:Nat)) rfl <|
  .c func43 toE (hg:=⟨ge,trivial⟩) fun _ => .c func62 toD (hg:=⟨gd,trivial⟩) fun _ => .c func50 (bS1 e d hl.1 hl.2.1 hl.2.2) (hg:=⟨ge,gd,trivial⟩) fun _=>
  .c func44 (oC z.1 z.1) (hg:=⟨gz,gz,trivial⟩) fun _ => .v (eqB z.1 z.1) (fun h => .ab (aA7 h)) (fun _ => .uf (z.2=z.2) rfl <|
  .c func46 (tF z.1 1 aA aA) (hg:=⟨(show (nS z.1 1).ok from gz),trivial⟩) fun _ => .kf ((1:Int)+(cC z.1:Nat)<0) aA <| .uf ((1:Int)+(cC z.1:Nat)=(1:Int)+(cC z.1:Nat)) rfl <| .rt true ⟨rfl,trivial⟩))))))) ) aC
theorem law_end {w W:World} {vs:List Value} {rs:List Res} {e:Ending} (he:e = .returned (uI vs)) (hr:Rks vs [Rk.B true] rs) (st:St w W rs):e = .returned (.bool true)∧Below w.heap.size w W:=by
 match vs,hr with
 | [v1],hr=>
  obtain ⟨r1,r2,⟨h1,h4⟩,h2,h3⟩:=hr
  subst h1
  exact ⟨he,st.below⟩
theorem call_law (w:World) (cs0:List Value) (x0:Engine) (fp0:List Nat) (hc0:Shape.C w cs0 x0 fp0) (cs1:List Value) (x1:Deed) (fp1:List Nat) (hc1:Shape.C w cs1 x1 fp1) :
  Calls prog 12 #[.agg cs0.toArray,.agg cs1.toArray] w fun e w'=>e = .returned (.bool true)∧Below w.heap.size w w':=
 ((callLaw_d x0 x1).run w [.agg cs0.toArray,.agg cs1.toArray] trivial ⟨⟨cs0,fp0,rfl,hc0⟩,⟨cs1,fp1,rfl,hc1⟩,trivial⟩).mono fun e W ⟨_,vs,rs,_,he,hr,st⟩=>law_end he hr st
end Go.Proofs.YtanpcpoogkdlaaaGreat
namespace Go.Proofs.YtanpcpoogkdlaaaGreat
set_option linter.unusedSimpArgs false
set_option linter.unusedVariables false
set_option maxRecDepth 100000
set_option maxHeartbeats 2000000
open Go.ChangeShapes Go.WideShapes Go.ChangeAt Go.RowKit Go.Deep
def fR (t:TypeId) (α:Type) [Shape α]:Prop:=∀ {H:Type} (enc:TypeId×Value→H) (w:World) (fuel:Nat) (cs:List Value) (x:DataW H×List MemPlace),
 DataW.trod enc Tryz.prog w 0 (fun _=>true) true fuel t cs=some x→∃ (a:α) (fp:List Nat),Shape.C w cs a fp

theorem cH {n:Int} (h:(Lit.int .i64 n).wf=true):I64 n:=by
 have:=bounds_i64 h
 exact this

theorem fX {t e:TypeId} {α:Type} [Shape α] (ht:Tryz.prog.underlying t=some (.slice e)) (hC:Tryz.prog.cellsOf e=Shape.size α) (hp:0<Shape.size α) (he:fR e α):fR t (List α):=by
 intro H enc w fuel cs x h
 rcases open_slice ht h with ⟨rfl,_⟩ | ⟨a,len,cap,m,n,D,Pl,rfl,_,hl,hm,hmm,_,hi⟩
 ·exact ⟨[],[],_,rfl,none,0,rfl,Nat.le_refl _,by omega,.inl ⟨rfl,rfl⟩⟩
 simp only[if_true] at hmm
 subst hmm
 unfold maxLen at hm
 have key:∀ k,k≤len→0<len→∃ (xs:List α) (fp:List Nat),xs.length=k∧a.spot=none∧SlAt w a.block a.off xs fp:=by
  intro k
  induction k with
  | zero=>
   intro _ hlp
   obtain ⟨cs',hc,_⟩:=hi 0 aA
   obtain ⟨_,hcl,hat⟩:=World.cells?_some hc
   rw[hC] at hcl hat
   have h0:=hat 0 hp
   have:a.spot=none:=by
    have hlt:0<cs'.length:=by omega
    rw[List.getElem?_eq_getElem hlt] at h0
    simpa [Addr.add] using World.cell?_spot h0
   exact ⟨[],[],rfl,this,rfl⟩
  | succ k ih=>
   intro hk hlp
   obtain ⟨xs,fp,hxl,hsp,hS⟩:=ih aA hlp
   obtain ⟨cs',hc,ht'⟩:=hi k aA
   obtain ⟨_,hcl,hat⟩:=World.cells?_some hc
   rw[hC] at hcl hat
   obtain ⟨x,f,hx⟩:=he enc w n cs' _ ht'
   refine ⟨xs++[x],fp++f,by simp[hxl],hsp,SlAt.snoc hS ?_ hx⟩
   intro j v hj
   have hjl:j<cs'.length:=(gsi_.1 hj).1
   have:=hat j aA
   rw[hj] at this
   rw[← this,hxl]
   obtain ⟨ab,ao,asp⟩:=a
   simp only at hsp
   subst hsp
   rw[Addr.add_mid,Addr.add_mid]
 by_cases hlp:0<len
 ·obtain ⟨xs,fp,hxl,hsp,hS⟩:=key len (Nat.le_refl _) hlp
  obtain ⟨ab,ao,asp⟩:=a
  simp only at hsp
  subst hsp
  subst hxl
  have hne:xs≠[]:=by rintro rfl;simp at hlp
  refine ⟨xs,ab::fp,_,rfl,_,m,rfl,hl,hm,.inr ⟨ab,ao,fp,hne,rfl,rfl,?_,hS⟩⟩
  cases xs with
  | nil=>exact absurd rfl hne
  | cons x xs=>
   obtain ⟨cs',f1,f2,hr,hc,_,_⟩:=hS
   have hl':=Shape.len hc
   have h0:=hr 0 _ (List.getElem?_eq_getElem aA)
   exact World.block_lt_of_cell? w _ h0
 obtain rfl:len=0:=by omega
 exact ⟨[],[],_,rfl,_,m,rfl,by simp,hm,.inl ⟨rfl,rfl⟩⟩

theorem opens_bool:fR 4 Bool:=by
 intro H enc w fuel cs x h
 cases fuel with
 | zero=>simp[DataW.trod] at h
 | succ n=>
  unfold DataW.trod at h
  rw[Tryz.underlying4] at h
  split at h <;> first | exact ⟨_,[],rfl,rfl,trivial⟩ | simp_all
theorem tE:fR 9 ByteArray:=by
 intro H enc w fuel cs x h
 obtain ⟨s,rfl,_,hs⟩:=DataW.trod_string Tryz.underlying9 h
 exact ⟨s,[],rfl,rfl,hs⟩

theorem qS {H:Type} {enc:TypeId×Value→H} {W W':World} (hl:laidOutB Tryz.prog=true) (hb:Below W.heap.size W W'):∀ {ts:List TypeId} {vs:List Value} {ds:List (DataW H)} {p:List MemPlace},
  (∀ t∈ts,Tryz.prog.readableRec t=true∧t<Tryz.prog.types.size)→DataW.TrodAll enc Tryz.prog W 0 (fun _=>true) true ts vs ds p→(∀ x∈p,x.block<W.heap.size) →
  DataW.TrodAll enc Tryz.prog W' 0 (fun b=>decide (b<W.heap.size)) true ts vs ds p
 | [],_,_,_,_,h,_=>by
  obtain ⟨rfl,rfl,rfl⟩:=trodAll_nil h
  exact trodAll_mk0
 | t::ts,_,_,_,ht,h,hp=>by
  obtain ⟨v1,vs1,d1,ds1,p1,q1,rfl,rfl,rfl,h1,r1⟩:=trodAll_cons h
  exact trodAll_cons_mk (Below.trod hl (ht t (by simp)).1 (ht t (by simp)).2 h1 hb (fun x hx=>hp x (by simp[hx]))) (qS hl hb (fun t' h'=>ht t' (by simp[h'])) r1 (fun x hx=>hp x (by simp[hx])))

theorem mC {H:Type} {enc:TypeId×Value→H} {W:World} {base:Nat} {t:TypeId} {fs:Array Field} {α:Type} [Shape α] (ht:Tryz.prog.underlying t=some (.struct fs)) (ho:fR t α) {v:Value} {d:DataW H} {p:List MemPlace}
  (hv:Value.okWide Tryz.prog W .any base t v) (h:DataW.Trod enc Tryz.prog W 0 (fun _=>true) true t v d p):∃ (cs:List Value) (x:α) (fp:List Nat),v = .agg cs.toArray∧Shape.C W cs x fp:=by
 obtain ⟨cs,rfl,hsz⟩:=okWide_struct ht hv
 obtain ⟨fuel,hf⟩:=h
 obtain ⟨x,fp,hc⟩:=ho enc W fuel _ _ hf
 exact ⟨cs.toList,x,fp,rfl,hc⟩
theorem ownKnobTry:ownKnob Tryz.prog.godebug=none:=by kernel_rfl
theorem laidOutTry:laidOutB Tryz.prog=true:=by kernel_rfl
end Go.Proofs.YtanpcpoogkdlaaaGreat
namespace Go.Proofs.YtanpcpoogkdlaaaGreat
set_option linter.unusedSimpArgs false
set_option linter.unusedVariables false
set_option maxRecDepth 100000
set_option maxHeartbeats 2000000
open Go.ChangeShapes Go.WideShapes Go.ChangeAt Go.RowKit Go.Deep
theorem opens_Edge:fR 348 Edge:=by
 intro H enc w fuel cs x h
 obtain ⟨xs,n,_,hx,hl,hlen,hf⟩:=DataW.trod_struct Tryz.underlying348 h
 have hl':cs.length=2:=hl
 have hlen':xs.length=2:=hlen
 match cs,hl',xs,hlen' with
 | [c0,c1],_,[y0,y1],_=>
  obtain ⟨n0,e0,_,w0⟩:=DataW.trod_int Tryz.underlying3 (hf 0 _ rfl)
  have e0':[c0]=[I n0]:=e0
  obtain rfl:=List.singleton_inj.1 e0'
  obtain ⟨n1,e1,_,w1⟩:=DataW.trod_int Tryz.underlying3 (hf 1 _ rfl)
  have e1':[c1]=[I n1]:=e1
  obtain rfl:=List.singleton_inj.1 e1'
  exact ⟨⟨n0,n1⟩,[],rfl,rfl,⟨cH w0,cH w1⟩⟩
theorem opens_EdgeS:fR 102 (List Edge):=fX Tryz.underlying102 aC eS opens_Edge
theorem yU:fR 104 Plan:=by
 intro H enc w fuel cs x h
 obtain ⟨xs,n,_,hx,hl,hlen,hf⟩:=DataW.trod_struct Tryz.underlying104 h
 have hl':cs.length=5:=hl
 have hlen':xs.length=5:=hlen
 match cs,hl',xs,hlen' with
 | [c0,c1,c2,c3,c4],_,[y0,y1,y2,y3,y4],_=>
  obtain ⟨n0,e0,_,w0⟩:=DataW.trod_int Tryz.underlying3 (hf 0 _ rfl)
  have e0':[c0]=[I n0]:=e0
  obtain rfl:=List.singleton_inj.1 e0'
  obtain ⟨n1,e1,_,w1⟩:=DataW.trod_int Tryz.underlying3 (hf 1 _ rfl)
  have e1':[c1]=[I n1]:=e1
  obtain rfl:=List.singleton_inj.1 e1'
  obtain ⟨n2,e2,_,w2⟩:=DataW.trod_int Tryz.underlying3 (hf 2 _ rfl)
  have e2':[c2]=[I n2]:=e2
  obtain rfl:=List.singleton_inj.1 e2'
  obtain ⟨n3,e3,_,w3⟩:=DataW.trod_int Tryz.underlying3 (hf 3 _ rfl)
  have e3':[c3]=[I n3]:=e3
  obtain rfl:=List.singleton_inj.1 e3'
  obtain ⟨l4,g4,u4,e4,s4⟩:=opens_EdgeS enc w n _ _ (hf 4 _ rfl)
  have e4':[c4]=[u4]:=e4
  obtain rfl:=List.singleton_inj.1 e4'
  exact ⟨⟨n0,n1,n2,n3,l4⟩,_,_,g4,rfl,⟨cH w0,cH w1,cH w2,cH w3⟩,s4,rfl⟩
theorem opens_Entry:fR 363 Entry:=by
 intro H enc w fuel cs x h
 obtain ⟨xs,n,_,hx,hl,hlen,hf⟩:=DataW.trod_struct Tryz.underlying363 h
 have hl':cs.length=4:=hl
 have hlen':xs.length=4:=hlen
 match cs,hl',xs,hlen' with
 | [c0,c1,c2,c3],_,[y0,y1,y2,y3],_=>
  obtain ⟨n0,e0,_,w0⟩:=DataW.trod_int Tryz.underlying3 (hf 0 _ rfl)
  have e0':[c0]=[I n0]:=e0
  obtain rfl:=List.singleton_inj.1 e0'
  obtain ⟨n1,e1,_,w1⟩:=DataW.trod_int Tryz.underlying3 (hf 1 _ rfl)
  have e1':[c1]=[I n1]:=e1
  obtain rfl:=List.singleton_inj.1 e1'
  obtain ⟨n2,e2,_,w2⟩:=DataW.trod_int Tryz.underlying3 (hf 2 _ rfl)
  have e2':[c2]=[I n2]:=e2
  obtain rfl:=List.singleton_inj.1 e2'
  obtain ⟨n3,e3,_,w3⟩:=DataW.trod_int Tryz.underlying3 (hf 3 _ rfl)
  have e3':[c3]=[I n3]:=e3
  obtain rfl:=List.singleton_inj.1 e3'
  exact ⟨⟨n0,n1,n2,n3⟩,[],rfl,rfl,⟨cH w0,cH w1,cH w2,cH w3⟩⟩
theorem opens_EntryS:fR 336 (List Entry):=fX Tryz.underlying336 aC eS opens_Entry
theorem opens_Task:fR 372 Task:=by
 intro H enc w fuel cs x h
 obtain ⟨xs,n,_,hx,hl,hlen,hf⟩:=DataW.trod_struct Tryz.underlying372 h
 have hl':cs.length=4:=hl
 have hlen':xs.length=4:=hlen
 match cs,hl',xs,hlen' with
 | [c0,c1,c2,c3],_,[y0,y1,y2,y3],_=>
  obtain ⟨n0,e0,_,w0⟩:=DataW.trod_int Tryz.underlying3 (hf 0 _ rfl)
  have e0':[c0]=[I n0]:=e0
  obtain rfl:=List.singleton_inj.1 e0'
  obtain ⟨n1,e1,_,w1⟩:=DataW.trod_int Tryz.underlying3 (hf 1 _ rfl)
  have e1':[c1]=[I n1]:=e1
  obtain rfl:=List.singleton_inj.1 e1'
  obtain ⟨n2,e2,_,w2⟩:=DataW.trod_int Tryz.underlying3 (hf 2 _ rfl)
  have e2':[c2]=[I n2]:=e2
  obtain rfl:=List.singleton_inj.1 e2'
  obtain ⟨n3,e3,_,w3⟩:=DataW.trod_int Tryz.underlying3 (hf 3 _ rfl)
  have e3':[c3]=[I n3]:=e3
  obtain rfl:=List.singleton_inj.1 e3'
  exact ⟨⟨n0,n1,n2,n3⟩,[],rfl,rfl,⟨cH w0,cH w1,cH w2,cH w3⟩⟩
theorem opens_TaskS:fR 338 (List Task):=fX Tryz.underlying338 aC eS opens_Task
theorem opens_Run:fR 340 Run:=by
 intro H enc w fuel cs x h
 obtain ⟨xs,n,_,hx,hl,hlen,hf⟩:=DataW.trod_struct Tryz.underlying340 h
 have hl':cs.length=8:=hl
 have hlen':xs.length=4:=hlen
 match cs,hl',xs,hlen' with
 | [c0,c1,c2,c3,c4,c5,c6,c7],_,[y0,y1,y2,y3],_=>
  obtain ⟨n0,e0,_,w0⟩:=DataW.trod_int Tryz.underlying3 (hf 0 _ rfl)
  have e0':[c0]=[I n0]:=e0
  obtain rfl:=List.singleton_inj.1 e0'
  obtain ⟨z1,gz1,u1_0,g1_0,e1,ok1,s1_0,_⟩:=yU enc w n _ _ (hf 1 _ rfl)
  have e1':[c1,c2,c3,c4,c5]=[I z1.prio,I z1.most,I z1.wait,I z1.tasks,u1_0]:=e1
  simp only[List.cons.injEq,and_true] at e1'
  obtain ⟨rfl,rfl,rfl,rfl,rfl⟩:=e1'
  obtain ⟨n2,e2,_,w2⟩:=DataW.trod_int Tryz.underlying3 (hf 2 _ rfl)
  have e2':[c6]=[I n2]:=e2
  obtain rfl:=List.singleton_inj.1 e2'
  obtain ⟨l3,g3,u3,e3,s3⟩:=opens_TaskS enc w n _ _ (hf 3 _ rfl)
  have e3':[c7]=[u3]:=e3
  obtain rfl:=List.singleton_inj.1 e3'
  exact ⟨⟨n0,z1,n2,l3⟩,_,_,_,g1_0,g3,rfl,⟨cH w0,ok1,cH w2⟩,s1_0,s3,rfl⟩
theorem opens_RunS:fR 68 (List Run):=fX Tryz.underlying68 aC eS opens_Run
theorem opens_EntrySS:fR 67 (List (List Entry)):=fX Tryz.underlying67 aC eS opens_EntryS
theorem opens_Yard:fR 70 Yard:=by
 intro H enc w fuel cs x h
 obtain ⟨xs,n,_,hx,hl,hlen,hf⟩:=DataW.trod_struct Tryz.underlying70 h
 have hl':cs.length=4:=hl
 have hlen':xs.length=4:=hlen
 match cs,hl',xs,hlen' with
 | [c0,c1,c2,c3],_,[y0,y1,y2,y3],_=>
  obtain ⟨n0,e0,_,w0⟩:=DataW.trod_int Tryz.underlying3 (hf 0 _ rfl)
  have e0':[c0]=[I n0]:=e0
  obtain rfl:=List.singleton_inj.1 e0'
  obtain ⟨n1,e1,_,w1⟩:=DataW.trod_int Tryz.underlying3 (hf 1 _ rfl)
  have e1':[c1]=[I n1]:=e1
  obtain rfl:=List.singleton_inj.1 e1'
  obtain ⟨l2,g2,u2,e2,s2⟩:=opens_EntrySS enc w n _ _ (hf 2 _ rfl)
  have e2':[c2]=[u2]:=e2
  obtain rfl:=List.singleton_inj.1 e2'
  obtain ⟨l3,g3,u3,e3,s3⟩:=opens_RunS enc w n _ _ (hf 3 _ rfl)
  have e3':[c3]=[u3]:=e3
  obtain rfl:=List.singleton_inj.1 e3'
  exact ⟨⟨n0,n1,l2,l3⟩,_,_,_,g2,g3,rfl,⟨cH w0,cH w1⟩,s2,s3,rfl⟩
theorem opens_Reply:fR 264 Reply:=by
 intro H enc w fuel cs x h
 obtain ⟨xs,n,_,hx,hl,hlen,hf⟩:=DataW.trod_struct Tryz.underlying264 h
 have hl':cs.length=4:=hl
 have hlen':xs.length=4:=hlen
 match cs,hl',xs,hlen' with
 | [c0,c1,c2,c3],_,[y0,y1,y2,y3],_=>
  obtain ⟨n0,e0,_,w0⟩:=DataW.trod_int Tryz.underlying3 (hf 0 _ rfl)
  have e0':[c0]=[I n0]:=e0
  obtain rfl:=List.singleton_inj.1 e0'
  obtain ⟨n1,e1,_,w1⟩:=DataW.trod_int Tryz.underlying3 (hf 1 _ rfl)
  have e1':[c1]=[I n1]:=e1
  obtain rfl:=List.singleton_inj.1 e1'
  obtain ⟨n2,e2,_,w2⟩:=DataW.trod_int Tryz.underlying3 (hf 2 _ rfl)
  have e2':[c2]=[I n2]:=e2
  obtain rfl:=List.singleton_inj.1 e2'
  obtain ⟨n3,e3,_,w3⟩:=DataW.trod_int Tryz.underlying3 (hf 3 _ rfl)
  have e3':[c3]=[I n3]:=e3
  obtain rfl:=List.singleton_inj.1 e3'
  exact ⟨⟨n0,n1,n2,n3⟩,[],rfl,rfl,⟨cH w0,cH w1,cH w2,cH w3⟩⟩
theorem opens_Deed:fR 106 Deed:=by
 intro H enc w fuel cs x h
 obtain ⟨xs,n,_,hx,hl,hlen,hf⟩:=DataW.trod_struct Tryz.underlying106 h
 have hl':cs.length=11:=hl
 have hlen':xs.length=7:=hlen
 match cs,hl',xs,hlen' with
 | [c0,c1,c2,c3,c4,c5,c6,c7,c8,c9,c10],_,[y0,y1,y2,y3,y4,y5,y6],_=>
  obtain ⟨n0,e0,_,w0⟩:=DataW.trod_int Tryz.underlying3 (hf 0 _ rfl)
  have e0':[c0]=[I n0]:=e0
  obtain rfl:=List.singleton_inj.1 e0'
  obtain ⟨n1,e1,_,w1⟩:=DataW.trod_int Tryz.underlying3 (hf 1 _ rfl)
  have e1':[c1]=[I n1]:=e1
  obtain rfl:=List.singleton_inj.1 e1'
  obtain ⟨z2,gz2,u2_0,g2_0,e2,ok2,s2_0,_⟩:=yU enc w n _ _ (hf 2 _ rfl)
  have e2':[c2,c3,c4,c5,c6]=[I z2.prio,I z2.most,I z2.wait,I z2.tasks,u2_0]:=e2
  simp only[List.cons.injEq,and_true] at e2'
  obtain ⟨rfl,rfl,rfl,rfl,rfl⟩:=e2'
  obtain ⟨n3,e3,_,w3⟩:=DataW.trod_int Tryz.underlying3 (hf 3 _ rfl)
  have e3':[c7]=[I n3]:=e3
  obtain rfl:=List.singleton_inj.1 e3'
  obtain ⟨n4,e4,_,w4⟩:=DataW.trod_int Tryz.underlying3 (hf 4 _ rfl)
  have e4':[c8]=[I n4]:=e4
  obtain rfl:=List.singleton_inj.1 e4'
  obtain ⟨n5,e5,_,w5⟩:=DataW.trod_int Tryz.underlying3 (hf 5 _ rfl)
  have e5':[c9]=[I n5]:=e5
  obtain rfl:=List.singleton_inj.1 e5'
  obtain ⟨n6,e6,_,w6⟩:=DataW.trod_int Tryz.underlying3 (hf 6 _ rfl)
  have e6':[c10]=[I n6]:=e6
  obtain rfl:=List.singleton_inj.1 e6'
  exact ⟨⟨n0,n1,z2,n3,n4,n5,n6⟩,_,_,g2_0,rfl,⟨cH w0,cH w1,ok2,cH w3,cH w4,cH w5,cH w6⟩,s2_0,rfl⟩
theorem opens_Wait:fR 266 Wait:=by
 intro H enc w fuel cs x h
 obtain ⟨xs,n,_,hx,hl,hlen,hf⟩:=DataW.trod_struct Tryz.underlying266 h
 have hl':cs.length=5:=hl
 have hlen':xs.length=2:=hlen
 match cs,hl',xs,hlen' with
 | [c0,c1,c2,c3,c4],_,[y0,y1],_=>
  obtain ⟨n0,e0,_,w0⟩:=DataW.trod_int Tryz.underlying3 (hf 0 _ rfl)
  have e0':[c0]=[I n0]:=e0
  obtain rfl:=List.singleton_inj.1 e0'
  obtain ⟨z1,gz1,e1,_,ok1⟩:=opens_Reply enc w n _ _ (hf 1 _ rfl)
  have e1':[c1,c2,c3,c4]=[I z1.code,I z1.run,I z1.task,I z1.try_]:=e1
  simp only[List.cons.injEq,and_true] at e1'
  obtain ⟨rfl,rfl,rfl,rfl⟩:=e1'
  exact ⟨⟨n0,z1⟩,[],rfl,rfl,⟨cH w0,ok1⟩⟩
theorem opens_WaitS:fR 71 (List Wait):=fX Tryz.underlying71 aC eS opens_Wait
theorem opens_File:fR 253 File:=by
 intro H enc w fuel cs x h
 obtain ⟨xs,n,_,hx,hl,hlen,hf⟩:=DataW.trod_struct Tryz.underlying253 h
 have hl':cs.length=3:=hl
 have hlen':xs.length=3:=hlen
 match cs,hl',xs,hlen' with
 | [c0,c1,c2],_,[y0,y1,y2],_=>
  obtain ⟨s0,fs0,e0,_,ws0⟩:=tE enc w n _ _ (hf 0 _ rfl)
  have e0':[c0]=[.string s0]:=e0
  obtain rfl:=List.singleton_inj.1 e0'
  obtain ⟨s1,fs1,e1,_,ws1⟩:=tE enc w n _ _ (hf 1 _ rfl)
  have e1':[c1]=[.string s1]:=e1
  obtain rfl:=List.singleton_inj.1 e1'
  obtain ⟨n2,e2,_,w2⟩:=DataW.trod_int Tryz.underlying3 (hf 2 _ rfl)
  have e2':[c2]=[I n2]:=e2
  obtain rfl:=List.singleton_inj.1 e2'
  exact ⟨⟨s0,s1,n2⟩,[],rfl,rfl,⟨ws0,ws1,cH w2⟩⟩
theorem opens_FileS:fR 58 (List File):=fX Tryz.underlying58 aC eS opens_File
theorem opens_Disk:fR 60 Disk:=by
 intro H enc w fuel cs x h
 obtain ⟨xs,n,_,hx,hl,hlen,hf⟩:=DataW.trod_struct Tryz.underlying60 h
 have hl':cs.length=1:=hl
 have hlen':xs.length=1:=hlen
 match cs,hl',xs,hlen' with
 | [c0],_,[y0],_=>
  obtain ⟨l0,g0,u0,e0,s0⟩:=opens_FileS enc w n _ _ (hf 0 _ rfl)
  have e0':[c0]=[u0]:=e0
  obtain rfl:=List.singleton_inj.1 e0'
  exact ⟨⟨l0⟩,_,_,g0,rfl,trivial,s0,rfl⟩
theorem opens_Engine:fR 73 Engine:=by
 intro H enc w fuel cs x h
 obtain ⟨xs,n,_,hx,hl,hlen,hf⟩:=DataW.trod_struct Tryz.underlying73 h
 have hl':cs.length=10:=hl
 have hlen':xs.length=7:=hlen
 match cs,hl',xs,hlen' with
 | [c0,c1,c2,c3,c4,c5,c6,c7,c8,c9],_,[y0,y1,y2,y3,y4,y5,y6],_=>
  obtain ⟨z0,gz0,u0_0,u0_1,g0_0,g0_1,e0,ok0,s0_0,s0_1,_⟩:=opens_Yard enc w n _ _ (hf 0 _ rfl)
  have e0':[c0,c1,c2,c3]=[I z0.now,I z0.seq,u0_0,u0_1]:=e0
  simp only[List.cons.injEq,and_true] at e0'
  obtain ⟨rfl,rfl,rfl,rfl⟩:=e0'
  obtain ⟨z1,gz1,u1_0,g1_0,e1,ok1,s1_0,_⟩:=opens_Disk enc w n _ _ (hf 1 _ rfl)
  have e1':[c4]=[u1_0]:=e1
  simp only[List.cons.injEq,and_true] at e1'
  obtain rfl:=e1'
  obtain ⟨n2,e2,_,w2⟩:=DataW.trod_int Tryz.underlying3 (hf 2 _ rfl)
  have e2':[c5]=[I n2]:=e2
  obtain rfl:=List.singleton_inj.1 e2'
  obtain ⟨n3,e3,_,w3⟩:=DataW.trod_int Tryz.underlying3 (hf 3 _ rfl)
  have e3':[c6]=[I n3]:=e3
  obtain rfl:=List.singleton_inj.1 e3'
  obtain ⟨l4,g4,u4,e4,s4⟩:=opens_WaitS enc w n _ _ (hf 4 _ rfl)
  have e4':[c7]=[u4]:=e4
  obtain rfl:=List.singleton_inj.1 e4'
  obtain ⟨n5,e5,_,w5⟩:=DataW.trod_int Tryz.underlying3 (hf 5 _ rfl)
  have e5':[c8]=[I n5]:=e5
  obtain rfl:=List.singleton_inj.1 e5'
  obtain ⟨b6,fb6,e6,_⟩:=opens_bool enc w n _ _ (hf 6 _ rfl)
  have e6':[c9]=[.bool b6]:=e6
  obtain rfl:=List.singleton_inj.1 e6'
  exact ⟨⟨z0,z1,n2,n3,l4,n5,b6⟩,_,_,_,_,_,g0_0,g0_1,g1_0,g4,rfl,⟨ok0,cH w2,cH w3,cH w5⟩,s0_0,s0_1,s1_0,s4,rfl⟩
end Go.Proofs.YtanpcpoogkdlaaaGreat
