/-
  A yard read out of a text, of the program.
  Notes read out of texts, of both; told to the reader.
  Notes in a text of frames, those behind a mark, of both; told to the reader.
  Room for a run, of both.
  An entry put on a shelf, of both.
  What a yard gets on its shelf, of the program.
  Yards of which runs are turned: what is kept. Theory alone.
  What a worker is given, and from which shelf. Theory alone.
  A new yard, engine, world.
  A new yard, as a contract.
  Engines: right or not, copied, of both.
  An element of an owned slice is left out.
  A mark's steps, plain.
  A mark's steps, as calls; their weights.
  A mark, of both.
  Who holds what, room, new runs, shelves that are taken from, of both; told to the reader.
  Runs of which a task fails, yards that are turned, of the reference.
  What a change of a run lays on the shelves, of both: read where it is called.
  What was told to the reader, as calls (for the older walks).
  A task that is done: what becomes of a right run. Theory alone.
  Runs that are changed where they lie, of the program; told to the reader, and as calls.
  Yards that are started again, of both.
  A task that is done, of both.
  What is told of a task, of both.
  A task that failed, of both.
  A run that is left, of both.
  Runs that are done, or fail, or are left; what is told of work; starting anew; of the reference; told to the reader.
  Tasks that are late, yards whose time goes on. Theory alone.
  Late tasks of the program; told to the reader.
  Tasks that are late, time that goes on, of both.
  Runs that are done; starting anew; of the reference; told to the reader.
  Runs that are given up, of both.
  Late tasks, time that goes on, runs that are left, of the reference; told to the reader.
  Shelves that are halved, merged, taken from, of both.
  What a worker is given, of both.
  Shelves that are swept, tasks that are started, polls, of the reference; told to the reader.
  What is submitted, of both.
-/
import Derived.Test.YtanpcpoogkdlaaaGreatQ01
import Derived.Test.YtanpcpoogkdlaaaGreatQ02
import Derived.Test.YtanpcpoogkdlaaaGreatQ03
import Derived.Test.YtanpcpoogkdlaaaGreatQ04
import Derived.Test.YtanpcpoogkdlaaaGreatQ05
namespace Go.Proofs.YtanpcpoogkdlaaaGreat
set_option linter.unusedSimpArgs false
set_option linter.unusedVariables false
set_option maxRecDepth 100000
set_option maxHeartbeats 2000000
open Go.RowKit Go.Proofs.Tryz List
variable (w:World) {cs ds:List Value} {fp gp:List Nat}
def nbx (j:Nat) (x:Numb):List Tc:=[.r j,.b x.bad]
theorem fP {x:Numb} (h:x.in_):(aO x).1.in_:=(numB.inn h).1
theorem eA {x:Numb} (h:x.in_):I64 (aO x).2:=by have:=numB.inn h;have:0≤(aO x).2∧(aO x).2≤1000000000:=this.2;unfold I64;omega
theorem aK3 {x:Numb} (h:x.in_):(aO x).2≤1000000000:=(numB.inn h).2.2
section
variable {A:Type} {R:A→Prop}
noncomputable def cmN (x:Numb) (k:D prog R):D prog R := .cm 297 func297 (NextD x) trivial fun _ _ _ _=>k
end
theorem PlanD (x:Numb) (h:x.in_):Cm prog 298 [] inferInstance x (fun _:Unit=>True) (fun _=>(eY fO x).1) (fun _=>[.S (eY fO x).2]):=
 Cm.one (eY fO x) (y:=fun a=>a.1) (rk:=fun a=>[.S a.2])<|vcm func298 (fun hg hn=>
  let x1:=(aO x).1
  let x2:=(aO x1).1
  let x3:=(aO x2).1
  let x4:=(aO x3).1
  let x5:=(aO x4).1
  let m:=(aO x4).2
  let h1:=fP h
  let h2:=fP h1
  let h3:=fP h2
  let h4:=fP h3
  let h5:=fP h4
  let hm:m≤1000000000:=aK3 h4
  cmN x<|cmN x1<|cmN x2<|cmN x3<|cmN x4 <| .r0 (inferInstance:Shape Edge) 239 <|
  .lp (Γ:=Nat×Numb×List Edge) (fun g=>MJ Numb.bad (iV fO) Numb.in_ x5 m g) (fun g=>m.toNat - g.1) [0,2,3,4] [2,1000000] [] (fun g=>[vI 5 g.1]) (fun g=>[oR 9 239 g.2.2,oO 8 g.2.1.list,oB 7 [.v (I (aO x).2),.v (I (aO x1).2),.v (I (aO x2).2),.v (I (aO x3).2),.r 9],oB 0 (nbx 8 g.2.1)]) (0,x5,[]) (MJ.start h5) [] fun g hJ t=>
   .s ((g.1:Int)<m)
    (fun h => .sb (!g.2.1.bad)
     (fun hb=>cmN g.2.1<|cmN (aO g.2.1).1 <|
      .a g.2.2 (iV fO g.2.1).2 16 (hy:=bZ1 numB _ hJ.inn) (h63:=by have:=hJ.len;have:=hJ.le;unfold maxLen;omega) (hby:=by have:=hJ.len;have:=hJ.le;omega) <| .p g.1 1 (h:=by unfold I64;omega) <|
      .n t (g.1+1,(iV fO g.2.1).1,g.2.2++[(iV fO g.2.1).2]) [(8,11)] (hJ.next (aE9 numB) h (bnT hb)) (by dsimp only;omega))
     (fun hb => .rt (g.2.1,⟨(aO x).2,(aO x1).2,(aO x2).2,(aO x3).2,g.2.2⟩) ⟨by
      show _=(fun q:Numb×List Edge=>(q.1,(⟨(aO x).2,(aO x1).2,(aO x2).2,(aO x3).2,q.2⟩:Plan))) (bF Numb.bad (iV fO) x5 m.toNat)
      rw[← hJ.stop (bnF hb)],⟨eA ‹_›,eA h1,eA h2,eA h3⟩,trivial⟩))
    (fun h => .rt (g.2.1,⟨(aO x).2,(aO x1).2,(aO x2).2,(aO x3).2,g.2.2⟩) ⟨by
      show _=(fun q:Numb×List Edge=>(q.1,(⟨(aO x).2,(aO x1).2,(aO x2).2,(aO x3).2,q.2⟩:Plan))) (bF Numb.bad (iV fO) x5 m.toNat)
      rw[← hJ.all h],⟨eA ‹_›,eA h1,eA h2,eA h3⟩,trivial⟩)) aD
theorem many4 {σ β:Type} (one:σ→σ×β) (x:σ):bF (fun _=>false) one x 4=((one (one (one (one x).1).1).1).1,[(one x).2,(one (one x).1).2,(one (one (one x).1).1).2,(one (one (one (one x).1).1).1).2]):=by
 simp[bF]
theorem bU8 {s:ByteArray} (h:¬ ((eK s).2=true∧(jD s).1.bad=false∧aM (jD s).2=true∧jC (jD s).2=s)):(yard0,false)=eG s:=by unfold eG;rw[if_neg h]
theorem lists_good {α:Type} [Shape α] (l:List (List α)):∀ y∈l,(inferInstance:Dsh (List α)).good y:=fun _ _=>trivial
section
variable {A:Type} {R:A→Prop}
noncomputable def cmPl (x:Numb) (h:x.in_) (k:gds [Rk.S (eY fO x).2]→D prog R):D prog R := .cm 298 func298 (PlanD x h) trivial fun _ _ _ hg=>k hg
noncomputable def aD7 (x:Numb) (hi:x.in_) (lst row:Nat) (ko:List Nat) (cells:List Tc) (k:∀ z:Numb×List Entry,z=dL fO x→D prog R):D prog R:=
 let hm:(aO x).2≤1000000000:=aK3 hi
 cmN x <| .r0 (inferInstance:Shape Entry) 243 <| .lx (Γ:=Nat×Numb×List Entry) (fun g=>MJ Numb.bad (kE fO) Numb.in_ (aO x).1 (aO x).2 g) (fun g=>(aO x).2.toNat - g.1) [0,2,6,7,8,9,34,35] ko [] (fun g=>[vI 10 g.1])
  (fun g=>[oR row 243 g.2.2,oO lst g.2.1.list,oB 83 cells,oB 2 (nbx lst g.2.1)]) (0,(aO x).1,[]) (MJ.start (fP hi)) []
  (fun g hJ t => .s ((g.1:Int)<(aO x).2)
   (fun h => .sb (!g.2.1.bad)
    (fun hb=>let x1:=(aO g.2.1).1
     let x2:=(aO x1).1
     let x3:=(aO x2).1
     cmN g.2.1<|cmN x1<|cmN x2<|cmN x3 <|
     .a g.2.2 (kE fO g.2.1).2 32 (hy:=entry_ok numB _ hJ.inn) (h63:=by have:=hJ.len;have:=hJ.le;unfold maxLen;omega) (hby:=by have:=hJ.len;have:=hJ.le;omega) <| .p g.1 1 (h:=by unfold I64;omega) <|
     .n t (g.1+1,(kE fO g.2.1).1,g.2.2++[(kE fO g.2.1).2]) [(lst,lst+5)] (hJ.next (aN5 numB) h (bnT hb)) (by dsimp only;omega))
    (fun hb => .xt (fun z:Numb×List Entry=>z=dL fO x) (g.2.1,g.2.2) (hJ.stop (bnF hb)) []))
   (fun h => .xt (fun z:Numb×List Entry=>z=dL fO x) (g.2.1,g.2.2) (hJ.all h) []))
  (fun z:Numb×List Entry=>z=dL fO x) 2 [0,2,6,7,34,35] ko [] (fun _=>[]) (fun z=>[oR row 243 z.2,oO lst z.1.list,oB 83 cells,oB 2 (nbx lst z.1)]) k
end
def cC1:Tc := .v (.slice none 0 0)
noncomputable def riEnd (s:ByteArray) (hs:s.size≤1048576) (hv:(eK s).2=true) (w:Numb×List Run) (y:Yard) (hok:y.ok) (e:(w.1,y)=jD s):D prog (fun a:Yard×Bool=>a=eG s∧rgd [Rk.S a.1,Rk.B a.2]):=
 let e1:(jD s).1=w.1:=by rw[← e]
 let e2:(jD s).2=y:=by rw[← e]
 .sb w.1.bad (fun hb => .rt (yard0,false) ⟨bU8 (fun h=>by rw[e1,hb] at h;exact absurd h.2.1 (by simp)),cZ,trivial⟩)
  (fun hb=>let hw:y.wt≤1048576:=by { have:=bF5 hv (by rw[e1];exact hb);rw[e2] at this;omega }
   .c func118 (cA3 y hw) (hg:=⟨hok,trivial⟩) fun _ => .v (aM y)
   (fun h2 => .rt (yard0,false) ⟨bU8 (fun h=>by rw[e2,h2] at h;exact absurd h.2.2.1 (by simp)),cZ,trivial⟩)
   (fun h2 => .c func195 (aY2 y hw) (hg:=⟨hok,trivial⟩) fun _ => .u (jC y=s)
    (fun hn => .rt (yard0,false) ⟨bU8 (fun h=>hn (by rw[← e2];exact h.2.2.2)),cZ,trivial⟩)
    (fun he => .rt (y,true) ⟨by unfold eG;rw[if_pos ⟨hv,by rw[e1];exact hb,by rw[e2];exact h2,by rw[e2];exact he⟩,e2],hok,trivial⟩)))
noncomputable def riRuns (s:ByteArray) (hs:s.size≤1048576) (hv:(eK s).2=true) (now seq m:Int) (ss:List (List Entry)) (hok:I64 now∧I64 seq) (hm:m≤1000000000) (x4:Numb) (hi:x4.in_) (e:∀ w,w=bF Numb.bad (iE fO) x4 m.toNat→(w.1,(⟨now,seq,ss,w.2⟩:Yard))=jD s):D prog (fun a:Yard×Bool=>a=eG s∧rgd [Rk.S a.1,Rk.B a.2]):=
 .r0 (inferInstance:Shape Run) 55 <| .lx (Γ:=Nat×Numb×List Run) (fun g=>MJ Numb.bad (iE fO) Numb.in_ x4 m g) (fun g=>m.toNat - g.1) [0,2,6,7,11] [0,83] [] (fun g=>[vI 12 g.1]) (fun g=>[oR 172 55 g.2.2,oO 171 g.2.1.list,oB 123 [.v (I now),.v (I seq),.r 83,.r 172],oB 2 (nbx 171 g.2.1)]) (0,x4,[]) (MJ.start hi) []
  (fun g hJ t => .s ((g.1:Int)<m)
   (fun h => .sb (!g.2.1.bad)
    (fun hb=>
     let x1:=(aO g.2.1).1
     let i1:=fP hJ.inn
     let p:=eY fO x1
     let i2:=wY numB x1 i1
     let x3:=(aO p.1).1
     let i3:=fP i2
     let hpt:p.2.tasks≤1000000000:=(vA numB x1 i1).2
     cmN g.2.1<|cmPl x1 i1 fun gp=>cmN p.1 <| .r0 (inferInstance:Shape Task) 158 <|
     .lx (Γ:=Nat×Numb×List Task) (fun q=>MJ Numb.bad (iH fO) Numb.in_ x3 p.2.tasks q) (fun q=>p.2.tasks.toNat - q.1) [0,2,6,7,11,12,13] [0,83,123,172,176] [] (fun q=>[vI 14 q.1])
      (fun q=>[oR 178 158 q.2.2,oO 177 q.2.1.list,oB 174 [.v (I (aO g.2.1).2),.v (I p.2.prio),.v (I p.2.most),.v (I p.2.wait),.v (I p.2.tasks),.r 176,.v (I (aO p.1).2),.r 178],oB 2 (nbx 177 q.2.1)]) (0,x3,[]) (MJ.start i3) []
      (fun q hJ2 t2 => .s ((q.1:Int)<p.2.tasks)
       (fun h3 => .sb (!q.2.1.bad)
        (fun hb2=>let z1:=(aO q.2.1).1
         let z2:=(aO z1).1
         let z3:=(aO z2).1
         cmN q.2.1<|cmN z1<|cmN z2<|cmN z3 <|
         .a q.2.2 (iH fO q.2.1).2 32 (hy:=bS7 numB _ hJ2.inn) (h63:=by have:=hJ2.len;have:=hJ2.le;unfold maxLen;omega) (hby:=by have:=hJ2.len;have:=hJ2.le;omega) <| .p q.1 1 (h:=by unfold I64;omega) <|
         .n t2 (q.1+1,(iH fO q.2.1).1,q.2.2++[(iH fO q.2.1).2]) [(177,182)] (hJ2.next (aD1 numB) h3 (bnT hb2)) (by dsimp only;omega))
        (fun hb2 => .xt (fun z:Numb×List Task=>z=bF Numb.bad (iH fO) x3 p.2.tasks.toNat) (q.2.1,q.2.2) (hJ2.stop (bnF hb2)) []))
       (fun h3 => .xt (fun z:Numb×List Task=>z=bF Numb.bad (iH fO) x3 p.2.tasks.toNat) (q.2.1,q.2.2) (hJ2.all h3) []))
      (fun z:Numb×List Task=>z=bF Numb.bad (iH fO) x3 p.2.tasks.toNat) 6 [0,2,6,7,11,12,13] [0,83,123,172,176] [] (fun _=>[])
      (fun z=>[oR 178 158 z.2,oO 177 z.1.list,oB 174 [.v (I (aO g.2.1).2),.v (I p.2.prio),.v (I p.2.most),.v (I p.2.wait),.v (I p.2.tasks),.r 176,.v (I (aO p.1).2),.r 178],oB 2 (nbx 177 z.1)])
      fun z hz=>
       let er:iE fO g.2.1=(z.1,(⟨(aO g.2.1).2,p.2,(aO p.1).2,z.2⟩:Run)):=by
        show (fun z:Numb×List Task=>(z.1,(⟨(aO g.2.1).2,p.2,(aO p.1).2,z.2⟩:Run))) (bF Numb.bad (iH fO) x3 p.2.tasks.toNat)=_
        rw[← hz]
       .a g.2.2 (⟨(aO g.2.1).2,p.2,(aO p.1).2,z.2⟩:Run) 96 (hy:=by have:=cF4 numB _ hJ.inn;rw[er] at this;exact this) (h63:=by have:=hJ.len;have:=hJ.le;unfold maxLen;omega) (hby:=by have:=hJ.len;have:=hJ.le;omega) <| .p g.1 1 (h:=by unfold I64;omega) <|
       .n t (g.1+1,z.1,g.2.2++[(⟨(aO g.2.1).2,p.2,(aO p.1).2,z.2⟩:Run)]) [(171,177)] (by have:=hJ.next (bA5 numB) h (bnT hb);rw[er] at this;exact this) (by dsimp only;omega))
    (fun hb => .xt (fun w:Numb×List Run=>w=bF Numb.bad (iE fO) x4 m.toNat) (g.2.1,g.2.2) (hJ.stop (bnF hb)) []))
   (fun h => .xt (fun w:Numb×List Run=>w=bF Numb.bad (iE fO) x4 m.toNat) (g.2.1,g.2.2) (hJ.all h) []))
  (fun w:Numb×List Run=>w=bF Numb.bad (iE fO) x4 m.toNat) 4 [0,2,6,7] [0,83] [] (fun _=>[]) (fun w=>[oR 172 55 w.2,oO 171 w.1.list,oB 123 [.v (I now),.v (I seq),.r 83,.r 172],oB 2 (nbx 171 w.1)])
  fun w hw=>riEnd s hs hv w ⟨now,seq,ss,w.2⟩ hok (e w hw)
theorem ReadYardI (s:ByteArray) (hs:s.size≤1048576):Ct1 prog 201 [.T s] [.S (eG s).1,.B (eG s).2]:=
 .one (eG s) (rk:=fun a=>[.S a.1,.B a.2])<|vc func201 (fun hg => .c func296 (aY6 s hs) fun _ => .v (eK s).2
  (fun hb => .rt (yard0,false) ⟨bU8 (fun h=>by rw[h.1] at hb;cases hb),cZ,trivial⟩)
  (fun hv=>
   let x0:Numb:=⟨(eK s).1,false⟩
   let i0:x0.in_:=aG0 s
   let x1:=(aO x0).1
   let x2:=(aO x1).1
   let i1:=fP i0
   let i2:=fP i1
   cmN x0<|cmN x1 <| .ul 5 <| .kt ((0:Int)<4) cB <|
   aD7 x2 i2 163 164 [0,123] [.r 164,cC1,cC1,cC1] fun z0 e0=>let j0:z0.1.in_:=by { rw[e0];exact kQ numB _ i2 }
   .p 0 1 <| .kt ((1:Int)<4) cB <|
   aD7 z0.1 j0 165 166 [0,123,164] [.r 164,.r 166,cC1,cC1] fun z1 e1=>let j1:z1.1.in_:=by { rw[e1];exact kQ numB _ j0 }
   .p 1 1 <| .kt ((2:Int)<4) cB <|
   aD7 z1.1 j1 167 168 [0,123,164,166] [.r 164,.r 166,.r 168,cC1] fun z2 e2=>let j2:z2.1.in_:=by { rw[e2];exact kQ numB _ j1 }
   .p 2 1 <| .kt ((3:Int)<4) cB <|
   aD7 z2.1 j2 169 170 [0,123,164,166,168] [.r 164,.r 166,.r 168,.r 170] fun z3 e3=>let j3:z3.1.in_:=by { rw[e3];exact kQ numB _ j2 }
   .p 3 1 <| .kf ((4:Int)<4) cB <|
   cmN z3.1 <| .lj (inferInstance:Dsh (List Entry)) 123 2 [z0.2,z1.2,z2.2,z3.2] (by simp) (by simp) (lists_good _) <|
   riRuns s hs hv (aO x0).2 (aO x1).2 (aO z3.1).2 [z0.2,z1.2,z2.2,z3.2] ⟨eA i0,eA i1⟩ (aK3 j3) (aO z3.1).1 (fP j3) (fun w hw=>by
    show _=(fun z:Numb×List (List Entry)=>(fun w:Numb×List Run=>(w.1,(⟨(aO x0).2,(aO x1).2,z.2,w.2⟩:Yard))) (bF Numb.bad (iE fO) (aO z.1).1 (aO z.1).2.toNat)) (bF (fun _=>false) (dL fO) x2 4)
    rw[many4,← e0,← e1,← e2,← e3]
    show _=(fun w:Numb×List Run=>(w.1,(⟨(aO x0).2,(aO x1).2,[z0.2,z1.2,z2.2,z3.2],w.2⟩:Yard))) (bF Numb.bad (iE fO) (aO z3.1).1 (aO z3.1).2.toNat)
    rw[← hw]))) aD
noncomputable def aI6 (s:ByteArray) (hv:(eK s).2=true) (w:Numb) (n:Note) (hok:n.ok) (e:(w,n)=aQ4 s):D prog (fun a:Note×Bool=>a=lQ s∧rgd [Rk.S a.1,Rk.B a.2]):=
 let e1:(aQ4 s).1=w:=by rw[← e]
 let e2:(aQ4 s).2=n:=by rw[← e]
 .c func105 (aP7 n) (hg:=⟨hok,trivial⟩) fun _ => .sb w.bad
  (fun hb => .rt (note0,false) ⟨bJ1 (fun h=>by rw[e1,hb] at h;exact absurd h.2.1 (by simp)),kV,trivial⟩)
  (fun hb => .s (gV n=⟨#[]⟩)
   (fun h0 => .rt (note0,false) ⟨bJ1 (fun h=>h.2.2.1 (by rw[← h.2.2.2,e2,h0])),kV,trivial⟩)
   (fun h0 => .u (gV n=s)
    (fun hn => .rt (note0,false) ⟨bJ1 (fun h=>hn (by rw[← e2];exact h.2.2.2)),kV,trivial⟩)
    (fun he => .rt (n,true) ⟨by unfold lQ;rw[if_pos ⟨hv,by rw[e1];exact hb,fun h=>h0 (by rw[he,h]),by rw[e2];exact he⟩,e2],hok,trivial⟩)))
theorem ReadNote_i (s:ByteArray) (hs:s.size≤1048576):Ct1 prog 188 [.T s] [.S (lQ s).1,.B (lQ s).2]:=
 .one (lQ s) (rk:=fun a=>[.S a.1,.B a.2])<|vc func188 (fun hg => .c func296 (aY6 s hs) fun _ => .v (eK s).2
  (fun hb => .rt (note0,false) ⟨bJ1 (fun h=>by rw[h.1] at hb;cases hb),kV,trivial⟩)
  (fun hv=>
   let x0:Numb:=⟨(eK s).1,false⟩
   let i0:x0.in_:=aG0 s
   let x1:=(aO x0).1
   let i1:=fP i0
   let x2:=(aO x1).1
   let i2:=fP i1
   let x3:=(aO x2).1
   let i3:=fP i2
   let x4:=(aO x3).1
   let i4:=fP i3
   let k:=(aO x1).2
   let a64:=eA i0
   let k64:=eA i1
   let three:k=3∨k=4→D prog (fun a:Note×Bool=>a=lQ s∧rgd [Rk.S a.1,Rk.B a.2]):=fun h=>cmN x2<|cmN x3<|cmN x4<|aI6 s hv (aO x4).1 ⟨(aO x0).2,⟨k,(aO x2).2,zP,(aO x3).2,(aO x4).2,0,0⟩⟩ ⟨a64,k64,eA i2,oN,eA i3,eA i4,z64,z64⟩ (bB9 (r:=fO) (x:=x0) h).symm
   let one:k=6∨k=7→D prog (fun a:Note×Bool=>a=lQ s∧rgd [Rk.S a.1,Rk.B a.2]):=fun h=>cmN x2<|aI6 s hv (aO x2).1 ⟨(aO x0).2,⟨k,(aO x2).2,zP,0,0,0,0⟩⟩ ⟨a64,k64,eA i2,oN,z64,z64,z64,z64⟩ (bB8 (r:=fO) (x:=x0) h).symm
   cmN x0<|cmN x1 <| .s (k=1)
    (fun h1=>cmN x2<|cmPl x3 i3 fun gp=>aI6 s hv (eY fO x3).1 ⟨(aO x0).2,⟨k,(aO x2).2,(eY fO x3).2,0,0,0,0⟩⟩ ⟨a64,k64,eA i2,tH numB x3 i3,z64,z64,z64,z64⟩ (bC1 (r:=fO) (x:=x0) h1).symm)
    (fun h1 => .s (k=2)
     (fun h2=>cmN x2<|cmN x3<|aI6 s hv (aO x3).1 ⟨(aO x0).2,⟨k,0,zP,0,0,(aO x2).2,(aO x3).2⟩⟩ ⟨a64,k64,z64,oN,z64,z64,eA i2,eA i3⟩ (bC0 (r:=fO) (x:=x0) h2).symm)
     (fun h2 => .s (k=3) (fun h=>three (.inl h)) (fun h3 => .s (k=4) (fun h=>three (.inr h)) (fun h4 => .s (k=6) (fun h=>one (.inl h)) (fun h6 => .s (k=7) (fun h=>one (.inr h)) (fun h7=>
      aI6 s hv (aO x1).1 ⟨(aO x0).2,⟨k,0,zP,0,0,0,0⟩⟩ ⟨a64,k64,z64,oN,z64,z64,z64,z64⟩ (bC2 (r:=fO) (x:=x0) h1 h2 h3 h4 h6 h7).symm)))))))) aD
noncomputable def aI5 (s:ByteArray) (hs:s.size≤400) (w:LIn) (n:Note) (hok:n.ok) (e:(w,n)=aQ3 s):D prog (fun a:Note×Bool=>a=cH s∧rgd [Rk.S a.1,Rk.B a.2]):=
 let e1:(aQ3 s).1=w:=by rw[← e]
 let e2:(aQ3 s).2=n:=by rw[← e]
 .sb w.bad
  (fun hb => .rt (note0,false) ⟨bI7 (fun h=>by rw[e1,hb] at h;exact absurd h.2.1 (by simp)),kV,trivial⟩)
  (fun hb => .s (s=⟨#[]⟩)
   (fun h0 => .rt (note0,false) ⟨bI7 (fun h=>h.2.2.1 h0),kV,trivial⟩)
   (fun h0 => .c func114 (aP6 n) (hg:=⟨hok,trivial⟩) fun _ => .u (gV n=s)
    (fun hn => .rt (note0,false) ⟨bI7 (fun h=>hn (by rw[← e2];exact h.2.2.2)),kV,trivial⟩)
    (fun he => .rt (n,true) ⟨by unfold cH;rw[if_pos ⟨hs,by rw[e1];exact hb,h0,by rw[e2];exact he⟩,e2],hok,trivial⟩)))
theorem ReadNote_s (s:ByteArray) (hs:s.size≤1048576):Ct1 prog 213 [.T s] [.S (cH s).1,.B (cH s).2]:=
 .one (cH s) (rk:=fun a=>[.S a.1,.B a.2])<|vc func213 (fun hg => .s ((400:Int)<s.size)
  (fun hb => .rt (note0,false) ⟨bI7 (fun h=>by omega),kV,trivial⟩)
  (fun hz=>
   let h4:s.size≤400:=by omega
   let x0:LIn:=⟨s,0,false⟩
   let i0:x0.in_:=⟨hs,Nat.zero_le _⟩
   let x1:=(aI x0).1
   let i1:=bI i0
   let x2:=(aI x1).1
   let i2:=bI i1
   let x3:=(aI x2).1
   let i3:=bI i2
   let x4:=(aI x3).1
   let i4:=bI i3
   let k:=(aI x1).2
   let a64:=bX x0
   let k64:=bX x1
   let three:k=3∨k=4→D prog (fun a:Note×Bool=>a=cH s∧rgd [Rk.S a.1,Rk.B a.2]):=fun h=>cmL x2 i2<|cmL x3 i3<|cmL x4 i4<|aI5 s h4 (aI x4).1 ⟨(aI x0).2,⟨k,(aI x2).2,zP,(aI x3).2,(aI x4).2,0,0⟩⟩ ⟨a64,k64,bX _,oN,bX _,bX _,z64,z64⟩ (bB9 (r:=linR) (x:=x0) h).symm
   let one:k=6∨k=7→D prog (fun a:Note×Bool=>a=cH s∧rgd [Rk.S a.1,Rk.B a.2]):=fun h=>cmL x2 i2<|aI5 s h4 (aI x2).1 ⟨(aI x0).2,⟨k,(aI x2).2,zP,0,0,0,0⟩⟩ ⟨a64,k64,bX _,oN,z64,z64,z64,z64⟩ (bB8 (r:=linR) (x:=x0) h).symm
   cmL x0 i0<|cmL x1 i1 <| .s (k=1)
    (fun h1=>cmL x2 i2<|cmP x3 i3 fun gp=>aI5 s h4 (eY linR x3).1 ⟨(aI x0).2,⟨k,(aI x2).2,(eY linR x3).2,0,0,0,0⟩⟩ ⟨a64,k64,bX _,tH linB x3 i3,z64,z64,z64,z64⟩ (bC1 (r:=linR) (x:=x0) h1).symm)
    (fun h1 => .s (k=2)
     (fun h2=>cmL x2 i2<|cmL x3 i3<|aI5 s h4 (aI x3).1 ⟨(aI x0).2,⟨k,0,zP,0,0,(aI x2).2,(aI x3).2⟩⟩ ⟨a64,k64,z64,oN,z64,z64,bX _,bX _⟩ (bC0 (r:=linR) (x:=x0) h2).symm)
     (fun h2 => .s (k=3) (fun h=>three (.inl h)) (fun h3 => .s (k=4) (fun h=>three (.inr h)) (fun h4' => .s (k=6) (fun h=>one (.inl h)) (fun h6 => .s (k=7) (fun h=>one (.inr h)) (fun h7=>
      aI5 s h4 (aI x1).1 ⟨(aI x0).2,⟨k,0,zP,0,0,0,0⟩⟩ ⟨a64,k64,z64,oN,z64,z64,z64,z64⟩ (bC2 (r:=linR) (x:=x0) h1 h2 h3 h4' h6 h7).symm)))))))) aD
theorem tI {bs:List ByteArray} {g:Nat×List Note×Int} (h:NsJ bs g) (hb:bs.length≤60000):g.2.1.length+1≤maxLen∧(g.2.1.length+1)*112≤140737488355328:=by
 have:=h.len;have:=h.le;unfold maxLen;omega
theorem cF3 {s b:ByteArray} {k:Nat} (h:(iB s).1[k]? = some b):b.size≤400:=(wQ s).1 b (mem_of_getElem? h)
theorem aK2 {a:List Note×Int} {b:ByteArray} (h:(cH b).2=true) (h0:¬ (0:Int)<a.1.length):pR a b:=⟨h,.inl (eq_nil_of_length_eq_zero aB)⟩
theorem aU1 {a:List Note×Int} {b:ByteArray} {v:Note} (h:(cH b).2=true) (hv:a.1[a.1.length - 1]? = some v) (e:(cH b).1.seq=v.seq+1):pR a b:=⟨h,.inr (by rw[bX2 hv];exact e)⟩
theorem bJ2 {a:List Note×Int} {b:ByteArray} {v:Note} (h0:(0:Int)<a.1.length) (hv:a.1[a.1.length - 1]? = some v) (e:¬ (cH b).1.seq=v.seq+1):¬ pR a b:=fun hc=>hc.2.elim (fun h=>by rw[h] at h0;exact absurd h0 cB) (fun h=>e (by rw[bX2 hv] at h;exact h))
theorem bX3 {bs:List ByteArray} {g:Nat×List Note×Int} {v:Note} {k:Nat} (h:NsJ bs g) (hv:g.2.1[k]? = some v):I64 (v.seq+1):=by
 have:=h.rng v (mem_of_getElem? hv)
 unfold I64;omega
theorem aY8 (s:ByteArray) (hs:s.size≤1048576):Ct1 prog 85 [.T s] [.L (fF s).1,.I (fF s).2]:=
 .one (fF s) (rk:=fun q=>[.L q.1,.I q.2])<|vc func85 (fun hg=>let hbl:=(wQ s).2
  .w Note 139 4 <| .c func187 (ScanOf_i s hs) fun _ => .l (Γ:=Nat×List Note×Int) (NsJ (iB s).1) (fun g=>(iB s).1.length - g.1) [5,17,18] [1] [] (fun g=>[vR 4 0,vI 7 g.2.2,vI 19 g.1]) (fun g=>[oR 0 139 g.2.1]) (0,[],0) (h:=NsJ.start _) fun g hJ t=>
   .s ((g.1:Int)<(iB s).1.length)
    (fun h => .x (iB s).1 g.1 (h:=by omega) fun b hb gb=>let hz:=cF3 hb
     .c func188 (show Ct1 prog 188 [.T b] [.S (cH b).1,.B (cH b).2] by rw[← readN_eq];exact ReadNote_i b aB) fun gn=>
     let add:pR g.2 b→D prog (fun q:List Note×Int=>q=fF s∧rgd [Rk.L q.1,Rk.I q.2]):=fun hn => .a g.2.1 (cH b).1 112 (hy:=gn.1.1) (h63:=(tI hJ hbl).1) (hby:=(tI hJ hbl).2) <| .c func104 (aZ0 b aB) fun _=>
      let hfz:=rG hz
      let hsz:=hJ.sz
      let hle:=hJ.le
      .p g.2.2 (dC b).size (h:=by unfold I64;omega) <| .p g.1 1 (h:=by unfold I64;omega) <| .n t (g.1+1,g.2.1++[(cH b).1],g.2.2+(dC b).size) [] (hJ.next hb hz hn) (by dsimp only;omega)
     .v (cH b).2
      (fun h1 => .rt g.2 ⟨hJ.stop hb (fun hc=>by rw[hc.1] at h1;cases h1),trivial⟩)
      (fun h1 => .s ((0:Int)<g.2.1.length)
       (fun h2 => .m g.2.1.length 1 (h:=by unfold I64;have:=hJ.len;have:=hJ.le;omega) <| .xe g.2.1 (g.2.1.length - 1) ((g.2.1.length:Int) - 1) (h:=by omega) (he:=by omega) fun v hv gv => .p v.seq 1 (h:=bX3 hJ hv) <| .u ((cH b).1.seq=v.seq+1)
        (fun h3 => .rt g.2 ⟨hJ.stop hb (bJ2 h2 hv h3),trivial⟩)
        (fun h3=>add (aU1 h1 hv h3)))
       (fun h2=>add (aK2 h1 h2))))
    (fun h => .rt g.2 ⟨hJ.all h,trivial⟩)) aD
theorem aY7 (s:ByteArray) (hs:s.size≤1048576):Ct1 prog 109 [.T s] [.L (fF s).1,.I (fF s).2]:=
 .one (fF s) (rk:=fun q=>[.L q.1,.I q.2])<|vc func109 (fun hg=>let hbl:=(wQ s).2
  .e Note <| .c func212 (ScanOf_s s hs) fun _ => .l (Γ:=Nat×List Note×Int) (NsJ (iB s).1) (fun g=>(iB s).1.length - g.1) [5] [1] [] (fun g=>[vR 4 0,vI 7 g.2.2,vI 8 g.1]) (fun g=>[oR 0 139 g.2.1]) (0,[],0) (h:=NsJ.start _) fun g hJ t=>let hlen:=hJ.len
   .s ((g.1:Int)<(iB s).1.length)
    (fun h => .x (iB s).1 g.1 (h:=by omega) fun b hb gb=>let hz:=cF3 hb
     .c func213 (ReadNote_s b aB) fun gn=>
     let add:pR g.2 b→D prog (fun q:List Note×Int=>q=fF s∧rgd [Rk.L q.1,Rk.I q.2]):=fun hn => .a g.2.1 (cH b).1 112 (hy:=gn.1.1) (h63:=(tI hJ hbl).1) (hby:=(tI hJ hbl).2) <| .y hb fun _ => .c func113 (aY9 b aB) fun _=>
      let hfz:=rG hz
      let hsz:=hJ.sz
      let hle:=hJ.le
      .p g.2.2 (dC b).size (h:=by unfold I64;omega) <| .p g.1 1 (h:=by unfold I64;omega) <| .n t (g.1+1,g.2.1++[(cH b).1],g.2.2+(dC b).size) [] (hJ.next hb hz hn) (by dsimp only;omega)
     .v (cH b).2
      (fun h1 => .rt g.2 ⟨hJ.stop hb (fun hc=>by rw[hc.1] at h1;cases h1),trivial⟩)
      (fun h1 => .s ((0:Int)<(g.1:Int))
       (fun h2 => .m g.1 1 (h:=by unfold I64;have:=hJ.le;omega) <| .xe g.2.1 (g.1 - 1) ((g.1:Int) - 1) (h:=by omega) (he:=by omega) fun v hv gv => .p v.seq 1 (h:=bX3 hJ hv) <| .u ((cH b).1.seq=v.seq+1)
        (fun h3 => .rt g.2 ⟨hJ.stop hb (bJ2 aB (by rw[hlen];exact hv) h3),trivial⟩)
        (fun h3=>add (aU1 h1 (by rw[hlen];exact hv) h3)))
       (fun h2=>add (aK2 h1 aB))))
    (fun h => .rt g.2 ⟨hJ.all h,trivial⟩)) aD
theorem CopyDeed_i (d:Deed) (hl:d.plan.edges.length≤1048576):Ct1 prog 284 [.S d] [.S d]:=
 vc func284 (fun (hg:gin [Par.S d]) => .c func347 (wA d.plan hl) (hg:=⟨(show d.ok from hg.1.1).2.2.1,trivial⟩) fun _ => .rt () ⟨trivial,hg.1.1,trivial⟩) aD
theorem CopyNote_i (n:Note) (hl:n.deed.plan.edges.length≤1048576):Ct1 prog 189 [.S n] [.S n]:=
 vc func189 (fun (hg:gin [Par.S n]) => .c func284 (CopyDeed_i n.deed hl) (hg:=⟨(show n.ok from hg.1.1).2,trivial⟩) fun _ => .rt () ⟨trivial,hg.1.1,trivial⟩) aD
theorem CopyNote_s (n:Note) (hl:n.deed.plan.edges.length≤1048576):Ct1 prog 273 [.S n] [.S n]:=
 vc func273 (fun (hg:gin [Par.S n]) => .c func366 (vZ n.deed.plan hl) (hg:=⟨(show n.ok from hg.1.1).2.2.2.1,trivial⟩) fun _ => .rt () ⟨trivial,hg.1.1,trivial⟩) aD
theorem tF {ns:List Note} {q:Int} {g:Nat×List Note×Int} (h:SiJ ns q g) (hl:ns.length≤1048576):g.2.1.length+1≤maxLen∧(g.2.1.length+1)*112≤140737488355328:=by
 have:=h.len;have:=h.le;unfold maxLen;omega
theorem seq_m {n:Note} {q:Int} (gn:n.ok) (h:¬ n.seq≤q) (hq:I64 q):I64 (n.seq - 1):=by have:=gn.1;unfold I64 at *;omega
theorem Since_i (ns:List Note) (q:Int) (hq:I64 q) (hl:ns.length≤1048576) (he:∀ n∈ns,n.deed.plan.edges.length≤1048576):Ct1 prog 87 [.L ns,.I q] [.L (jG ([],q) ns)]:=
 .one (jG ([],q) ns) (rk:=fun l=>[.L l])<|vc func87 (fun (hg:gin [Par.L ns,Par.I q]) => .w Note 139 5 <| .l (Γ:=Nat×List Note×Int) (SiJ ns q) (fun g=>ns.length - g.1) [10,11] [] [0] (fun g=>[vR 5 1,vI 6 g.2.2,vI 12 g.1]) (fun g=>[oR 1 139 g.2.1]) (0,[],q) (h:=SiJ.start hq) fun g hJ t=>let hle:=hJ.le
   .s ((g.1:Int)<ns.length)
    (fun h => .x ns g.1 (h:=by omega) fun n hn gn=>let gn:n.ok:=gn
     .s (n.seq≤g.2.2)
      (fun h1 => .p g.1 1 (h:=by unfold I64;omega) <| .n t (g.1+1,g.2) [] (hJ.skip hn h1) (by dsimp only;omega))
      (fun h1 => .m n.seq 1 (h:=seq_m gn h1 hJ.i64) <| .u (n.seq - 1=g.2.2)
       (fun h2 => .rt g.2.1 ⟨hJ.stop hn h1 h2,trivial⟩)
       (fun h2 => .c func189 (CopyNote_i n (he n (mem_of_getElem? hn))) (hg:=⟨gn,trivial⟩) fun _ => .a g.2.1 n 112 (hy:=gn) (h63:=(tF hJ hl).1) (hby:=(tF hJ hl).2) <| .p g.1 1 (h:=by unfold I64;omega) <| .n t (g.1+1,g.2.1++[n],n.seq) [] (hJ.next hn h1 h2 gn.1) (by dsimp only;omega))))
    (fun h => .rt g.2.1 ⟨hJ.all h,trivial⟩)) aD
theorem Since_s (ns:List Note) (q:Int) (hq:I64 q) (hl:ns.length≤1048576) (he:∀ n∈ns,n.deed.plan.edges.length≤1048576):Ct1 prog 162 [.L ns,.I q] [.L (jG ([],q) ns)]:=
 .one (jG ([],q) ns) (rk:=fun l=>[.L l])<|vc func162 (fun (hg:gin [Par.L ns,Par.I q]) => .e Note <| .l (Γ:=Nat×List Note×Int) (SiJ ns q) (fun g=>ns.length - g.1) [0] [] [0] (fun g=>[vR 5 1,vI 1 g.2.2,vI 6 g.1]) (fun g=>[oR 1 139 g.2.1]) (0,[],q) (h:=SiJ.start hq) fun g hJ t=>let hle:=hJ.le
   .s ((g.1:Int)<ns.length)
    (fun h => .x ns g.1 (h:=by omega) fun n hn gn=>let gn:n.ok:=gn
     .s (n.seq≤g.2.2)
      (fun h1 => .p g.1 1 (h:=by unfold I64;omega) <| .n t (g.1+1,g.2) [] (hJ.skip hn h1) (by dsimp only;omega))
      (fun h1 => .y hn fun _ => .m n.seq 1 (h:=seq_m gn h1 hJ.i64) <| .u (n.seq - 1=g.2.2)
       (fun h2 => .rt g.2.1 ⟨hJ.stop hn h1 h2,trivial⟩)
       (fun h2 => .y hn fun _ => .y hn fun _ => .c func273 (CopyNote_s n (he n (mem_of_getElem? hn))) (hg:=⟨gn,trivial⟩) fun _ => .a g.2.1 n 112 (hy:=gn) (h63:=(tF hJ hl).1) (hby:=(tF hJ hl).2) <| .p g.1 1 (h:=by unfold I64;omega) <| .n t (g.1+1,g.2.1++[n],n.seq) [] (hJ.next hn h1 h2 gn.1) (by dsimp only;omega))))
    (fun h => .rt g.2.1 ⟨hJ.all h,trivial⟩)) aD
noncomputable def jL (y:Yard) (p:Plan):Bool:=decide ((y.runs.length:Int)<8) && inB p.tasks 0 12 && decide (dU y+p.tasks≤40) && decide (y.seq≤999999000 - p.tasks)
theorem aS5 (y:Yard):0≤dU y∧dU y≤2*(y.wt:Int):=by
 have h1:=aS6 y y.runs.length
 rw[take_length] at h1
 have h2:=Nat.le_trans (tD y y.shelf.flatten) (bD1 y)
 unfold dU;omega
noncomputable def aZ9 (p:Plan) (k:Nat):Task:=⟨if (aV p k).length=0 then 2 else 1,(aV p k).length,0,0⟩
noncomputable def dX (p:Plan) (k:Nat):List Task:=(List.range k).map (aZ9 p)
noncomputable def cA (id:Int) (p:Plan):Run:=⟨id,p,1,dX p p.tasks.toNat⟩
theorem aG7 {p:Plan} {k:Nat} (h:((aV p k).length:Int)=0):dX p (k+1)=dX p k++[⟨2,(aV p k).length,0,0⟩]:=by
 unfold dX;rw[range_succ,map_append];simp only[map_cons,map_nil,aZ9];rw[if_pos aB]
theorem aG8 {p:Plan} {k:Nat} (h:¬ ((aV p k).length:Int)=0):dX p (k+1)=dX p k++[⟨1,(aV p k).length,0,0⟩]:=by
 unfold dX;rw[range_succ,map_append];simp only[map_cons,map_nil,aZ9];rw[if_neg aB]
theorem kO (p:Plan) (k:Nat):(dX p k).length=k:=by unfold dX;rw[length_map,length_range]
def zRun:Run:=⟨0,⟨0,0,0,0,[]⟩,0,[]⟩
noncomputable def mM (id:Int) (p:Plan):Bool:=inB id 1 9999 && decide (aK p=0)
noncomputable def aK4 (id:Int) (p:Plan):Run:=if mM id p=true then cA id p else zRun
theorem newR_f {id:Int} {p:Plan} (h:mM id p=false):aK4 id p=zRun:=by unfold aK4;rw[h];rfl
theorem cH8 {id:Int} {p:Plan} (h:mM id p=true):aK4 id p=cA id p:=by unfold aK4;rw[if_pos h]
theorem bH9 {p:Plan} (h:aK p=0):1≤p.tasks∧p.tasks≤12∧p.edges.length≤30:=by
 have:=(sF h).1;unfold bN at this;omega
def rS (xs:List Entry) (e:Entry):Nat:=(rW (fun x => !eZ x e) xs).getD xs.length
def mK (xs:List Entry) (e:Entry):List Entry:=xs.take (rS xs e)++e::xs.drop (rS xs e)
theorem putIx_le (xs:List Entry) (e:Entry):rS xs e≤xs.length:=by
 unfold rS
 cases h:rW (fun x => !eZ x e) xs with
 | none=>exact Nat.le_refl _
 | some k=>exact Nat.le_of_lt (bC8 h).1
theorem bH7 (xs:List Entry) (e:Entry):(mK xs e).length=xs.length+1:=by
 have:=putIx_le xs e
 unfold mK
 rw[length_append,length_cons,length_take,length_drop];omega
theorem bH6 {xs:List Entry} {e:Entry} {k:Nat} (hk:k≤xs.length) (ha:(xs.take k).any (fun x => !eZ x e)=false) (he:k=xs.length∨∃ h:k<xs.length,eZ xs[k] e=false):rS xs e=k:=by
 unfold rS
 rcases he with rfl | ⟨h,he⟩
 ·rw[take_length] at ha
  rw[qD ha];rfl
 rw[qC h ha (by simp[he])];rfl


theorem bJ0 {a b c:Nat} (h:c≤a∧c≤b) (h2:c=a∨c=b):Nat.min a b=c:=by
 have:Nat.min a b=min a b:=rfl
 omega
theorem bC5 {C:List Value} {o m j:Nat} {v:Value} (h:((C.drop o).take m)[j]? = some v):C[o+j]? = some v:=by
 rw[getElem?_take] at h
 split at h
 ·rwa [getElem?_drop] at h
 cases h
theorem bW6 {W:World} {C:List Value} {xs:List Entry} {k m:Nat} (he:Elems W (C.take (xs.length*Shape.size Entry)) xs []) (hkm:k*4+m≤xs.length*4:=by omega):∀ v∈(C.drop (k*4)).take m,v.oneCell'=true:=by
 intro v hv
 refine he.one v ?_
 obtain ⟨j,hj⟩:=mem_iff_getElem?.1 hv
 have hjm:j<m:=by
  rw[getElem?_take] at hj
  split at hj
  ·assumption
  cases hj
 have:=bC5 hj
 exact mem_iff_getElem?.2 ⟨k*4+j,by rw[getElem?_take,if_pos (by show _<xs.length*4;omega)];exact this⟩
theorem overlaps_E {w0 W:World} {rs:List Res} {b b2:Nat} {C C2:List Value} {o2 n1 c1 n2 c2:Nat} {i:Nat} (hst:St w0 W (Res.bx b C 243::rs)) (hi:rs[i]? = some (Res.bx b2 C2 243)) (hC:0<C2.length) :
  (callFunc 407 #[.slice (some ⟨b,0,none⟩) n1 c1,.slice (some ⟨b2,o2,none⟩) n2 c2]).run prog W = .ok (.value (.bool false)) W:=by
 have hB:W.heap[b]? = some (.cells C.toArray 243 (0,0)):=hst.get 0 rfl
 have hB2:W.heap[b2]? = some (.cells C2.toArray 243 (0,0)):=hst.get (i+1) (by simpa using hi)
 have hne:b≠b2:=by
  have hnd:=hst.nodup
  rw[flatMap_cons,nodup_append] at hnd
  exact fun e=>hnd.2.2 b (by simp[Res.bx]) b2 (mem_flatMap.2 ⟨_,mem_of_getElem? hi,by simp[Res.bx]⟩) e
 rw[run_callFunc_extern func407 aD aD aD (e:=Extern.SlicesOverlaps.overlaps #[217,217] #[4]) aD,
  Go.Lib.run_overlaps_apart W 217 4 243 underlying217 4 (fun w=>iC sl_EntryS.size w) ⟨b,0,none⟩ ⟨b2,o2,none⟩ n1 c1 n2 c2 hne 243 243 C.length C2.length
   (by simp[World.shape?,hB]) (by simp[World.shape?,hB2]) aB (by simp[World.frozen?,hB]) (by simp[World.frozen?,hB])]
 rfl

theorem InsertE {w W0:World} {rs:List Res} {v:Value} {xs:List Entry} {lb:Nat} {y:Entry} (k:Nat) (hst:St w W0 (Res.row (α:=Entry) 243 v xs []::Res.bx lb [I y.prio,I y.seq,I y.run,I y.task] 243::rs)) (hk:k≤xs.length) (hy:y.ok) (hxl:xs.length≤1048576) :
  Calls prog 395 #[v,I (k:Int),.slice (some ⟨lb,0,none⟩) 1 1] W0 fun e w'=>∃ v',e = .returned v'∧St w w' (Res.row (α:=Entry) 243 v' (xs.take k++y::xs.drop k) []::rs):=by
 refine cJ9 func395 rfl ntmps395 cB (wp_seq (aA (sg (aG (v := .slice none 0 0) rfl (aC (wp_seq (aA (sg (aE (v:=v) rfl (sg (aE (v:=I (k:Int)) rfl (sg (stp_slice_l (l:=k) sl_EntryS rfl (gT (hst.get 0 rfl)) rfl rfl aB ?_)))))))))))));intro v5 g6 h7 hm8
 refine aC (wp_seq (aA (rn hst 3 Ag.nil.put.put.put.put.put.put.put [] [(7,I 1)] [.l (.slice (some ⟨lb,0,none⟩) 1 1) 1 ⟨_,_,rfl⟩] aD fun f10 h10_=>(aC (wp_seq (wp_seq (aA (sg (aE (h10_.at 7) (sg (bU0 rfl rfl (aC (cE rfl (fun h13p => ?_) (fun h13p => ?_))))))))))))))
 ·exact absurd h13p cB
 refine wp_skip (wp_seq (aA (rn hst 3 h10_.put.put [] [(8,I (xs.length:Int))] [ql (gT (hst.get 0 rfl))] aD fun f15 h15_=>(aC (wp_seq (wp_seq (aA (rn hst 3 h15_ [] [(22,.bool (decide ((k:Int)=(xs.length:Int))))] [.o] aD fun f17 h17_=>(aC (cE (h17_.at 22) (fun h18p => ?_) (fun h18p => ?_)))))))))))
 ·refine wp_seq (aA (sg (aE (h17_.at 0) (sg (aE (h17_.at 2) ?_)))))
  have st21:=hst.f1
  refine sg (lY (ys:=[(⟨y.prio,y.seq,y.run,y.task⟩:Entry)]) jA rfl rfl rfl st21.f1 (Elems.one1 ⟨rfl,rfl,hy⟩) (by unfold maxLen;omega) aB ?_);intro v23 W24 st25
  refine sg (aG (v:=v23) rfl (aC (wr (jH results395 rfl ?_))))
  have hke:k=xs.length:=by omega
  subst hke
  refine ⟨_,rfl,?_⟩
  rw[take_length,drop_length]
  exact st25
 refine wp_skip (wp_seq (wp_seq (aA (rn hst 4 h17_ [] [(28,I ((xs.length:Int)+1)),(29,v)] [qad (xs.length:Int) 1] aD fun f30 h30_ => ?_))))
 have hq_:=St.rowOpen hst aB
 obtain ⟨bg,cp,Cg,hvv,hcap,hmx,hCl,hel,st31⟩:=hq_
 have hCl4:Cg.length=cp*4:=hCl
 subst hvv
 refine sg (stp_xcap sl_EntryS (h30_.at 29) (sg (bA0 (h30_.at 28) rfl (aC (cE rfl (fun h34p => ?_) (fun h34p => ?_))))))
 ·refine wp_seq (aA (sg (aE (h30_.at 0) (sg (aE (h30_.at 1) (sg (yO (h:=k) sl_EntryS rfl rfl aB aB aB (lw h30_.put.put.put.put.put [(0,.slice (some ⟨bg,0,none⟩) xs.length cp),(1,I (k:Int)),(2,.slice (some ⟨lb,0,none⟩) 1 1),(7,I 1),(8,I (xs.length:Int)),(34,.slice (some ⟨bg,0,none⟩) k cp)] aD fun h39_=>(rn st31 5 h39_ [] [(39,I (((xs.length:Int)+1) - (k:Int)))] [qad (xs.length:Int) 1,qsb ((xs.length:Int)+1) (k:Int)] aD fun f38 h38_=>(sg (stp_appz (α:=Entry) (k0:=xs.length+1 - k) (n1:=xs.length+1) jA underlying3 (h38_.at 34) (h38_.at 39) aB aB st31 (by rw[hCl];exact Nat.mul_le_mul_right _ aB) aB aB (by unfold maxLen;omega) aB ?_)))))))))));intro b40 cp2 Z2 W41 hcp2 hmx2 hZl hb2 st42
  have hZl4:Z2.length=(cp2 - k)*4:=hZl
  refine sg (aG (v := .slice (some ⟨b40,0,none⟩) (xs.length+1) cp2) rfl (aC (wp_seq (aA (sg (aE (v := .slice (some ⟨b40,0,none⟩) (xs.length+1) cp2) rfl (sg (aE (h38_.at 1) (sg (qS (l:=k) sl_EntryS rfl rfl aB aB aB (sg (aE (h38_.at 2) ?_))))))))))))
  refine sg (sZ (α:=Entry) (C:=(Cg.take (k*Shape.size Entry)++Z2)) (cs:=[I y.prio,I y.seq,I y.run,I y.task]) sl_EntryS rfl rfl (by rw[show Nat.min 1 ((xs.length+1) - k)=1 from Nat.min_eq_left aB];rfl) (fun j v hj=>(by rw[Addr.add_mid];exact bE (st42.get 2 rfl) j v hj)) (by intro v hv;simp only[mem_cons,not_mem_nil,or_false] at hv;rcases hv with rfl | rfl | rfl | rfl <;> rfl) st42 (by simp only[length_cons,length_nil,length_append,length_take,fD,show Shape.size Entry=4 from rfl];omega) ?_);intro _ W50 st51
  refine aC (wp_seq (oU 8 [] [(true,.is (.slice (some ⟨b40,0,none⟩) (xs.length+1) cp2)),(true,.is (I (k:Int))),(true,.is (I 1)),(true,.is (I ((k:Int)+1))),(true,.is (.slice (some ⟨b40,0+(k+1)*4,none⟩) ((xs.length+1) - (k+1)) (cp2 - (k+1)))),(true,.is (.slice (some ⟨bg,0,none⟩) xs.length cp)),(true,.is (I (k:Int))),(true,.is (.slice (some ⟨bg,0+k*4,none⟩) (xs.length - k) (cp - k)))] mix aD aD aD aD (rs0:=[]) rfl st51 (Below.refl _ _) ⟨(mq_ (show _=(.slice (some ⟨b40,0,none⟩) (xs.length+1) cp2:Value) from rfl)),(mq_ (h38_.at 1)),(mq_ (h38_.at 7)),(fun f W hst hbl hd hf=>nC (hd 1 47 rfl rfl) (hd 2 48 rfl rfl) bP5 brq),(fun f W hst hbl hd hf=>qS (l:=k+1) sl_EntryS (hd 0 46 rfl rfl) (hd 3 49 rfl rfl) aB aB aB brq),(mq_ (h38_.at 0)),(mq_ (h38_.at 1)),(fun f W hst hbl hd hf=>qS (l:=k) sl_EntryS (hd 5 51 rfl rfl) (hd 6 52 rfl rfl) aB aB aB brq),trivial⟩ ?_))
  intro f52 W53 rs_ hAL_ st56 hbl57 hv54 hf55
  have hn_:rs_=[]:=hAL_
  subst hn_
  try simp only[cap_,yX] at st56
  refine sg (sZ (α:=Entry) (C:=(aP (Cg.take (k*Shape.size Entry)++Z2) (0+k*4) [I y.prio,I y.seq,I y.run,I y.task])) (cs:=((Cg.drop (k*4)).take ((xs.length - k)*4))) sl_EntryS (hv54 4 50 cB rfl) (hv54 7 53 cB rfl) (by rw[show Nat.min (xs.length - k) ((xs.length+1) - (k+1))=xs.length - k from bJ0 aB aB];rw[length_take,length_drop,hCl4,show Shape.size Entry=4 from rfl];omega) (fun j v hj=>(by rw[Addr.add_mid,Nat.add_assoc];exact bE (st56.get 1 rfl) _ v (bC5 hj))) (bW6 hel) st56 (by simp only[length_append,length_take,length_drop,fD,show Shape.size Entry=4 from rfl];omega) ?_);intro _ W59 st60
  refine aC (wp_seq (aA (sg (aE (v := .slice (some ⟨b40,0,none⟩) (xs.length+1) cp2) ((hf55 9 rfl).trans (show _=(.slice (some ⟨b40,0,none⟩) (xs.length+1) cp2:Value) from rfl)) (sg (aG (v := .slice (some ⟨b40,0,none⟩) (xs.length+1) cp2) rfl (aC (wr (jH results395 rfl ?_)))))))))
  have hel_:Elems _ (Cg.take (xs.length*4)) xs []:=hel
  have hYe:Elems W59 [I y.prio,I y.seq,I y.run,I y.task] [y] []:=Elems.one1 ⟨rfl,rfl,hy⟩
  have hq_:=ins_new (D:=Cg.take (k*4)++Z2) (a:=k*4) (Y:=[I y.prio,I y.seq,I y.run,I y.task]) (M:=(Cg.drop (k*4)).take ((xs.length - k)*4)) rfl (by simp only[length_append,length_take,length_drop,length_cons,length_nil,fD,show Shape.size Entry=4 from rfl];omega)
  obtain ⟨T,hT⟩:=hq_
  rw[take_append_of_le_length (by rw[length_take];omega),take_take,Nat.min_self] at hT
  have hfin:=aV2 (W:=_) (W':=W59) (y:=y) (k:=k) aB (hel_) aB hYe hT
  have hCe:(aP (aP (Cg.take (k*Shape.size Entry)++Z2) (0+k*4) [I y.prio,I y.seq,I y.run,I y.task]) (0+(k+1)*4) ((Cg.drop (k*4)).take ((xs.length - k)*4)))=aP (aP (Cg.take (k*4)++Z2) (k*4) [I y.prio,I y.seq,I y.run,I y.task]) (k*4+4) ((Cg.drop (k*4)).take ((xs.length - k)*4)):=by simp only[Nat.zero_add,Nat.add_mul,Nat.one_mul,show Shape.size Entry=4 from rfl]
  have stz:St w W59 (Res.bx b40 (aP (aP (Cg.take (k*Shape.size Entry)++Z2) (0+k*4) [I y.prio,I y.seq,I y.run,I y.task]) (0+(k+1)*4) ((Cg.drop (k*4)).take ((xs.length - k)*4))) 243::_):=st60
  rw[hCe] at stz
  have hl4:(aP (aP (Cg.take (k*4)++Z2) (k*4) [I y.prio,I y.seq,I y.run,I y.task]) (k*4+4) ((Cg.drop (k*4)).take ((xs.length - k)*4))).length=cp2*Shape.size Entry:=by rw[← hCe];simp only[length_append,length_take,length_drop,fD,show Shape.size Entry=4 from rfl];omega
  have stf:=St.rowShut (α:=Entry) (xs:=xs.take k++y::xs.drop k) (m:=xs.length+1) (cap:=cp2) stz (by rw[length_append,length_cons,length_take,length_drop];omega) aB aB hl4 hfin
  exact ⟨_,rfl,stf.d1.d1⟩
 refine wp_skip (wp_seq (aA (lw h30_.put.put [(0,.slice (some ⟨bg,0,none⟩) xs.length cp),(1,I (k:Int)),(2,.slice (some ⟨lb,0,none⟩) 1 1),(7,I 1),(8,I (xs.length:Int))] aD fun h65_=>(rn st31 4 h65_ [] [(56,.slice (some ⟨bg,0,none⟩) xs.length cp),(59,I ((xs.length:Int)+1))] [qad (xs.length:Int) 1] aD fun f64 h64_=>(sg (yO (h:=(xs.length)+1) sl_EntryS (h64_.at 56) (h64_.at 59) aB aB aB (sg (aG (v := .slice (some ⟨bg,0,none⟩) ((xs.length)+1) cp) rfl (aC (wp_seq (wp_seq (aA (rn st31 5 h64_.put.put [] [(61,.slice (some ⟨lb,0,none⟩) 1 1),(62,.slice (some ⟨bg,0,none⟩) ((xs.length)+1) cp),(65,I ((k:Int)+1))] [qad (k:Int) 1] aD fun f69 h69_ => ?_)))))))))))))
 refine sg (qS (l:=k+1) sl_EntryS (h69_.at 62) (h69_.at 65) aB aB aB (sg (stp_callx (h69_.at 61) rfl (overlaps_E st31.f1 (i:=0) rfl aB) (sg (aD4 rfl (aC (sx_t rfl rfl (wp_seq (oU 8 [] [(true,.is (.slice (some ⟨bg,0,none⟩) ((xs.length)+1) cp)),(true,.is (I (k:Int))),(true,.is (I 1)),(true,.is (I ((k:Int)+1))),(true,.is (.slice (some ⟨bg,0+(k+1)*4,none⟩) (((xs.length)+1) - (k+1)) (cp - (k+1)))),(true,.is (.slice (some ⟨bg,0,none⟩) ((xs.length)+1) cp)),(true,.is (I (k:Int))),(true,.is (.slice (some ⟨bg,0+k*4,none⟩) (((xs.length)+1) - k) (cp - k)))] mix aD aD aD aD (rs0:=[]) rfl st31.f1 (Below.refl _ _) ⟨(mq_ (h69_.at 0)),(mq_ (h69_.at 1)),(mq_ (h69_.at 7)),(fun f W hst hbl hd hf=>nC (hd 1 70 rfl rfl) (hd 2 71 rfl rfl) bP5 brq),(fun f W hst hbl hd hf=>qS (l:=k+1) sl_EntryS (hd 0 69 rfl rfl) (hd 3 72 rfl rfl) aB aB aB brq),(mq_ (h69_.at 0)),(mq_ (h69_.at 1)),(fun f W hst hbl hd hf=>qS (l:=k) sl_EntryS (hd 5 74 rfl rfl) (hd 6 75 rfl rfl) aB aB aB brq),trivial⟩ ?_)))))))))
 intro f74 W75 rs_ hAL_ st78 hbl79 hv76 hf77
 have hn_:rs_=[]:=hAL_
 subst hn_
 try simp only[cap_,yX] at st78
 have st81:=st78.f1
 refine sg (sZ (α:=Entry) (C:=Cg) (cs:=((Cg.drop (k*4)).take ((xs.length - k)*4))) sl_EntryS (hv76 4 73 cB rfl) (hv76 7 76 cB rfl) (by rw[show Nat.min (((xs.length)+1) - k) (((xs.length)+1) - (k+1))=xs.length - k from bJ0 aB aB];rw[length_take,length_drop,hCl4,show Shape.size Entry=4 from rfl];omega) (fun j v hj=>(by rw[Addr.add_mid,Nat.add_assoc];exact bE (st81.get 0 rfl) _ v (bC5 hj))) (bW6 hel) st81 (by simp only[length_append,length_take,length_drop,fD,show Shape.size Entry=4 from rfl];omega) ?_);intro _ W82 st83
 refine aC (wp_seq (aA (sg (aE (v := .slice (some ⟨bg,0,none⟩) ((xs.length)+1) cp) ((hf77 0 rfl).trans (h69_.at 0)) (sg (aE (v:=I (k:Int)) ((hf77 1 rfl).trans (h69_.at 1)) (sg (qS (l:=k) sl_EntryS rfl rfl aB aB aB (sg (aE (v := .slice (some ⟨lb,0,none⟩) 1 1) ((hf77 2 rfl).trans (h69_.at 2)) ?_))))))))))
 refine sg (sZ (α:=Entry) (C:=(aP Cg (0+(k+1)*4) ((Cg.drop (k*4)).take ((xs.length - k)*4)))) (cs:=[I y.prio,I y.seq,I y.run,I y.task]) sl_EntryS rfl rfl (by rw[show Nat.min 1 (((xs.length)+1) - k)=1 from Nat.min_eq_left aB];rfl) (fun j v hj=>(by rw[Addr.add_mid];exact bE (st83.get 1 rfl) j v hj)) (by intro v hv;simp only[mem_cons,not_mem_nil,or_false] at hv;rcases hv with rfl | rfl | rfl | rfl <;> rfl) st83 (by simp only[length_cons,length_nil,length_append,length_take,fD,show Shape.size Entry=4 from rfl];omega) ?_);intro _ W88 st89
 refine aC (wp_seq (aA (sg (aE (v := .slice (some ⟨bg,0,none⟩) ((xs.length)+1) cp) ((hf77 0 rfl).trans (h69_.at 0)) (sg (aG (v := .slice (some ⟨bg,0,none⟩) ((xs.length)+1) cp) rfl (aC (wr (jH results395 rfl ?_)))))))))
 have hel_:Elems _ (Cg.take (xs.length*4)) xs []:=hel
 have hYe:Elems W88 [I y.prio,I y.seq,I y.run,I y.task] [y] []:=Elems.one1 ⟨rfl,rfl,hy⟩
 have hq_:=ins_in (D:=Cg) (a:=k*4) (Y:=[I y.prio,I y.seq,I y.run,I y.task]) (M:=(Cg.drop (k*4)).take ((xs.length - k)*4)) rfl (by simp only[length_append,length_take,length_drop,length_cons,length_nil,fD,show Shape.size Entry=4 from rfl];omega)
 obtain ⟨T,hT⟩:=hq_
 have hfin:=aV2 (W:=_) (W':=W88) (y:=y) (k:=k) aB (hel_) aB hYe hT
 have hCe:(aP (aP Cg (0+(k+1)*4) ((Cg.drop (k*4)).take ((xs.length - k)*4))) (0+k*4) [I y.prio,I y.seq,I y.run,I y.task])=aP (aP Cg (k*4+4) ((Cg.drop (k*4)).take ((xs.length - k)*4))) (k*4) [I y.prio,I y.seq,I y.run,I y.task]:=by simp only[Nat.zero_add,Nat.add_mul,Nat.one_mul]
 have stz:St w W88 (Res.bx bg (aP (aP Cg (0+(k+1)*4) ((Cg.drop (k*4)).take ((xs.length - k)*4))) (0+k*4) [I y.prio,I y.seq,I y.run,I y.task]) 243::_):=st89
 rw[hCe] at stz
 have hl4:(aP (aP Cg (k*4+4) ((Cg.drop (k*4)).take ((xs.length - k)*4))) (k*4) [I y.prio,I y.seq,I y.run,I y.task]).length=cp*Shape.size Entry:=by rw[← hCe];simp only[length_append,length_take,length_drop,fD,show Shape.size Entry=4 from rfl];omega
 have stf:=St.rowShut (α:=Entry) (xs:=xs.take k++y::xs.drop k) (m:=xs.length+1) (cap:=cp) stz (by rw[length_append,length_cons,length_take,length_drop];omega) aB aB hl4 hfin
 exact ⟨_,rfl,stf.d1⟩
def iF (sh:Nat) (prio rid:Int):List Int→List (List Entry)→Int→List (List Entry)
 | [],xss,_=>xss
 | t::ts,xss,seq=>iF sh prio rid ts (xss.set sh (mK (xss.getD sh []) ⟨prio,seq,rid,t⟩)) (seq+1)
theorem aA2 (sh:Nat) (prio rid t:Int):∀ (ts:List Int) (xss:List (List Entry)) (seq:Int),iF sh prio rid (ts++[t]) xss seq=(iF sh prio rid ts xss seq).set sh (mK ((iF sh prio rid ts xss seq).getD sh []) ⟨prio,seq+ts.length,rid,t⟩)
 | [],xss,seq=>by simp[iF]
 | u::ts,xss,seq=>by
  have h:=aA2 sh prio rid t ts (xss.set sh (mK (xss.getD sh []) ⟨prio,seq,rid,u⟩)) (seq+1)
  simp only[cons_append,iF]
  rw[h,show seq+1+(ts.length:Int)=seq+((u::ts).length:Int) by simp;omega]
theorem nU (sh:Nat) (prio rid:Int):∀ (ts:List Int) (xss:List (List Entry)) (seq:Int),(iF sh prio rid ts xss seq).length=xss.length
 | [],xss,seq=>rfl
 | u::ts,xss,seq=>by simp only[iF];rw[nU];simp
theorem nV (sh:Nat) (prio rid:Int):∀ (ts:List Int) (xss:List (List Entry)) (seq:Int),sh<xss.length→((iF sh prio rid ts xss seq).getD sh []).length=(xss.getD sh []).length+ts.length
 | [],xss,seq,h=>rfl
 | u::ts,xss,seq,h=>by
  simp only[iF]
  rw[nV sh prio rid ts _ _ (by simpa using h)]
  rw[getD_eq_getElem?_getD,getElem?_set_self h]
  simp[bH7]
  omega
theorem getD_some {α:Type} {xss:List (List α)} {k:Nat} (h:k<xss.length):xss[k]? = some (xss.getD k []):=by
 rw[getD_eq_getElem?_getD,getElem?_eq_getElem h];rfl

def fL (r r':Run):List Int:=(aR r'.tasks 2).filter (fun t => !decide (t∈aR r.tasks 2))
theorem pC (r r':Run):(fL r r').length≤r'.tasks.length:=Nat.le_trans (length_filter_le _ _) (iL _ _ _)
def dW (y:Yard) (k:Nat) (r r':Run):Yard:=⟨y.now,y.seq+((fL r r').length:Int),iF (aX r'.id).toNat r'.plan.prio r'.id (fL r r') y.shelf y.seq,y.runs.set k r'⟩
def lI (out:Yard) (k i:Nat):Yard:=match out.runs[k]? with
 | none=>out
 | some r=>match r.tasks[i]? with
  | none=>out
  | some t=>if t.state=3 then dW out k r (cN r i) else out
def rQ (y:Yard) (k:Nat):Nat→Yard
 | 0=>y
 | i+1=>lI (rQ y k i) k i
def yK (y:Yard) (k:Nat):Nat:=match y.runs[k]? with | some r=>r.tasks.length | none=>0
def mW (y:Yard):Nat→Yard
 | 0=>y
 | k+1=>rQ (mW y k) k (yK y k)
noncomputable def dY (y:Yard):Yard:=if aM y then mW y y.runs.length else y
theorem yJ {y:Yard} {k:Nat} {r:Run} (h:y.runs[k]? = some r):yK y k=r.tasks.length:=by unfold yK;rw[h]

structure YardIs (y:Yard):Prop where
 now:0≤y.now∧y.now≤999999980
 seq:1≤y.seq∧y.seq≤1000000000
 shelf:y.shelf.length=4
 runs:y.runs.length≤8
 each:∀ l∈y.shelf,dV l=true
 run:∀ (j:Nat) (r:Run),y.runs[j]? = some r→RunIs r∧cI y r.id=some j
theorem kA {y:Yard} (h:aM y=true):YardIs y:=by
 unfold aM at h
 rw[pB_iff] at h
 obtain ⟨h1,h2,h3,h4,h5,h6,h7,h8,h9⟩:=h
 refine ⟨h1,h2,h3,h4,h5,fun j r hj => ?_⟩
 obtain ⟨hl,rfl⟩:=gsi_.1 hj
 obtain ⟨a,b,_⟩:=h8 j hl hl
 refine ⟨runIs.1 a,?_⟩
 unfold aH at b
 cases hq:cI y y.runs[j].id with
 | none=>rw[hq] at b;simp only[ixI] at b;omega
 | some k=>rw[hq] at b;simp only[ixI] at b;congr 1;omega
theorem RunIs.small {r:Run} (h:RunIs r):r.ok∧r.tasks.length≤12∧r.plan.edges.length≤30:=by
 have h2:=(sF h.plan).1
 have hl:=h.len
 have hs:=h.state
 have hid:=h.id
 unfold bN at h2
 have hst:0≤cM r.tasks∧cM r.tasks≤4:=by
  unfold cM
  split
  ·omega
  split
  ·omega
  split
  ·omega
  split <;> omega
 refine ⟨⟨by unfold I64;omega,?_,by unfold I64;omega⟩,by omega,by omega⟩
 unfold Plan.ok
 refine ⟨?_,?_,?_,?_⟩ <;> (unfold I64;omega)
theorem oW {xs:List Entry} (h:dV xs=true):xs.length≤80:=by
 unfold dV at h
 first | exact (pB_iff.1 h).1 | exact (pB_iff.1 h).2 | (simp at h;omega)
theorem aU9 {α β:Type} {p:α→Bool} {q:β→Bool}:∀ {xs:List α} {ys:List β},xs.length=ys.length→(∀ (j:Nat) (x:α) (y:β),xs[j]? = some x→ys[j]? = some y→p x=q y)→rW p xs=rW q ys
 | [],[],_,_=>rfl
 | x::xs,y::ys,hl,h=>by
  have h0:=h 0 x y rfl rfl
  have ih:=aU9 (xs:=xs) (ys:=ys) (by simpa using hl) (fun j a b ha hb=>h (j+1) a b (by simpa using ha) (by simpa using hb))
  unfold rW
  rw[h0,ih]
 | [],_::_,hl,_=>by simp at hl
 | _::_,[],hl,_=>by simp at hl
structure RI (y out:Yard) (n:Nat):Prop where
 now:out.now=y.now
 seq:y.seq≤out.seq∧out.seq≤y.seq+12*(n:Int)
 shelf:out.shelf.length=y.shelf.length
 each:∀ s,s<4→(out.shelf.getD s []).length≤80+12*n
 runs:out.runs.length=y.runs.length
 run:∀ (j:Nat) (r:Run),y.runs[j]? = some r→∃ r2:Run,out.runs[j]? = some r2∧RunIs r2∧r2.id=r.id∧r2.tasks.length=r.tasks.length∧∀ (i:Nat) (t:Task),r.tasks[i]? = some t→∃ t2,r2.tasks[i]? = some t2∧t2.try_=t.try_
theorem RI.start {y:Yard} (h:YardIs y):RI y y 0:=by
 refine ⟨rfl,by omega,rfl,fun s hs => ?_,rfl,fun j r hj=>⟨r,hj,(h.run j r hj).1,rfl,rfl,fun i t ht=>⟨t,ht,rfl⟩⟩⟩
 have hl:=h.shelf
 rw[getD_eq_getElem?_getD,getElem?_eq_getElem aB]
 have:=oW (h.each y.shelf[s] (getElem_mem _))
 simpa using this
theorem RI.mono {y out:Yard} {n m:Nat} (h:RI y out n) (hm:n≤m):RI y out m:=
 ⟨h.now,by have:=h.seq;omega,h.shelf,fun s hs=>by have:=h.each s hs;omega,h.runs,h.run⟩
theorem nD (sh:Nat) (prio rid:Int) (s:Nat) (hs:s≠sh):∀ (ts:List Int) (xss:List (List Entry)) (seq:Int),(iF sh prio rid ts xss seq).getD s []=xss.getD s []
 | [],xss,seq=>rfl
 | u::ts,xss,seq=>by
  simp only[iF]
  rw[nD sh prio rid s hs ts]
  rw[getD_eq_getElem?_getD,getElem?_set_ne (fun e=>hs e.symm),getD_eq_getElem?_getD]
theorem RI.change {y out:Yard} {n k i:Nat} {r:Run} {t:Task} (hy:YardIs y) (h:RI y out n) (hr:out.runs[k]? = some r) (ht:r.tasks[i]? = some t) (h3:t.state=3) (hR:RunIs r):RI y (dW out k r (cN r i)) (n+1):=by
 obtain ⟨hk1,hk2,hk3,hk4⟩:=rK r i
 have hsm:=hR.small
 have hfl:=pC r (cN r i)
 have hsh:=hy.shelf
 have hsr:=iN (cN r i).id
 have hkl:=(gsi_.1 hr).1
 refine ⟨h.now,?_,?_,?_,?_,?_⟩
 ·show y.seq≤out.seq+_∧out.seq+_≤_
  have:=h.seq;omega
 ·show (iF _ _ _ _ _ _).length=_
  rw[nU];exact h.shelf
 ·intro s hs
  show ((iF _ _ _ _ _ _).getD s []).length≤_
  by_cases e:s=(aX (cN r i).id).toNat
  ·subst e
   rw[nV _ _ _ _ _ _ (by rw[h.shelf];omega)]
   have:=h.each _ hs
   omega
  rw[nD _ _ _ s e]
  have:=h.each s hs
  omega
 ·show (out.runs.set k _).length=_
  rw[length_set];exact h.runs
 intro j r0 hj
 obtain ⟨r2,h1,h2,h4,h5,h6⟩:=h.run j r0 hj
 show ∃ r2,(out.runs.set k _)[j]? = some r2∧_
 by_cases e:k=j
 ·subst e
  rw[hr] at h1
  have e2:=Option.some.inj h1
  subst e2
  refine ⟨cN r i,getElem?_set_self hkl,hR.fails ht h3,by rw[hk1];exact h4,by rw[hk3];exact h5,fun a u hu => ?_⟩
  obtain ⟨u2,g1,g2⟩:=h6 a u hu
  obtain ⟨u3,g3,g4⟩:=hk4 a u2 g1
  exact ⟨u3,g3,by rw[g4];exact g2⟩
 exact ⟨r2,by rw[getElem?_set_ne e];exact h1,h2,h4,h5,h6⟩
theorem RI.turn {y out:Yard} {n:Nat} (hy:YardIs y) (h:RI y out n) {k i:Nat} (hk:k<y.runs.length):RI y (lI out k i) (n+1):=by
 obtain ⟨r2,h1,h2,_⟩:=h.run k _ (getElem?_eq_getElem hk)
 unfold lI
 rw[h1]
 simp only
 cases ht:r2.tasks[i]? with
 | none=>exact h.mono aB
 | some t=>
  simp only
  split
  ·next h3=>exact h.change hy h1 ht h3 h2
  exact h.mono aB
theorem RI.inner {y out:Yard} {n:Nat} (hy:YardIs y) (h:RI y out n) {k:Nat} (hk:k<y.runs.length):∀ i,RI y (rQ out k i) (n+i)
 | 0=>h
 | i+1=>(RI.inner hy h hk i).turn hy hk
theorem RI.outer {y:Yard} (hy:YardIs y):∀ k,k≤y.runs.length→RI y (mW y k) (12*k)
 | 0,_=>RI.start hy
 | k+1,hk=>by
  have ih:=RI.outer hy k aB
  have hr:y.runs[k]? = some y.runs[k]:=getElem?_eq_getElem aB
  have hs:=(hy.run k _ hr).1.small
  have:=ih.inner hy (k:=k) aB (yK y k)
  rw[yJ hr] at this
  show RI y (rQ (mW y k) k (yK y k)) _
  rw[yJ hr]
  exact this.mono aB
theorem RI.at {y:Yard} (hy:YardIs y) {k i:Nat} (hk:k<y.runs.length):RI y (rQ (mW y k) k i) (12*k+i):=(RI.outer hy k aB).inner hy hk i
theorem RI.ix {y out:Yard} {n:Nat} (hy:YardIs y) (h:RI y out n) {k:Nat} {r:Run} (hr:y.runs[k]? = some r):cI out r.id=some k:=by
 rw[← (hy.run k r hr).2]
 unfold cI
 rw[h.runs]
 congr 1
 exact aU9 h.runs (fun j a b ha hb=>by
  obtain ⟨r2,h1,_,h3,_⟩:=h.run j b hb
  rw[ha] at h1
  have:=Option.some.inj h1
  subst this
  rw[h3])
def fR (y:Yard) (id task try_:Int):Bool:=
 match cI y id with
 | none=>false
 | some k=>match y.runs[k]? with
  | none=>false
  | some r=>inB task 0 ((r.tasks.length:Int) - 1) && (match r.tasks[task.toNat]? with | some t=>decide (t.state=3) && decide (t.try_=try_) | none=>false)
theorem RI.holds {y out:Yard} {n:Nat} (hy:YardIs y) (h:RI y out n) {k i:Nat} {r:Run} {t:Task} (hr:y.runs[k]? = some r) (ht:r.tasks[i]? = some t) :
  ∃ r2 t2,out.runs[k]? = some r2∧RunIs r2∧r2.tasks[i]? = some t2∧fR out r.id (i:Int) t.try_=decide (t2.state=3):=by
 obtain ⟨r2,h1,h2,h3,h4,h5⟩:=h.run k r hr
 obtain ⟨t2,h6,h7⟩:=h5 i t ht
 refine ⟨r2,t2,h1,h2,h6,?_⟩
 have hl:=(gsi_.1 ht).1
 unfold fR
 rw[h.ix hy hr]
 simp only[h1,Int.toNat_natCast,h6,h7,decide_true,Bool.and_true]
 have:inB (i:Int) 0 ((r2.tasks.length:Int) - 1)=true:=inB_iff'.2 aB
 rw[this];rfl
theorem bS0 {out:Yard} {k i:Nat} {r:Run} {t:Task} (hr:out.runs[k]? = some r) (ht:r.tasks[i]? = some t) (h3:t.state=3):lI out k i=dW out k r (cN r i):=by unfold lI;rw[hr];simp only[ht,h3,if_true]
theorem aC8 {out:Yard} {k i:Nat} {r:Run} {t:Task} (hr:out.runs[k]? = some r) (ht:r.tasks[i]? = some t) (h3:¬ t.state=3):lI out k i=out:=by unfold lI;rw[hr];simp only[ht,h3,if_false]
theorem fresh_runs {y y':Yard} (h:y'.runs=y.runs) (e:Entry):fresh y' e=fresh y e:=by
 unfold fresh cI
 rw[h]
theorem fresh_at {y:Yard} {e:Entry} (h:fresh y e=true):∃ k r t,cI y e.run=some k∧y.runs[k]? = some r∧0≤e.task∧r.tasks[e.task.toNat]? = some t∧t.state=2:=by
 unfold fresh at h
 cases h1:cI y e.run with
 | none=>rw[h1] at h;cases h
 | some k=>
  rw[h1] at h
  simp only at h
  cases h2:y.runs[k]? with
  | none=>rw[h2] at h;cases h
  | some r=>
   rw[h2] at h
   simp only[Bool.and_eq_true] at h
   obtain ⟨h3,h4⟩:=h
   cases h5:r.tasks[e.task.toNat]? with
   | none=>rw[h5] at h4;cases h4
   | some t=>rw[h5] at h4;exact ⟨k,r,t,rfl,h2,(inB_iff'.1 h3).1,h5,by simpa using h4⟩
def pP (y:Yard) (s:Nat) (l:List Entry):Yard:=⟨y.now,y.seq,y.shelf.set s l,y.runs⟩
def aZ (y:Yard) (s:Int):Yard:=if inB s 0 ((y.shelf.length:Int) - 1) then pP y s.toNat ((y.shelf.getD s.toNat []).filter (fresh y)) else y
def dA (xs:List Entry):Nat:=(xs.length+1) / 2
def eB (a b:List Entry):List Entry:=if 80<a.length+b.length then a else b.foldl mK a
theorem uJ (b:List Entry):∀ a:List Entry,(b.foldl mK a).length=a.length+b.length:=by
 induction b with
 | nil=>intro a;rfl
 | cons e b ih=>intro a;rw[foldl_cons,ih,bH7,length_cons];omega
theorem foldl_put_to {a b:List Entry} {k:Nat} (h:k<b.length):(b.take (k+1)).foldl mK a=mK ((b.take k).foldl mK a) b[k]:=by
 rw[take_succ_eq_append_getElem h,foldl_append];rfl
theorem merged_len {a b:List Entry} (h:a.length≤80):(eB a b).length≤80:=by
 unfold eB
 split
 ·exact h
 rw[uJ];omega
theorem putE_mem {xs:List Entry} {e x:Entry} (h:x∈mK xs e):x∈xs∨x=e:=by
 unfold mK at h
 rw[mem_append,mem_cons] at h
 rcases h with h | h | h
 ·exact .inl (mem_of_mem_take h)
 ·exact .inr h
 exact .inl (mem_of_mem_drop h)
theorem foldl_put_mem (b:List Entry):∀ {a:List Entry} {x:Entry},x∈b.foldl mK a→x∈a∨x∈b:=by
 induction b with
 | nil=>intro a x h;exact .inl h
 | cons e b ih=>
  intro a x h
  rcases ih h with h | h
  ·rcases putE_mem h with h | h
   ·exact .inl h
   exact .inr (by simp[h])
  exact .inr (by simp[h])
theorem merged_mem {a b:List Entry} {x:Entry} (h:x∈eB a b):x∈a∨x∈b:=by
 unfold eB at h
 split at h
 ·exact .inl h
 exact foldl_put_mem b h
def pN (home draw:Int) (i:Nat):Int:=(home+1+(max draw 0 % 3+(i:Int)) % 3) % 4
def bU (home draw:Int):List Int:=[pN home draw 0,pN home draw 1,pN home draw 2]
theorem aF8 (home draw:Int) (i:Nat) (hh:0≤home∧home≤3):0≤pN home draw i∧pN home draw i≤3∧pN home draw i≠home:=by unfold pN;omega
theorem oQ {home draw:Int} (hh:0≤home∧home≤3):∀ o∈bU home draw,0≤o∧o≤3∧o≠home:=by
 intro o ho
 simp only[bU,mem_cons,not_mem_nil,or_false] at ho
 rcases ho with rfl | rfl | rfl <;> exact aF8 _ _ _ hh
def bA7 (y:Yard) (home o:Nat):Yard:=pP (pP y home (eB (y.shelf.getD home []) ((y.shelf.getD o []).take (dA (y.shelf.getD o []))))) o ((y.shelf.getD o []).drop (dA (y.shelf.getD o [])))
theorem robY_comm {y:Yard} {home o:Nat} (h:home≠o):bA7 y home o=pP (pP y o ((y.shelf.getD o []).drop (dA (y.shelf.getD o [])))) home (eB (y.shelf.getD home []) ((y.shelf.getD o []).take (dA (y.shelf.getD o [])))):=by
 unfold bA7 pP
 simp only[Yard.mk.injEq,true_and,and_true]
 rw[set_comm _ _ h]
def aA7 (home:Nat) (y:Yard) (o:Int):Yard:=if y.shelf.getD home []=[] then bA7 (aZ y o) home o.toNat else y
def fE (home:Nat) (y:Yard) (l:List Int):Yard:=l.foldl (aA7 home) y
theorem aA5 (home:Nat) (y:Yard) (l:List Int):fE home y (l.take 0)=y:=rfl
theorem aT0 {home:Nat} {y:Yard} {l:List Int} {k:Nat} {o:Int} (h:l[k]? = some o) (he:(fE home y (l.take k)).shelf.getD home []=[]):fE home y (l.take (k+1))=bA7 (aZ (fE home y (l.take k)) o) home o.toNat:=by
 obtain ⟨hj,rfl⟩:=gsi_.1 h
 rw[take_succ_eq_append_getElem hj]
 unfold fE at he ⊢
 rw[foldl_append,foldl_cons,foldl_nil]
 have hz:∀ (z:Yard) (o:Int),z.shelf.getD home []=[]→aA7 home z o=bA7 (aZ z o) home o.toNat:=fun z o h=>by unfold aA7;rw[if_pos h]
 exact hz _ _ he
theorem aA6 {home:Nat} {y:Yard}:∀ {l:List Int},¬ y.shelf.getD home []=[]→fE home y l=y
 | [],_=>rfl
 | o::l,h=>by
  show fE home (aA7 home y o) l=y
  have:aA7 home y o=y:=by unfold aA7;rw[if_neg h]
  rw[this];exact aA6 h
theorem aI3 {home:Nat} {y:Yard} {l:List Int} {k:Nat} (h:¬ (fE home y (l.take k)).shelf.getD home []=[]):fE home y l=fE home y (l.take k):=by
 have e:fE home y l=fE home (fE home y (l.take k)) (l.drop k):=by
  unfold fE
  rw[← foldl_append,take_append_drop]
 rw[e];exact aA6 h
theorem aI4 {home:Nat} {y:Yard} {l:List Int} {k:Nat} (h:k=l.length):fE home y (l.take k)=fE home y l:=by rw[h,take_length]
structure PI (y out:Yard) (home:Nat):Prop where
 now:out.now=y.now
 seq:out.seq=y.seq
 runs:out.runs=y.runs
 len:out.shelf.length=4
 each:∀ s,s<4→(out.shelf.getD s []).length≤80
 fresh:∀ e∈out.shelf.getD home [],fresh y e=true
theorem mB {xss:List (List Entry)} {s:Nat} (h:s<xss.length) (l:List Entry):(xss.set s l).getD s []=l:=by rw[getD_eq_getElem?_getD,getElem?_set_self h];rfl
theorem sM {xss:List (List Entry)} {s j:Nat} (h:s≠j) (l:List Entry):(xss.set s l).getD j []=xss.getD j []:=by rw[getD_eq_getElem?_getD,getElem?_set_ne h,getD_eq_getElem?_getD]
theorem yL {y:Yard} {s:Int} (h:0≤s∧s≤3) (h4:y.shelf.length=4):aZ y s=pP y s.toNat ((y.shelf.getD s.toNat []).filter (Go.Proofs.YtanpcpoogkdlaaaGreat.fresh y)):=by
 unfold aZ
 rw[if_pos (inB_iff'.2 aB)]
theorem mD {y:Yard} (h:YardIs y):∀ s,s<4→(y.shelf.getD s []).length≤80:=by
 intro s hs
 have hl:=h.shelf
 rw[getD_eq_getElem?_getD,getElem?_eq_getElem aB]
 have:=oW (h.each y.shelf[s] (getElem_mem _))
 simpa using this
theorem oI {xss:List (List Entry)} {n s:Nat} {l:List Entry} (h:∀ j,j<4→(xss.getD j []).length≤n) (hl:l.length≤n) (h4:xss.length=4):∀ j,j<4→((xss.set s l).getD j []).length≤n:=by
 intro j hj
 by_cases e:s=j
 ·subst e;rw[mB aB];exact hl
 rw[sM e];exact h j hj
theorem PI.start {y:Yard} (h:YardIs y) {home:Nat} (hh:home<4):PI y (aZ y (home:Int)) home:=by
 have h4:=h.shelf
 rw[yL aB h4]
 simp only[Int.toNat_natCast]
 refine ⟨rfl,rfl,rfl,by show (y.shelf.set _ _).length=4;rw[length_set];exact h4,?_,?_⟩
 ·exact oI (mD h) (Nat.le_trans (length_filter_le _ _) (mD h home hh)) h4
 intro e he
 have:e∈(y.shelf.set home ((y.shelf.getD home []).filter (Go.Proofs.YtanpcpoogkdlaaaGreat.fresh y))).getD home []:=he
 rw[mB aB] at this
 exact (mem_filter.1 this).2
theorem PI.rob {y out:Yard} {home:Nat} (h:PI y out home) (hh:home<4) {o:Int} (ho:0≤o∧o≤3∧o≠(home:Int)):PI y (bA7 (aZ out o) home o.toNat) home:=by
 have h4:=h.len
 have e4:(out.shelf.set o.toNat ((out.shelf.getD o.toNat []).filter (Go.Proofs.YtanpcpoogkdlaaaGreat.fresh out))).length=4:=by rw[length_set];exact h4
 have e0:(out.shelf.set o.toNat ((out.shelf.getD o.toNat []).filter (Go.Proofs.YtanpcpoogkdlaaaGreat.fresh out))).getD o.toNat []=(out.shelf.getD o.toNat []).filter (Go.Proofs.YtanpcpoogkdlaaaGreat.fresh out):=mB aB _
 have e1:(out.shelf.set o.toNat ((out.shelf.getD o.toNat []).filter (Go.Proofs.YtanpcpoogkdlaaaGreat.fresh out))).getD home []=out.shelf.getD home []:=sM aB _
 have hfl:((out.shelf.getD o.toNat []).filter (Go.Proofs.YtanpcpoogkdlaaaGreat.fresh out)).length≤80:=Nat.le_trans (length_filter_le _ _) (h.each _ aB)
 rw[yL aB h4]
 refine ⟨h.now,h.seq,h.runs,?_,?_,?_⟩
 ·unfold bA7 pP
  simp only[length_set]
  exact h4
 ·refine oI (oI (oI h.each hfl h4) ?_ e4) ?_ (by unfold pP;simp only[length_set];exact h4)
  ·exact merged_len (by show ((List.set _ _ _).getD home []).length≤80;rw[e1];exact h.each _ hh)
  show (List.drop _ ((List.set _ _ _).getD _ [])).length≤80
  rw[e0,length_drop];omega
 intro e he
 have he':e∈(((out.shelf.set o.toNat ((out.shelf.getD o.toNat []).filter (Go.Proofs.YtanpcpoogkdlaaaGreat.fresh out))).set home (eB ((out.shelf.set o.toNat ((out.shelf.getD o.toNat []).filter (Go.Proofs.YtanpcpoogkdlaaaGreat.fresh out))).getD home []) (((out.shelf.set o.toNat ((out.shelf.getD o.toNat []).filter (Go.Proofs.YtanpcpoogkdlaaaGreat.fresh out))).getD o.toNat []).take (dA ((out.shelf.set o.toNat ((out.shelf.getD o.toNat []).filter (Go.Proofs.YtanpcpoogkdlaaaGreat.fresh out))).getD o.toNat []))))).set o.toNat _).getD home []:=he
 rw[sM aB,mB aB,e0,e1] at he'
 rcases merged_mem he' with h1 | h1
 ·exact h.fresh e h1
 have:=(mem_filter.1 (mem_of_mem_take h1)).2
 rwa [fresh_runs h.runs] at this
theorem PI.all {y:Yard} (h:YardIs y) {home:Nat} (hh:home<4) {l:List Int} (hl:∀ o∈l,0≤o∧o≤3∧o≠(home:Int)):∀ {out:Yard},PI y out home→PI y (fE home out l) home:=by
 induction l with
 | nil=>intro out ho;exact ho
 | cons o l ih=>
  intro out ho
  refine ih (fun a ha=>hl a (by simp[ha])) (out:=aA7 home out o) ?_
  unfold aA7
  split
  ·exact ho.rob hh (hl o (by simp))
  exact ho
theorem PI.take {y:Yard} (h:YardIs y) {home:Nat} (hh:home<4) {l:List Int} (hl:∀ o∈l,0≤o∧o≤3∧o≠(home:Int)) (k:Nat):PI y (fE home (aZ y (home:Int)) (l.take k)) home:=PI.all h hh (fun o ho=>hl o (mem_of_mem_take ho)) (PI.start h hh)
def kB (r:Run) (i:Nat) (t:Task) (now:Int):Run:=⟨r.id,r.plan,r.state,r.tasks.set i ⟨3,t.need,t.try_+1,now+r.plan.wait⟩⟩
def sL (out:Yard) (home:Nat):Yard×Reply:=match out.shelf.getD home [] with
 | []=>(out,⟨9,0,0,0⟩)
 | e::rest=>match cI out e.run with
  | none=>(out,⟨9,0,0,0⟩)
  | some k=>match out.runs[k]? with
   | none=>(out,⟨9,0,0,0⟩)
   | some r=>match r.tasks[e.task.toNat]? with
    | none=>(out,⟨9,0,0,0⟩)
    | some t=>(⟨out.now,out.seq,out.shelf.set home rest,out.runs.set k (kB r e.task.toNat t out.now)⟩,⟨0,e.run,e.task,t.try_+1⟩)
noncomputable def gU (y:Yard) (worker draw:Int):Yard×Reply:=
 if ¬ aM y=true then (y,⟨8,0,0,0⟩) else if ¬ inB worker 0 99=true then (y,⟨5,0,0,0⟩)
 else sL (fE (worker % 4).toNat (aZ y (worker % 4)) (bU (worker % 4) draw)) (worker % 4).toNat
theorem aM1 {out:Yard} {home:Nat} (h:out.shelf.getD home []=[]):sL out home=(out,⟨9,0,0,0⟩):=by unfold sL;rw[h]
theorem aV6 {out:Yard} {home k:Nat} {e:Entry} {rest:List Entry} {r:Run} {t:Task} (h:out.shelf.getD home []=e::rest) (hk:cI out e.run=some k) (hr:out.runs[k]? = some r) (ht:r.tasks[e.task.toNat]? = some t):sL out home=(⟨out.now,out.seq,out.shelf.set home rest,out.runs.set k (kB r e.task.toNat t out.now)⟩,⟨0,e.run,e.task,t.try_+1⟩):=by
 unfold sL
 rw[h];simp only[hk,hr,ht]
def yardNew:Yard:=⟨0,1,List.replicate 4 [],[]⟩
def aW8:Engine:=⟨yardNew,⟨[]⟩,1,0,[],1,false⟩
def worldNew:WorldD:=⟨aW8,[],[],0,0⟩

theorem YardNewI :
  Calls prog 102 #[] w (rO_ yardNew w):=by
 refine cK0 func102 rfl ntmps102 cB (wp_seq (aA (sg (gR wB (St.start w) ?_))));intro b1 W2 hb3 st4
 refine aC (wp_seq (aA (sg (aS0 (α:=(List Entry)) (N:=4) (v := .slice none 0 0) (z:=([]:List Entry)) vU aD rfl rfl aB aB st4 (fun W=>⟨_,rfl,nil_Sl⟩) ?_))));intro b6 fp10 W7 hb8 st9
 refine sg (aS1 (vs:=[(1,I 1),(2,(.slice (some ⟨b6,0,none⟩) 4 4))]) (cs:=[I 0,I 1,(.slice (some ⟨b6,0,none⟩) 4 4),.slice none 0 0]) (aJ7 (v:=I 1) rfl (aJ7 (v:=(.slice (some ⟨b6,0,none⟩) 4 4)) rfl aJ3)) aD ?_)
 have st12:=st9.f1
 refine sg (gK aD rfl rfl (dQ rfl (dQ rfl (dQ (Sl.one (bO (st12.get 1 rfl))) (dQ rfl xD)))) st12 iZ rfl ?_);intro W13 st14
 refine aC (wp_ret ?_);repeat first|refine aG6 ?_|refine bE1 ?_
 refine retc1 fX rfl results102 rfl (st14.get 0 rfl) rfl ?_
 have st15:=St.own_nil (α:=Run) st14
 have st17:=st15.f2
 have st18:=nK (x:=yardNew) st17 (by simp[worldNew,aW8,yardNew,WorldD.ok,Engine.ok,Yard.ok,Disk.ok,I64])
 exact ⟨_,_,rfl,st18.only 0 rfl⟩
theorem YardNewS :
  Calls prog 125 #[] w (rO_ yardNew w):=by
 refine cK0 func125 rfl ntmps125 cB (wp_seq (aA (sg (gR wB (St.start w) ?_))));intro b1 W2 hb3 st4
 refine aC (wp_seq (aA (sg (aS1 (vs:=[(1,I 1)]) (cs:=[I 0,I 1,.slice none 0 0,.slice none 0 0]) (aJ7 (v:=I 1) rfl aJ3) aD (sg (gR wB st4 ?_))))));intro b6 W7 hb8 st9
 refine sg (gK aD rfl rfl (dQ rfl (dQ rfl (dQ rfl (dQ rfl xD)))) st9 iZ rfl ?_);intro W11 st12
 refine aC (wp_seq (wp_seq (aA ?_)))
 have st13:=st12.row_nil (α:=List Entry) 217
 skip
 refine sg (aT (aC (wp_block (dJ (fun (m:Nat) (f:Nat→Value) (W:World)=>∃ (k:Nat) (v15:Value),k≤4∧m=4 - k∧f 0=pt_ b1∧f 1=pt_ b6∧f 2=I (k:Int)∧St w W ([Res.row (α:=(List Entry)) 217 v15 (List.replicate k ([]:List Entry)) [],Res.bx b6 [I 0,I 1,v15,.slice none 0 0] 27,Res.bx b1 [I 0,I 0,.slice none 0 0,.slice none 0 0] 27])) (4 - 0) ?_ ?_))))
 ·exact ⟨0,(.slice none 0 0),aB,rfl,rfl,rfl,rfl,st13⟩
 intro m16 f17 W18 hJ19
 obtain ⟨k,v15,hcd21_0,rfl,hs21_0,hs21_1,hs21_2,st20⟩:=hJ19
 refine wp_seq (wp_seq (aA (sg (aE (v:=I (k:Int)) hs21_2 (sg (gP rfl rfl (aC (uD rfl (fun h22 => ?_) (fun h22 => ?_)))))))))
 ·have h22p:=of_decide_eq_true h22
  refine wp_skip (wp_seq (wp_block (aA (sg (cS aW5 hs21_1 (sg (gD ld_EntrySS rfl rfl (st20.get 1 rfl) (i:=2) rfl rfl (sg (cF (cs:=[]) (e:=243) aJ3 (iD jA _) st20 ?_)))))))));intro b23 W24 hb25 st26
  have st26:=st26.row_empty (α:=Entry)
  refine sg (cF (cs:=[(.slice (some ⟨b23,0,none⟩) 0 0)]) (e:=217) (aJ7 (v:=(.slice (some ⟨b23,0,none⟩) 0 0)) rfl aJ3) (jU vU _ _ rfl rfl cB) st26 ?_);intro b28 W29 hb30 st31
  have st33:=st31.f2
  refine sg (lY (ys:=[[]]) vU rfl rfl rfl st33 (Elems.one1 ⟨_,rfl,row_Sl0 (st33.get 2 rfl)⟩) (by rw[length_replicate];unfold maxLen;omega) (by rw[length_replicate];omega) ?_);intro v34 W35 st36
  refine sg (cS aW5 hs21_1 ?_)
  have st37:=st36.f2
  refine sg (lW (v:=v34) aD rfl rfl (Sl.cells (gT (st37.get 1 rfl))) (Sl.one (gT (st37.get 1 rfl))) st37 iZ rfl ?_);intro W38 st39
  refine aC (aA (sg (aE (v:=I (k:Int)) hs21_2 (sg (nC rfl rfl bP5 ?_)))))
  have st40:=st39.row_nil (α:=List Entry) 217
  skip
  refine sg (aG (v:=I ((k:Int)+1)) rfl (aC ?_))
  have st42:=st40.f4
  have st43:=st42.f2
  have st44:=st43.f3
  have st45:=st44.d3
  have st46:=st45.d3
  exact ⟨_,4 - (k+1),aB,rfl,k+1,v34,aB,rfl,hs21_0,hs21_1,rfl,(by rw[replicate_succ'];exact st46)⟩
 have h22p:=of_decide_eq_false h22
 refine wp_exit (wp_seq (aA (sg (nB (cs:=[I 0,I 1,v15,.slice none 0 0]) fX rfl hs21_1 (st20.get 1 rfl) rfl rfl ?_))))
 have st47:=st20.f2
 refine sg (gK aD hs21_0 rfl (dQ rfl (dQ rfl (dQ (Sl.one (gT (st47.get 1 rfl))) (dQ rfl xD)))) st47 iZ rfl ?_);intro W48 st49
 refine aC (wp_ret ?_);repeat first|refine aG6 ?_|refine bE1 ?_
 refine retc1 fX rfl results125 hs21_0 (st49.get 0 rfl) rfl ?_
 obtain rfl:k=4:=by omega
 have st50:=st49.f1
 obtain ⟨fp52,st51⟩:=st50.shut
 have st53:=St.own_nil (α:=Run) st51
 have st55:=st53.f1
 have st56:=nK (x:=yardNew) st55 (by simp[yardNew,Yard.ok,I64])
 exact ⟨_,_,rfl,st56.only 0 rfl⟩
theorem cG7 {w W:World} {e:Ending} {x:Yard} (h:∃ (cs':List Value) (fp':List Nat),e = .returned (.agg cs'.toArray)∧St w W [Res.own (.agg cs'.toArray) x fp']):∃ (a:Unit) (vs:List Value) (rs:List Res),True∧e = .returned (wR vs)∧Rks vs [Rk.S x] rs∧St w W rs:=by
 obtain ⟨cs,fp,he,st⟩:=h
 exact ⟨(),[.agg cs.toArray],[Res.cs cs x fp],trivial,he,⟨[Res.cs cs x fp],[],⟨cs,fp,rfl,rfl⟩,rfl,rfl⟩,st.cs rfl⟩
theorem YardNewD:Ct1 prog 102 [] [.S yardNew]:=⟨fun w us _ hp=>by
 match us,hp with
 | [],_=>exact (YardNewI w).mono fun e w' h=>cG7 h⟩
theorem YardNewSD:Ct1 prog 125 [] [.S yardNew]:=⟨fun w us _ hp=>by
 match us,hp with
 | [],_=>exact (YardNewS w).mono fun e w' h=>cG7 h⟩
structure waitP (e:Engine) (k:Nat) (w:Wait):Prop where
 rng:inB w.call 1 e.calls=true
 up:∀ j v,k=j+1→e.waits[j]? = some v→v.call<w.call
structure engH (e:Engine):Prop where
 yard:aM e.yard=true
 disk:bY e.disk=true
 next:inB e.next 1 999999999=true
 calls:inB e.calls 0 999999999=true
 waits:¬ (60:Int)<e.waits.length
 state:inB e.state 1 3=true
structure engP (e:Engine):Prop extends engH e where
 ok:∀ k w,e.waits[k]? = some w→waitP e k w
noncomputable def engOk (e:Engine):Bool:=pB (engP e)
structure EgJ (e:Engine) (k:Nat):Prop extends engH e where
 le:k≤e.waits.length
 ok:∀ j w,j<k→e.waits[j]? = some w→waitP e j w
theorem EgJ.start {e:Engine} (h:engH e):EgJ e 0:=⟨h,Nat.zero_le _,fun j w h=>by omega⟩
theorem EgJ.step {e:Engine} {k:Nat} {w:Wait} (h:EgJ e k) (hw:e.waits[k]? = some w) (hok:waitP e k w):EgJ e (k+1):=by
 refine ⟨h.toengH,(gsi_.1 hw).1,fun j g hj hg => ?_⟩
 rcases Nat.lt_succ_iff_lt_or_eq.1 hj with h1 | rfl
 ·exact h.ok j g h1 hg
 rw[hw] at hg;cases hg;exact hok
def brk (e:Engine):Engine:=⟨e.yard,e.disk,e.next,e.calls,e.waits,2,false⟩
theorem DeleteRun {w W0:World} {rs:List Res} {v:Value} {xs:List Run} {fp:List Nat} {k:Nat} (hst:St w W0 (Res.own v xs fp::rs)) (hk:k<xs.length) (hxl:xs.length≤1048576:=by omega) :
  Calls prog 317 #[v,I (k:Int),I ((k:Int)+1)] W0 fun e w'=>∃ (v':Value) (fp':List Nat),e = .returned v'∧St w w' (Res.own v' (xs.eraseIdx k) fp'::rs):=by
 refine cJ9 func317 rfl ntmps317 cB (wp_seq ?_)
 have hq_:=St.ownOpen' hst cB aB
 obtain ⟨bD,oD,cD,CD,eD,feD,hvD,hcD,hmD,hlD,st1⟩:=hq_
 subst hvD
 refine aA (sg (aG (v := .slice none 0 0) rfl (aC (wp_seq (aA (rn st1 5 Ag.nil.put.put.put.put [] [(8,.slice (some ⟨bD,oD,none⟩) xs.length cD),(9,I (k:Int)),(10,I ((k:Int)+1)),(12,I ((xs.length:Nat):Int))] [.l (.slice (some ⟨bD,oD,none⟩) xs.length cD) xs.length ⟨_,_,rfl⟩] aD fun f5 h5_=>(sg (stp_x3 (l:=k) (h:=k+1) (mx:=xs.length) iI (h5_.at 8) (h5_.at 9) (h5_.at 10) (h5_.at 12) aB aB aB aB aB aB ?_))))))));intro v3_
 refine aC (wp_seq (wp_seq (aA (rn st1 3 h5_.put [] [(16,.bool (decide ((k:Int)=((k:Int)+1))))] [.o] aD fun f7 h7_=>(aC (cE (h7_.at 16) (fun h8p => ?_) (fun h8p => ?_)))))))
 ·omega
 refine wp_skip (wp_seq (aA (rn st1 3 h7_ [] [(7,I ((xs.length:Nat):Int))] [.l (.slice (some ⟨bD,oD,none⟩) xs.length cD) xs.length ⟨_,_,rfl⟩] aD fun f10 h10_=>(aC (wp_seq ?_)))))
 rcases nem (k+1<cD) with h11p | h11p
 ·refine oU 6 [] [(true,.is (.slice (some ⟨bD,oD,none⟩) xs.length cD)),(true,.is (I (k:Int))),(true,.is (.slice (some ⟨bD,oD,none⟩) k cD)),(true,.is (.slice (some ⟨bD,oD,none⟩) xs.length cD)),(true,.is (I ((k:Int)+1))),(true,.is (.slice (some ⟨bD,oD,none⟩) 0 0))] mix aD aD aD aD (rs0:=[]) rfl st1 (Below.refl _ _) ⟨(mq_ (h10_.at 0)),(mq_ (h10_.at 1)),(fun f W hst hbl hd hf=>yO (h:=k) iI (hd 0 20 rfl rfl) (hd 1 21 rfl rfl) aB aB aB brq),(mq_ (h10_.at 0)),(mq_ (h10_.at 2)),(fun f W hst hbl hd hf=>cE3 (l:=k+1) iI (hd 3 23 rfl rfl) (hd 4 24 rfl rfl) aB aB aB brq),trivial⟩ ?_
  intro f12 W13 rs_ hAL_ st16 hbl17 hv14 hf15
  have hn_:rs_=[]:=hAL_
  subst hn_
  try simp only[cap_,yX] at st16
  have h1_:∀ v∈(CD.drop (oD+(k+1)*8)).take ((xs.length - (k+1))*8),v.oneCell'=true:=fun v hv=>(st16.get 1 rfl).1.one v (bT2 hv (by show (k+1)*8+(xs.length - (k+1))*8≤xs.length*8;omega))
  have h0_:xs.length - (k+1)=0:=by omega
  refine sg (aS2 (α:=Run) (i:=k) (m:=xs.length - (k+1)) (oy:=oD+(k+1)*8) (q:=xs.length - 1) iI (hv14 2 22 cB rfl) (Eq.trans (hv14 5 25 cB rfl) (by rw[h0_])) (fun hz=>by omega) aB aB (by show oD+(k+1)*8+(xs.length - (k+1))*8≤CD.length;have hl_:oD+xs.length*8≤CD.length:=hlD;omega) (by show oD+k*8+(xs.length - (k+1))*8≤CD.length;have hl_:oD+xs.length*8≤CD.length:=hlD;omega) h1_ st16 ?_);intro W19 st20
  refine sg (aG (v := .slice (some ⟨bD,oD,none⟩) (xs.length - 1) cD) rfl (aC (wp_seq (aA (rn st20 4 (Ag.cons (show f12 7=I ((xs.length:Nat):Int) from ((hf15 7 rfl).trans (h10_.at 7))) Ag.nil).put.put [] [(27,.slice (some ⟨bD,oD,none⟩) (xs.length - 1) cD),(29,I (((xs.length - 1):Nat):Int)),(30,I ((xs.length:Nat):Int))] [.l (.slice (some ⟨bD,oD,none⟩) (xs.length - 1) cD) (xs.length - 1) ⟨_,_,rfl⟩] aD fun f24 h24_=>(sg (cE4 (l:=xs.length - 1) (h:=xs.length) iI (h24_.at 27) (h24_.at 29) (h24_.at 30) aB aB aB aB aB ?_)))))))
  refine sgn (uT (s:=8) (zs:=[I 0,I 0,I 0,I 0,I 0,.slice none 0 0,I 0,.slice none 0 0]) underlying25 aD rfl aB (by intro v hv;simp only[mem_cons,not_mem_nil,or_false] at hv;rcases hv with rfl | rfl | rfl | rfl | rfl | rfl | rfl | rfl <;> rfl) rfl aB st20 (by rw[fD];have hl_:oD+xs.length*8≤CD.length:=hlD;show oD+(xs.length - 1)*8+(xs.length - (xs.length - 1))*8≤_;omega) ?_);intro ZD W25 hZD st26
  refine aC (wp_seq (aA (sg (aE (h24_.at 0) (sg (aG (v := .slice (some ⟨bD,oD,none⟩) (xs.length - 1) cD) rfl (aC (wr (jH results317 rfl ?_)))))))))
  have hE_:=(st26.get 1 rfl).1.erase hk
  obtain ⟨f1,f2,f3,hfe_,hE3⟩:=hE_
  have hs_:=st26.f1.es_sub (fe':=f1++f3) (by rw[hfe_];exact (List.Sublist.refl _).append (sublist_append_right _ _)) hE3
  have hq_:=St.ownShut' (off:=oD) (cap:=cD) (m:=xs.length - 1) hs_.f1 (aW9 hk hlD (by rw[hZD,show xs.length - (xs.length - 1)=1 by omega];rfl)).symm (by rw[length_eraseIdx_of_lt hk]) aB hmD
  obtain ⟨fpz,stz⟩:=hq_
  exact ⟨_,fpz,rfl,stz⟩
 refine oU 6 [] [(true,.is (.slice (some ⟨bD,oD,none⟩) xs.length cD)),(true,.is (I (k:Int))),(true,.is (.slice (some ⟨bD,oD,none⟩) k cD)),(true,.is (.slice (some ⟨bD,oD,none⟩) xs.length cD)),(true,.is (I ((k:Int)+1))),(true,.is (.slice (some ⟨bD,oD+(k+1)*8,none⟩) (xs.length - (k+1)) (cD - (k+1))))] mix aD aD aD aD (rs0:=[]) rfl st1 (Below.refl _ _) ⟨(mq_ (h10_.at 0)),(mq_ (h10_.at 1)),(fun f W hst hbl hd hf=>yO (h:=k) iI (hd 0 20 rfl rfl) (hd 1 21 rfl rfl) aB aB aB brq),(mq_ (h10_.at 0)),(mq_ (h10_.at 2)),(fun f W hst hbl hd hf=>qS (l:=k+1) iI (hd 3 23 rfl rfl) (hd 4 24 rfl rfl) aB aB aB brq),trivial⟩ ?_
 intro f29 W30 rs_ hAL_ st33 hbl34 hv31 hf32
 have hn_:rs_=[]:=hAL_
 subst hn_
 try simp only[cap_,yX] at st33
 have h1_:∀ v∈(CD.drop (oD+(k+1)*8)).take ((xs.length - (k+1))*8),v.oneCell'=true:=fun v hv=>(st33.get 1 rfl).1.one v (bT2 hv (by show (k+1)*8+(xs.length - (k+1))*8≤xs.length*8;omega))
 refine sg (aS2 (α:=Run) (i:=k) (m:=xs.length - (k+1)) (oy:=oD+(k+1)*8) (q:=xs.length - 1) iI (hv31 2 22 cB rfl) (hv31 5 25 cB rfl) (fun _=>rfl) aB aB (by show oD+(k+1)*8+(xs.length - (k+1))*8≤CD.length;have hl_:oD+xs.length*8≤CD.length:=hlD;omega) (by show oD+k*8+(xs.length - (k+1))*8≤CD.length;have hl_:oD+xs.length*8≤CD.length:=hlD;omega) h1_ st33 ?_);intro W36 st37
 refine sg (aG (v := .slice (some ⟨bD,oD,none⟩) (xs.length - 1) cD) rfl (aC (wp_seq (aA (rn st37 4 (Ag.cons (show f29 7=I ((xs.length:Nat):Int) from ((hf32 7 rfl).trans (h10_.at 7))) Ag.nil).put.put [] [(27,.slice (some ⟨bD,oD,none⟩) (xs.length - 1) cD),(29,I (((xs.length - 1):Nat):Int)),(30,I ((xs.length:Nat):Int))] [.l (.slice (some ⟨bD,oD,none⟩) (xs.length - 1) cD) (xs.length - 1) ⟨_,_,rfl⟩] aD fun f41 h41_=>(sg (cE4 (l:=xs.length - 1) (h:=xs.length) iI (h41_.at 27) (h41_.at 29) (h41_.at 30) aB aB aB aB aB ?_)))))))
 refine sgn (uT (s:=8) (zs:=[I 0,I 0,I 0,I 0,I 0,.slice none 0 0,I 0,.slice none 0 0]) underlying25 aD rfl aB (by intro v hv;simp only[mem_cons,not_mem_nil,or_false] at hv;rcases hv with rfl | rfl | rfl | rfl | rfl | rfl | rfl | rfl <;> rfl) rfl aB st37 (by rw[fD];have hl_:oD+xs.length*8≤CD.length:=hlD;show oD+(xs.length - 1)*8+(xs.length - (xs.length - 1))*8≤_;omega) ?_);intro ZD W42 hZD st43
 refine aC (wp_seq (aA (sg (aE (h41_.at 0) (sg (aG (v := .slice (some ⟨bD,oD,none⟩) (xs.length - 1) cD) rfl (aC (wr (jH results317 rfl ?_)))))))))
 have hE_:=(st43.get 1 rfl).1.erase hk
 obtain ⟨f1,f2,f3,hfe_,hE3⟩:=hE_
 have hs_:=st43.f1.es_sub (fe':=f1++f3) (by rw[hfe_];exact (List.Sublist.refl _).append (sublist_append_right _ _)) hE3
 have hq_:=St.ownShut' (off:=oD) (cap:=cD) (m:=xs.length - 1) hs_.f1 (aW9 hk hlD (by rw[hZD,show xs.length - (xs.length - 1)=1 by omega];rfl)).symm (by rw[length_eraseIdx_of_lt hk]) aB hmD
 obtain ⟨fpz,stz⟩:=hq_
 exact ⟨_,fpz,rfl,stz⟩
abbrev bV9:ByteArray:=⟨#[110,101,120,116]⟩
abbrev logN:ByteArray:=⟨#[108,111,103]⟩
abbrev markN:ByteArray:=⟨#[109,97,114,107]⟩
def withD (e:Engine) (d:Disk):Engine:=⟨e.yard,d,e.next,e.calls,e.waits,e.state,e.broken⟩
noncomputable def bM9 (d:Disk) (nm:ByteArray):Disk×Bool:=if 0≤fAt d.files nm then fC d nm 0 else (d,true)
noncomputable def opF (e:Engine) (k:Int):Disk×Bool:=
 if k=0 then bM9 e.disk bV9 else if k=4 then bM9 e.disk logN else if k=1 then jF e.disk bV9 (sI (e.next - 1) (jC e.yard)) else if k=2 then bS9 e.disk bV9 else bW5 e.disk bV9 markN
noncomputable def aK7 (e:Engine) (k:Int):Engine×Bool:=
 if ¬ (engOk e=true∧e.state=1∧inB k 0 4=true) then (e,false) else if e.broken=true then (brk e,false) else (withD e (opF e k).1,(opF e k).2)
def small (d:Disk):Prop:=d.files.length≤4∧∀ f∈d.files,f.wt≤60010
theorem cD9 {α:Type} (f:α→Nat) (c:Nat):∀ l:List α,(∀ x∈l,f x≤c)→(l.map f).sum≤l.length*c
 | [],_=>by simp
 | x::l,h=>by
  have h1:=h x mem_cons_self
  have h2:=cD9 f c l fun y hy=>h y (mem_cons_of_mem _ hy)
  simp only[map_cons,sum_cons,length_cons,Nat.add_mul,Nat.one_mul]
  omega
theorem bG5 {d:Disk} (h:small d):d.wt≤300000:=by
 have:=cD9 (fun y:File=>y.wt) 60010 d.files h.2
 have:=h.1
 unfold Disk.wt wtL
 omega
theorem qT {d:Disk} (h:bY d=true) {f:File} (hf:f∈d.files):f.name.size≤10∧f.data.size≤60000:=by
 obtain ⟨k,hk⟩:=mem_iff_getElem?.1 hf
 have h1:=((diskOk_iff.1 h).ok k f hk)
 have h2:=h1.name
 have h3:=h1.data
 unfold sH inB at h2
 simp only[Bool.and_eq_true,decide_eq_true_eq] at h2
 omega
theorem bI6 {d:Disk} (h:bY d=true):small d:=⟨zH h,fun f hf=>by have:=qT h hf;unfold File.wt;omega⟩
theorem aS4 {d:Disk} (h:bY d=true) {k:Nat} {y:File} (hy:y.wt≤60010):small ⟨d.files.set k y⟩:=⟨by show (d.files.set k y).length≤4;rw[length_set];exact zH h,fun f hf=>by
 rcases mem_or_eq_of_mem_set hf with h1 | rfl
 ·exact (bI6 h).2 f h1
 ·exact hy⟩
theorem bW3 {d:Disk} (h:bY d=true) {k:Nat} {to:ByteArray} (ht:to.size≤10):∀ i,∀ f∈mvG d.files k to i,f.wt≤60010
 | 0,f,hf=>by cases hf
 | i+1,f,hf=>by
  have ih:=bW3 h (k:=k) ht i
  have hf:f∈(match d.files[i]? with | some g=>if g.name=to then mvG d.files k to i else mvG d.files k to i++[if i=k then mvF g to else g] | none=>mvG d.files k to i):=hf
  split at hf
  ·rename_i g hg
   have hs:=qT h (mem_of_getElem? hg)
   split at hf
   ·exact ih f hf
   ·rcases mem_append.1 hf with h1 | h1
    ·exact ih f h1
    ·rw[mem_singleton] at h1
     subst h1
     split
     ·show to.size+g.data.size≤60010;omega
     ·unfold File.wt;omega
  ·exact ih f hf
theorem bR4 (d:Disk) (nm more:ByteArray):(jF d nm more).1=d∨small (jF d nm more).1:=by
 unfold jF
 split
 ·rename_i h;exact .inr (bI6 h.2)
 exact .inl rfl
theorem sync_s (d:Disk) (nm:ByteArray):(bS9 d nm).1=d∨small (bS9 d nm).1:=by
 unfold bS9
 split
 ·rename_i h
  unfold synD
  simp only
  split
  ·rename_i f hf
   have:=qT h.2 (mem_of_getElem? hf)
   exact .inr (aS4 h.2 (by show f.name.size+f.data.size≤_;omega))
  exact .inl rfl
 exact .inl rfl
theorem cut_s (d:Disk) (nm:ByteArray) (n:Int):(fC d nm n).1=d∨small (fC d nm n).1:=by
 unfold fC
 split
 ·rename_i h
  unfold cutD
  simp only
  split
  ·rename_i f hf
   have:=qT h.2.1 (mem_of_getElem? hf)
   exact .inr (aS4 h.2.1 (by show f.name.size+(f.data.extract 0 n.toNat).size≤_;rw[ByteArray.size_extract];omega))
  exact .inl rfl
 exact .inl rfl
theorem move_s (d:Disk) (fr to:ByteArray):(bW5 d fr to).1=d∨small (bW5 d fr to).1:=by
 unfold bW5
 split
 ·rename_i h
  have h3:=h.2.2.2.1
  unfold sH inB at h3
  simp only[Bool.and_eq_true,decide_eq_true_eq] at h3
  refine .inr ⟨?_,fun f hf=>bW3 h.2.1 aB _ f hf⟩
  have:=bW4 d.files (fAt d.files fr).toNat to d.files.length
  have:=zH h.2.1
  simp only
  omega
 exact .inl rfl
theorem bZ4 (d:Disk) (nm:ByteArray):(bM9 d nm).1=d∨small (bM9 d nm).1:=by
 unfold bM9
 split
 ·exact cut_s d nm 0
 exact .inl rfl
theorem op_s (e:Engine) (k:Int):(opF e k).1=e.disk∨small (opF e k).1:=by
 unfold opF
 split
 ·exact bZ4 _ _
 split
 ·exact bZ4 _ _
 split
 ·exact bR4 _ _ _
 split
 ·exact sync_s _ _
 exact move_s _ _ _
theorem own_2 {w W:World} {b:Bool} {x:Engine} {vs:List Value} {rs:List Res} {e:Ending} (he:e = .returned (wR vs)) (hr:Rks vs [Rk.S x,Rk.B b] rs) (st:St w W rs):∃ (cs':List Value) (fp':List Nat),e = .returned (.tuple #[.agg cs'.toArray,.bool b])∧St w W [Res.own (.agg cs'.toArray) x fp']:=by
 match vs,hr with
 | [v1,v2],hr=>
  obtain ⟨r1,r2,h1,h2,h6⟩:=hr
  obtain ⟨cs,fp,hv1,hr1⟩:=h1
  obtain ⟨r5,r6,h7,h8,h9⟩:=h2
  obtain ⟨hv3,hr5⟩:=h7
  have h8:r6=[]:=h8
  subst h8 hr5 h9 hr1 h6 hv1 hv3
  refine ⟨cs,fp,he,?_⟩
  have st2:St w W (Res.cs cs x fp::[]):=st
  exact st2.trade1 rfl fun h=>⟨⟨cs,rfl,h.1⟩,h.2⟩
def qJ (n a b:Int):Int:=if b<a then a else if n<a then a else min n b
theorem BroughtID (n a b:Int):Ct1 prog 83 [.I n,.I a,.I b] [.I (qJ n a b)]:=
 .one (qJ n a b) (rk:=fun x=>[.I x])<|vc func83 (fun hg => .s (b<a)
  (fun h => .rt a ⟨by unfold qJ;rw[if_pos h],trivial⟩)
  (fun h => .s (n<a)
   (fun h2 => .rt a ⟨by unfold qJ;rw[if_neg h,if_pos h2],trivial⟩)
   (fun h2 => .rt (min n b) ⟨by unfold qJ;rw[if_neg h,if_neg h2],trivial⟩))) aD
theorem BroughtSD (n a b:Int):Ct1 prog 117 [.I n,.I a,.I b] [.I (qJ n a b)]:=
 .one (qJ n a b) (rk:=fun x=>[.I x])<|vc func117 (fun hg => .s (b<a)
  (fun h => .rt a ⟨by unfold qJ;rw[if_pos h],trivial⟩)
  (fun h => .s (n<a)
   (fun h2 => .rt a ⟨by unfold qJ;rw[if_neg h,if_pos h2],trivial⟩)
   (fun h2 => .s (b<n)
    (fun h3 => .rt b ⟨by unfold qJ;rw[if_neg h,if_neg h2,Int.min_def,if_neg aB],trivial⟩)
    (fun h3 => .rt n ⟨by unfold qJ;rw[if_neg h,if_neg h2,Int.min_def,if_pos aB],trivial⟩)))) aD
theorem bro_le (n:Int):0≤qJ n 0 5∧qJ n 0 5≤5:=by
 unfold qJ
 rw[if_neg aB]
 split
 ·omega
 omega
noncomputable def bC4 (e:Engine):Nat→Engine×Bool
 | 0=>(e,true)
 | k+1=>if (bC4 e k).2=true then aK7 (bC4 e k).1 k else bC4 e k
theorem mrk_step {e:Engine} {k:Nat} (h:(bC4 e k).2=true):bC4 e (k+1)=aK7 (bC4 e k).1 k:=by
 show (if _ then _ else _)=_
 rw[if_pos h]
theorem mst_yw (e:Engine) (k:Int):(aK7 e k).1.yard=e.yard∧(aK7 e k).1.waits=e.waits:=by
 unfold aK7
 split
 ·exact ⟨rfl,rfl⟩
 split
 ·exact ⟨rfl,rfl⟩
 exact ⟨rfl,rfl⟩
theorem mst_fl (e:Engine) (k:Int) (h:e.disk.files.length≤1048576):(aK7 e k).1.disk.files.length≤1048576:=by
 unfold aK7
 split
 ·exact h
 split
 ·exact h
 show (opF e k).1.files.length≤_
 rcases op_s e k with h1 | h1
 ·rw[h1];exact h
 have:=h1.1;omega
structure MkJ (e:Engine) (n:Int) (g:Nat×Engine):Prop where
 le:(g.1:Int)≤qJ n 0 5
 ok:bC4 e g.1=(g.2,true)
 yard:g.2.yard=e.yard
 waits:g.2.waits=e.waits
 files:g.2.disk.files.length≤1048576
 good:g.2.ok
theorem MkJ.start {e:Engine} (n:Int) (h:e.disk.files.length≤1048576) (hg:e.ok):MkJ e n (0,e):=⟨(bro_le n).1,rfl,rfl,rfl,h,hg⟩
theorem MkJ.next_ {e:Engine} {n:Int} {g:Nat×Engine} (h:MkJ e n g):bC4 e (g.1+1)=aK7 g.2 g.1:=by
 have:=mrk_step (e:=e) (k:=g.1) (by rw[h.ok])
 rw[this,h.ok]
theorem MkJ.step {e:Engine} {n:Int} {g:Nat×Engine} (h:MkJ e n g) (hk:(g.1:Int)<qJ n 0 5) (ht:(aK7 g.2 g.1).2=true) (hg:(aK7 g.2 g.1).1.ok):MkJ e n (g.1+1,(aK7 g.2 g.1).1):=by
 have e1:=h.next_
 have h2:=mst_yw g.2 g.1
 exact ⟨by show ((g.1+1:Nat):Int)≤_;omega,by show bC4 e (g.1+1)=_;rw[e1,← ht],h2.1.trans h.yard,h2.2.trans h.waits,mst_fl _ _ h.files,hg⟩
theorem bK3 {y:Yard} {id task try_:Int} (h:¬ (0:Int)≤aH y id):false=fR y id task try_:=by
 have:cI y id=none:=by
  cases hi:cI y id with
  | none=>rfl
  | some k=>rw[dE hi] at h;omega
 unfold fR;rw[this]
theorem bK5 {y:Yard} {id task try_:Int} {k:Nat} {r:Run} (hk:cI y id=some k) (hr:y.runs[k]? = some r):fR y id task try_=(inB task 0 ((r.tasks.length:Int) - 1) && (match r.tasks[task.toNat]? with | some t=>decide (t.state=3) && decide (t.try_=try_) | none=>false)):=by
 unfold fR;rw[hk];simp only[hr] <;> rfl
theorem aV4 {y:Yard} {id task try_:Int} {k:Nat} {r:Run} (hk:cI y id=some k) (hr:y.runs[k]? = some r) (h:inB task 0 ((r.tasks.length:Int) - 1)=false):false=fR y id task try_:=by rw[bK5 hk hr,h];rfl
theorem bK6 {y:Yard} {id task try_:Int} {k:Nat} {r:Run} {t:Task} (hk:cI y id=some k) (hr:y.runs[k]? = some r) (h:inB task 0 ((r.tasks.length:Int) - 1)=true) (ht:r.tasks[task.toNat]? = some t):(decide (t.state=3) && decide (t.try_=try_))=fR y id task try_:=by rw[bK5 hk hr,h,ht];rfl
theorem bX6 {y:Yard} {id task try_:Int} {k:Nat} {r:Run} {t:Task} (hk:cI y id=some k) (hr:y.runs[k]? = some r) (h:inB task 0 ((r.tasks.length:Int) - 1)=true) (ht:r.tasks[task.toNat]? = some t) (h3:t.state=3):decide (t.try_=try_)=fR y id task try_:=by rw[← bK6 hk hr h ht,decide_eq_true h3];rfl
theorem bK4 {y:Yard} {id task try_:Int} {k:Nat} {r:Run} {t:Task} (hk:cI y id=some k) (hr:y.runs[k]? = some r) (h:inB task 0 ((r.tasks.length:Int) - 1)=true) (ht:r.tasks[task.toNat]? = some t) (h3:¬ t.state=3):false=fR y id task try_:=by rw[← bK6 hk hr h ht,decide_eq_false h3];rfl
theorem bE7 (y:Yard) (id task try_:Int) (hw:y.wt≤1048576):Ct1 prog 120 [.S y,.I id,.I task,.I try_] [.B (fR y id task try_)]:=
 .one (fR y id task try_) (rk:=fun x=>[.B x])<|vc func120 (fun (hg:gin [Par.S y,Par.I id,Par.I task,Par.I try_]) => .c func232 (lG y id hw) (hg:=⟨hg.1.1,trivial⟩) fun _ => .s (aH y id<0)
  (fun h => .rt false ⟨bK3 aB,trivial⟩)
  (fun h => .ex (wT (show (0:Int)≤aH y id by omega)) fun q hq => .ye hq.2.2 (aH y id) (he:=hq.2.1) fun gr => .m (q.2.tasks.length:Int) 1 (h:=by have:=jT hw hq.2.2;unfold I64;omega) <| .c func92 (bZ task 0 ((q.2.tasks.length:Int) - 1)) fun _=>
   .v (inB task 0 ((q.2.tasks.length:Int) - 1))
    (fun h1 => .rt false ⟨aV4 hq.1 hq.2.2 h1,trivial⟩)
    (fun h1 => .ye hq.2.2 (aH y id) (he:=hq.2.1) fun _ => .ex (vH h1) fun t ht => .ye ht task (he:=jW h1) fun _ => .s (t.state=3)
     (fun h3 => .rt (decide (t.try_=try_)) ⟨bX6 hq.1 hq.2.2 h1 ht h3,trivial⟩)
     (fun h3 => .rt false ⟨bK4 hq.1 hq.2.2 h1 ht h3,trivial⟩)))) aD
theorem Holds_s (y:Yard) (id task try_:Int) (hw:y.wt≤1048576):Ct1 prog 389 [.S y,.I id,.I task,.I try_] [.B (fR y id task try_)]:=
 .one (fR y id task try_) (rk:=fun x=>[.B x])<|vc func389 (fun (hg:gin [Par.S y,Par.I id,Par.I task,Par.I try_]) => .c func291 (mF y id hw) (hg:=⟨hg.1.1,trivial⟩) fun _ => .s ((0:Int)≤aH y id)
  (fun h => .ex (wT h) fun q hq => .ye hq.2.2 (aH y id) (he:=hq.2.1) fun gr => .m (q.2.tasks.length:Int) 1 (h:=by have:=jT hw hq.2.2;unfold I64;omega) <| .c func138 (InV task 0 ((q.2.tasks.length:Int) - 1)) fun _=>
   .sb (inB task 0 ((q.2.tasks.length:Int) - 1))
    (fun h1 => .ye hq.2.2 (aH y id) (he:=hq.2.1) fun _ => .ex (vH h1) fun t ht => .ye ht task (he:=jW h1) fun _ => .s (t.state=3)
     (fun h3 => .ye hq.2.2 (aH y id) (he:=hq.2.1) fun _ => .ye ht task (he:=jW h1) fun _ => .rt (decide (t.try_=try_)) ⟨bX6 hq.1 hq.2.2 h1 ht h3,trivial⟩)
     (fun h3 => .rt false ⟨bK4 hq.1 hq.2.2 h1 ht h3,trivial⟩))
    (fun h1 => .rt false ⟨aV4 hq.1 hq.2.2 h1,trivial⟩))
  (fun h => .rt false ⟨bK3 h,trivial⟩)) aD
theorem cF9 {y:Yard} {p:Plan} (h:¬ (y.runs.length:Int)<8):false=jL y p:=by unfold jL;simp[h]
theorem cF8 {y:Yard} {p:Plan} (h:inB p.tasks 0 12=false):false=jL y p:=by unfold jL;simp[h]
theorem cF7 {y:Yard} {p:Plan} (h:¬ dU y+p.tasks≤40):false=jL y p:=by unfold jL;simp[h]
theorem cF6 {y:Yard} {p:Plan} (h1:(y.runs.length:Int)<8) (h2:inB p.tasks 0 12=true) (h3:dU y+p.tasks≤40):decide (y.seq≤999999000 - p.tasks)=jL y p:=by unfold jL;simp[h1,h2,h3]
theorem RoomFor_i (y:Yard) (p:Plan) (hw:y.wt≤1048576):Ct1 prog 303 [.S y,.S p] [.B (jL y p)]:=
 .one (jL y p) (rk:=fun x=>[.B x])<|vc func303 (fun (hg:gin [Par.S y,Par.S p])=>let hs:=aS5 y
  .s ((y.runs.length:Int)<8)
  (fun h1 => .c func92 (bZ p.tasks 0 12) fun _ => .sb (inB p.tasks 0 12)
   (fun h2=>let hp:=inB_iff.1 h2
    .c func234 (aY5 y hw) (hg:=⟨hg.1.1,trivial⟩) fun _ => .p (dU y) p.tasks (h:=by unfold I64;omega) <| .s (dU y+p.tasks≤40)
    (fun h3 => .m 999999000 p.tasks (h:=by unfold I64;omega) <| .rt (decide (y.seq≤999999000 - p.tasks)) ⟨cF6 h1 h2 h3,trivial⟩)
    (fun h3 => .rt false ⟨cF7 h3,trivial⟩))
   (fun h2 => .rt false ⟨cF8 h2,trivial⟩))
  (fun h1 => .rt false ⟨cF9 h1,trivial⟩)) aD
theorem RoomFor_s (y:Yard) (p:Plan) (hw:y.wt≤1048576):Ct1 prog 326 [.S y,.S p] [.B (jL y p)]:=
 .one (jL y p) (rk:=fun x=>[.B x])<|vc func326 (fun (hg:gin [Par.S y,Par.S p])=>let hs:=aS5 y
  .s ((y.runs.length:Int)<8)
  (fun h1 => .c func138 (InV p.tasks 0 12) fun _ => .sb (inB p.tasks 0 12)
   (fun h2=>let hp:=inB_iff.1 h2
    .c func294 (aY4 y hw) (hg:=⟨hg.1.1,trivial⟩) fun _ => .p (dU y) p.tasks (h:=by unfold I64;omega) <| .s (dU y+p.tasks≤40)
    (fun h3 => .m 999999000 p.tasks (h:=by unfold I64;omega) <| .rt (decide (y.seq≤999999000 - p.tasks)) ⟨cF6 h1 h2 h3,trivial⟩)
    (fun h3 => .rt false ⟨cF7 h3,trivial⟩))
   (fun h2 => .rt false ⟨cF8 h2,trivial⟩))
  (fun h1 => .rt false ⟨cF9 h1,trivial⟩)) aD
theorem bC3 {id:Int} {p:Plan} (h:¬ (inB id 1 9999=true∧aK p=0)):(zRun,false)=(aK4 id p,mM id p):=by
 have:mM id p=false:=by
  unfold mM
  cases h1:inB id 1 9999 with
  | false=>rfl
  | true=>simp only[Bool.true_and,decide_eq_false_iff_not];exact fun h2=>h ⟨h1,h2⟩
 rw[newR_f this,this]
theorem bW0 {id:Int} {p:Plan} (h1:inB id 1 9999=true) (h2:aK p=0):(cA id p,true)=(aK4 id p,mM id p):=by
 have:mM id p=true:=by unfold mM;rw[h1,decide_eq_true h2];rfl
 rw[cH8 this,this]
theorem aC7:zRun.ok:=by unfold Run.ok Plan.ok zRun I64;simp
theorem aS9 {id:Int} {p:Plan} (h1:inB id 1 9999=true) (hp:p.ok):(cA id p).ok:=⟨by have:=inB_iff.1 h1;show I64 id;unfold I64;omega,hp,by show I64 1;unfold I64;omega⟩
theorem aZ8 {a b c d:Int} (ha:0≤a∧a≤100) (hb:0≤b∧b≤100) (hc:0≤c∧c≤100) (hd:0≤d∧d≤100):Task.ok ⟨a,b,c,d⟩:=⟨by show I64 a;unfold I64;omega,by show I64 b;unfold I64;omega,by show I64 c;unfold I64;omega,by show I64 d;unfold I64;omega⟩
theorem RunNew_i (id:Int) (p:Plan):Ct1 prog 304 [.I id,.S p] [.S (aK4 id p),.B (mM id p)]:=
 .one (aK4 id p,mM id p) (rk:=fun q=>[.S q.1,.B q.2])<|vc func304 (fun (hg:gin [Par.I id,Par.S p])=>let gp:p.ok:=hg.1.1
  .c func92 (bZ id 1 9999) fun _ => .v (inB id 1 9999) (fun h => .rt (zRun,false) ⟨bC3 (fun z=>by rw[h] at z;cases z.1),aC7,trivial⟩) (fun h1=>
  .c func302 (kK p) (hg:=⟨gp,trivial⟩) fun _ => .u (aK p=0) (fun h => .rt (zRun,false) ⟨bC3 (fun z=>h z.2),aC7,trivial⟩) (fun h2=>let hp:=rT h2
  .c func347 (wA p aB) (hg:=⟨gp,trivial⟩) fun _ => .wt 6 <| .r0 (inferInstance:Shape Task) 158 <|
  .l (Γ:=Nat) (fun k=>k≤p.tasks.toNat) (fun k=>p.tasks.toNat - k) [3,4,6] [1,2] [0] (fun k=>[vI 7 k]) (fun k=>[oO 3 p.edges,oR 5 158 (dX p k),oB 4 [.v (I id),.v (I p.prio),.v (I p.most),.v (I p.wait),.v (I p.tasks),.r 3,.v (I 1),.r 5]]) 0 fun k hk t=>let hln:=kO p k
   .s ((k:Int)<p.tasks)
    (fun h=>let hbl:=lU p (k:Int)
     .c func379 (aP9 p k) (hg:=⟨gp,trivial⟩) fun _ => .s (((aV p (k:Int)).length:Int)=0)
     (fun h3 => .a (dX p k) (⟨2,(aV p (k:Int)).length,0,0⟩:Task) 32 (hy:=aZ8 aB aB aB aB) (h63:=by unfold maxLen;omega) (hby:=by omega) <| .g 5 (aG7 h3).symm <| .p k 1 (h:=by unfold I64;omega) <| .n t (k+1) [])
     (fun h3 => .a (dX p k) (⟨1,(aV p (k:Int)).length,0,0⟩:Task) 32 (hy:=aZ8 aB aB aB aB) (h63:=by unfold maxLen;omega) (hby:=by omega) <| .g 5 (aG8 h3).symm <| .p k 1 (h:=by unfold I64;omega) <| .n t (k+1) []))
    (fun h => .g 5 (show dX p k=dX p p.tasks.toNat by rw[show k=p.tasks.toNat by omega]) <| .rt (cA id p,true) ⟨bW0 h1 h2,aS9 h1 gp,trivial⟩)))) aD
theorem RunNew_s (id:Int) (p:Plan):Ct1 prog 327 [.I id,.S p] [.S (aK4 id p),.B (mM id p)]:=
 .one (aK4 id p,mM id p) (rk:=fun q=>[.S q.1,.B q.2])<|vc func327 (fun (hg:gin [Par.I id,Par.S p])=>let gp:p.ok:=hg.1.1
  .c func138 (InV id 1 9999) fun _ => .v (inB id 1 9999) (fun h => .rt (zRun,false) ⟨bC3 (fun z=>by rw[h] at z;cases z.1),aC7,trivial⟩) (fun h1=>
  .c func325 (pJ p) (hg:=⟨gp,trivial⟩) fun _ => .u (aK p=0) (fun h => .rt (zRun,false) ⟨bC3 (fun z=>h z.2),aC7,trivial⟩) (fun h2=>let hp:=rT h2
  .c func366 (vZ p aB) (hg:=⟨gp,trivial⟩) fun _ => .wt 6 <| .r0 (inferInstance:Shape Task) 158 <|
  .l (Γ:=Nat) (fun k=>k≤p.tasks.toNat) (fun k=>p.tasks.toNat - k) [3,4,6] [1,2] [0] (fun k=>[vI 7 k]) (fun k=>[oO 3 p.edges,oR 5 158 (dX p k),oB 4 [.v (I id),.v (I p.prio),.v (I p.most),.v (I p.wait),.v (I p.tasks),.r 3,.v (I 1),.r 5]]) 0 fun k hk t=>let hln:=kO p k
   .s ((k:Int)<p.tasks)
    (fun h=>let hbl:=lU p (k:Int)
     .c func386 (aZ3 p k h2) (hg:=⟨gp,trivial⟩) fun _ => .s ((0:Int)<((aV p (k:Int)).length:Int))
     (fun h3 => .a (dX p k) (⟨1,(aV p (k:Int)).length,0,0⟩:Task) 32 (hy:=aZ8 aB aB aB aB) (h63:=by unfold maxLen;omega) (hby:=by omega) <| .g 5 (aG8 (p:=p) (k:=k) aB).symm <| .p k 1 (h:=by unfold I64;omega) <| .n t (k+1) [])
     (fun h3 => .a (dX p k) (⟨2,(aV p (k:Int)).length,0,0⟩:Task) 32 (hy:=aZ8 aB aB aB aB) (h63:=by unfold maxLen;omega) (hby:=by omega) <| .g 5 (aG7 (p:=p) (k:=k) aB).symm <| .p k 1 (h:=by unfold I64;omega) <| .n t (k+1) []))
    (fun h => .g 5 (show dX p k=dX p p.tasks.toNat by rw[show k=p.tasks.toNat by omega]) <| .rt (cA id p,true) ⟨bW0 h1 h2,aS9 h1 gp,trivial⟩)))) aD
def cC:List Entry→Entry×List Entry×Bool
 | []=>(zE,[],false)
 | e::r=>(e,r,true)
theorem bS8 {xs:List Entry} (h:(xs.length:Int)=0):(zE,[],false)=cC xs:=by
 rw[eq_nil_of_length_eq_zero (show xs.length=0 by omega)];rfl
theorem bG1 {xs:List Entry} {e:Entry} (h:xs[0]? = some e):(e,xs.drop 1,true)=cC xs:=by
 cases xs with
 | nil=>cases h
 | cons a r=>cases h;rfl
theorem TakeEntry_i (xs:List Entry) (hl:xs.length≤1048576):Ct1 prog 309 [.L xs] [.S (cC xs).1,.L (cC xs).2.1,.B (cC xs).2.2]:=
 .one (cC xs) (rk:=fun q=>[.S q.1,.L q.2.1,.B q.2.2])<|vc func309 (fun hg => .s ((xs.length:Int)=0)
  (fun h => .rt (zE,[],false) ⟨bS8 h,zE_ok,trivial⟩)
  (fun h => .x xs 0 (h:=by omega) fun e he ge => .dp inferInstance xs 1 aB 1 rfl <| .c func235 (gM (xs.drop 1) (by rw[length_drop];omega)) fun _ => .rt (e,xs.drop 1,true) ⟨bG1 he,ge,trivial⟩)) aD
theorem TakeEntry_s (xs:List Entry) (hl:xs.length≤1048576):Ct1 prog 333 [.L xs] [.S (cC xs).1,.L (cC xs).2.1,.B (cC xs).2.2]:=
 .one (cC xs) (rk:=fun q=>[.S q.1,.L q.2.1,.B q.2.2])<|vc func333 (fun hg => .s ((xs.length:Int)=0)
  (fun h => .e Entry <| .rt (zE,[],false) ⟨bS8 h,zE_ok,trivial⟩)
  (fun h => .x xs 0 (h:=by omega) fun e he ge => .dp inferInstance xs 1 aB 1 rfl <| .e Entry <| .as (inferInstance:Shape Entry) gB [] (xs.drop 1) 32 (by rw[length_drop];simp only[length_nil];unfold maxLen;omega) (by rw[length_drop];simp only[length_nil];omega) <| .rt (e,xs.drop 1,true) ⟨bG1 he,ge,trivial⟩)) aD
theorem HalfOf_i (xs:List Entry) (hl:xs.length≤1048576):Ct1 prog 307 [.L xs] [.L (xs.take (dA xs)),.L (xs.drop (dA xs))]:=
 vc func307 (fun hg=>let hh:dA xs≤xs.length:=(by unfold dA;omega)
  let he:((xs.length:Int)+1) / 2=(dA xs:Int):=(by unfold dA;omega)
  .p (xs.length:Int) 1 (h:=by unfold I64;omega) <| .q ((xs.length:Int)+1) 2 (h:=by omega) <| .tk inferInstance xs (dA xs) hh (((xs.length:Int)+1) / 2) he <| .dp inferInstance xs (dA xs) hh (((xs.length:Int)+1) / 2) he <|
  .c func235 (gM (xs.take (dA xs)) (by rw[length_take];omega)) fun _ => .c func235 (gM (xs.drop (dA xs)) (by rw[length_drop];omega)) fun _ => .rt () ⟨trivial,trivial⟩) aD
theorem HalfOf_s (xs:List Entry) (hl:xs.length≤1048576):Ct1 prog 331 [.L xs] [.L (xs.take (dA xs)),.L (xs.drop (dA xs))]:=
 vc func331 (fun hg=>let hh:dA xs≤xs.length:=(by unfold dA;omega)
  let he:((xs.length:Int)+1) / 2=(dA xs:Int):=(by unfold dA;omega)
  .p (xs.length:Int) 1 (h:=by unfold I64;omega) <| .q ((xs.length:Int)+1) 2 (h:=by omega) <| .tk inferInstance xs (dA xs) hh (((xs.length:Int)+1) / 2) he <| .dp inferInstance xs (dA xs) hh (((xs.length:Int)+1) / 2) he <|
  let one:=fun k=>D.as (P:=prog) (A:=Unit) (R:=fun _=>True∧rgd [Rk.L (xs.take (dA xs)),Rk.L (xs.drop (dA xs))]) (inferInstance:Shape Entry) gB [] (xs.take (dA xs)) 32 (by rw[length_take];simp only[length_nil];unfold maxLen;omega) (by rw[length_take];simp only[length_nil];omega) k
  let two:=D.as (P:=prog) (A:=Unit) (R:=fun _=>True∧rgd [Rk.L (xs.take (dA xs)),Rk.L (xs.drop (dA xs))]) (inferInstance:Shape Entry) gB [] (xs.drop (dA xs)) 32 (by rw[length_drop];simp only[length_nil];unfold maxLen;omega) (by rw[length_drop];simp only[length_nil];omega) (.rt () ⟨trivial,trivial⟩)
  .pm fun i=>match i with
   | 0 => .e Entry <| .pm fun i=>match i with
    | 4=>one <| .pm fun _ => .e Entry<|two
    | _ => .e Entry<|one<|two
   | _ => .e Entry <| .e Entry<|one<|two) aD
def PxF (xs:List Entry) (e:Entry):Option Nat→Prop
 | none=>rS xs e=xs.length
 | some k=>rS xs e=k∧k<xs.length
structure PxJ (xs:List Entry) (e:Entry) (k:Nat):Prop where
 le:k≤xs.length
 no:(xs.take k).any (fun x => !eZ x e)=false
theorem PxJ.next {xs:List Entry} {e x:Entry} {k:Nat} (h:PxJ xs e k) (hx:xs[k]? = some x) (ha:eZ x e=true):PxJ xs e (k+1):=by
 obtain ⟨hk,rfl⟩:=gsi_.1 hx
 exact ⟨hk,vV hk h.no (by rw[ha];rfl)⟩
theorem PxJ.hit {xs:List Entry} {e x:Entry} {k:Nat} (h:PxJ xs e k) (hx:xs[k]? = some x) (ha:eZ x e=false):rS xs e=k∧k<xs.length:=by
 obtain ⟨hk,rfl⟩:=gsi_.1 hx
 exact ⟨bH6 h.le h.no (.inr ⟨hk,ha⟩),hk⟩
theorem PxJ.all {xs:List Entry} {e:Entry} {k:Nat} (h:PxJ xs e k) (hn:¬ (k:Int)<xs.length):rS xs e=k∧k=xs.length:=by
 have:=h.le
 exact ⟨bH6 h.le h.no (.inl aB),by omega⟩
noncomputable def insInc (xs:List Entry) (y:Entry) (k:Nat) (hk:k≤xs.length) (hy:y.ok) (hxl:xs.length≤1048576) (zs:List Entry) (hz:xs.take k++y::xs.drop k=zs):Inc prog 395 (fun _:Unit=>True) where
 T:=fun s us K=>match us with
  | [.on (.ce (.rf j h)),.on (.ce (.vl v1)),.on (.ce (.lt r b n))]=>match lku s.O j,lku (cX s.O j) r with
   | some (.row i e' h' xs' fe),some (.bx b' [] cs [] t) => .e0 h h' <| .e0 e' 243 <| .e1 (⟨i,xs'⟩:Dat) ⟨instShapeEntry,xs⟩ <| .e0 v1 (I (k:Int)) <| .e0 b b' <| .e0 n 1 <| .e0 t 243 <| .e0 (cs.map Sc.val) [I y.prio,I y.seq,I y.run,I y.task] <|
     .fn fun g:Hd×List Nat=>K () (.on (.ce (.rf j g.1))) ⟨s.E,(j,.own instShapeEntry g.1 zs g.2)::cX (cX s.O j) r,lasting s.B,s.nx⟩
   | _,_ => .no
  | _ => .no
 ok:=by
  intro w0 W s us K h st fa
  split at h
  ·next j hd v1 r b n=>
   split at h
   ·next i e' h' xs' fe b' cs t hj hr=>
    obtain ⟨rfl,rfl,h2,rfl,rfl,rfl,rfl,h6,h7⟩:=h
    simp only[Dat.mk.injEq] at h2
    obtain ⟨rfl,h8,h9⟩:=h2
    obtain ⟨rfl,rfl⟩:=And.intro (eq_of_heq h8) (eq_of_heq h9)
    have st2:=St.take (rs:=[]) (by simpa [Or,S.rs] using st) hj
    rw[append_nil] at st2
    have st3:=(St.take (rs:=[_]) (st2.perm (perm_append_comm (l₂:=[_]))) hr).perm (perm_append_comm (l₁:=[_]) (l₂:=_::_))
    have st3:St w0 W (Res.row 243 hd.val xs' fe::Res.bx b ([]++cs.map Sc.val++[]) 243::Or (cX (cX s.O j) r)):=st3
    rw[nil_append,append_nil,h6] at st3
    obtain ⟨cl,_,hE⟩:=(st3.get 0 rfl).1
    obtain rfl:=xA gB hE
    refine (InsertE k st3 hk hy hxl).mono ?_
    rintro e W' ⟨v',rfl,st'⟩
    obtain ⟨fp,st'⟩:=st'.shut
    obtain ⟨hd,rfl,_⟩:=Sl.hd (bO (st'.get 0 rfl))
    exact ⟨(),.on (.ce (.rf j hd)),_,trivial,h7 (hd,fp),rfl,by rw[← hz];exact st',fa.lasting⟩
   exact h.elim
  exact h.elim
theorem aP4 (xs:List Entry) (e:Entry) (hl:xs.length≤1048576):Ct1 prog 349 [.L xs,.S e] [.L (mK xs e)]:=
 vc func349 (fun (hg:gin [Par.L xs,Par.S e])=>let ge:e.ok:=hg.2.1.1
  let fin:∀ k,rS xs e=k→k≤xs.length→D prog (fun _:Unit=>True∧rgd [Rk.L (mK xs e)]):=fun k h1 h2 => .c func235 (gM xs hl) fun _ => .iv _ func395 (insInc xs e k h2 ge hl (mK xs e) (by rw[← h1];rfl)) fun _ _ => .rt () ⟨trivial,trivial⟩
  .in_ (R':=PxF xs e) func382 (
   .la (Γ:=Nat) (PxJ xs e) (fun k=>xs.length - k) (fun k=>[vI 8 k]) (fun _=>[]) 0 (h:=⟨Nat.zero_le _,rfl⟩) fun k hJ t=>let hk:=hJ.le
    .s ((k:Int)<xs.length)
     (fun h => .x xs k (h:=by omega) fun x hx gx => .in_ (R':=fun _:Unit=>True) func394 (.c func341 (cB7 x e) (hg:=⟨gx,ge,trivial⟩) fun _ => .rt () trivial) fun _ _ => .v (eZ x e)
      (fun h1 => .rt (some k) (hJ.hit hx h1))
      (fun h1 => .p k 1 (h:=by unfold I64;omega) <| .n t (k+1) [] (hJ.next hx h1) aB))
     (fun h => .rt none ((hJ.all h).1.trans (hJ.all h).2))) fun o=>match o with
   | none=>fun ho => .kt ((-1:Int)<0) cB<|fin xs.length ho (Nat.le_refl _)
   | some k=>fun ho => .kf ((k:Int)<0) aB<|fin k ho.1 (Nat.le_of_lt ho.2)) aD
theorem aP3 (xs:List Entry) (e:Entry) (hl:xs.length≤1048576):Ct1 prog 388 [.L xs,.S e] [.L (mK xs e)]:=
 .one (mK xs e) (rk:=fun l=>[.L l])<|vc func388 (fun (hg:gin [Par.L xs,Par.S e])=>let ge:e.ok:=hg.2.1.1
  let fin:∀ k,rS xs e=k→k≤xs.length→D prog (fun l:List Entry=>l=mK xs e∧rgd [Rk.L l]):=fun k h1 h2 => .e Entry <| .tk inferInstance xs k h2 (k:Int) rfl <| .as (inferInstance:Shape Entry) gB [] (xs.take k) 32 (by rw[length_take];simp only[length_nil];unfold maxLen;omega) (by rw[length_take];simp only[length_nil];omega) <|
   .a (xs.take k) e 32 (hy:=ge) (h63:=by rw[length_take];unfold maxLen;omega) (hby:=by rw[length_take];omega) <| .dp inferInstance xs k h2 (k:Int) rfl <| .as (inferInstance:Shape Entry) gB (xs.take k++[e]) (xs.drop k) 32 (by rw[length_append,length_take,length_drop];simp only[length_cons,length_nil];unfold maxLen;omega) (by rw[length_append,length_take,length_drop];simp only[length_cons,length_nil];omega) <|
   .rt (xs.take k++[e]++xs.drop k) ⟨by rw[append_assoc,← h1];rfl,trivial⟩
  .la (Γ:=Nat) (PxJ xs e) (fun k=>xs.length - k) (fun k=>[vI 5 k]) (fun _=>[]) 0 (h:=⟨Nat.zero_le _,rfl⟩) fun k hJ t=>let hk:=hJ.le
   .s ((k:Int)<xs.length)
    (fun h => .x xs k (h:=by omega) fun x hx gx => .c func404 (cB6 x e) (hg:=⟨gx,ge,trivial⟩) fun _ => .sb (eZ x e)
     (fun h1 => .p k 1 (h:=by unfold I64;omega) <| .n t (k+1) [] (hJ.next hx h1) aB)
     (fun h1=>fin k (hJ.hit hx h1).1 hk))
    (fun h=>fin k (hJ.all h).1 hk)) aD
def aK9 (a b:List Entry) (k:Nat):List Entry:=(b.take k).foldl mK a
theorem bJ6 (a b:List Entry) (k:Nat):(aK9 a b k).length≤a.length+b.length:=by
 unfold aK9;rw[uJ,length_take];omega
theorem aU3 {a b:List Entry} {k:Nat} {e:Entry} (h:b[k]? = some e):mK (aK9 a b k) e=aK9 a b (k+1):=by
 obtain ⟨hk,rfl⟩:=gsi_.1 h
 unfold aK9;rw[foldl_put_to hk]
theorem bJ7 {a b:List Entry} {k:Nat} (h:¬ (80:Int)<(a.length:Int)+b.length) (hk:¬ (k:Int)<b.length):aK9 a b k=eB a b:=by
 unfold aK9 eB;rw[if_neg aB,take_of_length_le aB]
theorem mg_no {a b:List Entry} (h:(80:Int)<(a.length:Int)+b.length):a=eB a b:=by unfold eB;rw[if_pos aB]
theorem Merged_i (a b:List Entry) (ha:a.length≤1048576) (hb:b.length≤1048576):Ct1 prog 308 [.L a,.L b] [.L (eB a b)]:=
 vc func308 (fun hg => .c func235 (gM a ha) fun _ => .p (a.length:Int) (b.length:Int) (h:=by unfold I64;omega) <| .s ((80:Int)<(a.length:Int)+b.length)
  (fun h => .g 2 (show a=eB a b from mg_no h) <| .rt () ⟨trivial,trivial⟩)
  (fun h => .wt 18 <| .sh 2 <| .l (Γ:=Nat) (fun k=>k≤b.length) (fun k=>b.length - k) [17,18] [] [0,1] (fun k=>[vR 5 2,vI 19 k]) (fun k=>[oO 2 (aK9 a b k)]) 0 fun k hk t=>let hln:=bJ6 a b k
   .s ((k:Int)<b.length)
    (fun h2 => .x b k (h:=by omega) fun e he ge => .c func349 (aP4 (aK9 a b k) e aB) (hg:=⟨ge,trivial⟩) fun _ => .g 5 (aU3 (a:=a) he) <| .p k 1 (h:=by unfold I64;omega) <| .n t (k+1) [(2,5)])
    (fun h2 => .g 2 (bJ7 (a:=a) (b:=b) (k:=k) h h2) <| .rt () ⟨trivial,trivial⟩))) aD
theorem Merged_s (a b:List Entry) (ha:a.length≤1048576) (hb:b.length≤1048576):Ct1 prog 332 [.L a,.L b] [.L (eB a b)]:=
 vc func332 (fun hg => .e Entry <| .as (inferInstance:Shape Entry) gB [] a 32 (by simp only[length_nil];unfold maxLen;omega) (by simp only[length_nil];omega) <| .p (a.length:Int) (b.length:Int) (h:=by unfold I64;omega) <| .s ((80:Int)<(a.length:Int)+b.length)
  (fun h => .g 2 (show ([]:List Entry)++a=eB a b from mg_no h) <| .rt () ⟨trivial,trivial⟩)
  (fun h => .sh 2 <| .l (Γ:=Nat) (fun k=>k≤b.length) (fun k=>b.length - k) [1] [] [0,1] (fun k=>[vR 5 2,vI 6 k]) (fun k=>[oO 2 (aK9 a b k)]) 0 fun k hk t=>let hln:=bJ6 a b k
   .s ((k:Int)<b.length)
    (fun h2 => .x b k (h:=by omega) fun e he ge => .c func388 (aP3 (aK9 a b k) e aB) (hg:=⟨ge,trivial⟩) fun _ => .g 4 (aU3 (a:=a) he) <| .p k 1 (h:=by unfold I64;omega) <| .n t (k+1) [(2,4)])
    (fun h2 => .g 2 (bJ7 (a:=a) (b:=b) (k:=k) h h2) <| .rt () ⟨trivial,trivial⟩))) aD
theorem vic_step {home draw:Int} {k:Nat} (h:k<3):(bU home draw).take k++[pN home draw k]=(bU home draw).take (k+1):=by
 match k,h with
 | 0,_=>rfl
 | 1,_=>rfl
 | 2,_=>rfl
theorem cL5 {home:Int} (h:0≤home∧home≤3):I (qJ home 0 3)=I home:=by
 unfold qJ;rw[if_neg aB,if_neg aB,Int.min_def,if_pos aB]
theorem Victims_i (home draw:Int) (hh:0≤home∧home≤3) (hd:I64 draw):Ct1 prog 306 [.I home,.I draw] [.L (bU home draw)]:=
 vc func306 (fun hg=>let hm:0≤max draw 0∧max draw 0≤9223372036854775807:=(by unfold I64 at hd;omega)
  .c func83 (BroughtID home 0 3) fun _ => .rv 8 (I home) (y:=I (qJ home 0 3)) (cL5 hh) <| .w Int 3 5 <| .l (Γ:=Nat) (fun k=>k≤3) (fun k=>3 - k) [0,1] [] [] (fun k=>[vR 5 0,vI 6 k]) (fun k=>[oR 0 3 ((bU home draw).take k)]) 0 fun k hk t=>
   .s ((k:Int)<3)
    (fun h => .p home 1 (h:=by unfold I64;omega) <| .q (max draw 0) 3 (h:=by omega) <| .p (max draw 0 % 3) (k:Int) (h:=by unfold I64;omega) <| .q (max draw 0 % 3+k) 3 (h:=by omega) <| .p (home+1) ((max draw 0 % 3+k) % 3) (h:=by unfold I64;omega) <| .q (home+1+(max draw 0 % 3+k) % 3) 4 (h:=by omega) <|
     .a ((bU home draw).take k) (pN home draw k) 8 (hy:=by have:=aF8 home draw k hh;show I64 _;unfold I64;omega) (h63:=by rw[length_take];unfold maxLen;omega) (hby:=by rw[length_take];omega) <| .g 0 (vic_step (home:=home) (draw:=draw) (k:=k) aB) <| .p k 1 (h:=by unfold I64;omega) <| .n t (k+1) [])
    (fun h => .g 0 (show (bU home draw).take k=bU home draw by rw[show k=3 by omega];rfl) <| .rt () ⟨trivial,trivial⟩)) aD
def fQ (ts:List Task) (k:Nat):List Task:=ts.mapIdx (fun j t=>if j<k then fK t else t)
theorem leaveSTo_zero (ts:List Task):fQ ts 0=ts:=by
 apply ext_getElem?;intro i
 simp[fQ,getElem?_mapIdx]
theorem leaveSTo_len (ts:List Task) (k:Nat):(fQ ts k).length=ts.length:=by simp[fQ]
theorem aB5 {ts:List Task} {k:Nat} {t:Task} (h:ts[k]? = some t):(fQ ts k)[k]? = some t:=by simp[fQ,getElem?_mapIdx,h]
theorem leaveSTo_set {ts:List Task} {k:Nat} {t y:Task} (h:ts[k]? = some t) (hy:fK t=y):(fQ ts k).set k y=fQ ts (k+1):=by
 apply ext_getElem?;intro i
 obtain ⟨hl,rfl⟩:=gsi_.1 h
 simp only[fQ,getElem?_set,getElem?_mapIdx,length_mapIdx]
 by_cases e:k=i
 ·subst e;simp[hl,hy]
 rw[if_neg e]
 cases hi:ts[i]? with
 | none=>rfl
 | some u=>
  have:(i<k)↔(i<k+1):=by omega
  simp[this]
theorem leaveSTo_all (ts:List Task):fQ ts ts.length=dO ts:=by
 apply ext_getElem?;intro i
 simp only[fQ,dO,getElem?_mapIdx,getElem?_map]
 cases hi:ts[i]? with
 | none=>rfl
 | some u=>have:=(gsi_.1 hi).1;simp[this]
theorem leaveS1_t {t:Task} (h:¬ t.state=4) (h2:¬ t.state=5):fK t=iT t:=by unfold fK;rw[if_neg (by simp[h,h2])]
theorem leaveS1_4 {t:Task} (h:t.state=4):fK t=t:=by unfold fK;rw[if_pos (.inl h)]
theorem leaveS1_5 {t:Task} (h:t.state=5):fK t=t:=by unfold fK;rw[if_pos (.inr h)]
noncomputable def iO (r:Run) (task:Int):Bool:=eX r && (inB task 0 ((r.tasks.length:Int) - 1) && (match r.tasks[task.toNat]? with | some t=>decide (t.state=3) | none=>false))
theorem aH6 {r:Run} {task:Int} (h:iO r task=true):RunIs r∧∃ t,0≤task∧r.tasks[task.toNat]? = some t∧t.state=3:=by
 unfold iO at h
 simp only[Bool.and_eq_true] at h
 obtain ⟨h1,h2,h3⟩:=h
 refine ⟨runIs.1 h1,?_⟩
 cases hq:r.tasks[task.toNat]? with
 | none=>rw[hq] at h3;cases h3
 | some t=>rw[hq] at h3;exact ⟨t,(inB_iff'.1 h2).1,rfl,by simpa using h3⟩
noncomputable def cJ (r:Run) (task:Int):Run:=if iO r task then aN2 r task.toNat else r

def cY (r r':Run) (k:Nat):List Int:=(eS r'.tasks 2 k).filter (fun t => !decide (t∈aR r.tasks 2))
theorem freshTo_zero (r r':Run):cY r r' 0=[]:=rfl
theorem freshTo_len (r r':Run) (k:Nat):(cY r r' k).length≤k:=Nat.le_trans (length_filter_le _ _) (iL _ _ _)
theorem tin_mem {ts:List Task} {s:Int} {k:Nat}:(k:Int)∈aR ts s↔∃ h:k<ts.length,ts[k].state=s:=by
 unfold aR eS
 rw[mem_filterMap]
 constructor
 ·rintro ⟨a,ha,h⟩
  rw[mem_range] at ha
  split at h
  ·next e=>
   simp only[Option.some.injEq] at h
   have:a=k:=by omega
   subst this
   rw[getElem?_eq_getElem ha] at e
   exact ⟨ha,by simpa using e⟩
  cases h
 rintro ⟨h,e⟩
 exact ⟨k,by simpa using h,by rw[if_pos (by rw[getElem?_eq_getElem h];simpa using e)]⟩
theorem aM3 {r r':Run} {k:Nat} (h:k<r'.tasks.length) (hs:¬ r'.tasks[k].state=2):cY r r' (k+1)=cY r r' k:=by unfold cY;rw[yI h hs]
theorem freshTo_f2 {r r':Run} {k:Nat} (h:k<r'.tasks.length) (h2:k<r.tasks.length) (hs:r.tasks[k].state=2):cY r r' (k+1)=cY r r' k:=by
 by_cases hq:r'.tasks[k].state=2
 ·unfold cY
  rw[sY h hq,filter_append]
  have:(k:Int)∈aR r.tasks 2:=tin_mem.2 ⟨h2,hs⟩
  simp[this]
 exact aM3 h hq
theorem aV9 {r r':Run} {k:Nat} (h:k<r'.tasks.length) (hs:r'.tasks[k].state=2) (hn:r.tasks.length≤k∨∃ h2:k<r.tasks.length,¬ r.tasks[k].state=2):cY r r' (k+1)=cY r r' k++[(k:Int)]:=by
 unfold cY
 rw[sY h hs,filter_append]
 have:¬ (k:Int)∈aR r.tasks 2:=fun hm=>by
  obtain ⟨h2,e⟩:=tin_mem.1 hm
  rcases hn with hn | ⟨_,hn⟩
  ·omega
  exact hn e
 simp[this]
structure StJ (sh:Nat) (prio id:Int) (xss:List (List Entry)) (seq:Int) (ts:List Int) (g:Int×List (List Entry)):Prop where
 sq:g.1=seq+(ts.length:Int)
 sl:g.2=iF sh prio id ts xss seq
theorem StJ.start {sh:Nat} {prio id:Int} {xss:List (List Entry)} {seq:Int}:StJ sh prio id xss seq [] (seq,xss):=⟨by simp,rfl⟩
theorem StJ.at {sh:Nat} {prio id:Int} {xss:List (List Entry)} {seq:Int} {ts:List Int} {g:Int×List (List Entry)} (h:StJ sh prio id xss seq ts g) (hs:sh<xss.length):∃ l,g.2[sh]? = some l∧l.length=(xss.getD sh []).length+ts.length:=by
 refine ⟨g.2.getD sh [],getD_some (by rw[h.sl,nU];exact hs),by rw[h.sl];exact nV sh prio id ts xss seq hs⟩
theorem StJ.step {sh:Nat} {prio id:Int} {xss:List (List Entry)} {seq:Int} {ts:List Int} {g:Int×List (List Entry)} (h:StJ sh prio id xss seq ts g) {l:List Entry} (hl:g.2[sh]? = some l) (t:Int):StJ sh prio id xss seq (ts++[t]) (g.1+1,g.2.set sh (mK l ⟨prio,g.1,id,t⟩)):=by
 have e:g.2.getD sh []=l:=by rw[getD_eq_getElem?_getD,hl];rfl
 refine ⟨by show g.1+1=_;rw[h.sq,length_append];simp only[length_singleton];omega,?_⟩
 show g.2.set sh _=_
 rw[aA2,← h.sl,← h.sq,e]
theorem cK1 {a b c d:Int} (ha:I64 a) (hb:I64 b) (hc:I64 c) (hd:I64 d):Entry.ok ⟨a,b,c,d⟩:=⟨ha,hb,hc,hd⟩
theorem fr_f1 {was r:Run} {k:Nat} {t:Task} (ht:r.tasks[k]? = some t) (h:¬ t.state=2):cY was r (k+1)=cY was r k:=by
 obtain ⟨hk,rfl⟩:=gsi_.1 ht;exact aM3 hk h
theorem fr_f2 {was r:Run} {k:Nat} {t u:Task} (ht:r.tasks[k]? = some t) (hu:was.tasks[k]? = some u) (h:u.state=2):cY was r (k+1)=cY was r k:=by
 obtain ⟨hk,rfl⟩:=gsi_.1 ht
 obtain ⟨hk2,rfl⟩:=gsi_.1 hu;exact freshTo_f2 hk hk2 h
theorem fr_t1 {was r:Run} {k:Nat} {t:Task} (ht:r.tasks[k]? = some t) (h:t.state=2) (hl:¬ (k:Int)<was.tasks.length):cY was r (k+1)=cY was r k++[(k:Int)]:=by
 obtain ⟨hk,rfl⟩:=gsi_.1 ht;exact aV9 hk h (.inl aB)
theorem fr_t2 {was r:Run} {k:Nat} {t u:Task} (ht:r.tasks[k]? = some t) (h:t.state=2) (hu:was.tasks[k]? = some u) (h2:¬ u.state=2):cY was r (k+1)=cY was r k++[(k:Int)]:=by
 obtain ⟨hk,rfl⟩:=gsi_.1 ht
 obtain ⟨hk2,rfl⟩:=gsi_.1 hu;exact aV9 hk h (.inr ⟨hk2,h2⟩)
abbrev vW (r:Run) (ts:List Int) (seq:Int) (xss:List (List Entry)) (q:Int×List (List Entry)):Prop:=q=(seq+(ts.length:Int),iF (aX r.id).toNat r.plan.prio r.id ts xss seq)
theorem stk_q {r:Run} {ts:List Int} {seq:Int} {xss:List (List Entry)} {k:Nat} {g:Int×List (List Entry)} (h:StJ (aX r.id).toNat r.plan.prio r.id xss seq (ts.take k) g) (hk:¬ (k:Int)<ts.length):vW r ts seq xss g:=by
 have h1:=h.sq
 have h2:=h.sl
 rw[take_of_length_le aB] at h1 h2
 exact Prod.ext h1 h2
noncomputable def cE5 (yb sn rn:Nat) (now seq:Int) (xss:List (List Entry)) (r:Run) (ts:List Int) (hs:4≤xss.length) (hln:(xss.getD (aX r.id).toNat []).length+ts.length≤1048576) (hsq:0≤seq∧seq≤4000000000) (gr:r.ok):D prog (vW r ts seq xss):=
 let hsr:=iN r.id
 .c func348 (ShelfOf_i r.id) fun _=>
  .la (Γ:=Nat×Int×List (List Entry)) (fun g=>g.1≤ts.length∧StJ (aX r.id).toNat r.plan.prio r.id xss seq (ts.take g.1) g.2) (fun g=>ts.length - g.1) (fun g=>[vI 14 g.1]) (fun g=>[oO sn g.2.2,oB yb [.v (I now),.v (I g.2.1),.r sn,.r rn]]) (0,seq,xss) (h:=⟨Nat.zero_le _,StJ.start⟩) fun g hJ tk=>
   let hq:=hJ.2.sq
   let htl:(ts.take g.1).length≤ts.length:=(by rw[length_take];omega)
   .s ((g.1:Int)<ts.length)
    (fun h => .ex (hJ.2.at aB) fun l hl => .x ts g.1 (h:=by omega) fun t ht gt => .d sn hl.1 fun _ => .ie (aX r.id).toNat (aX r.id) (he:=by omega) <|
     .c func349 (aP4 l ⟨r.plan.prio,g.2.1,r.id,t⟩ (by have:=hl.2;omega)) (hg:=⟨cK1 gr.2.1.1 (by unfold I64;omega) gr.1 gt,trivial⟩) fun _ => .ie (aX r.id).toNat (aX r.id) (he:=by omega) <| .wt 42 <| .f sn g.2.2 (mK l ⟨r.plan.prio,g.2.1,r.id,t⟩) (h:=trivial) <|
     .p g.2.1 1 (h:=by unfold I64;omega) <| .p g.1 1 (h:=by unfold I64;omega) <| .n tk (g.1+1,g.2.1+1,g.2.2.set (aX r.id).toNat (mK l ⟨r.plan.prio,g.2.1,r.id,t⟩)) [] (h1:=⟨by show g.1+1≤_;omega,by show StJ _ _ _ _ _ (ts.take (g.1+1)) _;rw[← dS ht];exact hJ.2.step hl.1 t⟩) (h2:=by show ts.length - (g.1+1)<_;omega))
    (fun h => .rt g.2 (stk_q hJ.2 h))
def sU (r r':Run) (j:Nat):List Int:=((aR r'.tasks 2).take j).filter (fun t => !decide (t∈aR r.tasks 2))
theorem chgTo_len (r r':Run) (j:Nat):(sU r r' j).length≤j:=Nat.le_trans (length_filter_le _ _) (by rw[length_take];omega)
theorem chgTo_t {r r':Run} {j:Nat} {v:Int} (h:(aR r'.tasks 2)[j]? = some v) (hn:¬ v∈aR r.tasks 2):sU r r' j++[v]=sU r r' (j+1):=by
 unfold sU
 rw[← dS h,filter_append]
 simp[hn]
theorem chgTo_f {r r':Run} {j:Nat} {v:Int} (h:(aR r'.tasks 2)[j]? = some v) (hn:v∈aR r.tasks 2):sU r r' j=sU r r' (j+1):=by
 unfold sU
 rw[← dS h,filter_append]
 simp[hn]
theorem chgTo_e {r r':Run} {j:Nat} (h:¬ (j:Int)<(aR r'.tasks 2).length):sU r r' j=fL r r':=by
 unfold sU fL
 rw[take_of_length_le aB]
noncomputable def aF1 (yb sn rn w:Nat) (now seq:Int) (xss:List (List Entry)) (runs:List Run) (k:Nat) (ki:Int) (hki:ki=k) (r r':Run) (hr:runs[k]? = some r) (hrl:r.tasks.length≤1000) (hrl':r'.tasks.length≤1000) (gr:r.ok) (gr':r'.ok) (hs:4≤xss.length) (hln:(xss.getD (aX r'.id).toNat []).length≤1000000) (hsq:0≤seq∧seq≤4000000000)
  (how:D prog (vW r' (fL r r') seq xss)→D prog (vW r' (fL r r') seq xss)):D prog (vW r' (fL r r') seq xss):=
 let hti:(aR r'.tasks 2).length≤r'.tasks.length:=iL r'.tasks 2 r'.tasks.length
 let hff:=pC r r'
 .d rn hr fun _ => .ie k ki (he:=hki) <| .c func30 (lV r 2 aB) (hg:=⟨gr,trivial⟩) fun _ => .ie k ki (he:=hki)<|how <| .w Int 3 7 <| .ie k ki (he:=hki) <| .c func30 (lV r' 2 aB) (hg:=⟨gr',trivial⟩) fun _=>
  .la (Γ:=Nat) (fun j=>j≤(aR r'.tasks 2).length) (fun j=>(aR r'.tasks 2).length - j) (fun j=>[vI 35 j,vR 7 w]) (fun j=>[oR w 3 (sU r r' j)]) 0 fun j hj t=>let hcl:=chgTo_len r r' j
   .s ((j:Int)<(aR r'.tasks 2).length)
    (fun h => .x (aR r'.tasks 2) j (h:=by omega) fun v hv gv => .c func230 (cB5 (aR r.tasks 2) v (by have:=iL r.tasks 2 r.tasks.length;show (eS r.tasks 2 r.tasks.length).length≤_;omega)) fun _ => .u (v∈aR r.tasks 2)
     (fun h2 => .a (sU r r' j) v 8 (h63:=by unfold maxLen;omega) (hby:=by omega) <| .g w (chgTo_t hv h2) <| .p j 1 (h:=by unfold I64;omega) <| .n t (j+1) [])
     (fun h2 => .g w (chgTo_f hv h2) <| .p j 1 (h:=by unfold I64;omega) <| .n t (j+1) []))
    (fun h => .g w (chgTo_e (r:=r) h) <| .ie k ki (he:=hki) <| .in_ func237 (cE5 yb sn rn now seq xss r' (fL r r') hs aB hsq gr') fun q hq => .wt 999 <| .f rn runs r' (h:=gr') <| .rt q hq)
theorem lay_q {was r:Run} {seq:Int} {xss:List (List Entry)} {k:Nat} {g:Int×List (List Entry)} (h:StJ (aX r.id).toNat r.plan.prio r.id xss seq (cY was r k) g) (hk:k≤r.tasks.length) (hn:¬ (k:Int)<r.tasks.length):vW r (fL was r) seq xss g:=by
 have e:cY was r k=fL was r:=by rw[show k=r.tasks.length by omega];rfl
 exact Prod.ext (by rw[← e];exact h.sq) (by rw[← e];exact h.sl)
noncomputable def layD (z:Bool) (b sn rn:Nat) (now seq:Int) (xss:List (List Entry)) (was r:Run) (hs:4≤xss.length) (hln:(xss.getD (aX r.id).toNat []).length≤1000000) (hrl:r.tasks.length≤1000) (hsq:0≤seq∧seq≤4000000000) (gr:r.ok) (hz:z=true→was.tasks=[]):D prog (vW r (fL was r) seq xss):=
 let hsr:=iN r.id
 .c func387 (ShelfOf_s r.id) fun _=>
  .la (Γ:=Nat×Int×List (List Entry)) (fun g=>g.1≤r.tasks.length∧StJ (aX r.id).toNat r.plan.prio r.id xss seq (cY was r g.1) g.2) (fun g=>r.tasks.length - g.1) (fun g=>[vI 8 g.1]) (fun g=>[oO sn g.2.2,oB b [.v (I now),.v (I g.2.1),.r sn,.r rn]]) (0,seq,xss) (h:=⟨Nat.zero_le _,by rw[freshTo_zero];exact StJ.start⟩) fun g hJ tk=>
   let hq:=hJ.2.sq
   let hfl:=freshTo_len was r g.1
   .s ((g.1:Int)<r.tasks.length)
    (fun h => .x r.tasks g.1 (h:=by omega) fun t ht gt=>
     let skip:cY was r (g.1+1)=cY was r g.1→D prog (vW r (fL was r) seq xss):=fun hf => .p g.1 1 (h:=by unfold I64;omega) <| .n tk (g.1+1,g.2) [] (h1:=⟨by show g.1+1≤_;omega,by show StJ _ _ _ _ _ (cY was r (g.1+1)) _;rw[hf];exact hJ.2⟩) (h2:=by show r.tasks.length - (g.1+1)<_;omega)
     let put:cY was r (g.1+1)=cY was r g.1++[(g.1:Int)]→D prog (vW r (fL was r) seq xss):=fun hf => .ex (hJ.2.at aB) fun l hl => .d sn hl.1 fun _ => .ie (aX r.id).toNat (aX r.id) (he:=by omega) <|
      .c func388 (aP3 l ⟨r.plan.prio,g.2.1,r.id,g.1⟩ (by have:=hl.2;omega)) (hg:=⟨cK1 gr.2.1.1 (by unfold I64;omega) gr.1 (by unfold I64;omega),trivial⟩) fun _ => .ie (aX r.id).toNat (aX r.id) (he:=by omega) <| .wt 60 <| .f sn g.2.2 (mK l ⟨r.plan.prio,g.2.1,r.id,g.1⟩) (h:=trivial) <|
      .p g.2.1 1 (h:=by unfold I64;omega) <| .p g.1 1 (h:=by unfold I64;omega) <| .n tk (g.1+1,g.2.1+1,g.2.2.set (aX r.id).toNat (mK l ⟨r.plan.prio,g.2.1,r.id,g.1⟩)) [] (h1:=⟨by show g.1+1≤_;omega,by show StJ _ _ _ _ _ (cY was r (g.1+1)) _;rw[hf];exact hJ.2.step hl.1 g.1⟩) (h2:=by show r.tasks.length - (g.1+1)<_;omega)
     .u (t.state=2)
      (fun h2=>skip (fr_f1 ht h2))
      (fun h2 => .s ((g.1:Int)<was.tasks.length)
       (fun h3=>match z,hz with
        | true,hz => .ab (by rw[hz rfl] at h3;simp at h3;omega)
        | false,_ => .x was.tasks g.1 (h:=by omega) fun u hu gu => .s (u.state=2)
         (fun h4=>skip (fr_f2 ht hu h4))
         (fun h4=>put (fr_t2 ht h2 hu h4)))
       (fun h3=>put (fr_t1 ht h2 h3))))
    (fun h => .rt g.2 (lay_q hJ.2 hJ.1 h))
theorem aZ7 {y:Yard} {k:Nat} {was r:Run} {q:Int×List (List Entry)} (hq:vW r (fL was r) y.seq y.shelf q):(⟨y.now,q.1,q.2,y.runs.set k r⟩:Yard)=dW y k was r:=by
 have hq:q=_:=hq
 rw[hq];rfl
theorem bE5 (y:Yard) (e:Int) (k:Nat) (was r:Run) (he:e=k) (hk:y.runs[k]? = some was) (hss:4≤y.shelf.length) (hrl:r.tasks.length≤1000) (hln:(y.shelf.getD (aX r.id).toNat []).length≤1000000) (hsq:0≤y.seq∧y.seq≤4000000000) (gr:r.ok) (gy:(dW y k was r).ok) :
  Cw prog 336 [.ow inferInstance y,.bw (.I e),.ow inferInstance r] (fun _:Unit=>True) (fun _=>[.S (dW y k was r)]):=
 Cw.one (dW y k was r) (rk:=fun x=>[.S x])<|vcw func336 (fun hg => .d 1 hk fun gw => .ie k e (he:=he) <| .ie k e (he:=he) <| .in_ func328 (layD false 11 0 1 y.now y.seq y.shelf was r hss hln hrl hsq gr (fun z=>by cases z)) fun q hq=>
  .wt 999 <| .f 1 y.runs r (h:=gr) <| .rt ⟨y.now,q.1,q.2,y.runs.set k r⟩ ⟨aZ7 hq,by rw[aZ7 hq];exact gy,trivial⟩) aD
theorem as_b {P:Program} {F:FuncId} {ps:List Par} {b:Bool} {w:World} {us:List Value} (C:Ct1 P F ps [.B b]) (hp:Pars w us ps):Calls P F us.toArray w fun e w'=>e = .returned (.bool b)∧St w w' []:=(C.run w us trivial hp).mono fun e W ⟨_,vs,rs,_,he,hr,st⟩=>by
 match vs,hr with
 | [u],hr=>
  obtain ⟨r1,r2,⟨h1,h4⟩,h2,h3⟩:=hr
  have h2:r2=[]:=h2
  subst h1 h4 h2 h3
  exact ⟨he,st⟩
theorem as_s {P:Program} {F:FuncId} {ps:List Par} {x:Yard} {w:World} {us:List Value} (C:Ct1 P F ps [.S x]) (hp:Pars w us ps):Calls P F us.toArray w fun e w'=>∃ (cs':List Value) (fp':List Nat),e = .returned (.agg cs'.toArray)∧St w w' [Res.own (.agg cs'.toArray) x fp']:=(C.run w us trivial hp).mono fun e W ⟨_,vs,rs,_,he,hr,st⟩=>by
 match vs,hr with
 | [u],hr=>
  obtain ⟨r1,r2,h1,h2,h3⟩:=hr
  obtain ⟨cs,fp,hv1,hr1⟩:=h1
  have h2:r2=[]:=h2
  subst h2 h3 hr1 hv1
  have st2:St w W (Res.cs cs x fp::[]):=st
  exact ⟨cs,fp,he,st2.trade1 rfl fun h=>⟨⟨cs,rfl,h.1⟩,h.2⟩⟩
theorem CopyYardR_i (y:Yard) (hw:y.wt≤1048576):Ct1 prog 119 [.S y] [.cl [.v (I y.now),.v (I y.seq),.o (inferInstance:Shape (List Entry)) y.shelf,.r (inferInstance:Shape Run) 55 y.runs]]:=
 vc func119 (fun (hg:gin [Par.S y])=>let hb:=fH y hw
  .wt 14 <| .r0 (inferInstance:Shape (List Entry)) 217 <| .l (Γ:=Nat) (fun k=>k≤y.shelf.length) (fun k=>y.shelf.length - k) [1,2,3,14,15] [2,3] [0,1] (fun k=>[vI 16 k]) (fun k=>[oR 5 217 (y.shelf.take k),oB 4 [.v (I y.now),.v (I y.seq),.r 5,.v (.slice none 0 0)]]) 0 fun k hk t=>
   .s ((k:Int)<y.shelf.length)
    (fun h => .x y.shelf k (h:=by omega) fun l hl gl => .c func235 (gM l (lO hl hw)) fun _ => .a (y.shelf.take k) l 24 (hy:=trivial) (h63:=by rw[length_take];unfold maxLen;omega) (hby:=by rw[length_take];omega) <| .g 5 (dS hl) <| .p k 1 (h:=by unfold I64;omega) <| .n t (k+1) [])
    (fun h => .g 5 (mI h) <| .r0 (inferInstance:Shape Run) 55 <| .l (Γ:=Nat) (fun k=>k≤y.runs.length) (fun k=>y.runs.length - k) [1,2,3,29,30] [2,3] [0,1] (fun k=>[vI 31 k]) (fun k=>[oR 5 217 y.shelf,oR 6 55 (y.runs.take k),oB 4 [.v (I y.now),.v (I y.seq),.r 5,.r 6]]) 0 fun k hk t=>
     .s ((k:Int)<y.runs.length)
      (fun h2 => .x y.runs k (h:=by omega) fun r hr gr=>let hrl:=jT hw hr
       .c func236 (zU r hrl.2.2 hrl.2.1) (hg:=⟨gr,trivial⟩) fun _ => .a (y.runs.take k) r 96 (hy:=gr) (h63:=by rw[length_take];unfold maxLen;omega) (hby:=by rw[length_take];omega) <| .g 6 (dS hr) <| .p k 1 (h:=by unfold I64;omega) <| .n t (k+1) [])
      (fun h2 => .g 6 (mI h2) <| .rt () ⟨trivial,trivial⟩))) aD
theorem YardOkT {y:Yard} (hc:Shape.C w cs y fp) (hw:y.wt≤1048576) :
  Calls prog 185 #[.agg cs.toArray] w fun e w'=>e = .returned (.bool (aM y))∧St w w' []:=as_b (us:=[.agg cs.toArray]) (lE y hw) ⟨⟨cs,fp,rfl,hc⟩,trivial⟩
theorem CopyYardT {y:Yard} (hc:Shape.C w cs y fp) (hw:y.wt≤1048576) :
  Calls prog 184 #[.agg cs.toArray] w fun e w'=>∃ (cs':List Value) (fp':List Nat),e = .returned (.agg cs'.toArray)∧St w w' [Res.own (.agg cs'.toArray) y fp']:=as_s (us:=[.agg cs.toArray]) (fU y hw) ⟨⟨cs,fp,rfl,hc⟩,trivial⟩
theorem CopyYardR_s (y:Yard) (hw:y.wt≤1048576):Ct1 prog 184 [.S y] [.cl [.v (I y.now),.v (I y.seq),.o (inferInstance:Shape (List Entry)) y.shelf,.r (inferInstance:Shape Run) 55 y.runs]]:=
 vc func184 (fun (hg:gin [Par.S y])=>let hb:=fH y hw
  .wt 4 <| .r0 (inferInstance:Shape (List Entry)) 217 <| .l (Γ:=Nat) (fun k=>k≤y.shelf.length) (fun k=>y.shelf.length - k) [1,2,3] [2,3] [0,1] (fun k=>[vI 4 k]) (fun k=>[oR 5 217 (y.shelf.take k),oB 4 [.v (I y.now),.v (I y.seq),.r 5,.v (.slice none 0 0)]]) 0 fun k hk t=>
   .s ((k:Int)<y.shelf.length)
    (fun h => .x y.shelf k (h:=by omega) fun l hl gl=>let hll:=lO hl hw
     .e Entry <| .as (inferInstance:Shape Entry) gB [] l 32 (by simp only[length_nil];unfold maxLen;omega) (by simp only[length_nil];omega) <| .a (y.shelf.take k) l 24 (hy:=trivial) (h63:=by rw[length_take];unfold maxLen;omega) (hby:=by rw[length_take];omega) <| .g 5 (dS hl) <| .p k 1 (h:=by unfold I64;omega) <| .n t (k+1) [])
    (fun h => .g 5 (mI h) <| .r0 (inferInstance:Shape Run) 55 <| .l (Γ:=Nat) (fun k=>k≤y.runs.length) (fun k=>y.runs.length - k) [1,2,3] [2,3] [0,1] (fun k=>[vI 5 k]) (fun k=>[oR 5 217 y.shelf,oR 6 55 (y.runs.take k),oB 4 [.v (I y.now),.v (I y.seq),.r 5,.r 6]]) 0 fun k hk t=>
     .s ((k:Int)<y.runs.length)
      (fun h2 => .x y.runs k (h:=by omega) fun r hr gr=>let hrl:=jT hw hr
       .c func288 (nQ r hrl.2.2 hrl.2.1) (hg:=⟨gr,trivial⟩) fun _ => .a (y.runs.take k) r 96 (hy:=gr) (h63:=by rw[length_take];unfold maxLen;omega) (hby:=by rw[length_take];omega) <| .g 6 (dS hr) <| .p k 1 (h:=by unfold I64;omega) <| .n t (k+1) [])
      (fun h2 => .g 6 (mI h2) <| .rt () ⟨trivial,trivial⟩))) aD
def oY (t:Task):Task:=⟨if t.need - 1=0 then 2 else t.state,t.need - 1,t.try_,t.until_⟩
def uN (ts:List Task) (k:Int):List Task:=match ts[k.toNat]? with | some t=>ts.set k.toNat (oY t) | none=>ts
def rX (ts:List Task) (l:List Int):List Task:=l.foldl uN ts
theorem aY0 (ts:List Task) (l:List Int):rX ts (l.take 0)=ts:=rfl
theorem behSt_at {ts:List Task} {k:Int} {t:Task} (h:ts[k.toNat]? = some t):uN ts k=ts.set k.toNat (oY t):=by unfold uN;rw[h]
theorem bZ8 {ts:List Task} {l:List Int} {j:Nat} {k:Int} {t u:Task} (hl:l[j]? = some k) (h:(rX ts (l.take j))[k.toNat]? = some t) (hu:oY t=u):rX ts (l.take (j+1))=(rX ts (l.take j)).set k.toNat u:=by
 obtain ⟨hj,rfl⟩:=gsi_.1 hl
 rw[take_succ_eq_append_getElem hj]
 unfold rX at h ⊢
 rw[foldl_append,foldl_cons,foldl_nil,behSt_at h,hu]
theorem bW8 {t:Task} (h:t.need - 1=0):oY t=⟨2,t.need - 1,t.try_,t.until_⟩:=by unfold oY;rw[if_pos h]
theorem bW7 {t:Task} (h:¬ t.need - 1=0):oY t=⟨t.state,t.need - 1,t.try_,t.until_⟩:=by unfold oY;rw[if_neg h]
theorem behSt_len (ts:List Task) (k:Int):(uN ts k).length=ts.length:=by unfold uN;split <;> simp
theorem aO9 (ts:List Task):∀ l:List Int,(rX ts l).length=ts.length
 | []=>rfl
 | k::l=>by
  show (rX (uN ts k) l).length=_
  rw[aO9 _ l,behSt_len]
theorem behSt_all {P:Task→Prop} {ts:List Task} (h:∀ t∈ts,P t) (hs:∀ t,P t→P (oY t)) (k:Int):∀ t∈uN ts k,P t:=by
 intro t ht
 unfold uN at ht
 split at ht
 ·next u hu=>
  rcases mem_or_eq_of_mem_set ht with h1 | rfl
  ·exact h t h1
  exact hs u (h u (mem_of_getElem? hu))
 exact h t ht
theorem aP0 {P:Task→Prop} (hs:∀ t,P t→P (oY t)):∀ (l:List Int) {ts:List Task},(∀ t∈ts,P t)→∀ t∈rX ts l,P t
 | [],ts,h=>h
 | k::l,ts,h=>aP0 hs l (behSt_all h hs k)
theorem behSt_need {ts:List Task} {a b:Int} (h:∀ t∈ts,a≤t.need∧t.need≤b) (k:Int):∀ t∈uN ts k,a - 1≤t.need∧t.need≤b:=by
 intro t ht
 unfold uN at ht
 split at ht
 ·next u hu=>
  rcases mem_or_eq_of_mem_set ht with h1 | rfl
  ·have:=h t h1;omega
  have:=h u (mem_of_getElem? hu)
  simp only[oY];omega
 have:=h t ht;omega
theorem aY1:∀ (l:List Int) {ts:List Task} {a b:Int},(∀ t∈ts,a≤t.need∧t.need≤b)→∀ t∈rX ts l,a - l.length≤t.need∧t.need≤b
 | [],ts,a,b,h=>fun t ht=>by have:=h t ht;simp;omega
 | k::l,ts,a,b,h=>fun t ht=>by
  have:=aY1 l (behSt_need h k) t ht
  simp only[length_cons];omega
noncomputable def dD (r:Run) (i:Nat) (t:Task):List Task:=rX (r.tasks.set i ⟨4,t.need,t.try_,0⟩) (bP r.plan (i:Int))
noncomputable def bM2 (r:Run) (i:Nat) (t:Task):Run:=⟨r.id,r.plan,if aU (dD r i t) 4=((dD r i t).length:Int) then 2 else r.state,dD r i t⟩
noncomputable def jR (r:Run) (i:Nat):Run:=match r.tasks[i]? with | some t=>bM2 r i t | none=>r
theorem aN7 {r:Run} {i:Nat} {t:Task} (h:r.tasks[i]? = some t):jR r i=bM2 r i t:=by unfold jR;rw[h]
theorem vO (r:Run) (i:Nat) (t:Task):(dD r i t).length=r.tasks.length:=by unfold dD;rw[aO9,length_set]
theorem pG (r:Run) (i:Nat):(jR r i).id=r.id∧(jR r i).plan=r.plan∧(jR r i).tasks.length=r.tasks.length∧((jR r i).state=r.state∨(jR r i).state=2):=by
 unfold jR
 split
 ·next t h=>
  refine ⟨rfl,rfl,vO r i t,?_⟩
  show (if _ then (2:Int) else r.state)=_∨(if _ then (2:Int) else r.state)=_
  split
  ·exact .inr rfl
  exact .inl rfl
 exact ⟨rfl,rfl,rfl,.inl rfl⟩
theorem doneR_ok {r:Run} (h:r.ok) (i:Nat):(jR r i).ok:=by
 obtain ⟨h1,h2,h3,h4⟩:=pG r i
 unfold Run.ok at h ⊢
 rw[h1,h2]
 refine ⟨h.1,h.2.1,?_⟩
 rcases h4 with h4 | h4
 ·rw[h4];exact h.2.2
 rw[h4];unfold I64;omega
theorem doneT_state {r:Run} (h:RunIs r) {i:Nat} {t:Task} (ht:r.tasks[i]? = some t) (h3:t.state=3):cM (dD r i t)=(if aU (dD r i t) 4=((dD r i t).length:Int) then 2 else r.state):=by
 have hm:=mem_of_getElem? ht
 have hl:=h.live hm h3
 have h56:∀ u∈dD r i t,¬ u.state=5∧¬ u.state=6:=by
  unfold dD
  refine aP0 (P:=fun u=>¬ u.state=5∧¬ u.state=6) (fun u hu => ?_) _ (fun u hu => ?_)
  ·unfold oY;simp only;split
   ·omega
   exact hu
  rcases mem_or_eq_of_mem_set hu with h1 | rfl
  ·exact h.none5 hm h3 u h1
  exact ⟨by show ¬ (4:Int)=5;omega,by show ¬ (4:Int)=6;omega⟩
 have c5:=zK (s:=5) (fun u hu=>(h56 u hu).1)
 have c6:=zK (s:=6) (fun u hu=>(h56 u hu).2)
 unfold cM
 by_cases c4:aU (dD r i t) 4=((dD r i t).length:Int)
 ·rw[if_pos c4,if_pos c4]
 rw[if_neg c4,if_neg c4,if_neg aB,if_neg aB,if_pos ⟨c5,c6⟩,hl.1]
theorem doneTs_st {r:Run} (h:RunIs r) {i:Nat} {t:Task} (ht:r.tasks[i]? = some t):∀ u∈dD r i t,1≤u.state∧u.state≤6:=by
 unfold dD
 refine aP0 (P:=fun u=>1≤u.state∧u.state≤6) (fun u hu => ?_) _ (fun u hu => ?_)
 ·unfold oY;simp only;split
  ·omega
  exact hu
 rcases mem_or_eq_of_mem_set hu with h1 | rfl
 ·obtain ⟨k,hk,rfl⟩:=getElem_of_mem h1
  exact (h.task k hk hk).1
 exact ⟨by show (1:Int)≤4;omega,by show (4:Int)≤6;omega⟩
theorem RunIs.need {r:Run} (h:RunIs r):∀ t∈r.tasks,0≤t.need∧t.need≤30:=by
 intro t ht
 obtain ⟨k,hk,rfl⟩:=getElem_of_mem ht
 have h2:=(h.task k hk hk).2.1
 have h3:=aK5 r (aV r.plan (k:Int))
 have h4:=lU r.plan (k:Int)
 rw[h2];unfold iR;omega
theorem done_need {r:Run} (h:RunIs r) {i:Nat} {t:Task} (ht:r.tasks[i]? = some t) (l:List Int) (hl:l.length≤30):∀ u∈rX (r.tasks.set i ⟨4,t.need,t.try_,0⟩) l,-30≤u.need∧u.need≤30:=by
 intro u hu
 have:=aY1 l (a:=0) (b:=30) (fun u hu=>by
  rcases mem_or_eq_of_mem_set hu with h1 | rfl
  ·exact h.need u h1
  exact h.need t (mem_of_getElem? ht)) u hu
 omega
theorem bS5 {i:Int} (h:0≤i):((i.toNat:Nat):Int)=i:=Int.toNat_of_nonneg h
theorem aR7 {t:Task} {a:Int} (g:t.ok) (ha:0≤a∧a≤100):Task.ok ⟨a,t.need,t.try_,0⟩:=⟨by show I64 a;unfold I64;omega,g.2.1,g.2.2.1,by show I64 0;unfold I64;omega⟩
theorem aL2 {r:Run} (h:RunIs r):r.plan.edges.length≤1048576∧r.tasks.length≤1048576:=by have:=h.small;omega
theorem rd_ts {r:Run} {task:Int} {t:Task} {k:Nat} (h0:0≤task) (hk:k=(bP r.plan task).length):rX (r.tasks.set task.toNat ⟨4,t.need,t.try_,0⟩) ((bP r.plan task).take k)=dD r task.toNat t:=by
 unfold dD;rw[bS5 h0,hk,take_length]
theorem rd_in {r:Run} {task:Int} {t:Task} (hR:RunIs r) (ht:r.tasks[task.toNat]? = some t) (k:Nat) (hk:k<(bP r.plan task).length):∃ q:Int×Task,(bP r.plan task)[k]? = some q.1∧(rX (r.tasks.set task.toNat ⟨4,t.need,t.try_,0⟩) ((bP r.plan task).take k))[q.1.toNat]? = some q.2∧0≤q.1∧(-30≤q.2.need∧q.2.need≤30):=by
 have hb:=behind_rng r.plan task _ (getElem_mem hk)
 have hl:=aO9 (r.tasks.set task.toNat ⟨4,t.need,t.try_,0⟩) ((bP r.plan task).take k)
 rw[length_set] at hl
 have hil:=hR.len
 have hx:(bP r.plan task)[k].toNat<(rX (r.tasks.set task.toNat ⟨4,t.need,t.try_,0⟩) ((bP r.plan task).take k)).length:=by omega
 exact ⟨((bP r.plan task)[k],_),getElem?_eq_getElem hk,getElem?_eq_getElem hx,hb.1,done_need hR ht _ (by rw[length_take];have:=vS r.plan task;omega) _ (getElem_mem hx)⟩
theorem aD0 {u:Task} (g:u.ok) (h : -30≤u.need∧u.need≤30) (s:Int) (hs:I64 s):Task.ok ⟨s,u.need - 1,u.try_,u.until_⟩:=⟨hs,by show I64 (u.need - 1);unfold I64;omega,g.2.2.1,g.2.2.2⟩
abbrev runB (r:Run) (ts:List Task) (b e t:Nat):List (Nat×To):=[oB b [.v (I r.id),.v (I r.plan.prio),.v (I r.plan.most),.v (I r.plan.wait),.v (I r.plan.tasks),.r e,.v (I r.state),.r t],oO t ts]
theorem leaveTo_end {ts:List Task} {b:Int} {k:Nat} (hk:k≤ts.length) (h:¬ (k:Int)<ts.length):jV ts b k=hQ ts b:=by rw[show k=ts.length by omega,leaveTo_all]
theorem leaveOne_ok {u:Task} (g:u.ok):(iT u).ok:=⟨by show I64 6;unfold I64;omega,g.2.1,g.2.2.1,by show I64 0;unfold I64;omega⟩
theorem cB0 (r:Run) (b:Int) (hl:r.tasks.length≤1048576):Cm prog 238 [.I b] inferInstance r (fun _:Unit=>True) (fun _=>leaveR r b) (fun _=>[]):=
 vcm func238 (fun hg hn => .wt 11 <| .g 2 (leaveTo_zero r.tasks b).symm <| .l (Γ:=Nat) (fun k=>k≤r.tasks.length) (fun k=>r.tasks.length - k) [0,1,10] [1,1000000] [] (fun k=>[vI 11 k]) (fun k=>runB r (jV r.tasks b k) 0 1 2) 0 fun k hk t=>
  .s ((k:Int)<r.tasks.length)
   (fun h => .ex (p:=fun u=>r.tasks[k]? = some u) ⟨_,getElem?_eq_getElem (show k<r.tasks.length by omega)⟩ fun u hu => .d 2 (leaveTo_at (but:=b) hu) fun gu=>
    let fin:∀ v:Task,hU b k u=v→Task.ok v→D prog (fun _:Unit=>True∧rgd []):=fun v hv gv => .p k 1 (h:=by unfold I64;omega) <| .wt 36 <| .f 2 (jV r.tasks b k) v (h:=gv) <| .g 2 (leaveTo_set hu hv) <| .n t (k+1) []
    .i k <| .u ((k:Int)=b)
     (fun h1 => .u (u.state=4) (fun h2=>fin (iT u) (leaveIf_t h1 h2) (leaveOne_ok gu)) (fun h2=>fin u (leaveIf_d h2) gu))
     (fun h1=>fin u (leaveIf_b h1) gu))
   (fun h => .g 2 (leaveTo_end (b:=b) hk h) <| .rt () ⟨trivial,trivial⟩)) aD
theorem fl_a {r:Run} {i:Int} {t:Task} (ht:r.tasks[i.toNat]? = some t) (h:t.try_<r.plan.most):(⟨r.id,r.plan,r.state,r.tasks.set i.toNat ⟨2,t.need,t.try_,0⟩⟩:Run)=cN r i.toNat:=by rw[zG ht];unfold rJ;rw[if_pos h]
theorem fl_b {r:Run} {i:Int} {t:Task} (h0:0≤i) (ht:r.tasks[i.toNat]? = some t) (h:¬ t.try_<r.plan.most):(⟨r.id,r.plan,3,hQ (r.tasks.set i.toNat ⟨5,t.need,t.try_,0⟩) i⟩:Run)=cN r i.toNat:=by rw[zG ht];unfold rJ;rw[if_neg h,bS5 h0]
theorem bF0 (r:Run) (i:Int) (t:Task) (h0:0≤i) (ht:r.tasks[i.toNat]? = some t) (hl:r.tasks.length≤1048576):Cm prog 123 [.I i] inferInstance r (fun _:Unit=>True) (fun _=>cN r i.toNat) (fun _=>[]):=
 Cm.one (cN r i.toNat) (y:=fun a=>a) (rk:=fun _=>[])<|vcm func123 (fun hg hn => .d 2 ht fun gt => .ie i.toNat i (he:=by omega) <| .s (t.try_<r.plan.most)
  (fun h => .wt 999 <| .f 2 r.tasks ⟨2,t.need,t.try_,0⟩ (h:=aR7 gt aB) <| .rt ⟨r.id,r.plan,r.state,r.tasks.set i.toNat ⟨2,t.need,t.try_,0⟩⟩ ⟨fl_a ht h,trivial⟩)
  (fun h => .wt 30 <| .f 2 r.tasks ⟨5,t.need,t.try_,0⟩ (h:=aR7 gt aB) <| .cm _ func238 (cB0 ⟨r.id,r.plan,r.state,r.tasks.set i.toNat ⟨5,t.need,t.try_,0⟩⟩ i (by show (r.tasks.set _ _).length≤_;rw[length_set];exact hl)) trivial fun _ _ _ _=>
   .rt ⟨r.id,r.plan,3,hQ (r.tasks.set i.toNat ⟨5,t.need,t.try_,0⟩) i⟩ ⟨fl_b h0 ht h,trivial⟩)) aD
theorem dn_a {r:Run} {i:Int} {t:Task} (ht:r.tasks[i.toNat]? = some t) (h:((aR (dD r i.toNat t) 4).length:Int)=((dD r i.toNat t).length:Int)):(⟨r.id,r.plan,2,dD r i.toNat t⟩:Run)=jR r i.toNat:=by
 rw[aN7 ht];unfold bM2;rw[if_pos (by rw[← mH];exact h)]
theorem dn_b {r:Run} {i:Int} {t:Task} (ht:r.tasks[i.toNat]? = some t) (h:¬ ((aR (dD r i.toNat t) 4).length:Int)=((dD r i.toNat t).length:Int)):(⟨r.id,r.plan,r.state,dD r i.toNat t⟩:Run)=jR r i.toNat:=by
 rw[aN7 ht];unfold bM2;rw[if_neg (by rw[← mH];exact h)]
theorem Done_p (r:Run) (i:Int) (t:Task) (h0:0≤i) (ht:r.tasks[i.toNat]? = some t) (hR:RunIs r):Cm prog 312 [.I i] inferInstance r (fun _:Unit=>True) (fun _=>jR r i.toNat) (fun _=>[]):=
 Cm.one (jR r i.toNat) (y:=fun a=>a) (rk:=fun _=>[])<|vcm func312 (fun hg hn=>let gr:=hR.small.1
  let hl:=(aL2 hR).2
  .d 2 ht fun gt => .ie i.toNat i (he:=by omega) <| .ie i.toNat i (he:=by omega) <| .wt 21 <| .f 2 r.tasks ⟨4,t.need,t.try_,0⟩ (h:=aR7 gt aB) <|
  .c func381 (BehindOf_i r.plan i) (hg:=⟨gr.2.1,trivial⟩) fun _ => .g 2 (aY0 (r.tasks.set i.toNat ⟨4,t.need,t.try_,0⟩) (bP r.plan i)).symm <|
  .l (Γ:=Nat) (fun k=>k≤(bP r.plan i).length) (fun k=>(bP r.plan i).length - k) [0,26,27] [1,4,1000000] [] (fun k=>[vI 28 k]) (fun k=>runB r (rX (r.tasks.set i.toNat ⟨4,t.need,t.try_,0⟩) ((bP r.plan i).take k)) 0 1 2) 0 fun k hk tk=>
   .s ((k:Int)<(bP r.plan i).length)
    (fun hlt => .ex (rd_in hR ht k aB) fun q hq=>
     .y hq.1 fun _ => .d 2 hq.2.1 fun gu=>
     let fin:∀ v:Task,oY q.2=v→Task.ok v→D prog (fun x:Run=>x=jR r i.toNat∧rgd []):=fun v hv gv => .p k 1 (h:=by have:=vS r.plan i;unfold I64;omega) <| .wt 53 <| .f 2 (rX (r.tasks.set i.toNat ⟨4,t.need,t.try_,0⟩) ((bP r.plan i).take k)) v (h:=gv) <| .g 2 (bZ8 hq.1 hq.2.1 hv).symm <| .n tk (k+1) []
     .ie q.1.toNat q.1 (he:=by omega) <| .m q.2.need 1 (h:=by unfold I64;omega) <| .s (q.2.need - 1=0)
      (fun h2=>fin ⟨2,q.2.need - 1,q.2.try_,q.2.until_⟩ (bW8 h2) (aD0 gu hq.2.2.2 2 (by unfold I64;omega)))
      (fun h2=>fin ⟨q.2.state,q.2.need - 1,q.2.try_,q.2.until_⟩ (bW7 h2) (aD0 gu hq.2.2.2 _ gu.1)))
    (fun hge => .g 2 (rd_ts (t:=t) h0 (show k=(bP r.plan i).length by omega)) <| .c func30 (lV ⟨r.id,r.plan,r.state,dD r i.toNat t⟩ 4 (by show (dD r i.toNat t).length≤_;rw[vO];exact hl)) (hg:=⟨gr,trivial⟩) fun _=>
     .s (((aR (dD r i.toNat t) 4).length:Int)=((dD r i.toNat t).length:Int))
      (fun h2 => .rt ⟨r.id,r.plan,2,dD r i.toNat t⟩ ⟨dn_a ht h2,trivial⟩)
      (fun h2 => .rt ⟨r.id,r.plan,r.state,dD r i.toNat t⟩ ⟨dn_b ht h2,trivial⟩))) aD
theorem aA4 {r:Run} (h:RunIs r) {i:Nat} {t:Task} (ht:r.tasks[i]? = some t) (h3:t.state=3):cJ r (i:Int)=cN r i:=by
 have hl:=(gsi_.1 ht).1
 have hb:iO r (i:Int)=true:=by
  unfold iO
  rw[runIs.2 h,inB_iff'.2 (show 0≤(i:Int)∧(i:Int)≤(r.tasks.length:Int) - 1 by omega),Int.toNat_natCast,ht]
  simp[h3]
 unfold cJ
 rw[if_pos hb,Int.toNat_natCast,failsS_eq h ht h3]
theorem bH3 {y:Yard} {k i:Nat} {r:Run} (hr:y.runs[k]? = some r) (hi:i=r.tasks.length):rQ (mW y k) k i=mW y (k+1):=by
 show _=rQ (mW y k) k (yK y k)
 rw[yJ hr,hi]
theorem RI.ok {y out:Yard} {n:Nat} (hy:YardIs y) (h:RI y out n) (hn:n≤1000):out.ok:=by
 have h1:=h.now;have h2:=h.seq;have h3:=hy.now;have h4:=hy.seq
 exact ⟨by unfold I64;omega,by unfold I64;omega⟩
theorem bO0 {α:Type} (f:α→Nat) (m:Nat):∀ xs:List α,(∀ x∈xs,f x≤m)→(xs.map f).sum≤xs.length*m
 | [],_=>by simp
 | x::xs,h=>by
  have h1:=h x (by simp)
  have h2:=bO0 f m xs (fun z hz=>h z (by simp[hz]))
  simp only[map_cons,sum_cons,length_cons,Nat.succ_mul]
  omega
theorem RunIs.wt {r:Run} (h:RunIs r):r.wt≤42:=by
 have:=h.small
 unfold Run.wt Plan.wt
 omega
theorem RI.wt {y out:Yard} {n:Nat} (hy:YardIs y) (h:RI y out n) (hn:n≤1000):out.wt≤100000:=by
 have h1:=h.shelf
 have h2:=hy.shelf
 have h3:=h.runs
 have h4:=hy.runs
 have hs:=bO0 (fun z:List Entry=>z.length) 20000 out.shelf (fun z hz=>by
  obtain ⟨s,hs,rfl⟩:=getElem_of_mem hz
  have:=h.each s aB
  rw[getD_eq_getElem?_getD,getElem?_eq_getElem hs] at this
  simp only[Option.getD_some] at this
  omega)
 have hr:=bO0 (fun z:Run=>z.wt) 42 out.runs (fun z hz=>by
  obtain ⟨s,hs,rfl⟩:=getElem_of_mem hz
  obtain ⟨r2,e,hR,_⟩:=h.run s _ (getElem?_eq_getElem (show s<y.runs.length by omega))
  rw[getElem?_eq_getElem hs] at e
  rw[Option.some.inj e]
  exact hR.wt)
 rw[h1,h2] at hs
 have hr2:out.runs.length*42≤8*42:=Nat.mul_le_mul_right _ aB
 unfold Yard.wt wtL
 omega
theorem RI.chg {y out:Yard} {n:Nat} (hy:YardIs y) (h:RI y out n) (hn:n≤1000) (id:Int):4≤out.shelf.length∧(out.shelf.getD (aX id).toNat []).length≤1000000∧(0≤out.seq∧out.seq≤4000000000):=by
 have h1:=h.shelf;have h2:=hy.shelf;have h3:=iN id;have h4:=h.each (aX id).toNat aB;have h5:=h.seq;have h6:=hy.seq
 refine ⟨by omega,by omega,by omega⟩

theorem toNat_cast {i:Int} (h:0≤i):((i.toNat:Nat):Int)=i:=by omega
noncomputable def iJ (r:Run) (task:Int):Run:=if iO r task then jR r task.toNat else r
theorem aI1 {r:Run} (h:RunIs r) {task:Int} {t:Task} (h0:0≤task) (ht:r.tasks[task.toNat]? = some t) (h3:t.state=3):iJ r task=jR r task.toNat:=by
 have hl:=(gsi_.1 ht).1
 have hb:iO r task=true:=by
  unfold iO
  rw[runIs.2 h,inB_iff'.2 (show 0≤task∧task≤(r.tasks.length:Int) - 1 by omega),ht]
  simp[h3]
 unfold iJ
 rw[if_pos hb]

noncomputable def eE (y:Yard) (id task try_:Int):Int:=if aM y=false then 8 else if aH y id<0 then 10 else if fR y id task try_=false then 11 else 0
noncomputable def zW (g:Run→Nat→Run) (y:Yard) (id task try_:Int):Yard:=if eE y id task try_=0 then (match cI y id with | some k=>(match y.runs[k]? with | some r=>dW y k r (g r task.toNat) | none=>y) | none=>y) else y
noncomputable def fN (y:Yard) (id task try_:Int):Yard:=zW jR y id task try_
theorem askF_rng (y:Yard) (id task try_:Int):0≤eE y id task try_∧eE y id task try_≤11:=by
 unfold eE
 split
 ·omega
 split
 ·omega
 split <;> omega
theorem aP1 {y:Yard} {id task try_:Int} (h:eE y id task try_=0):YardIs y∧∃ k r t,cI y id=some k∧y.runs[k]? = some r∧RunIs r∧0≤task∧r.tasks[task.toNat]? = some t∧t.state=3:=by
 unfold eE at h
 split at h
 ·omega
 next h1=>
 have hY:=kA (by simpa using h1)
 split at h
 ·omega
 split at h
 ·omega
 next h3=>
 refine ⟨hY,?_⟩
 have h4:fR y id task try_=true:=by simpa using h3
 unfold fR at h4
 cases hk:cI y id with
 | none=>rw[hk] at h4;cases h4
 | some k=>
  rw[hk] at h4
  simp only at h4
  cases hr:y.runs[k]? with
  | none=>rw[hr] at h4;cases h4
  | some r=>
   rw[hr] at h4
   simp only[Bool.and_eq_true] at h4
   obtain ⟨h5,h6⟩:=h4
   cases ht:r.tasks[task.toNat]? with
   | none=>rw[ht] at h6;cases h6
   | some t=>rw[ht] at h6;simp only[Bool.and_eq_true,decide_eq_true_eq] at h6;exact ⟨k,r,t,rfl,hr,(hY.run k r hr).1,(inB_iff'.1 h5).1,ht,h6.1⟩
theorem pX {g:Run→Nat→Run} {y:Yard} {id task try_:Int} {k:Nat} {r:Run} (h:eE y id task try_=0) (hk:cI y id=some k) (hr:y.runs[k]? = some r):zW g y id task try_=dW y k r (g r task.toNat):=by unfold zW;rw[if_pos h,hk];simp only[hr]
theorem pW {g:Run→Nat→Run} {y:Yard} {id task try_:Int} (h:¬ eE y id task try_=0):zW g y id task try_=y:=by unfold zW;rw[if_neg h]
theorem vP {y:Yard} (hY:YardIs y) {k:Nat} {r r':Run} (hl:r'.tasks.length≤1000):(dW y k r r').ok:=by
 have h1:=hY.now;have h2:=hY.seq;have h3:=pC r r'
 unfold dW
 exact ⟨by simp only[I64];omega,by simp only[I64];omega⟩

noncomputable def pF (y:Yard) (id task try_:Int):Yard:=zW cN y id task try_
theorem aA3 {r:Run} (h:RunIs r) {task:Int} {t:Task} (h0:0≤task) (ht:r.tasks[task.toNat]? = some t) (h3:t.state=3):cJ r task=cN r task.toNat:=by
 have:=aA4 h ht h3
 rwa [toNat_cast h0] at this
theorem failsR_ok {r:Run} (h:r.ok) (i:Nat):(cN r i).ok:=by
 unfold cN
 cases r.tasks[i]? with
 | none=>exact h
 | some t=>
  show (rJ r i t).ok
  unfold rJ
  split
  ·exact h
  exact ⟨h.1,h.2.1,by show I64 3;unfold I64;omega⟩
noncomputable def aV5 (r:Run):Bool:=eX r && decide (r.state=1)
noncomputable def lL (r:Run):Run:=if aV5 r=true then ⟨r.id,r.plan,4,hQ r.tasks (-1)⟩ else r
theorem bY0 {r:Run} (h:aV5 r=true):lL r=⟨r.id,r.plan,4,hQ r.tasks (-1)⟩:=by unfold lL;rw[if_pos h]
theorem RunIs.no5 {r:Run} (h:RunIs r) (h1:r.state=1):∀ u∈r.tasks,¬ u.state=5:=by
 intro u hu h5
 have c5:=aO0 hu h5
 have hs:=h.state
 rw[h1] at hs
 unfold cM at hs
 have p6:=fM r.tasks 6
 repeat' split at hs
 all_goals omega
theorem leave_all {ts:List Task} (h:∀ u∈ts,¬ u.state=5):dO ts=hQ ts (-1):=by
 apply ext_getElem?
 intro k
 unfold hQ dO
 rw[getElem?_mapIdx,getElem?_map]
 cases hk:ts[k]? with
 | none=>rfl
 | some u=>
  have h5:=h u (mem_of_getElem? hk)
  have e':¬ (k:Int) = -1:=by omega
  simp[hU,fK,h5,e']

theorem runs_no {r:Run} {task:Int} (h:eX r=false):false=iO r task:=by unfold iO;rw[h];rfl
theorem runs_out {r:Run} {task:Int} (h:inB task 0 ((r.tasks.length:Int) - 1)=false):false=iO r task:=by unfold iO;rw[h];simp
theorem runs_in {r:Run} {task:Int} {t:Task} (h0:eX r=true) (h:inB task 0 ((r.tasks.length:Int) - 1)=true) (ht:r.tasks[task.toNat]? = some t):decide (t.state=3)=iO r task:=by unfold iO;rw[h0,h,ht];rfl
theorem cM5 (r:Run) (task:Int):Ct1 prog 390 [.S r,.I task] [.B (iO r task)]:=
 .one (iO r task) (rk:=fun x=>[.B x])<|vc func390 (fun (hg:gin [Par.S r,Par.I task])=>let hrl:=hg.1.2.2.1
  .c func290 (bE6 r) (hg:=⟨hg.1.1,trivial⟩) fun _ => .sb (eX r)
  (fun h0 => .m (r.tasks.length:Int) 1 (h:=by unfold I64;omega) <| .c func138 (InV task 0 ((r.tasks.length:Int) - 1)) fun _ => .sb (inB task 0 ((r.tasks.length:Int) - 1))
   (fun h1 => .ex (vH h1) fun t ht => .ye ht task (he:=jW h1) fun _ => .rt (decide (t.state=3)) ⟨runs_in h0 h1 ht,trivial⟩)
   (fun h1 => .rt false ⟨runs_out h1,trivial⟩))
  (fun h0 => .rt false ⟨runs_no h0,trivial⟩)) aD
abbrev ownRun (r:Run):List Lr:=[.v (I r.id),.v (I r.plan.prio),.v (I r.plan.most),.v (I r.plan.wait),.v (I r.plan.tasks),.o (inferInstance:Shape Edge) r.plan.edges,.v (I r.state),.o (inferInstance:Shape Task) r.tasks]
theorem cA9 (r:Run) (st:Int) (hs:I64 st) (hl:r.tasks.length≤1048576) (gr:r.ok):Co prog 392 (ownRun r) true [.I st] (fun _:Unit=>True) (fun _=>[.S (⟨r.id,r.plan,st,dO r.tasks⟩:Run)]):=
 vco func392 (fun hg ho => .wt 4 <| .g 1 (leaveSTo_zero r.tasks).symm <| .l (Γ:=Nat) (fun k=>k≤r.tasks.length) (fun k=>r.tasks.length - k) [1,2,4] [3,1000000] [] (fun k=>[vI 5 k]) (fun k=>[oO 0 r.plan.edges,oO 1 (fQ r.tasks k),oB 2 [.v (I r.id),.v (I r.plan.prio),.v (I r.plan.most),.v (I r.plan.wait),.v (I r.plan.tasks),.r 0,.v (I r.state),.r 1]]) 0 fun k hk t=>let hln:=leaveSTo_len r.tasks k
   .s ((k:Int)<(fQ r.tasks k).length)
    (fun h => .ex (p:=fun u=>r.tasks[k]? = some u) ⟨_,getElem?_eq_getElem (show k<r.tasks.length by omega)⟩ fun u hu => .y (aB5 hu) fun gu=>
     let fin:∀ y:Task,fK u=y→Task.ok y→D prog (fun _:Unit=>True∧rgd [Rk.S (⟨r.id,r.plan,st,dO r.tasks⟩:Run)]):=fun y hy gy => .d 1 (aB5 hu) fun _ => .i k <| .wt 12 <| .f 1 (fQ r.tasks k) y (h:=gy) <| .g 1 (leaveSTo_set hu hy) <| .p k 1 (h:=by unfold I64;omega) <| .n t (k+1) []
     .u (u.state=4)
      (fun h4 => .u (u.state=5)
       (fun h5=>fin ⟨6,u.need,u.try_,0⟩ (leaveS1_t h4 h5) ⟨by show I64 6;unfold I64;omega,(show Task.ok u from gu).2.1,(show Task.ok u from gu).2.2.1,by show I64 0;unfold I64;omega⟩)
       (fun h5=>fin u (leaveS1_5 h5) gu))
      (fun h4=>fin u (leaveS1_4 h4) gu))
    (fun h => .g 1 (show fQ r.tasks k=dO r.tasks by rw[show k=r.tasks.length by omega];exact leaveSTo_all _) <| .rt () ⟨trivial,⟨gr.1,gr.2.1,hs⟩,trivial⟩)) aD
theorem rf_no {r:Run} {task:Int} (h:iO r task=false):r=cJ r task:=by unfold cJ;rw[if_neg (by rw[h];simp)]
theorem rf_a {r:Run} {task:Int} {t:Task} (h:iO r task=true) (ht:r.tasks[task.toNat]? = some t) (hl:t.try_<r.plan.most):(⟨r.id,r.plan,r.state,r.tasks.set task.toNat ⟨2,t.need,t.try_,0⟩⟩:Run)=cJ r task:=by
 unfold cJ aN2;rw[if_pos h,ht];simp only;rw[if_pos hl]
theorem rf_b {r:Run} {task:Int} {t:Task} (h:iO r task=true) (ht:r.tasks[task.toNat]? = some t) (hl:¬ t.try_<r.plan.most):(⟨r.id,r.plan,3,dO (r.tasks.set task.toNat ⟨5,t.need,t.try_,0⟩)⟩:Run)=cJ r task:=by
 unfold cJ aN2;rw[if_pos h,ht];simp only;rw[if_neg hl]
theorem vX (r:Run) (task:Int) (hl:r.plan.edges.length≤1048576) (htl:r.tasks.length≤1048576):Ct1 prog 338 [.S r,.I task] [.S (cJ r task)]:=
 .one (cJ r task) (rk:=fun x=>[.S x])<|vc func338 (fun (hg:gin [Par.S r,Par.I task])=>let gr:=hg.1.1
  .c func288 (nQ r hl htl) (hg:=⟨gr,trivial⟩) fun _ => .c func390 (cM5 r task) (hg:=⟨gr,trivial⟩) fun _ => .v (iO r task)
   (fun h => .rt r ⟨rf_no h,gr,trivial⟩)
   (fun h => .ex (aH6 h).2 fun t ht => .d 5 ht.2.1 fun gt => .ie task.toNat task (he:=by omega) <| .ie task.toNat task (he:=by omega) <| .ie task.toNat task (he:=by omega) <| .s (t.try_<r.plan.most)
    (fun h2 => .f 5 r.tasks ⟨2,t.need,t.try_,0⟩ (h:=aR7 gt aB) <| .rt ⟨r.id,r.plan,r.state,r.tasks.set task.toNat ⟨2,t.need,t.try_,0⟩⟩ ⟨rf_a h ht.2.1 h2,gr,trivial⟩)
    (fun h2 => .ie task.toNat task (he:=by omega) <| .wt 39 <| .f 5 r.tasks ⟨5,t.need,t.try_,0⟩ (h:=aR7 gt aB) <|
     .co _ func392 (cA9 ⟨r.id,r.plan,r.state,r.tasks.set task.toNat ⟨5,t.need,t.try_,0⟩⟩ 3 (by unfold I64;omega) (by rw[length_set];exact htl) gr) trivial fun _ _ hq => .rt ⟨r.id,r.plan,3,dO (r.tasks.set task.toNat ⟨5,t.need,t.try_,0⟩)⟩ ⟨rf_b h ht.2.1 h2,hq.1.1,trivial⟩))) aD
theorem cM3 (y:Yard) (id task try_:Int) (hw:y.wt≤1048576):Ct1 prog 310 [.S y,.I id,.I task,.I try_] [.I (eE y id task try_)]:=
 .one (eE y id task try_) (rk:=fun x=>[.I x])<|vc func310 (fun (hg:gin [Par.S y,Par.I id,Par.I task,Par.I try_]) => .c func118 (lF y hw) (hg:=⟨hg.1.1,trivial⟩) fun _ => .v (aM y)
  (fun h => .rt 8 ⟨by unfold eE;rw[if_pos h],trivial⟩)
  (fun h => .c func232 (lG y id hw) (hg:=⟨hg.1.1,trivial⟩) fun _ => .s (aH y id<0)
   (fun h2 => .rt 10 ⟨by unfold eE;rw[if_neg (by rw[h];simp),if_pos h2],trivial⟩)
   (fun h2 => .c func120 (bE7 y id task try_ hw) (hg:=⟨hg.1.1,trivial⟩) fun _ => .v (fR y id task try_)
    (fun h3 => .rt 11 ⟨by unfold eE;rw[if_neg (by rw[h];simp),if_neg h2,if_pos h3],trivial⟩)
    (fun h3 => .rt 0 ⟨by unfold eE;rw[if_neg (by rw[h];simp),if_neg h2,if_neg (by rw[h3];simp)],trivial⟩)))) aD
theorem Ask_s (y:Yard) (id task try_:Int) (hw:y.wt≤1048576):Ct1 prog 335 [.S y,.I id,.I task,.I try_] [.I (eE y id task try_)]:=
 .one (eE y id task try_) (rk:=fun x=>[.I x])<|vc func335 (fun (hg:gin [Par.S y,Par.I id,Par.I task,Par.I try_]) => .c func185 (lE y hw) (hg:=⟨hg.1.1,trivial⟩) fun _ => .v (aM y)
  (fun h => .rt 8 ⟨by unfold eE;rw[if_pos h],trivial⟩)
  (fun h => .c func291 (mF y id hw) (hg:=⟨hg.1.1,trivial⟩) fun _ => .s (aH y id<0)
   (fun h2 => .rt 10 ⟨by unfold eE;rw[if_neg (by rw[h];simp),if_pos h2],trivial⟩)
   (fun h2 => .c func389 (Holds_s y id task try_ hw) (hg:=⟨hg.1.1,trivial⟩) fun _ => .v (fR y id task try_)
    (fun h3 => .rt 11 ⟨by unfold eE;rw[if_neg (by rw[h];simp),if_neg h2,if_pos h3],trivial⟩)
    (fun h3 => .rt 0 ⟨by unfold eE;rw[if_neg (by rw[h];simp),if_neg h2,if_neg (by rw[h3];simp)],trivial⟩)))) aD
theorem fail_at {y:Yard} {id task try_:Int} {k:Nat} {r:Run} {t:Task} (h:eE y id task try_=0) (hk:cI y id=some k) (hr:y.runs[k]? = some r) (hR:RunIs r) (h0:0≤task) (ht:r.tasks[task.toNat]? = some t) (h3:t.state=3):dW y k r (cJ r task)=pF y id task try_:=by
 unfold pF;rw[pX h hk hr,aA3 hR h0 ht h3]
theorem bF8 {y:Yard} (hY:YardIs y) (id:Int):4≤y.shelf.length∧(y.shelf.getD (aX id).toNat []).length≤1000000∧(0≤y.seq∧y.seq≤4000000000):=by
 refine ⟨by rw[hY.shelf];exact Nat.le_refl _,?_,by have:=hY.seq;omega⟩
 have h:=mD hY (aX id).toNat (by have:=iN id;omega)
 omega
theorem Fail_s (y:Yard) (id task try_:Int) (hw:y.wt≤1048576):Ct1 prog 222 [.S y,.I id,.I task,.I try_] [.S (pF y id task try_),.I (eE y id task try_)]:=
 .one (pF y id task try_,eE y id task try_) (rk:=fun q=>[.S q.1,.I q.2])<|vc func222 (fun (hg:gin [Par.S y,Par.I id,Par.I task,Par.I try_])=>let gy:=hg.1.1
  .c func184 (fU y hw) (hg:=⟨gy,trivial⟩) fun _ => .c func335 (Ask_s y id task try_ hw) (hg:=⟨gy,trivial⟩) fun _ => .u (eE y id task try_=0)
   (fun h => .rt (y,eE y id task try_) ⟨by rw[pF,pW h],gy,trivial⟩)
   (fun h=>let ha:=aP1 h
    .ex (p:=fun q:Nat×Run×Task=>cI y id=some q.1∧y.runs[q.1]? = some q.2.1∧RunIs q.2.1∧0≤task∧q.2.1.tasks[task.toNat]? = some q.2.2∧q.2.2.state=3) (ha.2.elim fun k hk=>hk.elim fun r hr=>hr.elim fun t ht=>⟨(k,r,t),ht⟩) fun q hq=>
    let hrf:=aA3 hq.2.2.1 hq.2.2.2.1 hq.2.2.2.2.1 hq.2.2.2.2.2
    let hpre:=bF8 ha.1 (cJ q.2.1 task).id
    let hlen:(cJ q.2.1 task).tasks.length≤1000:=(by rw[hrf,(rK _ _).2.2.1];have:=hq.2.2.1.small;omega)
    .c func291 (mF y id hw) (hg:=⟨gy,trivial⟩) fun _ => .ye hq.2.1 (aH y id) (he:=dE hq.1) fun gr => .c func338 (vX q.2.1 task (aL2 hq.2.2.1).1 (aL2 hq.2.2.1).2) (hg:=⟨gr,trivial⟩) fun hf=>
     .cw _ func336 (bE5 y (aH y id) q.1 q.2.1 (cJ q.2.1 task) (dE hq.1) hq.2.1 hpre.1 hlen hpre.2.1 hpre.2.2 hf.1.1 (vP ha.1 hlen)) ⟨trivial,trivial⟩ fun _ _ hz => .rt (dW y q.1 q.2.1 (cJ q.2.1 task),0) ⟨by rw[fail_at h hq.1 hq.2.1 hq.2.2.1 hq.2.2.2.1 hq.2.2.2.2.1 hq.2.2.2.2.2,h],hz.1.1,trivial⟩)) aD
def sK (n:Int) (t:Task):Bool:=decide (t.state=3) && decide (t.until_≤n+1)
def aB6 (n:Int) (r:Run) (m:Nat):List Nat:=(List.range m).filter (fun i=>match r.tasks[i]? with | some t=>sK n t | none=>false)
def lK (y:Yard):Nat→List (Nat×Nat)
 | 0=>[]
 | k+1=>lK y k++(match y.runs[k]? with | some r=>(aB6 y.now r r.tasks.length).map (fun i=>(k,i)) | none=>[])
def gN (y:Yard) (p:Nat×Nat):List Int:=match y.runs[p.1]? with | some r=>(match r.tasks[p.2]? with | some t=>[r.id,p.2,t.try_] | none=>[]) | none=>[]
def jJ (y:Yard) (k:Nat) (r:Run) (i:Nat):List (List Int):=(lK y k++(aB6 y.now r i).map (fun j=>(k,j))).map (gN y)
def cU (y:Yard):List (Nat×Nat):=lK y y.runs.length
theorem aB7 (y:Yard) (k:Nat) (r:Run):jJ y k r 0=(lK y k).map (gN y):=by simp[jJ,aB6]
theorem bK0 {y:Yard} {k:Nat} {r:Run} {i:Nat} {t:Task} (hr:y.runs[k]? = some r) (ht:r.tasks[i]? = some t) (h:sK y.now t=true):jJ y k r (i+1)=jJ y k r i++[[r.id,(i:Int),t.try_]]:=by
 unfold jJ aB6
 rw[range_succ,filter_append]
 simp[ht,h,gN,hr]
theorem bK1 {y:Yard} {k:Nat} {r:Run} {i:Nat} {t:Task} (ht:r.tasks[i]? = some t) (h:sK y.now t=false):jJ y k r (i+1)=jJ y k r i:=by
 unfold jJ aB6
 rw[range_succ,filter_append]
 simp[ht,h]
theorem aL8 {y:Yard} {k:Nat} {r:Run} (hr:y.runs[k]? = some r) {i:Nat} (hi:i=r.tasks.length):jJ y k r i=(lK y (k+1)).map (gN y):=by
 subst hi
 unfold jJ
 simp[lK,hr]
theorem aU5 (n:Int) (r:Run) (m:Nat):(aB6 n r m).length≤m:=by
 unfold aB6
 exact Nat.le_trans (length_filter_le _ _) (by simp)
theorem tJ {y:Yard} (hy:YardIs y):∀ k,(lK y k).length≤12*k
 | 0=>by simp[lK]
 | k+1=>by
  have ih:=tJ hy k
  simp only[lK,length_append]
  cases hr:y.runs[k]? with
  | none=>simp;omega
  | some r=>
   have h1:=aU5 y.now r r.tasks.length
   have h2:=(hy.run k r hr).1.small
   simp only[length_map];omega
theorem aL7 {y:Yard} (hy:YardIs y) (k:Nat) (r:Run) (i:Nat):(jJ y k r i).length≤12*k+i:=by
 have h1:=tJ hy k
 have h2:=aU5 y.now r i
 unfold jJ
 simp only[length_map,length_append];omega
theorem zA {y:Yard} {p:Nat×Nat}:∀ {k},p∈lK y k→∃ r t,y.runs[p.1]? = some r∧r.tasks[p.2]? = some t∧gN y p=[r.id,(p.2:Int),t.try_]
 | 0,h=>by simp[lK] at h
 | k+1,h=>by
  simp only[lK,mem_append] at h
  rcases h with h | h
  ·exact zA h
  ·cases hr:y.runs[k]? with
   | none=>rw[hr] at h;simp at h
   | some r=>
    rw[hr] at h
    simp only[mem_map] at h
    obtain ⟨i,hi,rfl⟩:=h
    unfold aB6 at hi
    rw[mem_filter] at hi
    cases ht:r.tasks[i]? with
    | none=>rw[ht] at hi;simp at hi
    | some t=>exact ⟨r,t,hr,ht,by simp[gN,hr,ht]⟩
def pI (n:Int) (y:Yard):Yard:=⟨n,y.seq,y.shelf,y.runs⟩
def nS (y:Yard) (l:List (Nat×Nat)):Yard:=l.foldl (fun o p=>lI o p.1 p.2) y
theorem turnF_now (n:Int) (y:Yard) (k i:Nat):lI (pI n y) k i=pI n (lI y k i):=by
 unfold lI
 show (match y.runs[k]? with | none=>_ | some r=>_)=_
 cases y.runs[k]? with
 | none=>rfl
 | some r=>
  simp only
  cases r.tasks[i]? with
  | none=>rfl
  | some t=>simp only;split <;> rfl
theorem aR6 (n:Int):∀ (l:List (Nat×Nat)) (y:Yard),nS (pI n y) l=pI n (nS y l)
 | [],y=>rfl
 | p::l,y=>by
  show nS (lI (pI n y) p.1 p.2) l=pI n (nS (lI y p.1 p.2) l)
  rw[turnF_now,aR6 n l]
theorem nR {y:Yard} {l:List (Nat×Nat)} {j:Nat} {p:Nat×Nat} (h:l[j]? = some p):nS y (l.take (j+1))=lI (nS y (l.take j)) p.1 p.2:=by
 unfold nS
 rw[take_add_one,h]
 simp[foldl_append]
theorem uQ (y:Yard) (l:List (Nat×Nat)):nS y (l.take 0)=y:=by simp[nS]
theorem YardIs.at {y:Yard} (hy:YardIs y) {n:Int} (h:0≤n∧n≤999999980):YardIs (pI n y):=⟨h,hy.seq,hy.shelf,hy.runs,hy.each,hy.run⟩
theorem RI.list {y:Yard} (hy:YardIs y) {l:List (Nat×Nat)} (hl:∀ p∈l,p.1<y.runs.length):∀ j,RI y (nS y (l.take j)) j
 | 0=>by rw[uQ];exact RI.start hy
 | j+1=>by
  have ih:=RI.list hy hl j
  cases hp:l[j]? with
  | none=>
   have h1:=List.getElem?_eq_none_iff.1 hp
   rw[take_of_length_le (show l.length≤j+1 by omega)]
   rw[take_of_length_le h1] at ih
   exact ih.mono aB
  | some p=>rw[nR hp];exact ih.turn hy (hl p (mem_of_getElem? hp))
theorem aE4 {y:Yard}:∀ p∈cU y,p.1<y.runs.length:=fun p hp=>by
 obtain ⟨r,t,h1,_⟩:=zA hp
 exact (gsi_.1 h1).1
noncomputable def cD6 (y:Yard):Yard:=nS (pI (y.now+1) y) (cU y)
noncomputable def eN (y:Yard):Yard×Int:=if aM y=false then (y,8) else if 999999980<y.now+1 then (y,7) else (cD6 y,0)
theorem bJ9 {y:Yard} {j:Nat} (hj:j<(cU y).length):∃ k i r t,(cU y)[j]? = some (k,i)∧y.runs[k]? = some r∧r.tasks[i]? = some t∧((cU y).map (gN y))[j]? = some [r.id,(i:Int),t.try_]:=by
 obtain ⟨⟨k,i⟩,hp⟩:∃ p,(cU y)[j]? = some p:=⟨_,getElem?_eq_getElem hj⟩
 obtain ⟨r,t,h1,h2,h3⟩:=zA (mem_of_getElem? hp)
 exact ⟨k,i,r,t,hp,h1,h2,by rw[getElem?_map,hp,Option.map_some,h3]⟩
theorem RunIs.tk {r:Run} (h:RunIs r) {i:Nat} {t:Task} (ht:r.tasks[i]? = some t):(0≤t.try_∧t.try_≤1000000)∧(0≤t.until_∧t.until_≤1000000000):=by
 obtain ⟨hl,rfl⟩:=gsi_.1 ht
 obtain ⟨_,_,h3,h4,h5,_⟩:=h.task i hl hl
 have hp:=(sF h.plan).1
 unfold bN at hp
 by_cases e:r.tasks[i].state=3
 ·have:=h4 e;omega
 have:=h5 e;omega
theorem aE5 {n:Int} {t:Task} (h3:t.state=3) (h:t.until_≤n+1):sK n t=true:=by unfold sK;simp[h3,h]
theorem aE6 {n:Int} {t:Task} (h:¬ (t.state=3∧t.until_≤n+1)):sK n t=false:=by
 unfold sK
 cases h1:decide (t.state=3) with
 | false=>rfl
 | true=>cases h2:decide (t.until_≤n+1) with
  | false=>rfl
  | true=>exact absurd ⟨of_decide_eq_true h1,of_decide_eq_true h2⟩ h

theorem bU7 {r:Run} {i:Nat} {t:Task} (g:r.ok) (hi:i≤1000) (gt:t.ok):∀ z∈[r.id,(i:Int),t.try_],Dsh.good z:=by
 intro z hz
 simp only[mem_cons,not_mem_nil,or_false] at hz
 rcases hz with rfl | rfl | rfl
 ·exact g.1
 ·show I64 _;unfold I64;omega
 exact gt.2.2.1
theorem bG8 {y:Yard} (hY:YardIs y) {k:Nat} {r:Run} (hr:y.runs[k]? = some r):r.tasks.length≤12∧r.ok:=⟨(hY.run k r hr).1.small.2.1,(hY.run k r hr).1.small.1⟩
theorem LateOf_i (y:Yard) (hY:YardIs y):Ct1 prog 314 [.S y] [.L ((cU y).map (gN y))]:=
 vc func314 (fun (hg:gin [Par.S y])=>let h8:=hY.runs
  .w (List Int) 34 3 <| .l (Γ:=Nat) (fun k=>k≤y.runs.length) (fun k=>y.runs.length - k) [1,9,10] [2] [0,1] (fun k=>[vR 3 3,vI 11 k]) (fun k=>[oR 3 34 ((lK y k).map (gN y))]) 0 fun k hk tk=>
   .s ((k:Int)<y.runs.length)
    (fun h => .x y.runs k (h:=by omega) fun r hr gr=>let hlk:=bG8 hY hr
     .g 3 (aB7 y k r).symm <| .l (Γ:=Nat) (fun i=>i≤r.tasks.length) (fun i=>r.tasks.length - i) [1,5,9,10,11,16,17] [2,7] [0,1,5,6] (fun i=>[vR 3 3,vI 18 i]) (fun i=>[oR 3 34 (jJ y k r i)]) 0 fun i hi ti=>let hln:=aL7 hY k r i
      .s ((i:Int)<r.tasks.length)
       (fun h2 => .x r.tasks i (h:=by omega) fun t ht gt=>let htk:=(hY.run k r hr).1.tk ht
        let no:sK y.now t=false→D prog (fun _:Unit=>True∧rgd [Rk.L ((cU y).map (gN y))]):=fun hb => .g 3 (bK1 (y:=y) (k:=k) ht hb).symm <| .p i 1 (h:=by unfold I64;omega) <| .n ti (i+1) []
        let yes:sK y.now t=true→D prog (fun _:Unit=>True∧rgd [Rk.L ((cU y).map (gN y))]):=fun hb => .li inferInstance 47 [r.id,(i:Int),t.try_] (by simp) (by simp) (bU7 gr aB gt) <| .a (jJ y k r i) [r.id,(i:Int),t.try_] 24 (hy:=trivial) (h63:=by unfold maxLen;omega) (hby:=by omega) <| .g 3 (bK0 hr ht hb).symm <| .p i 1 (h:=by unfold I64;omega) <| .n ti (i+1) []
        .s (t.state=3)
         (fun h3 => .s (t.until_≤y.now)
          (fun h4=>yes (aE5 h3 aB))
          (fun h4 => .m t.until_ 1 (h:=by unfold I64;omega) <| .s (t.until_ - 1=y.now)
           (fun h5=>yes (aE5 h3 aB))
           (fun h5=>no (aE6 aB))))
         (fun h3=>no (aE6 aB)))
       (fun h2 => .g 3 (aL8 hr (show i=r.tasks.length by omega)) <| .p k 1 (h:=by unfold I64;omega) <| .n tk (k+1) []))
    (fun h => .g 3 (show (lK y k).map (gN y)=(cU y).map (gN y) by rw[show k=y.runs.length by omega];rfl) <| .rt () ⟨trivial,trivial⟩)) aD
theorem LateOf_s (y:Yard) (hY:YardIs y):Ct1 prog 339 [.S y] [.L ((cU y).map (gN y))]:=
 vc func339 (fun (hg:gin [Par.S y])=>let h8:=hY.runs
  .e (List Int) <| .l (Γ:=Nat) (fun k=>k≤y.runs.length) (fun k=>y.runs.length - k) [777777,7] [777777] [777777] (fun k=>[vR 3 3,vI 4 k]) (fun k=>[oR 3 34 ((lK y k).map (gN y))]) 0 fun k hk tk=>
   .s ((k:Int)<y.runs.length)
    (fun h => .ex (p:=fun r=>y.runs[k]? = some r) ⟨y.runs[k]'(by omega),getElem?_eq_getElem _⟩ fun r hr=>let hlk:=bG8 hY hr
     let gr:=hlk.2
     .g 3 (aB7 y k r).symm <| .l (Γ:=Nat) (fun i=>i≤r.tasks.length) (fun i=>r.tasks.length - i) [777777] [777777] [777777] (fun i=>[vR 3 3,vI 5 i]) (fun i=>[oR 3 34 (jJ y k r i)]) 0 fun i hi ti=>let hln:=aL7 hY k r i
      .y hr fun _ => .s ((i:Int)<r.tasks.length)
       (fun h2 => .y hr fun _ => .x r.tasks i (h:=by omega) fun t ht gt=>let htk:=(hY.run k r hr).1.tk ht
        let no:sK y.now t=false→D prog (fun _:Unit=>True∧rgd [Rk.L ((cU y).map (gN y))]):=fun hb => .g 3 (bK1 (y:=y) (k:=k) ht hb).symm <| .p i 1 (h:=by unfold I64;omega) <| .n ti (i+1) []
        let yes:sK y.now t=true→D prog (fun _:Unit=>True∧rgd [Rk.L ((cU y).map (gN y))]):=fun hb => .y hr fun _ => .lo inferInstance [r.id,(i:Int),t.try_] (by simp) (by simp) (bU7 gr aB gt) <| .a (jJ y k r i) [r.id,(i:Int),t.try_] 24 (hy:=trivial) (h63:=by unfold maxLen;omega) (hby:=by omega) <| .g 3 (bK0 hr ht hb).symm <| .p i 1 (h:=by unfold I64;omega) <| .n ti (i+1) []
        .s (t.state=3)
         (fun h3 => .s (t.until_≤y.now)
          (fun h4=>yes (aE5 h3 aB))
          (fun h4 => .m t.until_ 1 (h:=by unfold I64;omega) <| .s (t.until_ - 1≤y.now)
           (fun h5=>yes (aE5 h3 aB))
           (fun h5=>no (aE6 aB))))
         (fun h3=>no (aE6 aB)))
       (fun h2 => .g 3 (aL8 hr (show i=r.tasks.length by omega)) <| .p k 1 (h:=by unfold I64;omega) <| .n tk (k+1) []))
    (fun h => .g 3 (show (lK y k).map (gN y)=(cU y).map (gN y) by rw[show k=y.runs.length by omega];rfl) <| .rt () ⟨trivial,trivial⟩)) aD
theorem wN {α:Type} {xs:List α} {k:Nat} {x:α} (h:xs[k]? = some x):xs.set k x=xs:=by
 obtain ⟨hl,rfl⟩:=gsi_.1 h
 exact set_getElem_self hl
theorem rd_no {r:Run} {task:Int} (h:iO r task=false):r=iJ r task:=by unfold iJ;rw[if_neg (by rw[h];simp)]
theorem rd_val {r:Run} {task:Int} {t:Task} (hB:iO r task=true) (hR:RunIs r) (h0:0≤task) (ht:r.tasks[task.toNat]? = some t) (h3:t.state=3):(⟨r.id,r.plan,cM (dD r task.toNat t),dD r task.toNat t⟩:Run)=iJ r task:=by
 unfold iJ;rw[if_pos hB,aN7 ht];unfold bM2;rw[← doneT_state hR ht h3]
theorem st_i64 (ts:List Task):I64 (cM ts):=by unfold cM I64;(repeat' split) <;> omega
theorem RunDone_s (r:Run) (task:Int) (hl:r.plan.edges.length≤1048576) (htl:r.tasks.length≤1048576):Ct1 prog 337 [.S r,.I task] [.S (iJ r task)]:=
 .one (iJ r task) (rk:=fun x=>[.S x])<|vc func337 (fun (hg:gin [Par.S r,Par.I task])=>let gr:=hg.1.1
  .c func288 (nQ r hl htl) (hg:=⟨gr,trivial⟩) fun _ => .c func390 (cM5 r task) (hg:=⟨gr,trivial⟩) fun _ => .v (iO r task)
   (fun h => .rt r ⟨rd_no h,gr,trivial⟩)
   (fun h => .ex (p:=fun t=>r.tasks[task.toNat]? = some t∧t.state=3∧0≤task∧RunIs r) ((aH6 h).2.elim fun t ht=>⟨t,ht.2.1,ht.2.2,ht.1,(aH6 h).1⟩) fun t ht=>
    let hR:=ht.2.2.2
    .d 5 ht.1 fun gt => .ie task.toNat task (he:=by omega) <| .ie task.toNat task (he:=by omega) <| .wt 26 <| .f 5 r.tasks ⟨4,t.need,t.try_,0⟩ (h:=aR7 gt aB) <|
    .c func391 (BehindP_s r.plan task hR.plan) (hg:=⟨gr.2.1,trivial⟩) fun _ => .g 5 (aY0 (r.tasks.set task.toNat ⟨4,t.need,t.try_,0⟩) (bP r.plan task)).symm <|
    .l (Γ:=Nat) (fun k=>k≤(bP r.plan task).length) (fun k=>(bP r.plan task).length - k) [4,5,6] [3,4,8] [] (fun k=>[vI 7 k]) (fun k=>[oO 5 (rX (r.tasks.set task.toNat ⟨4,t.need,t.try_,0⟩) ((bP r.plan task).take k)),oB 6 [.v (I r.id),.v (I r.plan.prio),.v (I r.plan.most),.v (I r.plan.wait),.v (I r.plan.tasks),.r 4,.v (I r.state),.r 5]]) 0 fun k hk tk=>
     .s ((k:Int)<(bP r.plan task).length)
      (fun hlt => .ex (rd_in hR ht.1 k aB) fun q hq=>
       let fin:∀ y:Task,oY q.2=y→Task.ok y→D prog (fun x:Run=>x=iJ r task∧rgd [Rk.S x]):=fun y hy gy => .d 5 hq.2.1 fun _ => .y hq.1 fun _ => .ie q.1.toNat q.1 (he:=by omega) <| .wt 34 <| .f 5 (rX (r.tasks.set task.toNat ⟨4,t.need,t.try_,0⟩) ((bP r.plan task).take k)) y (h:=gy) <| .g 5 (bZ8 hq.1 hq.2.1 hy).symm <| .p k 1 (h:=by have:=vS r.plan task;unfold I64;omega) <| .n tk (k+1) []
       .y hq.1 fun _ => .ye hq.2.1 q.1 (he:=by omega) fun gu => .m q.2.need 1 (h:=by unfold I64;omega) <| .s (q.2.need - 1=0)
        (fun h0=>fin ⟨2,q.2.need - 1,q.2.try_,q.2.until_⟩ (bW8 h0) (aD0 gu hq.2.2.2 2 (by unfold I64;omega)))
        (fun h0=>fin ⟨q.2.state,q.2.need - 1,q.2.try_,q.2.until_⟩ (bW7 h0) (aD0 gu hq.2.2.2 _ gu.1)))
      (fun hge => .g 5 (rd_ts (t:=t) ht.2.2.1 (show k=(bP r.plan task).length by omega)) <| .c func373 (cA6 ⟨r.id,r.plan,r.state,dD r task.toNat t⟩ (doneTs_st hR ht.1) (by show (dD r task.toNat t).length≤_;rw[vO];exact htl)) (hg:=⟨gr,trivial⟩) fun _=>
       .rt ⟨r.id,r.plan,cM (dD r task.toNat t),dD r task.toNat t⟩ ⟨rd_val h hR ht.2.2.1 ht.1 ht.2.1,⟨gr.1,gr.2.1,st_i64 _⟩,trivial⟩))) aD
theorem done_at {y:Yard} {id task try_:Int} {k:Nat} {r:Run} {t:Task} (h:eE y id task try_=0) (hk:cI y id=some k) (hr:y.runs[k]? = some r) (hR:RunIs r) (h0:0≤task) (ht:r.tasks[task.toNat]? = some t) (h3:t.state=3):dW y k r (iJ r task)=fN y id task try_:=by
 unfold fN;rw[pX h hk hr,aI1 hR h0 ht h3]
theorem Complete_s (y:Yard) (id task try_:Int) (hw:y.wt≤1048576):Ct1 prog 221 [.S y,.I id,.I task,.I try_] [.S (fN y id task try_),.I (eE y id task try_)]:=
 .one (fN y id task try_,eE y id task try_) (rk:=fun q=>[.S q.1,.I q.2])<|vc func221 (fun (hg:gin [Par.S y,Par.I id,Par.I task,Par.I try_])=>let gy:=hg.1.1
  .c func184 (fU y hw) (hg:=⟨gy,trivial⟩) fun _ => .c func335 (Ask_s y id task try_ hw) (hg:=⟨gy,trivial⟩) fun _ => .u (eE y id task try_=0)
   (fun h => .rt (y,eE y id task try_) ⟨by rw[fN,pW h],gy,trivial⟩)
   (fun h=>let ha:=aP1 h
    .ex (p:=fun q:Nat×Run×Task=>cI y id=some q.1∧y.runs[q.1]? = some q.2.1∧RunIs q.2.1∧0≤task∧q.2.1.tasks[task.toNat]? = some q.2.2∧q.2.2.state=3) (ha.2.elim fun k hk=>hk.elim fun r hr=>hr.elim fun t ht=>⟨(k,r,t),ht⟩) fun q hq=>
    let hrf:=aI1 hq.2.2.1 hq.2.2.2.1 hq.2.2.2.2.1 hq.2.2.2.2.2
    let hpre:=bF8 ha.1 (iJ q.2.1 task).id
    let hlen:(iJ q.2.1 task).tasks.length≤1000:=(by rw[hrf,(pG _ _).2.2.1];have:=hq.2.2.1.small;omega)
    .c func291 (mF y id hw) (hg:=⟨gy,trivial⟩) fun _ => .ye hq.2.1 (aH y id) (he:=dE hq.1) fun gr => .c func337 (RunDone_s q.2.1 task (aL2 hq.2.2.1).1 (aL2 hq.2.2.1).2) (hg:=⟨gr,trivial⟩) fun hf=>
     .cw _ func336 (bE5 y (aH y id) q.1 q.2.1 (iJ q.2.1 task) (dE hq.1) hq.2.1 hpre.1 hlen hpre.2.1 hpre.2.2 hf.1.1 (vP ha.1 hlen)) ⟨trivial,trivial⟩ fun _ _ hz => .rt (dW y q.1 q.2.1 (iJ q.2.1 task),0) ⟨by rw[done_at h hq.1 hq.2.1 hq.2.2.1 hq.2.2.2.1 hq.2.2.2.2.1 hq.2.2.2.2.2,h],hz.1.1,trivial⟩)) aD
theorem rest_run {y out:Yard} {n k:Nat} {r1:Run} (h:RI y out n) (hr:y.runs[k]? = some r1):∃ r2,out.runs[k]? = some r2∧RunIs r2∧r2.tasks.length=r1.tasks.length:=by
 obtain ⟨r2,h1,h2,h3,h4,h5⟩:=h.run k r1 hr
 exact ⟨r2,h1,h2,h4⟩
theorem aT2 {y out:Yard} {n k i:Nat} {r:Run} {t:Task} (hY:YardIs y) (h:RI y out n) (hn:n≤900) (hr:out.runs[k]? = some r) (ht:r.tasks[i]? = some t) (h3:t.state=3) (hR:RunIs r):(4≤out.shelf.length∧(out.shelf.getD (aX (cJ r (i:Int)).id).toNat []).length≤1000000∧(0≤out.seq∧out.seq≤4000000000))∧(cJ r (i:Int)).tasks.length≤1000∧(dW out k r (cJ r (i:Int))).ok∧dW out k r (cJ r (i:Int))=lI out k i:=by
 have he:=aA4 hR ht h3
 refine ⟨h.chg hY aB _,by rw[he];have:=(hR.fails ht h3).small;omega,by rw[he];exact (h.change hY hr ht h3 hR).ok hY aB,by rw[he];exact (bS0 hr ht h3).symm⟩
theorem bH2 {y:Yard} (hY:YardIs y) {k:Nat} (hk:k≤y.runs.length):RI y (mW y k) 96:=(RI.outer hY k hk).mono (by have:=hY.runs;omega)
theorem bU9 {y:Yard} (hY:YardIs y) {k i:Nat} {r:Run} (hr:y.runs[k]? = some r) (hi:i≤r.tasks.length):RI y (rQ (mW y k) k i) 200:=(RI.at hY (gsi_.1 hr).1).mono (by have:=hY.runs;have:=(gsi_.1 hr).1;have:=(hY.run k r hr).1.small;omega)
abbrev ryS (y:Yard) (b s r:Nat):List (Nat×To):=[oB b [.v (I y.now),.v (I y.seq),.r s,.r r],oO s y.shelf,oO r y.runs]
theorem Restart_s (y:Yard) (hw:y.wt≤1048576):Ct1 prog 226 [.S y] [.S (dY y)]:=
 .one (dY y) (rk:=fun x=>[.S x])<|vc func226 (fun (hg:gin [Par.S y])=>let gy:=hg.1.1
  .c func184 (fU y hw) (hg:=⟨gy,trivial⟩) fun _ => .c func185 (lE y hw) (hg:=⟨gy,trivial⟩) fun _ => .v (aM y)
   (fun h => .rt y ⟨by unfold dY;rw[if_neg (by rw[h];simp)],gy,trivial⟩)
   (fun h=>let hY:=kA h
    .l (Γ:=Nat×Yard) (fun g=>g.1≤y.runs.length∧g.2=mW y g.1) (fun g=>y.runs.length - g.1) [2,3] [3] [] (fun g=>[vI 4 g.1]) (fun g=>ryS g.2 6 4 5) (0,y) (h:=⟨Nat.zero_le _,rfl⟩) fun g hJ tk=>
     let hRK:RI y g.2 96:=(by rw[hJ.2];exact bH2 hY hJ.1)
     .s ((g.1:Int)<g.2.runs.length)
      (fun hlt => .ex (p:=fun r1=>y.runs[g.1]? = some r1) ⟨_,getElem?_eq_getElem (show g.1<y.runs.length by have:=hRK.runs;omega)⟩ fun r1 hr1=>
       .l (Γ:=Nat×Yard) (fun q=>q.1≤r1.tasks.length∧q.2=rQ (mW y g.1) g.1 q.1) (fun q=>r1.tasks.length - q.1) [2,3,4] [3] [] (fun q=>[vI 5 q.1]) (fun q=>ryS q.2 6 4 5) (0,g.2) (h:=⟨Nat.zero_le _,hJ.2⟩) fun q hq tq=>
        let hRI:RI y q.2 200:=(by rw[hq.2];exact bU9 hY hr1 hq.1)
        .ex (rest_run hRI hr1) fun r2 h2 => .y h2.1 fun gr => .s ((q.1:Int)<r2.tasks.length)
         (fun hl2 => .ex (p:=fun t=>r2.tasks[q.1]? = some t) ⟨_,getElem?_eq_getElem (show q.1<r2.tasks.length by omega)⟩ fun t2 ht2 => .y h2.1 fun _ => .y ht2 fun _ => .s (t2.state=3)
          (fun h3=>let hT:=aT2 hY hRI aB h2.1 ht2 h3 h2.2.1
           .y h2.1 fun _ => .c func338 (vX r2 (q.1:Int) (aL2 h2.2.1).1 (aL2 h2.2.1).2) (hg:=⟨gr,trivial⟩) fun hf=>
           .cw _ func336 (bE5 q.2 (g.1:Int) g.1 r2 (cJ r2 (q.1:Int)) rfl h2.1 hT.1.1 hT.2.1 hT.1.2.1 hT.1.2.2 hf.1.1 hT.2.2.1) ⟨trivial,trivial⟩ fun _ _ hz=>
           .p q.1 1 (h:=by have:=h2.2.1.small;unfold I64;omega) <| .n tq (q.1+1,dW q.2 g.1 r2 (cJ r2 (q.1:Int))) [(4,19),(5,20)] (h1:=⟨by show q.1+1≤_;omega,by show dW q.2 g.1 r2 (cJ r2 (q.1:Int))=_;rw[hT.2.2.2,hq.2];rfl⟩) (h2:=by show r1.tasks.length - (q.1+1)<_;omega))
          (fun h3 => .p q.1 1 (h:=by have:=h2.2.1.small;unfold I64;omega) <| .n tq (q.1+1,q.2) [] (h1:=⟨by show q.1+1≤_;omega,by show q.2=lI (rQ (mW y g.1) g.1 q.1) g.1 q.1;rw[← hq.2];exact (aC8 h2.1 ht2 h3).symm⟩) (h2:=by show r1.tasks.length - (q.1+1)<_;omega)))
         (fun hl2 => .p g.1 1 (h:=by have:=hY.runs;unfold I64;omega) <| .n tk (g.1+1,q.2) [] (h1:=⟨by show g.1+1≤_;have:=hRK.runs;omega,by show q.2=_;rw[hq.2];exact bH3 hr1 aB⟩) (h2:=by show y.runs.length - (g.1+1)<_;have:=hRK.runs;omega)))
      (fun hge => .rt g.2 ⟨by unfold dY;rw[if_pos h,hJ.2];congr 1;have:=hRK.runs;omega,hRK.ok hY aB,trivial⟩))) aD
theorem wU {y:Yard} {id:Int} (h:¬ aH y id<0):∃ r,y.runs[(aH y id).toNat]? = some r:=by
 unfold aH at h ⊢
 cases hk:cI y id with
 | none=>rw[hk] at h;simp[ixI] at h
 | some k=>
  have:=aI0 hk
  exact ⟨_,by simp only[ixI,Int.toNat_natCast];exact getElem?_eq_getElem this⟩
theorem bK8 {r:Run} (h:r.ok):(lL r).ok:=by
 unfold lL
 split
 ·exact ⟨h.1,h.2.1,by show I64 4;unfold I64;omega⟩
 exact h
noncomputable def bZ6 (y:Yard) (k:Nat) (r:Run):Yard:=⟨y.now,y.seq,y.shelf,y.runs.set k (lL r)⟩
noncomputable def bW (y:Yard) (id:Int):Yard×Int:=
 if aM y=false then (y,8) else match y.runs[(aH y id).toNat]? with
  | some r=>if aH y id<0 then (y,10) else if r.state≠1 then (y,12) else (bZ6 y (aH y id).toNat r,0)
  | none=>(y,10)
theorem xY {y:Yard} {id:Int} (h0:aM y=true) (h:aH y id<0):bW y id=(y,10):=by
 unfold bW
 rw[if_neg (by rw[h0];decide)]
 cases y.runs[(aH y id).toNat]? with
 | none=>rfl
 | some r=>simp only;rw[if_pos h]
theorem nJ {y:Yard} {id:Int} {r:Run} (h0:aM y=true) (h:¬ aH y id<0) (hr:y.runs[(aH y id).toNat]? = some r):bW y id=if r.state≠1 then (y,12) else (bZ6 y (aH y id).toNat r,0):=by
 unfold bW
 rw[if_neg (by rw[h0];decide),hr]
 simp only
 rw[if_neg h]

structure LtA (y out:Yard) (j k i:Nat) (id tr:Int) (r:Run) (t:Task):Prop where
 p:(cU y)[j]? = some (k,i)
 row:((cU y).map (gN y))[j]? = some [id,(i:Int),tr]
 ix:aH out id=(k:Int)
 hr:out.runs[k]? = some r
 is:RunIs r
 ht:r.tasks[i]? = some t
theorem lt_at {y out:Yard} {n j:Nat} (hY:YardIs y) (h:RI y out n) (hj:j<(cU y).length):∃ q:(Nat×Nat)×(Int×Int)×Run×Task,LtA y out j q.1.1 q.1.2 q.2.1.1 q.2.1.2 q.2.2.1 q.2.2.2:=by
 obtain ⟨k,i,r,t,hp,hr,ht,hrow⟩:=bJ9 hj
 obtain ⟨r2,t2,h1,h2,h3,h4⟩:=h.holds hY hr ht
 exact ⟨((k,i),(r.id,t.try_),r2,t2),⟨hp,hrow,dE (h.ix hY hr),h1,h2,h3⟩⟩
theorem cI3 {y:Yard} (hY:YardIs y):(cU y).length≤96:=by have:=tJ hY y.runs.length;have:=hY.runs;show (lK y y.runs.length).length≤96;omega
theorem bF9 {y:Yard} (h:aM y=false):(y,(8:Int))=eN y:=by unfold eN;rw[if_pos h]
theorem bG0 {y:Yard} (h0:aM y=true) (h:999999980<y.now+1):(y,(7:Int))=eN y:=by unfold eN;rw[if_neg (by rw[h0];simp),if_pos h]
theorem ticked_0 {y out:Yard} {j:Nat} (h0:aM y=true) (h:¬ 999999980<y.now+1) (hY:YardIs y) (ho:out=nS y ((cU y).take j)) (hj:¬ j<(cU y).length):((⟨out.now+1,out.seq,out.shelf,out.runs⟩:Yard),(0:Int))=eN y:=by
 unfold eN;rw[if_neg (by rw[h0];simp),if_neg h]
 unfold cD6
 rw[aR6,← (RI.list hY aE4 j).now,← ho,ho,take_of_length_le aB]
 rfl
theorem Tick_s (y:Yard) (hw:y.wt≤1048576):Ct1 prog 223 [.S y] [.S (eN y).1,.I (eN y).2]:=
 .one (eN y) (rk:=fun q=>[.S q.1,.I q.2])<|vc func223 (fun (hg:gin [Par.S y])=>let gy:=hg.1.1
  .c func184 (fU y hw) (hg:=⟨gy,trivial⟩) fun _ => .c func185 (lE y hw) (hg:=⟨gy,trivial⟩) fun _ => .v (aM y)
   (fun h => .rt (y,8) ⟨bF9 h,gy,trivial⟩)
   (fun h=>let hY:=kA h
    let hn:=hY.now
    .p y.now 1 (h:=by unfold I64;omega) <| .s (999999980<y.now+1)
     (fun h7 => .rt (y,7) ⟨bG0 h h7,gy,trivial⟩)
     (fun h7=>let hln:=cI3 hY
      let hml:((cU y).map (gN y)).length=(cU y).length:=length_map _
      .c func339 (LateOf_s y hY) (hg:=⟨gy,trivial⟩) fun _=>
      .l (Γ:=Nat×Yard) (fun g=>g.1≤(cU y).length∧g.2=nS y ((cU y).take g.1)) (fun g=>(cU y).length - g.1) [2,4,5] [3,7] [] (fun g=>[vI 6 g.1]) (fun g=>ryS g.2 6 4 5) (0,y) (h:=⟨Nat.zero_le _,(uQ y _).symm⟩) fun g hJ tk=>
       let hRI:RI y g.2 200:=(by rw[hJ.2];exact (RI.list hY aE4 g.1).mono aB)
       .s ((g.1:Int)<((cU y).map (gN y)).length)
        (fun hlt => .ex (lt_at hY hRI (show g.1<(cU y).length by omega)) fun q hq=>
         let r2:=q.2.2.1
         .y hq.row fun _ => .y (show [q.2.1.1,(q.1.2:Int),q.2.1.2][0]? = some q.2.1.1 from rfl) fun gi => .c func291 (mF g.2 q.2.1.1 (Nat.le_trans (hRI.wt hY aB) aB)) (hg:=⟨hRI.ok hY aB,trivial⟩) fun _=>
         .ye hq.hr (aH g.2 q.2.1.1) (he:=hq.ix) fun gr => .y hq.row fun _ => .y (show [q.2.1.1,(q.1.2:Int),q.2.1.2][1]? = some (q.1.2:Int) from rfl) fun _ => .y hq.ht fun _ => .s (q.2.2.2.state=3)
          (fun h3=>let hT:=aT2 hY hRI aB hq.hr hq.ht h3 hq.is
           .ye hq.hr (aH g.2 q.2.1.1) (he:=hq.ix) fun gr => .y hq.row fun _ => .y (show [q.2.1.1,(q.1.2:Int),q.2.1.2][1]? = some (q.1.2:Int) from rfl) fun _=>
           .c func338 (vX q.2.2.1 (q.1.2:Int) (aL2 hq.is).1 (aL2 hq.is).2) (hg:=⟨gr,trivial⟩) fun hf=>
           .cw _ func336 (bE5 g.2 (aH g.2 q.2.1.1) q.1.1 q.2.2.1 (cJ q.2.2.1 (q.1.2:Int)) hq.ix hq.hr hT.1.1 hT.2.1 hT.1.2.1 hT.1.2.2 hf.1.1 hT.2.2.1) ⟨trivial,trivial⟩ fun _ _ hz=>
           .p g.1 1 (h:=by unfold I64;omega) <| .n tk (g.1+1,dW g.2 q.1.1 q.2.2.1 (cJ q.2.2.1 (q.1.2:Int))) [(4,26),(5,27)] (h1:=⟨by show g.1+1≤_;omega,by show dW g.2 q.1.1 q.2.2.1 (cJ q.2.2.1 (q.1.2:Int))=_;rw[hT.2.2.2,nR hq.p,hJ.2]⟩) (h2:=by show (cU y).length - (g.1+1)<_;omega))
          (fun h3 => .p g.1 1 (h:=by unfold I64;omega) <| .n tk (g.1+1,g.2) [] (h1:=⟨by show g.1+1≤_;omega,by show g.2=_;rw[nR hq.p,← hJ.2];exact (aC8 hq.hr hq.ht h3).symm⟩) (h2:=by show (cU y).length - (g.1+1)<_;omega)))
        (fun hge=>let hnow:=hRI.now
         .p g.2.now 1 (h:=by unfold I64;omega) <| .rt (⟨g.2.now+1,g.2.seq,g.2.shelf,g.2.runs⟩,0) ⟨ticked_0 h h7 hY hJ.2 aB,⟨by show I64 (g.2.now+1);unfold I64;omega,(show Yard.ok g.2 from hRI.ok hY aB).2⟩,trivial⟩)))) aD
theorem bX8 {r:Run} (h:eX r=false):r=lL r:=by unfold lL aV5;rw[h];rfl
theorem bX9 {r:Run} (h:¬ r.state=1):r=lL r:=by unfold lL aV5;rw[decide_eq_false h,Bool.and_false];rfl
theorem gone_1 {r:Run} (h0:eX r=true) (h:r.state=1):(⟨r.id,r.plan,4,dO r.tasks⟩:Run)=lL r:=by
 rw[bY0 (by unfold aV5;rw[h0,decide_eq_true h];rfl),leave_all ((runIs.1 h0).no5 h)]
theorem RunLeft_s (r:Run) (hl:r.plan.edges.length≤1048576) (htl:r.tasks.length≤1048576):Ct1 prog 340 [.S r] [.S (lL r)]:=
 .one (lL r) (rk:=fun x=>[.S x])<|vc func340 (fun (hg:gin [Par.S r])=>let gr:=hg.1.1
  .c func288 (nQ r hl htl) (hg:=⟨gr,trivial⟩) fun _ => .c func290 (bE6 r) (hg:=⟨gr,trivial⟩) fun _ => .v (eX r)
   (fun h => .rt r ⟨bX8 h,gr,trivial⟩)
   (fun h => .u (r.state=1)
    (fun h1 => .rt r ⟨bX9 h1,gr,trivial⟩)
    (fun h1 => .co _ func392 (cA9 r 4 (by unfold I64;omega) htl gr) trivial fun _ _ hq => .rt ⟨r.id,r.plan,4,dO r.tasks⟩ ⟨gone_1 h h1,hq.1.1,trivial⟩))) aD
theorem cL4 {y:Yard} {id:Int} (h:aM y=false):(y,(8:Int))=bW y id:=by unfold bW;rw[if_pos h]
theorem sD {y:Yard} {id:Int} (h:¬ aH y id<0):aH y id=((aH y id).toNat:Int):=by omega
theorem Cancel_s (y:Yard) (id:Int) (hw:y.wt≤1048576):Ct1 prog 224 [.S y,.I id] [.S (bW y id).1,.I (bW y id).2]:=
 .one (bW y id) (rk:=fun q=>[.S q.1,.I q.2])<|vc func224 (fun (hg:gin [Par.S y,Par.I id])=>let gy:=hg.1.1
  .c func184 (fU y hw) (hg:=⟨gy,trivial⟩) fun _ => .c func291 (mF y id hw) (hg:=⟨gy,trivial⟩) fun _ => .c func185 (lE y hw) (hg:=⟨gy,trivial⟩) fun _ => .v (aM y)
   (fun h => .rt (y,8) ⟨cL4 h,gy,trivial⟩)
   (fun h => .s (aH y id<0)
    (fun h2 => .rt (y,10) ⟨(xY h h2).symm,gy,trivial⟩)
    (fun h2 => .ex (wU h2) fun r hr => .ye hr (aH y id) (he:=sD h2) fun gr=>let hrl:=jT hw hr
     .u (r.state=1)
      (fun h3 => .rt (y,12) ⟨by rw[nJ h h2 hr,if_pos h3],gy,trivial⟩)
      (fun h3 => .d 5 hr fun _ => .ie (aH y id).toNat (aH y id) (he:=sD h2) <| .c func340 (RunLeft_s r hrl.2.2 hrl.2.1) (hg:=⟨gr,trivial⟩) fun _ => .ie (aH y id).toNat (aH y id) (he:=sD h2) <| .wt 41 <| .f 5 y.runs (lL r) (h:=bK8 gr) <|
       .rt (bZ6 y (aH y id).toNat r,0) ⟨by rw[nJ h h2 hr,if_neg (by simp[h3])],gy,trivial⟩)))) aD
def lZ (home:Int) (k:Nat):List Int:=[(home+1) % 4,(home+2) % 4,(home+3) % 4].take (k - 1)
theorem oth_to {home:Int} {k:Nat} (h:1≤k) (h2:k<4):lZ home (k+1)=lZ home k++[(home+(k:Int)) % 4]:=by
 rcases k with _ | _ | _ | _ | k
 ·omega
 ·rfl
 ·rfl
 ·rfl
 omega
theorem oth_4 (home:Int):lZ home 4=[(home+1) % 4,(home+2) % 4,(home+3) % 4]:=rfl
theorem oth_vict {home draw d:Int} (hd:d=max draw 0 % 3):([]++(lZ home 4).drop d.toNat)++(lZ home 4).take d.toNat=bU home draw:=by
 rw[oth_4]
 have h3:d=0∨d=1∨d=2:=by omega
 unfold bU pN
 rw[← hd]
 rcases h3 with rfl | rfl | rfl
 ·simp only[Int.toNat_zero,drop_zero,take_zero,append_nil,nil_append,List.cons.injEq,and_true]
  omega
 ·show [(home+2) % 4,(home+3) % 4,(home+1) % 4]=_
  simp only[List.cons.injEq,and_true]
  omega
 show [(home+3) % 4,(home+1) % 4,(home+2) % 4]=_
 simp only[List.cons.injEq,and_true]
 omega

theorem wH {α:Type} (f:α→Nat) (m:Nat):∀ xs:List α,(∀ x∈xs,f x≤m)→(xs.map f).sum≤xs.length*m
 | [],_=>by simp
 | x::xs,h=>by
  have h1:=h x (by simp)
  have h2:=wH f m xs (fun z hz=>h z (by simp[hz]))
  simp only[map_cons,sum_cons,length_cons,Nat.succ_mul]
  omega
theorem aZ4 {y:Yard} {s:List (List Entry)} {rr:List Run} {a b:Int} (h4:s.length=4) (he:∀ j,j<4→(s.getD j []).length≤80) (h8:rr.length≤8) (hr:∀ r∈rr,r.wt≤42):(⟨a,b,s,rr⟩:Yard).wt≤100000:=by
 have hs:=wH (fun z:List Entry=>z.length) 80 s (fun z hz=>by
  obtain ⟨j,hj,rfl⟩:=getElem_of_mem hz
  have:=he j aB
  rw[getD_eq_getElem?_getD,getElem?_eq_getElem hj] at this
  simpa using this)
 have hq:=wH (fun z:Run=>z.wt) 42 rr hr
 rw[h4] at hs
 have:rr.length*42≤8*42:=Nat.mul_le_mul_right _ h8
 unfold Yard.wt wtL
 simp only
 omega
theorem wS {y:Yard} (h:YardIs y):∀ r∈y.runs,r.wt≤42:=by
 intro r hr
 obtain ⟨j,hj,rfl⟩:=getElem_of_mem hr
 exact ((h.run j _ (getElem?_eq_getElem hj)).1).wt
theorem PI.wt {y out:Yard} {home:Nat} (hy:YardIs y) (h:PI y out home):out.wt≤100000:=
 aZ4 (y:=y) h.len h.each (by rw[h.runs];exact hy.runs) (by rw[h.runs];exact wS hy)
theorem PI.wtS {y out:Yard} {home:Nat} (hy:YardIs y) (h:PI y out home) {l:List Entry} (hl:l.length≤80):(pP out home l).wt≤100000:=
 aZ4 (y:=y) (by show (out.shelf.set _ _).length=4;rw[length_set];exact h.len) (oI h.each hl h.len) (by rw[h.runs];exact hy.runs) (by rw[h.runs];exact wS hy)
theorem PI.ok {y out:Yard} {home:Nat} (hy:YardIs y) (h:PI y out home):out.ok:=by
 have h1:=hy.now;have h2:=hy.seq
 unfold Yard.ok I64
 rw[h.now,h.seq];omega
theorem PI.sw {y out:Yard} {home:Nat} (h:PI y out home) {o:Int} (ho:0≤o∧o≤3):(aZ out o).shelf.length=4∧∀ s,s<4→((aZ out o).shelf.getD s []).length≤80:=by
 rw[yL ho h.len]
 exact ⟨by show (out.shelf.set _ _).length=4;rw[length_set];exact h.len,oI h.each (Nat.le_trans (length_filter_le _ _) (h.each _ aB)) h.len⟩
theorem RunIs.tries {r:Run} (h:RunIs r) {i:Nat} {t:Task} (ht:r.tasks[i]? = some t):(0≤t.try_∧t.try_≤5)∧1≤r.plan.wait∧r.plan.wait≤20:=by
 obtain ⟨hi,rfl⟩:=gsi_.1 ht
 have h1:=(h.task i hi hi).2.2.1
 have h2:=(sF h.plan).1
 unfold bN at h2
 omega
theorem runIx_runs {y y':Yard} (h:y'.runs=y.runs) (id:Int):cI y' id=cI y id:=by unfold cI;rw[h]
theorem bW2 {xs:List Entry} (h:¬ (xs.length:Int)=0):¬ xs=[]:=fun e=>h (by rw[e];rfl)
theorem nil0 {xs:List Entry} (h:(xs.length:Int)=0):xs=[]:=eq_nil_of_length_eq_zero aB
theorem flt_t {α:Type} {p:α→Bool} {l:List α} {k:Nat} {e:α} (h:l[k]? = some e) (hp:p e=true):(l.take k).filter p++[e]=(l.take (k+1)).filter p:=by
 rw[← dS h,filter_append,filter_cons_of_pos hp];rfl
theorem flt_f {α:Type} {p:α→Bool} {l:List α} {k:Nat} {e:α} (h:l[k]? = some e) (hp:p e=false):(l.take k).filter p=(l.take (k+1)).filter p:=by
 rw[← dS h,filter_append,filter_cons_of_neg (by rw[hp];simp)];simp
theorem flt_all {α:Type} {p:α→Bool} {l:List α} {k:Nat} (h:¬ (k:Int)<l.length):(l.take k).filter p=l.filter p:=by rw[take_of_length_le aB]
theorem flt_len {α:Type} {p:α→Bool} {l:List α} {k:Nat}:((l.take k).filter p).length≤l.length:=Nat.le_trans (length_filter_le _ _) (by rw[length_take];omega)
theorem sw_no {y:Yard} {sh:Int} (h:inB sh 0 ((y.shelf.length:Int) - 1)=false):y=aZ y sh:=by unfold aZ;rw[if_neg (by rw[h];simp)]
theorem sw_in {y:Yard} {sh:Int} {l:List Entry} (h:inB sh 0 ((y.shelf.length:Int) - 1)=true) (hl:y.shelf[sh.toNat]? = some l):(⟨y.now,y.seq,y.shelf.set sh.toNat (l.filter (fresh y)),y.runs⟩:Yard)=aZ y sh:=by
 unfold aZ;rw[if_pos h,getD_eq_getElem?_getD,hl];rfl
theorem cA4 (y:Yard) (sh:Int) (hw:y.wt≤1048576):Ct1 prog 329 [.S y,.I sh] [.S (aZ y sh)]:=
 .one (aZ y sh) (rk:=fun x=>[.S x])<|vc func329 (fun (hg:gin [Par.S y,Par.I sh])=>let gy:=hg.1.1
  let hsl:=fH y hw
  .c func184 (fU y hw) (hg:=⟨gy,trivial⟩) fun _ => .m (y.shelf.length:Int) 1 (h:=by unfold I64;omega) <| .c func138 (InV sh 0 ((y.shelf.length:Int) - 1)) fun _ => .v (inB sh 0 ((y.shelf.length:Int) - 1))
   (fun h => .rt y ⟨sw_no h,gy,trivial⟩)
   (fun h => .ex (vH h) fun l hl=>let hll:=lO hl hw
    .e Entry <| .l (Γ:=Nat) (fun k=>k≤l.length) (fun k=>l.length - k) [1,2,4,5] [2,3,4,5,6] [0,1] (fun k=>[vR 6 7,vI 7 k]) (fun k=>[oR 7 243 ((l.take k).filter (fresh y))]) 0 fun k hk tk=>
     let hfl:((l.take k).filter (fresh y)).length≤l.length:=flt_len
     .ye hl sh (he:=jW h) fun _ => .s ((k:Int)<l.length)
      (fun h2 => .ye hl sh (he:=jW h) fun _ => .x l k (h:=by omega) fun e he ge => .c func374 (cB1 y e hw) (hg:=⟨gy,ge,trivial⟩) fun _ => .sb (fresh y e)
       (fun h3 => .ye hl sh (he:=jW h) fun _ => .y he fun _ => .a ((l.take k).filter (fresh y)) e 32 (hy:=ge) (h63:=by unfold maxLen;omega) (hby:=by omega) <| .g 7 (flt_t he h3) <| .p k 1 (h:=by unfold I64;omega) <| .n tk (k+1) [])
       (fun h3 => .g 7 (flt_f he h3) <| .p k 1 (h:=by unfold I64;omega) <| .n tk (k+1) []))
      (fun h2 => .g 7 (flt_all (p:=fresh y) h2) <| .sh 7 <| .d 4 hl fun _ => .ie sh.toNat sh (he:=jW h) <| .wt 55 <| .f 4 y.shelf (l.filter (fresh y)) (h:=trivial) <|
       .rt ⟨y.now,y.seq,y.shelf.set sh.toNat (l.filter (fresh y)),y.runs⟩ ⟨sw_in h hl,gy,trivial⟩))) aD
theorem st_ok {r:Run} {t:Task} {now:Int} (g:t.ok) (h:I64 (t.try_+1)) (h2:I64 (now+r.plan.wait)):Task.ok ⟨3,t.need,t.try_+1,now+r.plan.wait⟩:=⟨by show I64 3;unfold I64;omega,g.2.1,h,h2⟩
theorem Started_s (r:Run) (task now:Int) (t:Task) (h0:0≤task) (ht:r.tasks[task.toNat]? = some t) (hn:0≤now∧now≤999999980) (hR:RunIs r):Ct1 prog 334 [.S r,.I task,.I now] [.S (kB r task.toNat t now)]:=
 vc func334 (fun (hg:gin [Par.S r,Par.I task,Par.I now])=>let gr:=hg.1.1
  let htr:=hR.tries ht
  let h1:I64 (t.try_+1):=(by unfold I64;omega)
  let h2:I64 (now+r.plan.wait):=(by unfold I64;omega)
  .c func288 (nQ r (aL2 hR).1 (aL2 hR).2) (hg:=⟨gr,trivial⟩) fun _ => .ye ht task (he:=by omega) fun gt => .p t.try_ 1 (h:=h1) <| .p now r.plan.wait (h:=h2) <|
   .d 5 ht fun _ => .ie task.toNat task (he:=by omega) <| .wt 32 <| .f 5 r.tasks ⟨3,t.need,t.try_+1,now+r.plan.wait⟩ (h:=st_ok gt h1 h2) <| .rt () ⟨trivial,gr,trivial⟩) aD
def aC5 (home:Int):List Int:=[(home+1) % 4,(home+2) % 4,(home+3) % 4]
theorem oth_sp {home draw d:Int} (hd:d=max draw 0 % 3):(aC5 home).drop d.toNat++(aC5 home).take d.toNat=bU home draw:=oth_vict hd
theorem Victims_s (home draw:Int) (hh:0≤home∧home≤3) (hd:I64 draw):Ct1 prog 330 [.I home,.I draw] [.L (bU home draw)]:=
 .one (bU home draw) (rk:=fun l=>[.L l])<|vc func330 (fun hg=>
  let fin:∀ d:Int,d=max draw 0→D prog (fun l:List Int=>l=bU home draw∧rgd [Rk.L l]):=fun d he=>
   let h0:0≤d∧d≤9223372036854775807:=(by unfold I64 at hd;omega)
   let hl3:(aC5 home).length=3:=rfl
   .e Int <| .l (Γ:=Nat) (fun k=>1≤k∧k≤4) (fun k=>4 - k) [777777,12] [777777] [777777] (fun k=>[vI 6 k,vR 5 0]) (fun k=>[oR 0 3 (lZ home k)]) 1 (h:=⟨Nat.le_refl _,by omega⟩) fun k hk t=>
    let hol:(lZ home k).length≤3:=(by unfold lZ;rw[length_take];simp only[length_cons,length_nil];omega)
    .s ((k:Int)<4)
    (fun h => .p home (k:Int) (h:=by unfold I64;omega) <| .q (home+k) 4 (h:=by omega) <| .a (lZ home k) ((home+k) % 4) 8 (hy:=by show I64 _;unfold I64;omega) (h63:=by unfold maxLen;omega) (hby:=by omega) <| .g 0 (oth_to (home:=home) hk.1 aB).symm <| .p k 1 (h:=by unfold I64;omega) <| .n t (k+1) [] (h1:=⟨by omega,by omega⟩))
    (fun h => .sh 0 <| .g 0 (show lZ home k=aC5 home by rw[show k=4 by omega];rfl) <| .q d 3 (h:=by omega) <|
     .dp inferInstance (aC5 home) (d % 3).toNat aB (d % 3) aB <| .tk inferInstance (aC5 home) (d % 3).toNat aB (d % 3) aB <| .e Int <| .as (inferInstance:Shape Int) gA [] ((aC5 home).drop (d % 3).toNat) 8 (by rw[length_drop,hl3];simp only[length_nil];unfold maxLen;omega) (by rw[length_drop,hl3];simp only[length_nil];omega) <| .re inferInstance 2 0 (aC5 home) (d % 3).toNat aB <| .as (inferInstance:Shape Int) gA ((aC5 home).drop (d % 3).toNat) ((aC5 home).take (d % 3).toNat) 8 (by rw[length_drop,length_take,hl3];unfold maxLen;omega) (by rw[length_drop,length_take,hl3];omega) <|
     .rt ((aC5 home).drop (d % 3).toNat++(aC5 home).take (d % 3).toNat) ⟨oth_sp (by rw[he]),trivial⟩)
  .c func117 (BroughtSD home 0 3) fun _ => .rv 9 (I home) (y:=I (qJ home 0 3)) (cL5 hh) <| .s (draw<0)
   (fun h=>fin 0 aB)
   (fun h=>fin draw aB)) aD
theorem bS6 {xs:List Entry} (h:(cC xs).2.2=true):xs=(cC xs).1::(cC xs).2.1:=by
 cases xs with
 | nil=>cases h
 | cons e l=>rfl
theorem cD5 {xs:List Entry} (h:(cC xs).2.2=false):xs=[]:=by
 cases xs with
 | nil=>rfl
 | cons e l=>cases h
theorem oF (worker:Int):worker % 4=(((worker % 4).toNat:Nat):Int):=by omega
theorem bV4 {y:Yard} (hY:YardIs y) (w draw:Int) (k:Nat):PI y (fE (w % 4).toNat (aZ y (w % 4)) ((bU (w % 4) draw).take k)) (w % 4).toNat:=by
 have h:=PI.take hY (home:=(w % 4).toNat) aB (l:=bU (w % 4) draw) (fun o ho=>by have:=oQ (home:=w % 4) aB o ho;omega) k
 rwa [← oF] at h
theorem aE1 {y out:Yard} {h:Nat} (hP:PI y out h) (hh:h<4):out.shelf[h]? = some (out.shelf.getD h []):=getD_some (by have:=hP.len;omega)
theorem pl_rob {y out:Yard} {h:Nat} {o:Int} (hP:PI y out h) (hh:h<4) (ho:0≤o∧o≤3∧o≠(h:Int)):∃ q:List Entry×List Entry,(aZ out o).shelf[o.toNat]? = some q.1∧((aZ out o).shelf.set o.toNat (q.1.drop (dA q.1)))[h]? = some q.2∧q.1.length≤80∧q.2.length≤80 ∧
  (⟨(aZ out o).now,(aZ out o).seq,((aZ out o).shelf.set o.toNat (q.1.drop (dA q.1))).set h (eB q.2 (q.1.take (dA q.1))),(aZ out o).runs⟩:Yard)=bA7 (aZ out o) h o.toNat:=by
 have hs:=hP.sw (o:=o) aB
 have hne:h≠o.toNat:=by omega
 refine ⟨((aZ out o).shelf.getD o.toNat [],(aZ out o).shelf.getD h []),getD_some aB,?_,hs.2 _ aB,hs.2 _ hh,?_⟩
 ·rw[getElem?_set_ne (fun e=>hne e.symm)];exact getD_some aB
 rw[robY_comm hne];rfl
theorem pl_8 {y:Yard} {w d:Int} (h:aM y=false):(y,(⟨8,0,0,0⟩:Reply))=gU y w d:=by unfold gU;rw[if_pos (by rw[h];simp)]
theorem pl_5 {y:Yard} {w d:Int} (h0:aM y=true) (h:inB w 0 99=false):(y,(⟨5,0,0,0⟩:Reply))=gU y w d:=by unfold gU;rw[if_neg (by rw[h0];simp),if_pos (by rw[h];simp)]
theorem pl_0 {y out:Yard} {w d:Int} (h0:aM y=true) (h:inB w 0 99=true) (ho:out=fE (w % 4).toNat (aZ y (w % 4)) (bU (w % 4) d)):sL out (w % 4).toNat=gU y w d:=by unfold gU;rw[if_neg (by rw[h0];simp),if_neg (by rw[h];simp),← ho]
structure PlA (y out:Yard) (home:Nat) (e:Entry) (k:Nat) (r:Run) (t:Task):Prop where
 ix:cI out e.run=some k
 hr:out.runs[k]? = some r
 h0:0≤e.task
 ht:r.tasks[e.task.toNat]? = some t
 is:RunIs r
theorem pl_at {y out:Yard} {h:Nat} {e:Entry} (hY:YardIs y) (hP:PI y out h) (he:e∈out.shelf.getD h []):∃ q:Nat×Run×Task,PlA y out h e q.1 q.2.1 q.2.2:=by
 obtain ⟨k,r,t,hix,hry,h0,hti,h2⟩:=fresh_at (hP.fresh e he)
 exact ⟨(k,r,t),⟨(runIx_runs hP.runs _).trans hix,by rw[hP.runs];exact hry,h0,hti,(hY.run k r hry).1⟩⟩
theorem bO6 {a b c d:Int} (ha:I64 a) (hb:I64 b) (hc:I64 c) (hd:I64 d):Reply.ok ⟨a,b,c,d⟩:=⟨ha,hb,hc,hd⟩
theorem aT3 (a:Int) (h:0≤a∧a≤100):Reply.ok ⟨a,0,0,0⟩:=bO6 (by unfold I64;omega) (by unfold I64;omega) (by unfold I64;omega) (by unfold I64;omega)
theorem Poll_s (y:Yard) (w d:Int) (hw:y.wt≤1048576) (hd:I64 d):Ct1 prog 220 [.S y,.I w,.I d] [.S (gU y w d).1,.S (gU y w d).2]:=
 .one (gU y w d) (rk:=fun q=>[.S q.1,.S q.2])<|vc func220 (fun (hg:gin [Par.S y,Par.I w,Par.I d])=>let gy:=hg.1.1
  .c func185 (lE y hw) (hg:=⟨gy,trivial⟩) fun _ => .v (aM y)
   (fun h => .c func184 (fU y hw) (hg:=⟨gy,trivial⟩) fun _ => .rt (y,⟨8,0,0,0⟩) ⟨pl_8 h,gy,aT3 8 aB,trivial⟩)
   (fun hy=>let hY:=kA hy
    .c func138 (InV w 0 99) fun _ => .v (inB w 0 99)
    (fun h => .c func184 (fU y hw) (hg:=⟨gy,trivial⟩) fun _ => .rt (y,⟨5,0,0,0⟩) ⟨pl_5 hy h,gy,aT3 5 aB,trivial⟩)
    (fun hin=>let hwk:=inB_iff.1 hin
     .q w 4 (h:=by omega) <| .c func329 (cA4 y (w % 4) hw) (hg:=⟨gy,trivial⟩) fun _ => .c func330 (Victims_s (w % 4) d aB hd) fun _=>
     let fin:∀ (m:Nat) (out:Yard),out=fE (w % 4).toNat (aZ y (w % 4)) (bU (w % 4) d)→PI y out (w % 4).toNat→out.ok→D prog (fun q:Yard×Reply=>q=gU y w d∧rgd [Rk.S q.1,Rk.S q.2]):=fun m out ho hP go=>
      let hl:=aE1 hP (show (w % 4).toNat<4 by omega)
      let h80:=hP.each (w % 4).toNat aB
      .ye hl (w % 4) (he:=oF w) fun _ => .c func333 (TakeEntry_s (out.shelf.getD (w % 4).toNat []) aB) fun gt => .v (cC (out.shelf.getD (w % 4).toNat [])).2.2
       (fun hn => .rt (out,⟨9,0,0,0⟩) ⟨by rw[← pl_0 hy hin ho];exact (aM1 (cD5 hn)).symm,go,aT3 9 aB,trivial⟩)
       (fun hn=>let hcs:=bS6 hn
        .ex (pl_at hY hP (show (cC (out.shelf.getD (w % 4).toNat [])).1∈out.shelf.getD (w % 4).toNat [] by rw[hcs];exact mem_cons_self)) fun q hq=>
        let hnow:0≤out.now∧out.now≤999999980:=(by rw[hP.now];exact hY.now)
        let hrl:(cC (out.shelf.getD (w % 4).toNat [])).2.1.length≤80:=(by have h_:=h80;rw[hcs] at h_;simp only[length_cons] at h_;omega)
        .d 5 hl fun _ => .ie (w % 4).toNat (w % 4) (he:=oF w) <| .wt 109 <| .f 5 out.shelf (cC (out.shelf.getD (w % 4).toNat [])).2.1 (h:=trivial) <|
        .c func291 (mF ⟨out.now,out.seq,out.shelf.set (w % 4).toNat (cC (out.shelf.getD (w % 4).toNat [])).2.1,out.runs⟩ (cC (out.shelf.getD (w % 4).toNat [])).1.run (Nat.le_trans (hP.wtS hY hrl) aB)) (hg:=⟨go,trivial⟩) fun _=>
        .d 6 hq.hr fun gr => .ie q.1 (aH ⟨out.now,out.seq,out.shelf.set (w % 4).toNat (cC (out.shelf.getD (w % 4).toNat [])).2.1,out.runs⟩ (cC (out.shelf.getD (w % 4).toNat [])).1.run) (he:=dE hq.ix) <|
        .c func334 (Started_s q.2.1 (cC (out.shelf.getD (w % 4).toNat [])).1.task out.now q.2.2 hq.h0 hq.ht hnow hq.is) (hg:=⟨gr,trivial⟩) fun gs=>
        .ie q.1 (aH ⟨out.now,out.seq,out.shelf.set (w % 4).toNat (cC (out.shelf.getD (w % 4).toNat [])).2.1,out.runs⟩ (cC (out.shelf.getD (w % 4).toNat [])).1.run) (he:=dE hq.ix) <| .wt 126 <| .f 6 out.runs (kB q.2.1 (cC (out.shelf.getD (w % 4).toNat [])).1.task.toNat q.2.2 out.now) (h:=gs.1.1) <|
        let hr2:(out.runs.set q.1 (kB q.2.1 (cC (out.shelf.getD (w % 4).toNat [])).1.task.toNat q.2.2 out.now))[q.1]? = some (kB q.2.1 (cC (out.shelf.getD (w % 4).toNat [])).1.task.toNat q.2.2 out.now):=getElem?_set_self (gsi_.1 hq.hr).1
        let ht2:(kB q.2.1 (cC (out.shelf.getD (w % 4).toNat [])).1.task.toNat q.2.2 out.now).tasks[(cC (out.shelf.getD (w % 4).toNat [])).1.task.toNat]? = some ⟨3,q.2.2.need,q.2.2.try_+1,out.now+q.2.1.plan.wait⟩:=getElem?_set_self (gsi_.1 hq.ht).1
        .d 6 hr2 fun _ => .d m ht2 fun gu => .ie q.1 (aH ⟨out.now,out.seq,out.shelf.set (w % 4).toNat (cC (out.shelf.getD (w % 4).toNat [])).2.1,out.runs⟩ (cC (out.shelf.getD (w % 4).toNat [])).1.run) (he:=dE hq.ix) <| .ie (cC (out.shelf.getD (w % 4).toNat [])).1.task.toNat (cC (out.shelf.getD (w % 4).toNat [])).1.task (he:=by have:=hq.h0;omega) <|
        .f m (kB q.2.1 (cC (out.shelf.getD (w % 4).toNat [])).1.task.toNat q.2.2 out.now).tasks ⟨3,q.2.2.need,q.2.2.try_+1,out.now+q.2.1.plan.wait⟩ (h:=gu) <| .g m (wN ht2) <| .f 6 (out.runs.set q.1 (kB q.2.1 (cC (out.shelf.getD (w % 4).toNat [])).1.task.toNat q.2.2 out.now)) (kB q.2.1 (cC (out.shelf.getD (w % 4).toNat [])).1.task.toNat q.2.2 out.now) (h:=gs.1.1) <| .g 6 (wN hr2) <|
        .rt (⟨out.now,out.seq,out.shelf.set (w % 4).toNat (cC (out.shelf.getD (w % 4).toNat [])).2.1,out.runs.set q.1 (kB q.2.1 (cC (out.shelf.getD (w % 4).toNat [])).1.task.toNat q.2.2 out.now)⟩,⟨0,(cC (out.shelf.getD (w % 4).toNat [])).1.run,(cC (out.shelf.getD (w % 4).toNat [])).1.task,q.2.2.try_+1⟩)
         ⟨by rw[← pl_0 hy hin ho];exact (aV6 hcs hq.ix hq.hr hq.ht).symm,go,bO6 (by unfold I64;omega) gt.1.1.2.2.1 gt.1.1.2.2.2 (show Task.ok _ from gu).2.2.1,trivial⟩)
     .l (Γ:=Nat×Yard) (fun g=>g.1≤3∧g.2=fE (w % 4).toNat (aZ y (w % 4)) ((bU (w % 4) d).take g.1)) (fun g=>3 - g.1) [6,7,8,9,10] [3,4,8] [] (fun g=>[vI 11 g.1]) (fun g=>ryS g.2 7 5 6) (0,aZ y (w % 4)) (h:=⟨Nat.zero_le _,(aA5 _ _ _).symm⟩) fun g hJ tk=>
      let hP:PI y g.2 (w % 4).toNat:=(by rw[hJ.2];exact bV4 hY w d g.1)
      let hl:=aE1 hP (show (w % 4).toNat<4 by omega)
      let go:g.2.ok:=hP.ok hY
      .s ((g.1:Int)<(bU (w % 4) d).length)
       (fun hlt => .ye hl (w % 4) (he:=oF w) fun _ => .s (((g.2.shelf.getD (w % 4).toNat []).length:Int)=0)
        (fun hem => .ex (p:=fun o=>(bU (w % 4) d)[g.1]? = some o) ⟨_,getElem?_eq_getElem (show g.1<(bU (w % 4) d).length by omega)⟩ fun o hk=>
         let hor:=oQ (home:=w % 4) (draw:=d) aB o (mem_of_getElem? hk)
         .ex (pl_rob hP (show (w % 4).toNat<4 by omega) (show 0≤o∧o≤3∧o≠(((w % 4).toNat:Nat):Int) by omega)) fun q hq=>
         .y hk fun _ => .c func329 (cA4 g.2 o (Nat.le_trans (hP.wt hY) aB)) (hg:=⟨go,trivial⟩) fun gs=>
         .y hk fun _ => .ye hq.1 o (he:=by omega) fun _ => .c func331 (HalfOf_s q.1 (by have:=hq.2.2.1;omega)) fun _=>
         .d 12 hq.1 fun _ => .y hk fun _ => .ie o.toNat o (he:=by omega) <| .wt 78 <| .f 12 (aZ g.2 o).shelf (q.1.drop (dA q.1)) (h:=trivial) <|
         .d 12 hq.2.1 fun _ => .ie (w % 4).toNat (w % 4) (he:=oF w) <| .c func332 (Merged_s q.2 (q.1.take (dA q.1)) (by have:=hq.2.2.2.1;omega) (by have:=hq.2.2.1;rw[length_take];omega)) fun _ => .ie (w % 4).toNat (w % 4) (he:=oF w) <| .wt 51 <| .f 12 ((aZ g.2 o).shelf.set o.toNat (q.1.drop (dA q.1))) (eB q.2 (q.1.take (dA q.1))) (h:=trivial) <|
         .p g.1 1 (h:=by unfold I64;omega) <| .n tk (g.1+1,⟨(aZ g.2 o).now,(aZ g.2 o).seq,((aZ g.2 o).shelf.set o.toNat (q.1.drop (dA q.1))).set (w % 4).toNat (eB q.2 (q.1.take (dA q.1))),(aZ g.2 o).runs⟩) [(5,12),(6,13)]
          (h1:=⟨by show g.1+1≤3;have:(bU (w % 4) d).length=3:=rfl;omega,by rw[aT0 hk (by rw[← hJ.2];exact nil0 hem),← hJ.2];exact hq.2.2.2.2⟩) (h2:=by show 3 - (g.1+1)<_;have:(bU (w % 4) d).length=3:=rfl;omega))
        (fun hem=>fin 24 g.2 (by rw[hJ.2];exact (aI3 (by rw[← hJ.2];exact bW2 hem)).symm) hP go))
       (fun hlt=>fin 22 g.2 (by rw[hJ.2];exact aI4 (by have:(bU (w % 4) d).length=3:=rfl;omega)) hP go)))) aD
noncomputable def cE2 (y:Yard) (id:Int) (p:Plan):Yard:=⟨y.now,y.seq+((aR (cA id p).tasks 2).length:Int),iF (aX id).toNat p.prio id (aR (cA id p).tasks 2) y.shelf y.seq,y.runs++[cA id p]⟩
noncomputable def bL (y:Yard) (id:Int) (p:Plan):Yard×Int:=
 if aM y=false then (y,8) else if inB id 1 9999=false then (y,5) else if 0≤aH y id then (y,6) else if aK p≠0 then (y,aK p) else if jL y p=false then (y,7) else (cE2 y id p,0)


theorem fresh_zero (r:Run):fL zRun r=aR r.tasks 2:=by
 unfold fL;rw[filter_eq_self];intro a _;simp[zRun,aR,eS]

end Go.Proofs.YtanpcpoogkdlaaaGreat
