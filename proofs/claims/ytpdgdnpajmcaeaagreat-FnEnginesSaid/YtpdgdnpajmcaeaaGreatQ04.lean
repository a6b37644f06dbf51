/-
  How data stand, cell by cell.
  What is told of a walk, in short. Theory alone.
  Bytes of strings, parts of strings, bytes compared, as hooks. Theory alone.
  A number's text, of both; told to the reader.
  What is drawn of bytes: a cursor, numbers below a bound. Told to the reader.
  The place of the first element that a test takes. Theory alone.
  TasksIn, of the program and of the reference.
  What the walks of the helpers share.
  Slices of ints: what is their own is marked and held, two are compared, one is copied; small numbers within bounds.
  AllOver, LeftIn, EnoughFor, of the program and of the reference.
  When a shelf is right: of the program and of the reference.
  RunAt, Fresh, the entries, of the program and of the reference.
  ReadyOf, OldestOf, of the program and of the reference.
  Numbers in bytes, read, of the program and of the reference.
  Four bytes read as a number, of both.
  A number in four bytes, of both.
  A text's sum, of both; told to the reader.
  A mark's text, of both, given what a yard's text is.
  Files found by their names and read, of the reference.
  Shelves in order, runs by their numbers, entries that are fresh, of both; told to the reader.
  Operations under guards, many at a time, without a question being decided: what they lay down is told under what the guards say. Theory alone.
  Slots, and the entries of a run: of the program and of the reference.
  Slots that are taken, runs that stand in a yard as they should, of both; told to the reader.
  What waits for what: ways along edges, and that a short one is there where there is one. Theory alone.
  The reference's search: what it has met, while it goes on, and in the end. Theory alone.
  What is wrong with a plan. Theory alone.
  The tasks before and behind a task, in order. Theory alone.
  What is wrong with a plan: of the program and of the reference.
  What a sort leaves of an owned slice of numbers.
  slices.Sort over a slice of numbers of one's own.
  Plans that are right or not, what waits for what, of both; told to the reader.
  When a run is right. Theory alone.
  When a run is right: of the program and of the reference.
  Runs that are changed in place, of the program.
  A task that fails: what becomes of a right run. Theory alone.
  Runs that are right or not, of both; told to the reader.
-/
import Derived.Shelf.Sort.Plain
import Derived.Shelf.Slices.In.SortNone
import Derived.Test.YtpdgdnpajmcaeaaGreatQ01
import Derived.Test.YtpdgdnpajmcaeaaGreatQ02
import Derived.Test.YtpdgdnpajmcaeaaGreatQ03
universe u
set_option linter.unusedSimpArgs false
set_option linter.unusedVariables false
namespace Go.Proofs.YtpdgdnpajmcaeaaGreat
set_option maxRecDepth 100000
set_option maxHeartbeats 2000000
open Go.RowKit Go.Proofs.Tryz List
abbrev lS {β:Type}[i:Shape β] (ys:List β):Lf := .s β i ys
theorem aI {w:World}{cs:List Value}{u:Value}{ls:List Lf}{fp:List Nat}(h:cW w cs (.v u::ls) fp):∃r,cs=u::r/\cW w r ls fp:=by
 cases cs with
 | nil=>exact h.elim
 | cons c r=>exact⟨r,by rw[h.1],h.2⟩
theorem fX {w:World}{cs:List Value}{β:Type}{i:Shape β}{ys:List β}{ls:List Lf}{fp:List Nat}(h:cW w cs (.s β i ys::ls) fp):∃c r f1 f2,cs=c::r/\Sl w c ys f1/\cW w r ls f2/\fp=f1++f2:=by
 cases cs with
 | nil=>exact h.elim
 | cons c r=>obtain⟨f1,f2,h1,h2,h3⟩:=h;exact⟨c,r,f1,f2,rfl,h1,h2,h3⟩
theorem dW {w:World}{cs:List Value}{fp:List Nat}(h:cW w cs [] fp):cs=[]/\fp=[]:=by
 cases cs with
 | nil=>exact⟨rfl,h⟩
 | cons=>exact h.elim
instance:Dsh Int where
 lv:=fun n=>[.v (I n)]
 good:=I64
 out:=fun ⟨h1,h2,h3⟩=>by subst h1;subst h2;exact⟨h3,rfl,rfl⟩
 inn:=fun hg h=>by obtain⟨r,rfl,h2⟩:=aI h;obtain⟨rfl,rfl⟩:=dW h2;exact⟨rfl,rfl,hg⟩
instance:Dsh Bool where
 lv:=fun b=>[.v (.bool b)]
 good:=fun _=>True
 out:=fun ⟨h1,h2,h3⟩=>by subst h1;subst h2;exact⟨h3,rfl,rfl⟩
 inn:=fun hg h=>by obtain⟨r,rfl,h2⟩:=aI h;obtain⟨rfl,rfl⟩:=dW h2;exact⟨rfl,rfl,hg⟩
instance:Dsh ByteArray where
 lv:=fun b=>[.v (.string b)]
 good:=fun s=>s.size<=maxLen
 out:=fun ⟨h1,h2,h3⟩=>by subst h1;subst h2;exact⟨h3,rfl,rfl⟩
 inn:=fun hg h=>by obtain⟨r,rfl,h2⟩:=aI h;obtain⟨rfl,rfl⟩:=dW h2;exact⟨rfl,rfl,hg⟩
instance {α:Type}[Shape α]:Dsh (List α) where
 lv:=fun xs=>[.s α _ xs]
 good:=fun _=>True
 out:=fun ⟨v,h1,h2⟩=>by subst h1;exact⟨trivial,_,[],h2,rfl,by simp⟩
 inn:=fun hg h=>by obtain⟨c,r,f1,f2,rfl,h1,h2,rfl⟩:=fX h;obtain⟨rfl,rfl⟩:=dW h2;exact⟨c,rfl,by simpa using h1⟩
instance:Dsh Edge where
 lv:=fun x=>[.v (I x.from_),.v (I x.to_)]
 good:=Edge.ok
 out:=fun {w cs x fp} h=>by obtain⟨h1,h2,h3⟩:=h;subst h1;subst h2;exact⟨h3,rfl,rfl,rfl⟩
 inn:=fun hg h=>by obtain⟨r0,e0,z0⟩:=aI h;obtain⟨r1,e1,z1⟩:=aI z0;obtain⟨e2,p0⟩:=dW z1;subst e2 e1 e0;subst p0;exact⟨rfl,rfl,hg⟩
instance:Dsh Plan where
 lv:=fun x=>[.v (I x.prio),.v (I x.most),.v (I x.wait),.v (I x.tasks),lS x.edges]
 good:=Plan.ok
 out:=fun {w cs x fp} h=>by
  obtain⟨v0,f0,hcs,hok,h0,hfp⟩:=h;refine⟨hok,?_⟩;rw[hcs,hfp];have h:cW w [I x.prio,I x.most,I x.wait,I x.tasks,v0] [.v (I x.prio),.v (I x.most),.v (I x.wait),.v (I x.tasks),lS x.edges] (f0++[]):=⟨rfl,⟨rfl,⟨rfl,⟨rfl,⟨f0,_,h0,rfl,rfl⟩⟩⟩⟩⟩;simpa using h
 inn:=fun hg h=>by
  obtain⟨r0,e0,z0⟩:=aI h;obtain⟨r1,e1,z1⟩:=aI z0;obtain⟨r2,e2,z2⟩:=aI z1;obtain⟨r3,e3,z3⟩:=aI z2;obtain⟨c0,r4,f0,g0,e4,h0,z4,p0⟩:=fX z3;obtain⟨e5,p1⟩:=dW z4;subst e5 e4 e3 e2 e1 e0;subst p1 p0;exact⟨c0,f0,rfl,hg,h0,by simp⟩
instance:Dsh Entry where
 lv:=fun x=>[.v (I x.prio),.v (I x.seq),.v (I x.run),.v (I x.task)]
 good:=Entry.ok
 out:=fun {w cs x fp} h=>by obtain⟨h1,h2,h3⟩:=h;subst h1;subst h2;exact⟨h3,rfl,rfl,rfl,rfl,rfl⟩
 inn:=fun hg h=>by obtain⟨r0,e0,z0⟩:=aI h;obtain⟨r1,e1,z1⟩:=aI z0;obtain⟨r2,e2,z2⟩:=aI z1;obtain⟨r3,e3,z3⟩:=aI z2;obtain⟨e4,p0⟩:=dW z3;subst e4 e3 e2 e1 e0;subst p0;exact⟨rfl,rfl,hg⟩
instance:Dsh Task where
 lv:=fun x=>[.v (I x.state),.v (I x.need),.v (I x.try_),.v (I x.until_)]
 good:=Task.ok
 out:=fun {w cs x fp} h=>by obtain⟨h1,h2,h3⟩:=h;subst h1;subst h2;exact⟨h3,rfl,rfl,rfl,rfl,rfl⟩
 inn:=fun hg h=>by obtain⟨r0,e0,z0⟩:=aI h;obtain⟨r1,e1,z1⟩:=aI z0;obtain⟨r2,e2,z2⟩:=aI z1;obtain⟨r3,e3,z3⟩:=aI z2;obtain⟨e4,p0⟩:=dW z3;subst e4 e3 e2 e1 e0;subst p0;exact⟨rfl,rfl,hg⟩
instance:Dsh Run where
 lv:=fun x=>[.v (I x.id),.v (I x.plan.prio),.v (I x.plan.most),.v (I x.plan.wait),.v (I x.plan.tasks),lS x.plan.edges,.v (I x.state),lS x.tasks]
 good:=Run.ok
 out:=fun {w cs x fp} h=>by
  obtain⟨v0,v1,f0,f1,hcs,hok,h0,h1,hfp⟩:=h;refine⟨hok,?_⟩;rw[hcs,hfp];have h:cW w [I x.id,I x.plan.prio,I x.plan.most,I x.plan.wait,I x.plan.tasks,v0,I x.state,v1] [.v (I x.id),.v (I x.plan.prio),.v (I x.plan.most),.v (I x.plan.wait),.v (I x.plan.tasks),lS x.plan.edges,.v (I x.state),lS x.tasks] (f0++(f1++[])):=⟨rfl,⟨rfl,⟨rfl,⟨rfl,⟨rfl,⟨f0,_,h0,⟨rfl,⟨f1,_,h1,rfl,rfl⟩⟩,rfl⟩⟩⟩⟩⟩⟩;simpa using h
 inn:=fun hg h=>by
  obtain⟨r0,e0,z0⟩:=aI h;obtain⟨r1,e1,z1⟩:=aI z0;obtain⟨r2,e2,z2⟩:=aI z1;obtain⟨r3,e3,z3⟩:=aI z2;obtain⟨r4,e4,z4⟩:=aI z3;obtain⟨c0,r5,f0,g0,e5,h0,z5,p0⟩:=fX z4;obtain⟨r6,e6,z6⟩:=aI z5;obtain⟨c1,r7,f1,g1,e7,h1,z7,p1⟩:=fX z6;obtain⟨e8,p2⟩:=dW z7;subst e8 e7 e6 e5 e4 e3 e2 e1 e0;subst p2 p1 p0;exact⟨c0,c1,f0,f1,rfl,hg,h0,h1,by simp⟩
instance:Dsh Yard where
 lv:=fun x=>[.v (I x.now),.v (I x.seq),lS x.shelf,lS x.runs]
 good:=Yard.ok
 out:=fun {w cs x fp} h=>by
  obtain⟨v0,v1,f0,f1,hcs,hok,h0,h1,hfp⟩:=h;refine⟨hok,?_⟩;rw[hcs,hfp];have h:cW w [I x.now,I x.seq,v0,v1] [.v (I x.now),.v (I x.seq),lS x.shelf,lS x.runs] (f0++(f1++[])):=⟨rfl,⟨rfl,⟨f0,_,h0,⟨f1,_,h1,rfl,rfl⟩,rfl⟩⟩⟩;simpa using h
 inn:=fun hg h=>by
  obtain⟨r0,e0,z0⟩:=aI h;obtain⟨r1,e1,z1⟩:=aI z0;obtain⟨c0,r2,f0,g0,e2,h0,z2,p0⟩:=fX z1;obtain⟨c1,r3,f1,g1,e3,h1,z3,p1⟩:=fX z2;obtain⟨e4,p2⟩:=dW z3;subst e4 e3 e2 e1 e0;subst p2 p1 p0;exact⟨c0,c1,f0,f1,rfl,hg,h0,h1,by simp⟩
instance:Dsh Reply where
 lv:=fun x=>[.v (I x.code),.v (I x.run),.v (I x.task),.v (I x.try_)]
 good:=Reply.ok
 out:=fun {w cs x fp} h=>by obtain⟨h1,h2,h3⟩:=h;subst h1;subst h2;exact⟨h3,rfl,rfl,rfl,rfl,rfl⟩
 inn:=fun hg h=>by obtain⟨r0,e0,z0⟩:=aI h;obtain⟨r1,e1,z1⟩:=aI z0;obtain⟨r2,e2,z2⟩:=aI z1;obtain⟨r3,e3,z3⟩:=aI z2;obtain⟨e4,p0⟩:=dW z3;subst e4 e3 e2 e1 e0;subst p0;exact⟨rfl,rfl,hg⟩
instance:Dsh Deed where
 lv:=fun x=>[.v (I x.kind),.v (I x.run),.v (I x.plan.prio),.v (I x.plan.most),.v (I x.plan.wait),.v (I x.plan.tasks),lS x.plan.edges,.v (I x.task),.v (I x.try_),.v (I x.worker),.v (I x.draw)]
 good:=Deed.ok
 out:=fun {w cs x fp} h=>by
  obtain⟨v0,f0,hcs,hok,h0,hfp⟩:=h;refine⟨hok,?_⟩;rw[hcs,hfp];have h:cW w [I x.kind,I x.run,I x.plan.prio,I x.plan.most,I x.plan.wait,I x.plan.tasks,v0,I x.task,I x.try_,I x.worker,I x.draw] [.v (I x.kind),.v (I x.run),.v (I x.plan.prio),.v (I x.plan.most),.v (I x.plan.wait),.v (I x.plan.tasks),lS x.plan.edges,.v (I x.task),.v (I x.try_),.v (I x.worker),.v (I x.draw)] (f0++[]):=⟨rfl,⟨rfl,⟨rfl,⟨rfl,⟨rfl,⟨rfl,⟨f0,_,h0,⟨rfl,⟨rfl,⟨rfl,⟨rfl,rfl⟩⟩⟩⟩,rfl⟩⟩⟩⟩⟩⟩⟩;simpa using h
 inn:=fun hg h=>by
  obtain⟨r0,e0,z0⟩:=aI h;obtain⟨r1,e1,z1⟩:=aI z0;obtain⟨r2,e2,z2⟩:=aI z1;obtain⟨r3,e3,z3⟩:=aI z2;obtain⟨r4,e4,z4⟩:=aI z3;obtain⟨r5,e5,z5⟩:=aI z4;obtain⟨c0,r6,f0,g0,e6,h0,z6,p0⟩:=fX z5;obtain⟨r7,e7,z7⟩:=aI z6;obtain⟨r8,e8,z8⟩:=aI z7;obtain⟨r9,e9,z9⟩:=aI z8;obtain⟨r10,e10,z10⟩:=aI z9;obtain⟨e11,p1⟩:=dW z10;subst e11 e10 e9 e8 e7 e6 e5 e4 e3 e2 e1 e0;subst p1 p0;exact⟨c0,f0,rfl,hg,h0,by simp⟩
instance:Dsh Note where
 lv:=fun x=>[.v (I x.seq),.v (I x.deed.kind),.v (I x.deed.run),.v (I x.deed.plan.prio),.v (I x.deed.plan.most),.v (I x.deed.plan.wait),.v (I x.deed.plan.tasks),lS x.deed.plan.edges,.v (I x.deed.task),.v (I x.deed.try_),.v (I x.deed.worker),.v (I x.deed.draw)]
 good:=Note.ok
 out:=fun {w cs x fp} h=>by
  obtain⟨v0,f0,hcs,hok,h0,hfp⟩:=h;refine⟨hok,?_⟩;rw[hcs,hfp];have h:cW w [I x.seq,I x.deed.kind,I x.deed.run,I x.deed.plan.prio,I x.deed.plan.most,I x.deed.plan.wait,I x.deed.plan.tasks,v0,I x.deed.task,I x.deed.try_,I x.deed.worker,I x.deed.draw] [.v (I x.seq),.v (I x.deed.kind),.v (I x.deed.run),.v (I x.deed.plan.prio),.v (I x.deed.plan.most),.v (I x.deed.plan.wait),.v (I x.deed.plan.tasks),lS x.deed.plan.edges,.v (I x.deed.task),.v (I x.deed.try_),.v (I x.deed.worker),.v (I x.deed.draw)] (f0++[]):=⟨rfl,⟨rfl,⟨rfl,⟨rfl,⟨rfl,⟨rfl,⟨rfl,⟨f0,_,h0,⟨rfl,⟨rfl,⟨rfl,⟨rfl,rfl⟩⟩⟩⟩,rfl⟩⟩⟩⟩⟩⟩⟩⟩;simpa using h
 inn:=fun hg h=>by
  obtain⟨r0,e0,z0⟩:=aI h;obtain⟨r1,e1,z1⟩:=aI z0;obtain⟨r2,e2,z2⟩:=aI z1;obtain⟨r3,e3,z3⟩:=aI z2;obtain⟨r4,e4,z4⟩:=aI z3;obtain⟨r5,e5,z5⟩:=aI z4;obtain⟨r6,e6,z6⟩:=aI z5;obtain⟨c0,r7,f0,g0,e7,h0,z7,p0⟩:=fX z6;obtain⟨r8,e8,z8⟩:=aI z7;obtain⟨r9,e9,z9⟩:=aI z8;obtain⟨r10,e10,z10⟩:=aI z9;obtain⟨r11,e11,z11⟩:=aI z10;obtain⟨e12,p1⟩:=dW z11;subst e12 e11 e10 e9 e8 e7 e6 e5 e4 e3 e2 e1 e0;subst p1 p0;exact⟨c0,f0,rfl,hg,h0,by simp⟩
instance:Dsh Wait where
 lv:=fun x=>[.v (I x.call),.v (I x.reply.code),.v (I x.reply.run),.v (I x.reply.task),.v (I x.reply.try_)]
 good:=Wait.ok
 out:=fun {w cs x fp} h=>by obtain⟨h1,h2,h3⟩:=h;subst h1;subst h2;exact⟨h3,rfl,rfl,rfl,rfl,rfl,rfl⟩
 inn:=fun hg h=>by obtain⟨r0,e0,z0⟩:=aI h;obtain⟨r1,e1,z1⟩:=aI z0;obtain⟨r2,e2,z2⟩:=aI z1;obtain⟨r3,e3,z3⟩:=aI z2;obtain⟨r4,e4,z4⟩:=aI z3;obtain⟨e5,p0⟩:=dW z4;subst e5 e4 e3 e2 e1 e0;subst p0;exact⟨rfl,rfl,hg⟩
instance:Dsh File where
 lv:=fun x=>[.v (.string x.name),.v (.string x.data),.v (I x.safe)]
 good:=File.ok
 out:=fun {w cs x fp} h=>by obtain⟨h1,h2,h3⟩:=h;subst h1;subst h2;exact⟨h3,rfl,rfl,rfl,rfl⟩
 inn:=fun hg h=>by obtain⟨r0,e0,z0⟩:=aI h;obtain⟨r1,e1,z1⟩:=aI z0;obtain⟨r2,e2,z2⟩:=aI z1;obtain⟨e3,p0⟩:=dW z2;subst e3 e2 e1 e0;subst p0;exact⟨rfl,rfl,hg⟩
instance:Dsh Disk where
 lv:=fun x=>[lS x.files]
 good:=Disk.ok
 out:=fun {w cs x fp} h=>by
  obtain⟨v0,f0,hcs,hok,h0,hfp⟩:=h;refine⟨hok,?_⟩;rw[hcs,hfp];have h:cW w [v0] [lS x.files] (f0++[]):=⟨f0,_,h0,rfl,rfl⟩;simpa using h
 inn:=fun hg h=>by
  obtain⟨c0,r0,f0,g0,e0,h0,z0,p0⟩:=fX h;obtain⟨e1,p1⟩:=dW z0;subst e1 e0;subst p1 p0;exact⟨c0,f0,rfl,hg,h0,by simp⟩
instance:Dsh Engine where
 lv:=fun x=>[.v (I x.yard.now),.v (I x.yard.seq),lS x.yard.shelf,lS x.yard.runs,lS x.disk.files,.v (I x.next),.v (I x.calls),lS x.waits,.v (I x.state),.v (.bool x.broken)]
 good:=Engine.ok
 out:=fun {w cs x fp} h=>by
  obtain⟨v0,v1,v2,v3,f0,f1,f2,f3,hcs,hok,h0,h1,h2,h3,hfp⟩:=h;refine⟨hok,?_⟩;rw[hcs,hfp];have h:cW w [I x.yard.now,I x.yard.seq,v0,v1,v2,I x.next,I x.calls,v3,I x.state,.bool x.broken] [.v (I x.yard.now),.v (I x.yard.seq),lS x.yard.shelf,lS x.yard.runs,lS x.disk.files,.v (I x.next),.v (I x.calls),lS x.waits,.v (I x.state),.v (.bool x.broken)] (f0++(f1++(f2++(f3++[])))):=⟨rfl,⟨rfl,⟨f0,_,h0,⟨f1,_,h1,⟨f2,_,h2,⟨rfl,⟨rfl,⟨f3,_,h3,⟨rfl,⟨rfl,rfl⟩⟩,rfl⟩⟩⟩,rfl⟩,rfl⟩,rfl⟩⟩⟩;simpa using h
 inn:=fun hg h=>by
  obtain⟨r0,e0,z0⟩:=aI h;obtain⟨r1,e1,z1⟩:=aI z0;obtain⟨c0,r2,f0,g0,e2,h0,z2,p0⟩:=fX z1;obtain⟨c1,r3,f1,g1,e3,h1,z3,p1⟩:=fX z2;obtain⟨c2,r4,f2,g2,e4,h2,z4,p2⟩:=fX z3;obtain⟨r5,e5,z5⟩:=aI z4;obtain⟨r6,e6,z6⟩:=aI z5;obtain⟨c3,r7,f3,g3,e7,h3,z7,p3⟩:=fX z6;obtain⟨r8,e8,z8⟩:=aI z7;obtain⟨r9,e9,z9⟩:=aI z8;obtain⟨e10,p4⟩:=dW z9;subst e10 e9 e8 e7 e6 e5 e4 e3 e2 e1 e0;subst p4 p3 p2 p1 p0;exact⟨c0,c1,c2,c3,f0,f1,f2,f3,rfl,hg,h0,h1,h2,h3,by simp⟩
end Go.Proofs.YtpdgdnpajmcaeaaGreat
namespace Go.Proofs.YtpdgdnpajmcaeaaGreat
set_option maxHeartbeats 2000000
open Go.RowKit Go.Proofs.Tryz List
theorem all1 {α:Type}{p:α->Prop}{y:α}(h:p y):∀z∈[y],p z:=fun z hz=>by rw[mem_singleton]at hz;rw[hz];exact h
theorem aV7 {α:Type}{p:α->Prop}{x y:α}(h:p x) (h2:p y):∀z∈[x,y],p z:=fun z hz=>by
 rcases mem_cons.1 hz with rfl | hz
 ·exact h
 ·exact all1 h2 z hz
abbrev vi (e:Int):Value:=I e
namespace Par
abbrev I (e:Int):Par := .v (vi e)
abbrev T (e:ByteArray):Par := .v (.string e)
abbrev S {α:Type}[i:Dsh α] (x:α):Par := .st i x
abbrev L {α:Type}[i:Shape α] (x:List α):Par := .sl i x
end Par
namespace Rk
abbrev I (e:Int):Rk := .v (vi e)
abbrev B (e:Bool):Rk := .v (.bool e)
abbrev T (e:ByteArray):Rk := .v (.string e)
abbrev S {α:Type}[i:Dsh α] (x:α):Rk := .own i x
abbrev L {α:Type}[i:Shape α] (x:List α):Rk := .sl i x
end Rk
abbrev vI (t:Nat) (e:Int):Nat×Tv:=(t,.c (.v (I e)))
abbrev vB (t:Nat) (e:Bool):Nat×Tv:=(t,.c (.b e))
abbrev vT (t:Nat) (e:ByteArray):Nat×Tv:=(t,.c (.v (.string e)))
abbrev vR (t j:Nat):Nat×Tv:=(t,.c (.r j))
abbrev oR {α:Type}[i:Shape α] (j e:Nat) (xs:List α):Nat×To:=(j,.row i e xs)
abbrev oO {α:Type}[i:Shape α] (j:Nat) (xs:List α):Nat×To:=(j,.own i xs)
abbrev oB (j:Nat) (cs:List Tc):Nat×To:=(j,.bx cs)
theorem Cg.one {P:Program}{F:FuncId}{G:Option Gr}{ps:List Par}{A:Type}{rk:A->List Rk}(a0:A) (h:Cg P F G ps (fun a=>a=a0) rk):Cg P F G ps (fun _:Unit=>True) (fun _=>rk a0):=
 ⟨fun w us hG hp=>(h.run w us hG hp).mono fun e W hh=>by
  obtain⟨a,vs,rs,ha,hh⟩:=hh;subst ha;exact⟨(),vs,rs,trivial,hh⟩⟩
theorem Ct.one {P:Program}{F:FuncId}{ps:List Par}{A:Type}{rk:A->List Rk}(a0:A) (h:Ct P F ps (fun a=>a=a0) rk):Ct1 P F ps (rk a0):=Cg.one a0 h
theorem Cm.one {P:Program}{F:FuncId}{ps:List Par}{α:Type}{i:Dsh α}{x:α}{A:Type}{y:A->α}{rk:A->List Rk}(a0:A) (h:Cm P F ps i x (fun a=>a=a0) y rk):Cm P F ps i x (fun _:Unit=>True) (fun _=>y a0) (fun _=>rk a0):=
 ⟨fun w W0 b pre post t cs fp us rs st hp=>(h.run w W0 b pre post t cs fp us rs st hp).mono fun e W hh=>by
  obtain⟨a,vs,cs',fp',rr,ha,hh⟩:=hh;subst ha;exact⟨(),vs,cs',fp',rr,trivial,hh⟩⟩
theorem Cv.one {P:Program}{F:FuncId}{i:Shape UInt8}{code:List UInt8}{ps:List Par}{c:Cur}{A:Type}{y:A->Cur}{rk:A->List Rk}(a0:A) (h:Cv P F i code ps c (fun a=>a=a0) y rk):Cv P F i code ps c (fun _:Unit=>True) (fun _=>y a0) (fun _=>rk a0):=
 ⟨fun w W0 b t hd fp us rs hs st hp=>(h.run w W0 b t hd fp us rs hs st hp).mono fun e W hh=>by
  obtain⟨a,vs,rr,ha,hh⟩:=hh;subst ha;exact⟨(),vs,rr,trivial,hh⟩⟩
theorem Cw.one {P:Program}{F:FuncId}{ps:List Pw}{A:Type}{rk:A->List Rk}(a0:A) (h:Cw P F ps (fun a=>a=a0) rk):Cw P F ps (fun _:Unit=>True) (fun _=>rk a0):=
 ⟨fun w W0 us r rs hp st=>(h.run w W0 us r rs hp st).mono fun e W hh=>by
  obtain⟨a,vs,rr,ha,hh⟩:=hh;subst ha;exact⟨(),vs,rr,trivial,hh⟩⟩
theorem bnT {e:Bool}(h:(!e)=true):e=false:=by cases e<;>simp_all
theorem bnF {e:Bool}(h:(!e)=false):e=true:=by cases e<;>simp_all
namespace D
variable {P:Program}{A:Type}{R:A->Prop}
abbrev x {α:Type}[i:Dsh α] (xs:List α) (n:Nat) (k:∀x,xs[n]? = some x->i.good x->D P R) (h:n<xs.length:=by omega):D P R:=
 .ex (p:=fun x=>xs[n]? = some x) ⟨xs[n],getElem?_eq_getElem h⟩ fun x hx=>.ix i xs n x hx n rfl (k x hx)
abbrev xe {α:Type}[i:Dsh α] (xs:List α) (n:Nat) (e:Int) (k:∀x,xs[n]? = some x->i.good x->D P R) (h:n<xs.length:=by omega) (he:e=n:=by omega):D P R:=
 .ex (p:=fun x=>xs[n]? = some x) ⟨xs[n],getElem?_eq_getElem h⟩ fun x hx=>.ix i xs n x hx e he (k x hx)
abbrev y {α:Type}[i:Dsh α] {xs:List α}{n:Nat}{x:α}(hx:xs[n]? = some x) (k:i.good x->D P R):D P R := .ix i xs n x hx n rfl k
abbrev ye {α:Type}[i:Dsh α] {xs:List α}{n:Nat}{x:α}(hx:xs[n]? = some x) (e:Int) (k:i.good x->D P R) (he:e=n:=by omega):D P R := .ix i xs n x hx e he k
abbrev z (j n:Nat) (k:D P R):D P R := .iy j n n rfl k
abbrev p (x y:Int) (k:D P R) (h:I64 (x+y):=by first | (unfold I64;omega) | (simp only[I64]at *;omega)):D P R := .ad x y h k
abbrev m (x y:Int) (k:D P R) (h:I64 (x-y):=by first | (unfold I64;omega) | (simp only[I64]at *;omega)):D P R := .su x y h k
abbrev o (x y:Int) (k:D P R) (h:I64 (x*y):=by first | (unfold I64;omega) | (simp only[I64]at *;omega)):D P R := .mu x y h k
abbrev q (x y:Int) (k:D P R) (h:(0<=x/\x<=9223372036854775807)/\0<y:=by omega):D P R := .qu x y h k
abbrev s (p:Prop) [i:Decidable p] (t:p->D P R) (f:¬p->D P R):D P R := .sp p i t f
abbrev u (p:Prop) [i:Decidable p] (t:¬p->D P R) (f:p->D P R):D P R := .sn p i t f
abbrev v (e:Bool) (t:e=false->D P R) (f:e=true->D P R):D P R := .sb (!e) (fun h=>t (bnT h)) (fun h=>f (bnF h))
abbrev kt (p:Prop) [i:Decidable p] (h:p) (k:D P R):D P R := .kn (decide p) true (decide_eq_true h) k
abbrev kf (p:Prop) [i:Decidable p] (h:¬p) (k:D P R):D P R := .kn (decide p) false (decide_eq_false h) k
abbrev ut (p:Prop) [i:Decidable p] (h:¬p) (k:D P R):D P R := .kn (!decide p) true (by rw[decide_eq_false h];rfl) k
abbrev uf (p:Prop) [i:Decidable p] (h:p) (k:D P R):D P R := .kn (!decide p) false (by rw[decide_eq_true h];rfl) k
abbrev c {ps:List Par}{rk:List Rk}{F:FuncId}{fn:Func}{G:Option Gr}(hf:P.funcs[F]? = some fn) (h:Cg P F G ps (fun _:Unit=>True) (fun _=>rk)) (k:gds rk->D P R) (hg:gps ps:=by repeat' (first | exact trivial | assumption | constructor)):D P R := .cq F hf h hg k
abbrev l {Γ:Type}(J:Γ->Prop) (m:Γ->Nat) (ks ko kb:List Nat) (TE:Γ->List (Nat×Tv)) (TO:Γ->List (Nat×To)) (g:Γ) (k:∀g,J g->Tok J m (m g)->D P R) (h:J g:=by repeat' (first | exact trivial | assumption | omega | constructor)):D P R := .lp J m ks ko kb TE TO g h [] k
abbrev la {Γ:Type}(J:Γ->Prop) (m:Γ->Nat) (TE:Γ->List (Nat×Tv)) (TO:Γ->List (Nat×To)) (g:Γ) (k:∀g,J g->Tok J m (m g)->D P R) (h:J g:=by repeat' (first | exact trivial | assumption | omega | constructor)):D P R := .lp J m [777777] [777777] [777777] TE TO g h [] k
abbrev n {Γ:Type}{J:Γ->Prop}{m:Γ->Nat}{c:Nat}(t:Tok J m c) (g:Γ) (sg:List (Nat×Nat)) (h1:J g:=by repeat' (first | exact trivial | assumption | omega | constructor)) (h2:m g<c:=by first | omega | (dsimp only;omega)):D P R := .nx t g h1 h2 sg
abbrev a {α:Type}[i:Dsh α] (xs:List α) (y:α) (bytes:Nat) (k:D P R) (hy:i.good y:=by first | exact trivial | assumption | (show I64 _;unfold I64;omega)) (h63:xs.length+1<=maxLen:=by unfold maxLen;omega) (hby:(xs.length+1)*bytes<=140737488355328:=by omega):D P R := .ap i xs [y] (all1 hy) bytes h63 hby k
abbrev g {α:Type}[i:Shape α] (j:Nat) {xs ys:List α}(h:xs=ys) (k:D P R):D P R := .rw i j xs ys h k
abbrev e (α:Type) [i:Shape α] (k:D P R):D P R := .em i k
abbrev w (α:Type) [i:Shape α] (e t:Nat) (k:D P R):D P R := .rn i e t k
abbrev b {α:Type}[i:Dsh α] (j:Nat) (xs:List α) (n:Nat) (k:∀x,xs[n]? = some x->i.good x->D P R) (h:n<xs.length:=by omega):D P R:=
 .ex (p:=fun x=>xs[n]? = some x) ⟨xs[n],getElem?_eq_getElem h⟩ fun x hx=>.le i j xs n x hx (k x hx)
abbrev d {α:Type}[i:Dsh α] (j:Nat) {xs:List α}{n:Nat}{x:α}(hx:xs[n]? = some x) (k:i.good x->D P R):D P R := .le i j xs n x hx k
abbrev f {α:Type}[i:Dsh α] (j:Nat) (xs:List α) (y:α) (k:D P R) (h:i.good y:=by first | exact trivial | assumption):D P R := .gi i j xs y h k
abbrev i (n:Nat) (k:D P R):D P R := .il n n rfl k
abbrev in_ {F:FuncId}{fn:Func}{A':Type}{R':A'->Prop}(hf:P.funcs[F]? = some fn) (d':D P R') (k:∀a,R' a->D P R):D P R := .iv F hf (inl hf d') k
abbrev ie (n:Nat) (e:Int) (k:D P R) (he:e=n:=by omega):D P R := .il n e he k
end D
end Go.Proofs.YtpdgdnpajmcaeaaGreat
namespace Go.Proofs.YtpdgdnpajmcaeaaGreat
set_option maxRecDepth 100000
set_option maxHeartbeats 2000000
open Go.RowKit Go.Proofs.Tryz List
abbrev U (c:UInt8):Value := .int .u8 (c.toNat:Int)
instance:Dsh UInt8 where
 lv:=fun b=>[.v (U b)]
 good:=fun _=>True
 out:=fun {w cs x fp} h=>by obtain⟨h1,h2,h3⟩:=h;subst h1;subst h2;exact⟨h3,rfl,rfl⟩
 inn:=fun hg h=>by
  obtain⟨r,e0,z0⟩:=aI h;obtain⟨e1,p1⟩:=dW z0;subst e1 e0 p1;exact⟨rfl,rfl,hg⟩
theorem oS (c:UInt8):c.toNat<256:=by have:=c.toNat_lt;omega
theorem hk_ix {P:Program}{t:TypeId}{s:ByteArray}{i:Nat}{c:UInt8}{e:Int}(hu:P.underlying t=some .string) (h:s.data.toList[i]? = some c) (he:e=i):XOk P t (.string s) (I e) (U c):=by
 intro n f W Q K d ty pos af g xo yo hx hy k;subst he;obtain⟨hi,rfl⟩:=gsi_.1 h;refine Stp.run (v:=U (s.data.toList[i])) ?_ k;have hs:0<=(i:Int)/\(i:Int)<s.size:=⟨by omega,by have:s.size=s.data.toList.length:=rfl;omega⟩;have:=run_index_string (P:=P) (w:=W) t s .i64 i hu;rw[dif_pos hs]at this;simp only[execOp,hx,hy,Sem.run_bind,this,Result.andThen_ok];rfl
theorem aU2 {P:Program}{t t':TypeId}(c:UInt8) (hs:P.underlying t=some (.int .u8)) (hd:P.underlying t'=some (.int .i64)):COk P t t' (U c) (I c.toNat):=by
 intro n f W Q K d ty pos af g xo hx k;refine Stp.run (v:=I c.toNat) ?_ k;have hc:=oS c;have hk:P.intKind t' = .i64:=by simp[Program.intKind,hd]
 have hw:IntKind.i64.wrap (c.toNat:Int)=c.toNat:=gS ⟨by omega,by omega⟩;have hd':P.underlying t'=some (.int (P.intKind t')):=by rw[hk];exact hd
 have:=run_convert_int (P:=P) W t t' .u8 c.toNat (by rw[hs];rfl) hd';rw[hk,hw]at this;simp only[execOp,hx,Sem.run_bind,this,Result.andThen_ok];rfl
def cV (x:Int):UInt8:=UInt8.ofNat (x % 256).toNat
theorem byteOf_nat (x:Int):((cV x).toNat:Int)=x % 256:=by
 unfold cV;rw[UInt8.toNat_ofNat'];omega
theorem hU {P:Program}{t t':TypeId}(x:Int) (hs:(P.underlying t).isSome=true) (hd:P.underlying t'=some (.int .u8)):COk P t t' (I x) (U (cV x)):=by
 intro n f W Q K d ty pos af g xo hx k;refine Stp.run (v:=U (cV x)) ?_ k;have hw:IntKind.u8.wrap x=x % 256:=by simp[IntKind.wrap,IntKind.bits,IntKind.signed]
 have hd':P.underlying t'=some (.int (P.intKind t')):=by rw[aF7 hd];exact hd
 have:=run_convert_int (P:=P) W t t' .i64 x hs hd';rw[aF7 hd,hw]at this;simp only[execOp,hx,Sem.run_bind,this,Result.andThen_ok];show Result.ok (Next.value (Value.int .u8 (x % 256))) W=Result.ok (Next.value (Value.int .u8 ((cV x).toNat:Int))) W;rw[byteOf_nat]
theorem bR (x a b:Int):Ct1 prog 29 [.I x,.I a,.I b] [.B (inB x a b)]:=
 .one (inB x a b) (rk:=(fun a=>[.B a]))<|vc func29 (fun hg=>.s (a<=x) (fun h1=>.rt (decide (x<=b)) ⟨by unfold inB;simp[*],trivial⟩) (fun h1=>.rt false ⟨by unfold inB;simp[*],trivial⟩)) aB
theorem InV (x a b:Int):Ct1 prog 38 [.I x,.I a,.I b] [.B (inB x a b)]:=
 .one (inB x a b) (rk:=(fun a=>[.B a]))<|vc func38 (fun hg=>.s (a<=x) (fun h1=>.rt (decide (x<=b)) ⟨by unfold inB;simp[*],trivial⟩) (fun h1=>.rt false ⟨by unfold inB;simp[*],trivial⟩)) aB
structure VtJ (id:Int) (g:Int×List UInt8):Prop where
 rng:0<=g.1/\g.1<=1000000000
 vb:g.2++aM g.1.toNat=aM id.toNat
theorem VtJ.len {id:Int}{g:Int×List UInt8}(h:VtJ id g) (hb:inB id 0 1000000000=true):g.2.length<=5:=by
 have h1:=inB_iff'.1 hb;have h2:=rS 4 id.toNat aA;rw[<- h.vb,length_append]at h2;omega
theorem VtJ.step {id:Int}{g:Int×List UInt8}(h:VtJ id g) (h2:128<=g.1) {e:Int}(he:e=g.1 % 128+128):VtJ id (g.1 / 128,g.2++[cV e]):=by
 have h1:=h.rng;refine⟨⟨by show 0<=g.1 / 128;omega,by show g.1 / 128<=_;omega⟩,?_⟩;show g.2++[cV e]++aM (g.1 / 128).toNat=_;rw[<- h.vb,mI (n:=g.1.toNat) aA,append_assoc,he];unfold cV;rw[show ((g.1 % 128+128) % 256).toNat=128+g.1.toNat % 128 by omega,show (g.1 / 128).toNat=g.1.toNat / 128 by omega];rfl
theorem VtJ.all {id:Int}{g:Int×List UInt8}(h:VtJ id g) (h2:¬128<=g.1) (hb:inB id 0 1000000000=true):(⟨(g.2++[cV g.1]).toArray⟩:ByteArray)=aR id:=by
 have h1:=h.rng;unfold aR cV;rw[if_pos hb,<- h.vb,gH aA,show (g.1 % 256).toNat=g.1.toNat by omega]
theorem vt_no {n:Int}(h:inB n 0 1000000000=false):(⟨#[]⟩:ByteArray)=aR n:=by unfold aR;rw[h];rfl
theorem xF (id:Int):Ct1 prog 86 [.I id] [.T (aR id)]:=
 .one (aR id) (rk:=fun a=>[.T a])<|vc func86 (fun hg=>.c func29 (bR id 0 1000000000) fun _=>.v (inB id 0 1000000000)
  (fun hb=>.rt ⟨#[]⟩ ⟨vt_no hb,trivial⟩)
  (fun hb=>.w UInt8 5 3<|.la (Γ:=Int×List UInt8) (VtJ id) (fun g=>g.1.toNat) (fun g=>[vI 0 g.1,vR 3 0]) (fun g=>[oR 0 5 g.2]) (id,[]) (h:=⟨inB_iff'.1 hb,rfl⟩) fun g hJ t=>
   let hl:=hJ.len hb
   let hr:=hJ.rng
   .s (128<=g.1)
    (fun h=>.q g.1 128 (h:=by omega)<|.p (g.1 % 128) 128<|.pc (hU (t:=3) (t':=5) (g.1 % 128+128) rfl underlying5)<|.a g.2 (cV (g.1 % 128+128)) 1 (hy:=trivial) (hby:=by omega) <|
     .q g.1 128 (h:=by omega)<|.n t (g.1 / 128,g.2++[cV (g.1 % 128+128)]) [] (h1:=hJ.step h rfl) (h2:=by show (g.1 / 128).toNat<_;omega))
    (fun h=>.pc (hU (t:=3) (t':=5) g.1 rfl underlying5)<|.a g.2 (cV g.1) 1 (hy:=trivial) (hby:=by omega)<|.so (g.2++[cV g.1])<|.rt ⟨(g.2++[cV g.1]).toArray⟩ ⟨hJ.all h hb,trivial⟩))) aB
theorem xE (id:Int):Ct1 prog 174 [.I id] [.T (aR id)]:=
 .one (aR id) (rk:=fun a=>[.T a])<|vc func174 (fun hg=>.c func38 (InV id 0 1000000000) fun _=>.v (inB id 0 1000000000)
  (fun hb=>.rt ⟨#[]⟩ ⟨vt_no hb,trivial⟩)
  (fun hb=>.e UInt8<|.l (Γ:=Int×List UInt8) (VtJ id) (fun g=>g.1.toNat) [777777,7] [777777] [777777] (fun g=>[vI 0 g.1,vR 3 0]) (fun g=>[oR 0 5 g.2]) (id,[]) (h:=⟨inB_iff'.1 hb,rfl⟩) fun g hJ t=>
   let hl:=hJ.len hb
   let hr:=hJ.rng
   .s (127<g.1)
    (fun h=>.q g.1 128 (h:=by omega)<|.p 128 (g.1 % 128)<|.pc (hU (t:=3) (t':=5) (128+g.1 % 128) rfl underlying5)<|.a g.2 (cV (128+g.1 % 128)) 1 (hy:=trivial) (hby:=by omega) <|
     .q g.1 128 (h:=by omega)<|.n t (g.1 / 128,g.2++[cV (128+g.1 % 128)]) [] (h1:=hJ.step aA (Int.add_comm _ _)) (h2:=by show (g.1 / 128).toNat<_;omega))
    (fun h=>.pc (hU (t:=3) (t':=5) g.1 rfl underlying5)<|.a g.2 (cV g.1) 1 (hy:=trivial) (hby:=by omega)<|.so (g.2++[cV g.1])<|.rt ⟨(g.2++[cV g.1]).toArray⟩ ⟨hJ.all aA hb,trivial⟩))) aB
def mulW (a b:Int):Int:=IntKind.i64.wrap (a*b)
def addW (a b:Int):Int:=IntKind.i64.wrap (a+b)
def aJ6 (a:Int) (n:Nat):Int:=a.fdiv (2 ^ n)
def xorW (a b:Int):Int:=IntKind.i64.wrap ((BitVec.ofInt 64 a ^^^ BitVec.ofInt 64 b).toNat:Int)
def yU (a b:Int):Int:=IntKind.i64.wrap ((BitVec.ofInt 64 a &&& BitVec.ofInt 64 b).toNat:Int)
theorem hk_mulW {P:Program}(a b:Int):BOk P .mul (I a) (I b) (I (mulW a b)):=by
 intro n f W Q K d ty pos af g t t' xo yo hx hy k;refine Stp.run (v:=I (mulW a b)) ?_ k;simp[execOp,hx,hy,go_sem,mulW]
theorem hk_addW {P:Program}(a b:Int):BOk P .add (I a) (I b) (I (addW a b)):=by
 intro n f W Q K d ty pos af g t t' xo yo hx hy k;refine Stp.run (v:=I (addW a b)) ?_ k;simp[execOp,hx,hy,go_sem,addW]
theorem hk_xorW {P:Program}(a b:Int):BOk P .xor (I a) (I b) (I (xorW a b)):=by
 intro n f W Q K d ty pos af g t t' xo yo hx hy k;refine Stp.run (v:=I (xorW a b)) ?_ k;simp[execOp,hx,hy,go_sem];rfl
theorem aU3 {P:Program}(a b:Int):BOk P .and (I a) (I b) (I (yU a b)):=by
 intro n f W Q K d ty pos af g t t' xo yo hx hy k;refine Stp.run (v:=I (yU a b)) ?_ k;simp[execOp,hx,hy,go_sem];rfl
theorem bP9 {P:Program}(a:Int) (s:Nat) (hs:s<60):BOk P .shr (I a) (.int .u64 (s:Int)) (I (aJ6 a s)):=by
 intro n f W Q K d ty pos af g t t' xo yo hx hy k;refine Stp.run (v:=I (aJ6 a s)) ?_ k;have hn:¬((s:Int)<0):=by omega
 have hm:min s 64=s:=by omega
 simp only[execOp,hx,hy,Sem.run_bind,binOp,Op.shift,hn,if_false,Int.toNat_natCast,Sem.run_pure,Result.andThen_ok];simp only[show IntKind.i64.bits=64 from rfl,hm];rfl
theorem vP (a:Int) (m:Nat) (hm:m<4294967296):0<=yU a (m:Int)/\yU a (m:Int)<=m:=by
 have h:(BitVec.ofInt 64 a &&& BitVec.ofInt 64 (m:Int)).toNat<=m:=by
  rw[BitVec.toNat_and];have e:(BitVec.ofInt 64 (m:Int)).toNat=m:=by simp[BitVec.toNat_ofInt];omega
  rw[e];exact Nat.and_le_right
 unfold yU;rw[gS ⟨by omega,by omega⟩];omega
def bQ (code:List UInt8) (c:Cur):Prop:=0<=c.i/\c.i<=code.length
def fT (h:Int):Int:=addW (mulW h 6364136223846793005) 1442695040888963407
def aE4 (h:Int):Int:=yU (xorW (aJ6 h 33) (aJ6 h 45)) 255
def gG (code:List UInt8) (c:Cur):Int×Cur:=
 if c.i<code.length then (yU (aE4 (fT c.h)+((code.getD c.i.toNat 0).toNat:Int)) 255,⟨c.i+1,fT c.h⟩) else (aE4 (fT c.h),⟨c.i,fT c.h⟩)
theorem bR8 (code:List UInt8) (c:Cur):0<=(gG code c).1/\(gG code c).1<=255:=by
 unfold gG aE4;split
 ·exact vP _ 255 eZ
 exact vP _ 255 eZ
theorem byte_cur {code:List UInt8}{c:Cur}(h:bQ code c):bQ code (gG code c).2:=by
 unfold gG bQ at *;split
 ·show 0<=c.i+1/\c.i+1<=_;omega
 exact h
theorem byte_t {code:List UInt8}{c:Cur}{b:UInt8}(h:c.i<code.length) (hb:code[c.i.toNat]? = some b):(yU (aE4 (fT c.h)+(b.toNat:Int)) 255,(⟨c.i+1,fT c.h⟩:Cur))=gG code c:=by
 unfold gG;rw[if_pos h,getD_eq_getElem?_getD,hb];rfl
theorem byte_f {code:List UInt8}{c:Cur}(h:¬c.i<code.length):(aE4 (fT c.h),(⟨c.i,fT c.h⟩:Cur))=gG code c:=by unfold gG;rw[if_neg h]
def eH (code:List UInt8) (c:Cur) (n:Int):Int×Cur:=if n<=0 then (0,c) else ((gG code c).1 % n,(gG code c).2)
theorem aQ1 (code:List UInt8) (c:Cur) {n:Int}(h:0<n):0<=(eH code c n).1/\(eH code c n).1<n:=by
 unfold eH;rw[if_neg aA];exact⟨Int.emod_nonneg _ aA,Int.emod_lt_of_pos _ h⟩
theorem below_rng0 (code:List UInt8) (c:Cur) (n:Int):0<=(eH code c n).1/\(eH code c n).1<=255/\((eH code c n).1<n∨(eH code c n).1=0):=by
 by_cases h:n<=0
 ·unfold eH;rw[if_pos h];exact⟨of_decide_eq_true rfl,of_decide_eq_true rfl,.inr rfl⟩
 have h1:=aQ1 code c (n:=n) aA;refine⟨h1.1,?_,.inl h1.2⟩;unfold eH;rw[if_neg h];have h2:=bR8 code c;by_cases hx:(gG code c).1<n
 ·show (gG code c).1 % n<=255;rw[Int.emod_eq_of_lt h2.1 hx];exact h2.2
 have:=Int.emod_lt_of_pos (gG code c).1 (b:=n) aA;show (gG code c).1 % n<=255;omega
theorem aE {code:List UInt8}{c:Cur}(n:Int) (h:bQ code c):bQ code (eH code c n).2:=by
 unfold eH;split
 ·exact h
 exact byte_cur h
abbrev iU:Shape UInt8:=inferInstance
abbrev Cv1 (P:Program) (F:FuncId) (code:List UInt8) (ps:List Par) (c c':Cur) (rk:List Rk):Prop:=Cv P F iU code ps c (fun _:Unit=>True) (fun _=>c') (fun _=>rk)
theorem Byte_v (code:List UInt8) (c:Cur) (hc:bQ code c) (hl:code.length<=1048576):Cv1 prog 63 code [] c (gG code c).2 [.I (gG code c).1]:=
 Cv.one (gG code c) (y:=fun q=>q.2) (rk:=fun q=>[.I q.1])<|vcv func63 (fun _=>let hc1:=hc.1
  let hc2:=hc.2
  .pb .mul (hk_mulW c.h 6364136223846793005)<|.pb .add (hk_addW (mulW c.h 6364136223846793005) 1442695040888963407)<|.pb .shr (bP9 (fT c.h) 33 eZ)<|.pb .shr (bP9 (fT c.h) 45 eZ)<|.pb .xor (hk_xorW (aJ6 (fT c.h) 33) (aJ6 (fT c.h) 45))<|.pb .and (aU3 (xorW (aJ6 (fT c.h) 33) (aJ6 (fT c.h) 45)) 255) <|
  let hm:0<=aE4 (fT c.h)/\aE4 (fT c.h)<=255:=vP (xorW (aJ6 (fT c.h) 33) (aJ6 (fT c.h) 45)) 255 eZ
  .s (c.i<(code.length:Int))
   (fun h=>.xe code c.i.toNat c.i (he:=by omega) (h:=by omega) fun b hb _=>let hbt:=oS b
    .pc (aU2 (t:=5) (t':=3) b underlying5 underlying3)<|.p (aE4 (fT c.h)) (b.toNat:Int) (h:=by unfold I64;omega)<|.pb .and (aU3 (aE4 (fT c.h)+(b.toNat:Int)) 255)<|.p c.i 1 (h:=by unfold I64;omega) <|
     .rt (yU (aE4 (fT c.h)+(b.toNat:Int)) 255,⟨c.i+1,fT c.h⟩) ⟨byte_t h hb,trivial⟩)
   (fun h=>.rt (aE4 (fT c.h),⟨c.i,fT c.h⟩) ⟨byte_f h,trivial⟩)) aB
theorem below_0 {code:List UInt8}{c:Cur}{n:Int}(h:n<=0):((0:Int),c)=eH code c n:=by unfold eH;rw[if_pos h]
theorem below_1 {code:List UInt8}{c:Cur}{n:Int}(h:¬n<=0):((gG code c).1 % n,(gG code c).2)=eH code c n:=by unfold eH;rw[if_neg h]
theorem cS (code:List UInt8) (c:Cur) (n:Int) (hc:bQ code c) (hl:code.length<=1048576) (hn:n<=256):Cv1 prog 27 code [.I n] c (eH code c n).2 [.I (eH code c n).1]:=
 Cv.one (eH code c n) (y:=fun q=>q.2) (rk:=fun q=>[.I q.1])<|vcv func27 (fun _=>.s (n<=0)
  (fun h=>.rt (0,c) ⟨below_0 h,trivial⟩)
  (fun h=>.kt (n<=256) hn<|let hb:=bR8 code c
   .cv _ func63 (Byte_v code c hc hl) trivial fun _ _ _=>.q (gG code c).1 n (h:=by omega)<|.rt ((gG code c).1 % n,(gG code c).2) ⟨below_1 h,trivial⟩)) aB
def aD7 (code:List UInt8) (c:Cur) (n:Int):Bool×Cur:=(decide ((eH code c n).1=0),(eH code c n).2)
theorem aW3 (code:List UInt8) (c:Cur) (n:Int) (hc:bQ code c) (hl:code.length<=1048576) (hn:n<=256):Cv1 prog 28 code [.I n] c (eH code c n).2 [.B (aD7 code c n).1]:=
 Cv.one (aD7 code c n) (y:=fun q=>q.2) (rk:=fun q=>[.B q.1])<|vcv func28 (fun _=>.cv _ func27 (cS code c n hc hl hn) trivial fun _ _ _=>.rt (aD7 code c n) ⟨rfl,trivial⟩) aB
def iR {α:Type}(p:α->Bool):List α->Option Nat
 | []=>none
 | x::xs=>if p x then some 0 else (iR p xs).map (· + 1)
theorem nK {α:Type}{p:α->Bool}:∀{xs:List α}{k:Nat}(hk:k<xs.length),(xs.take k).any p=false->p xs[k]=true->iR p xs=some k
 | x::xs,0,_,_,hp=>by simp at hp;simp[iR,hp]
 | x::xs,k+1,hk,h,hp=>by
  simp only[take_succ_cons,any_cons,Bool.or_eq_false_iff]at h;rw[iR,h.1,if_neg (by simp),nK (xs:=xs) (k:=k) (by simpa using hk) h.2 (by simpa using hp)];rfl
theorem qY {α:Type}{p:α->Bool}:∀{xs:List α},xs.any p=false->iR p xs=none
 | [],_=>rfl
 | x::xs,h=>by
  simp only[any_cons,Bool.or_eq_false_iff]at h;rw[iR,h.1,if_neg (by simp),qY h.2];rfl
theorem uT {α:Type}{p:α->Bool}:∀{xs:List α}{k:Nat},iR p xs=some k->∃h:k<xs.length,p xs[k]=true
 | x::xs,k,h=>by
  unfold iR at h;by_cases hx:p x=true
  ·rw[if_pos hx]at h;cases h;exact⟨by simp,hx⟩
  ·rw[if_neg hx]at h;cases hq:iR p xs with
   | none=>rw[hq]at h;cases h
   | some j=>
    rw[hq]at h;cases h;obtain⟨h1,h2⟩:=uT hq;exact⟨by simpa using h1,by simpa using h2⟩
def ixI:Option Nat->Int
 | some k=>k
 | none=> -1
theorem tL {α:Type}{p:α->Bool}{xs:List α}{k:Nat}(hk:k<xs.length) (h:(xs.take k).any p=false) (hx:p xs[k]=false):(xs.take (k+1)).any p=false:=by
 rw[take_succ_eq_append_getElem hk,any_append,h];simp[hx]
def cH (ts:List Task) (s:Int) (k:Nat):List Int:=(List.range k).filterMap (fun i:Nat=>if (ts[i]?).map Task.state=some s then some (i:Int) else none)
def aH (ts:List Task) (s:Int):List Int:=cH ts s ts.length
theorem eP (ts:List Task) (s:Int) (k:Nat):(cH ts s k).length<=k:=by
 unfold cH;have:=length_filterMap_le (fun i:Nat=>if (ts[i]?).map Task.state=some s then some (i:Int) else none) (List.range k)
 rwa [length_range]at this
theorem qM {ts:List Task}{s:Int}{k:Nat}(h:k<ts.length) (hs:ts[k].state=s):cH ts s (k+1)=cH ts s k++[(k:Int)]:=by
 unfold cH;rw[range_succ,filterMap_append];simp[h,hs]
theorem vW {ts:List Task}{s:Int}{k:Nat}(h:k<ts.length) (hs:¬ts[k].state=s):cH ts s (k+1)=cH ts s k:=by
 unfold cH;rw[range_succ,filterMap_append];simp[h,hs]
def wtL {α:Type}(f:α->Nat) (xs:List α):Nat:=xs.length+(xs.map f).sum
def Plan.wt (x:Plan):Nat:=x.edges.length
def Run.wt (x:Run):Nat:=x.plan.wt+x.tasks.length
def Yard.wt (x:Yard):Nat:=wtL (fun y:List Entry=>y.length) (x.shelf)+wtL (fun y:Run=>y.wt) (x.runs)
def Deed.wt (x:Deed):Nat:=x.plan.wt
def Note.wt (x:Note):Nat:=x.deed.wt
def File.wt (x:File):Nat:=x.name.size+x.data.size
def Disk.wt (x:Disk):Nat:=wtL (fun y:File=>y.wt) (x.files)
def Engine.wt (x:Engine):Nat:=x.yard.wt+x.disk.wt+x.waits.length
def WorldD.wt (x:WorldD):Nat:=x.engine.wt+wtL (fun y:Deed=>y.wt) (x.deeds)+x.replies.length
def ActD.wt (x:ActD):Nat:=x.deed.wt+x.keep.length
def Span.wt (x:Span):Nat:=x.deed.wt
def Crew.wt (x:Crew):Nat:=x.yard.wt+x.holds.length
theorem wtL_take {α:Type}(f:α->Nat) (xs:List α) (n:Nat) (h:n<xs.length):((xs.take (n+1)).map f).sum=((xs.take n).map f).sum+f xs[n]:=by
 rw[take_succ_eq_append_getElem h,map_append,sum_append];simp only[map_cons,map_nil,sum_cons,sum_nil];omega
theorem pG {α:Type}(f:α->Nat):∀(xs:List α) (n:Nat),((xs.take n).map f).sum<=(xs.map f).sum
 | [],n=>by simp
 | x::xs,0=>by simp
 | x::xs,n+1=>by have:=pG f xs n;simp only[take_succ_cons,map_cons,sum_cons];omega
theorem bJ4 {α:Type}(f:α->Nat):∀(xs:List α) (n:Nat) (h:n<xs.length),f xs[n]<=(xs.map f).sum
 | x::xs,0,_=>by simp
 | x::xs,n+1,h=>by have:=bJ4 f xs n (by simpa using h);simp;omega
theorem Sl.val {α:Type}[Shape α] {w:World}{v:Value}{xs:List α}{fp:List Nat}(h:Sl w v xs fp):∃ao cap,v = .slice ao xs.length cap:=by
 obtain⟨ao,cap,h,_⟩:=h;exact⟨ao,cap,h⟩
theorem inB_t {n a b:Int}(h:a<=n/\n<=b):inB n a b=true:=by simp[inB,h]
theorem inB_iff {n a b:Int}:inB n a b=true↔(a<=n/\n<=b):=by simp[inB]
theorem aY2 {α:Type}(f:α->Nat) (xs:List α) (k:Nat) (h:k<xs.length):((xs.take (k+1)).map f).sum=((xs.take k).map f).sum+f xs[k]:=wtL_take f xs k h
theorem bW4 {α:Type}{f g:α->Nat}(h:∀x,f x<=g x):∀xs:List α,(xs.map f).sum<=(xs.map g).sum
 | []=>by simp
 | x::xs=>by simp only[map_cons,sum_cons];have:=h x;have:=bW4 h xs;omega
theorem yard_run {y:Yard}{k:Nat}(h:k<y.runs.length):y.runs[k].wt+y.runs.length<=y.wt:=by
 have:=bJ4 (fun y:Run=>y.wt) y.runs k h;unfold Yard.wt wtL;omega
def bU (a b:Entry):Bool:=decide (b.prio<a.prio) || (decide (a.prio=b.prio) && decide (a.seq<b.seq))
def uA (xs:List Entry) (k:Nat):Prop:=∀i,i+1<k->∀h:i+1<xs.length,bU xs[i] xs[i+1]=true
noncomputable def cJ (xs:List Entry):Bool:=pB (xs.length<=80/\uA xs xs.length)
theorem shelfTo_step {xs:List Entry}{k:Nat}(hk:1<=k) (h:k<xs.length) (h0:uA xs k) (h1:bU (xs[k-1]'(by omega)) xs[k]=true):uA xs (k+1):=by
 intro i hi hx;by_cases h2:i+1<k
 ·exact h0 i h2 hx
 have e:i=k-1:=by omega
 subst e;have e2:k-1+1=k:=by omega
 simp only[e2];exact h1
theorem shelfTo_bad {xs:List Entry}{k:Nat}(hk:1<=k) (h:k<xs.length) (h1:bU (xs[k-1]'(by omega)) xs[k]=false):¬uA xs xs.length:=by
 intro h0;have:=h0 (k-1) aA aA;have e2:k-1+1=k:=by omega
 simp only[e2]at this;rw[h1]at this;cases this

def bS (y:Yard) (id:Int):Option Nat:=if y.runs.length<=8 then iR (fun r=>decide (r.id=id)) y.runs else none
def aF (y:Yard) (id:Int):Int:=ixI (bS y id)
theorem aC2 {y:Yard}{id:Int}{k:Nat}(h:bS y id=some k):k<y.runs.length:=by
 unfold bS at h;split at h
 ·exact(uT h).1
 cases h
def fresh (y:Yard) (e:Entry):Bool:=
 match bS y e.run with
 | none=>false
 | some k=>match y.runs[k]? with
  | none=>false
  | some r=>inB e.task 0 ((r.tasks.length:Int)-1) && (match r.tasks[e.task.toNat]? with | some t=>decide (t.state=2) | none=>false)
theorem flat_to {α:Type}{xss:List (List α)}{k:Nat}(h:k<xss.length):(xss.take (k+1)).flatten=(xss.take k).flatten++xss[k]:=by
 rw[take_succ_eq_append_getElem h,flatten_append,flatten_cons,flatten_nil,append_nil]
theorem bE3 {α:Type}:∀(xss:List (List α)),xss.flatten.length=(xss.map (fun y=>y.length)).sum
 | []=>rfl
 | x::xss=>by simp[bE3 xss]
theorem bQ3 (y:Yard) (k:Nat):((y.shelf.take k).flatten).length<=y.wt:=by
 have h1:=bE3 (y.shelf.take k);have h2:=pG (fun y:List Entry=>y.length) y.shelf k;unfold Yard.wt wtL;omega
theorem aC5 {y:Yard}{id:Int}(h:bS y id=none):aF y id = -1:=by unfold aF;rw[h];rfl
theorem cE {y:Yard}{id:Int}{k:Nat}(h:bS y id=some k):aF y id=k:=by unfold aF;rw[h];rfl

theorem aU5 (y:Yard):y.shelf.flatten.length<=y.wt:=by
 have h3:=bQ3 y y.shelf.length
 rwa [take_length]at h3
def zE:Entry:=⟨0,0,0,0⟩
theorem zE_ok:zE.ok:=by simp[Entry.ok,zE,I64]

noncomputable def vAt (s:ByteArray) (a:Nat):Int×Int:=
 match fI (s.data.toList.drop a) with
 | some (n,k)=>((n:Int),(a:Int)+k)
 | none=>(0,-1)
theorem aX1 {s:ByteArray}{a:Nat}(h:fI (s.data.toList.drop a)=none):(0,-1)=vAt s a:=by unfold vAt;rw[h]
theorem zZ {s:ByteArray}{a n k:Nat}(h:fI (s.data.toList.drop a)=some (n,k)):((n:Int),(a:Int)+k)=vAt s a:=by unfold vAt;rw[h]
theorem at_drop {s:ByteArray}{a i:Nat}{c:UInt8}(h:s.data.toList[a+i]? = some c):(s.data.toList.drop a)[i]? = some c:=by rw[getElem?_drop];exact h
theorem nQ (s:ByteArray) (a:Nat):(s.data.toList.drop a).length=s.size-a:=by rw[length_drop];rfl
theorem VJ.zero (l:List UInt8):VJ l 0:=⟨Nat.zero_le _,fun j _ h=>by omega⟩
theorem VarTextD (n:Int):Ct1 prog 86 [.I n] [.T (aR n)]:=xF n
theorem VarTextSD (n:Int):Ct1 prog 174 [.I n] [.T (aR n)]:=xE n
theorem ext_pre {s:ByteArray}{a k:Nat}(h:a+k<=s.size):(s.extract a (a+k)).data.toList=(s.data.toList.drop a).take k:=by
 rw[Lib.extract_data];congr 1;omega
theorem VJ.same {s:ByteArray}{a i:Nat}{c:UInt8}(h:VJ (s.data.toList.drop a) i) (hc:s.data.toList[a+i]? = some c) (h2:c.toNat<128) (hn:¬(1000000000:Int)<mV ((s.data.toList.drop a).take (i+1))):(s.extract a (a+(i+1))=aR (mV ((s.data.toList.drop a).take (i+1)):Int))↔(aM (mV ((s.data.toList.drop a).take (i+1)))).length=i+1:=by
 have hi:a+i<s.size:=(gsi_.1 hc).1;have hl:((s.data.toList.drop a).take (i+1)).length=i+1:=by
  have:=nQ s a;rw[length_take];omega
 have e1:=ext_pre (s:=s) (a:=a) (k:=i+1) aA;have e2:aR (mV ((s.data.toList.drop a).take (i+1)):Int)=⟨(aM (mV ((s.data.toList.drop a).take (i+1)))).toArray⟩:=by
  unfold aR;rw[if_pos (inB_iff'.2 ⟨by omega,by omega⟩)];rfl
 rw[e2];constructor
 ·intro h3;have h4:(s.extract a (a+(i+1))).data.toList=aM (mV ((s.data.toList.drop a).take (i+1))):=by rw[h3]
  rw[<- h4,e1,hl]
 intro h3;have h4:=(zY (h.good (at_drop hc) h2)).2 (by rw[hl];exact h3);rw[h4,<- e1]
def fourL (l:List UInt8):Nat:=l.foldl (fun n c=>256*n+c.toNat) 0
def yJ (s:ByteArray) (a:Nat):Int×Bool:=if a+4<=s.size then ((fourL ((s.data.toList.drop a).take 4):Int),true) else (0,false)
theorem pow_fin60:∀s:Fin 60,0<(2:Int) ^ s.val:=by decide +kernel
theorem bI4 {P:Program}{x:Int}{k:IntKind}{s:Nat}(hx:0<=x/\x<=9223372036854775807) (hs:s<60):BOk P .shr (I x) (.int k s) (I (x / 2 ^ s)):=by
 intro n f W Q K d ty pos af g t t' xo yo h1 h2 kk;refine Stp.run (v:=I (x / 2 ^ s)) ?_ kk;have hn:¬((s:Int)<0):=by omega
 have hm:min s 64=s:=by omega
 have hp:=pow_fin60 ⟨s,hs⟩;simp only at hp;have h:Int.fdiv x (2 ^ s)=x / 2 ^ s:=Int.fdiv_eq_ediv_of_nonneg _ (Int.le_of_lt hp);have hle:x / 2 ^ s<=x:=Int.ediv_le_self _ hx.1;have h0:0<=x / 2 ^ s:=Int.ediv_nonneg hx.1 (Int.le_of_lt hp);have hw:IntKind.i64.wrap (x / 2 ^ s)=x / 2 ^ s:=gS ⟨by omega,by omega⟩;simp only[execOp,h1,h2,Sem.run_bind,binOp,Op.shift,hn,if_false,Int.toNat_natCast,Sem.run_pure,Result.andThen_ok];simp only[show IntKind.i64.bits=64 from rfl,hm,h,hw];rfl
def nM (n:Int):List UInt8:=[cV (n / 16777216),cV (n / 65536),cV (n / 256),cV n]
def cA (n:Int):ByteArray:=if inB n 0 4294967295 then ⟨(nM n).toArray⟩ else ⟨#[]⟩
theorem aO7 {n:Int}(h:inB n 0 4294967295=false):(⟨#[]⟩:ByteArray)=cA n:=by unfold cA;rw[h];rfl
theorem aG4 {n:Int}(h:inB n 0 4294967295=true):(⟨(nM n).toArray⟩:ByteArray)=cA n:=by unfold cA;rw[h];rfl
theorem bJ7:∀(l:List UInt8),∀y∈l,(inferInstance:Dsh UInt8).good y:=fun _ _ _=>trivial
theorem FourOfI (n:Int):Ct1 prog 68 [.I n] [.T (cA n)]:=
 .one (cA n) (rk:=fun a=>[.T a])<|vc func68 (fun hg=>.c func29 (bR n 0 4294967295) fun _=>.v (inB n 0 4294967295)
  (fun hb=>.rt ⟨#[]⟩ ⟨aO7 hb,trivial⟩)
  (fun hb=>let hr:=inB_iff'.1 hb
   .pb .shr (bI4 (x:=n) (k := .u64) (s:=24) aA aA)<|.pc (hU (t:=3) (t':=5) (n / 2 ^ 24) rfl underlying5) <|
   .pb .shr (bI4 (x:=n) (k := .u64) (s:=16) aA aA)<|.pc (hU (t:=3) (t':=5) (n / 2 ^ 16) rfl underlying5) <|
   .pb .shr (bI4 (x:=n) (k := .u64) (s:=8) aA aA)<|.pc (hU (t:=3) (t':=5) (n / 2 ^ 8) rfl underlying5) <|
   .pc (hU (t:=3) (t':=5) n rfl underlying5) <|
   .li (inferInstance:Dsh UInt8) 17 (nM n) (by simp[nM]) (by simp[nM]) (bJ7 _)<|.so (nM n)<|.rt ⟨(nM n).toArray⟩ ⟨aG4 hb,trivial⟩)) aB
theorem tJ (x:Int):cV (x % 256)=cV x:=by
 unfold cV;rw[Int.emod_emod_of_dvd _ (Int.dvd_refl 256)]
def aG5 (n:Int):List UInt8:=[cV (n / 16777216),cV (n / 65536 % 256),cV (n / 256 % 256),cV (n % 256)]
theorem fourM_eq (n:Int):aG5 n=nM n:=by unfold aG5 nM;rw[tJ,tJ,tJ]
theorem aW5 (n:Int):Ct1 prog 76 [.I n] [.T (cA n)]:=
 .one (cA n) (rk:=fun a=>[.T a])<|vc func76 (fun hg=>.c func38 (InV n 0 4294967295) fun _=>.v (inB n 0 4294967295)
  (fun hb=>.rt ⟨#[]⟩ ⟨aO7 hb,trivial⟩)
  (fun hb=>let hr:=inB_iff'.1 hb
   .q n 16777216 (h:=by omega)<|.pc (hU (t:=3) (t':=5) (n / 16777216) rfl underlying5) <|
   .q n 65536 (h:=by omega)<|.q (n / 65536) 256 (h:=by omega)<|.pc (hU (t:=3) (t':=5) (n / 65536 % 256) rfl underlying5) <|
   .q n 256 (h:=by omega)<|.q (n / 256) 256 (h:=by omega)<|.pc (hU (t:=3) (t':=5) (n / 256 % 256) rfl underlying5) <|
   .q n 256 (h:=by omega)<|.pc (hU (t:=3) (t':=5) (n % 256) rfl underlying5) <|
   .li (inferInstance:Dsh UInt8) 20 (aG5 n) (by simp[aG5]) (by simp[aG5]) (bJ7 _)<|.so (aG5 n)<|.rt ⟨(aG5 n).toArray⟩ ⟨by rw[fourM_eq];exact aG4 hb,trivial⟩)) aB
theorem qZ {P:Program}(a b:Int) (ha:0<=a/\a<4294967296) (hb:0<=b/\b<4294967296):BOk P .xor (I a) (I b) (I (mT a b)):=fun hx hy k=>stp_xorI hx hy ha hb k
theorem crc_t {s:Int}{k:Nat}{g:Int}(h:g=rP k s) (h1:g % 2=1):mT (g / 2) 3988292384=rP (k+1) s:=by show _=qB (rP k s);rw[<- h];unfold qB;rw[if_pos h1]
theorem crc_f {s:Int}{k:Nat}{g:Int}(h:g=rP k s) (h1:¬g % 2=1):g / 2=rP (k+1) s:=by show _=qB (rP k s);rw[<- h];unfold qB;rw[if_neg h1]
theorem bW5 {l:List UInt8}{k:Nat}{c:UInt8}(hc:l[k]? = some c):wA (l.take (k+1))=rP 8 (mT (wA (l.take k)) (c.toNat:Int)):=by
 obtain⟨hk,rfl⟩:=gsi_.1 hc;exact sumL_to hk
theorem bS8 (t:ByteArray) (ht:t.size<=1048576):Ct1 prog 69 [.T t] [.I (cL t)]:=
 .one (cL t) (rk:=fun x=>[.I x])<|vc func69 (fun hg=>let hl:t.data.toList.length=t.size:=rfl
  .l (Γ:=Nat×Int) (fun g=>g.1<=t.size/\g.2=wA (t.data.toList.take g.1)) (fun g=>t.size-g.1) [0] [] [] (fun g=>[vI 3 g.2,vI 4 g.1]) (fun g=>[]) (0,4294967295) (h:=⟨Nat.zero_le _,rfl⟩) fun g hJ tk=>
   let hr:0<=g.2/\g.2<4294967296:=(by rw[hJ.2];exact aB2 _)
   .s ((g.1:Int)<t.size)
    (fun h=>.ex (p:=fun c=>t.data.toList[g.1]? = some c) ⟨_,getElem?_eq_getElem (show g.1<t.data.toList.length by omega)⟩ fun c hc=>
     let hx:=pF hr (show 0<=(c.toNat:Int)/\(c.toNat:Int)<4294967296 by have:=oS c;omega)
     .px (hk_ix (t:=9) (i:=g.1) (e:=(g.1:Int)) underlying9 hc rfl)<|.pc (aU2 (t:=5) (t':=3) c underlying5 underlying3)<|.pb .xor (qZ g.2 (c.toNat:Int) hr (by have:=oS c;omega)) <|
     .l (Γ:=Nat×Int) (fun q=>q.1<=8/\q.2=rP q.1 (mT g.2 (c.toNat:Int))) (fun q=>8-q.1) [0,4] [] [] (fun q=>[vI 3 q.2,vI 5 q.1]) (fun q=>[]) (0,mT g.2 (c.toNat:Int)) (h:=⟨Nat.zero_le _,rfl⟩) fun q hq tq=>
      let hr2:0<=q.2/\q.2<4294967296:=(by rw[hq.2];exact vK hx q.1)
      .s ((q.1:Int)<8)
       (fun h2=>.q q.2 2 (h:=by omega)<|.q q.2 2 (h:=by omega)<|.s (q.2 % 2=1)
        (fun h3=>.pb .xor (qZ (q.2 / 2) 3988292384 aA aA)<|.p q.1 1<|.n tq (q.1+1,mT (q.2 / 2) 3988292384) [] (h1:=⟨by show q.1+1<=8;omega,crc_t hq.2 h3⟩) (h2:=by show 8-(q.1+1)<_;omega))
        (fun h3=>.p q.1 1<|.n tq (q.1+1,q.2 / 2) [] (h1:=⟨by show q.1+1<=8;omega,crc_f hq.2 h3⟩) (h2:=by show 8-(q.1+1)<_;omega)))
       (fun h2=>.p g.1 1<|.n tk (g.1+1,q.2) [] (h1:=⟨by show g.1+1<=_;omega,by show q.2=wA (t.data.toList.take (g.1+1));rw[bW5 hc,<- hJ.2,hq.2,show q.1=8 by omega]⟩) (h2:=by show t.size-(g.1+1)<_;omega)))
    (fun h=>.pb .xor (qZ g.2 4294967295 hr aA)<|.rt (mT g.2 4294967295) ⟨by unfold cL;rw[hJ.2,take_of_length_le aA],trivial⟩)) aB
theorem aW1 (t:ByteArray) (ht:t.size<=1048576):Ct1 prog 77 [.T t] [.I (cL t)]:=
 .one (cL t) (rk:=fun x=>[.I x])<|vc func77 (fun hg=>let hl:t.data.toList.length=t.size:=rfl
  .l (Γ:=Nat×Int) (fun g=>g.1<=t.size/\g.2=wA (t.data.toList.take g.1)) (fun g=>t.size-g.1) [0] [] [] (fun g=>[vI 3 g.2,vI 4 g.1]) (fun g=>[]) (0,4294967295) (h:=⟨Nat.zero_le _,rfl⟩) fun g hJ tk=>
   let hr:0<=g.2/\g.2<4294967296:=(by rw[hJ.2];exact aB2 _)
   .s ((g.1:Int)<t.size)
    (fun h=>.ex (p:=fun c=>t.data.toList[g.1]? = some c) ⟨_,getElem?_eq_getElem (show g.1<t.data.toList.length by omega)⟩ fun c hc=>
     let hx:=pF hr (show 0<=(c.toNat:Int)/\(c.toNat:Int)<4294967296 by have:=oS c;omega)
     .px (hk_ix (t:=9) (i:=g.1) (e:=(g.1:Int)) underlying9 hc rfl)<|.pc (aU2 (t:=5) (t':=3) c underlying5 underlying3)<|.pb .xor (qZ g.2 (c.toNat:Int) hr (by have:=oS c;omega)) <|
     .l (Γ:=Nat×Int) (fun q=>q.1<=8/\q.2=rP q.1 (mT g.2 (c.toNat:Int))) (fun q=>8-q.1) [0,4] [] [] (fun q=>[vI 3 q.2,vI 5 q.1]) (fun q=>[]) (0,mT g.2 (c.toNat:Int)) (h:=⟨Nat.zero_le _,rfl⟩) fun q hq tq=>
      let hr2:0<=q.2/\q.2<4294967296:=(by rw[hq.2];exact vK hx q.1)
      .s ((q.1:Int)<8)
       (fun h2=>.q q.2 2 (h:=by omega)<|.q q.2 2 (h:=by omega)<|.s (q.2 % 2=1)
        (fun h3=>.pb .xor (qZ (q.2 / 2) 3988292384 aA aA)<|.p q.1 1<|.n tq (q.1+1,mT (q.2 / 2) 3988292384) [] (h1:=⟨by show q.1+1<=8;omega,crc_t hq.2 h3⟩) (h2:=by show 8-(q.1+1)<_;omega))
        (fun h3=>.p q.1 1<|.n tq (q.1+1,q.2 / 2) [] (h1:=⟨by show q.1+1<=8;omega,crc_f hq.2 h3⟩) (h2:=by show 8-(q.1+1)<_;omega)))
       (fun h2=>.p g.1 1<|.n tk (g.1+1,q.2) [] (h1:=⟨by show g.1+1<=_;omega,by show q.2=wA (t.data.toList.take (g.1+1));rw[bW5 hc,<- hJ.2,hq.2,show q.1=8 by omega]⟩) (h2:=by show t.size-(g.1+1)<_;omega)))
    (fun h=>.pb .xor (qZ g.2 4294967295 hr aA)<|.rt (mT g.2 4294967295) ⟨by unfold cL;rw[hJ.2,take_of_length_le aA],trivial⟩)) aB
theorem jK {P:Program}(x y:ByteArray) (h:x.size+y.size<=9223372036854775807):BOk P .add (.string x) (.string y) (.string (x++y)):=by
 intro n f W Q K d ty pos af g t t' xo yo h1 h2 k;exact stp_sadd h1 h2 h k
theorem iO (n:Int):(cA n).size<=4:=by
 unfold cA;split
 ·show (nM n).toArray.size<=4;simp[nM]
 decide
def lD (n:Int) (t:ByteArray):ByteArray:=if inB n 0 1000000000=true/\¬t=⟨#[]⟩/\t.size+8<=60000 then cA n++cA (cL t)++t else ⟨#[]⟩
theorem uR {n:Int}{t:ByteArray}(h:¬(inB n 0 1000000000=true/\¬t=⟨#[]⟩/\t.size+8<=60000)):(⟨#[]⟩:ByteArray)=lD n t:=by unfold lD;rw[if_neg h]
theorem aN1 {n:Int}{t:ByteArray}(h1:inB n 0 1000000000=true) (h2:¬t=⟨#[]⟩) (h3:t.size+8<=60000):cA n++cA (cL t)++t=lD n t:=by unfold lD;rw[if_pos ⟨h1,h2,h3⟩]
theorem SumOfSD (t:ByteArray) (ht:t.size<=1048576):Ct1 prog 77 [.T t] [.I (cL t)]:=aW1 t ht
theorem SixteenS (n:Int):Ct1 prog 75 [.I n] [.B (inB n 0 1000000000)]:=
 .one (inB n 0 1000000000) (rk:=fun a=>[.B a])<|vc func75 (fun hg=>.c func38 (InV n 0 1000000000) fun _=>.rt (inB n 0 1000000000) ⟨rfl,trivial⟩) aB
theorem MarkTextS (n:Int) (y:Yard) (t:ByteArray) (hn:I64 n) (hy:Ct1 prog 74 [.S y] [.T t]) (ht:t.size<=1000000000):Ct1 prog 42 [.I n,.S y] [.T (lD n t)]:=
 .one (lD n t) (rk:=fun a=>[.T a])<|vc func42 (fun hg=>.c func74 hy (hg:=⟨hg.1.1,trivial⟩) fun _=>.c func75 (SixteenS n) fun _=>.v (inB n 0 1000000000)
  (fun hb=>.rt ⟨#[]⟩ ⟨uR (fun h=>by rw[h.1]at hb;cases hb),trivial⟩)
  (fun hb=>.s (t=⟨#[]⟩)
   (fun h1=>.rt ⟨#[]⟩ ⟨uR (fun h=>h.2.1 h1),trivial⟩)
   (fun h1=>.s ((59992:Int)<t.size)
    (fun h2=>.rt ⟨#[]⟩ ⟨uR (fun h=>by omega),trivial⟩)
    (fun h2=>.c func76 (aW5 n) fun _=>.c func77 (SumOfSD t aA) fun _=>.c func76 (aW5 (cL t)) fun _=>
     .pb .add (jK (cA n) (cA (cL t))<|by have:=iO n;have:=iO (cL t);omega) <|
     .pb .add (jK (cA n++cA (cL t)) t<|by have:=iO n;have:=iO (cL t);rw[ByteArray.size_append];omega) <|
     .rt (cA n++cA (cL t)++t) ⟨aN1 hb h1 aA,trivial⟩)))) aB
def fAt (fs:List File) (nm:ByteArray):Int:=
 match fs.findIdx? (fun f=>decide (f.name=nm)) with
 | some i=>(i:Int)
 | none=> -1
def FAJ (fs:List File) (nm:ByteArray) (k:Nat):Prop:=k<=fs.length/\∀j (h:j<fs.length),j<k->¬fs[j].name=nm
theorem fAt_hit {fs:List File}{nm:ByteArray}{k:Nat}{f:File}(h:FAJ fs nm k) (hf:fs[k]? = some f) (e:f.name=nm):(k:Int)=fAt fs nm:=by
 obtain⟨hk,rfl⟩:=gsi_.1 hf;have:fs.findIdx? (fun f=>decide (f.name=nm))=some k:=by
  rw[findIdx?_eq_some_iff_getElem];refine⟨hk,by simpa using e,fun j hj=>?_⟩;have:=h.2 j aA hj;simpa using this
 unfold fAt;rw[this]
theorem fAt_none {fs:List File}{nm:ByteArray}{k:Nat}(h:FAJ fs nm k) (hk:¬(k:Int)<fs.length):(-1:Int)=fAt fs nm:=by
 have:fs.findIdx? (fun f=>decide (f.name=nm))=none:=by
  rw[findIdx?_eq_none_iff];intro f hf;obtain⟨j,hj,rfl⟩:=getElem_of_mem hf;have:=h.2 j hj aA;simpa using this
 unfold fAt;rw[this]
theorem FAJ.next {fs:List File}{nm:ByteArray}{k:Nat}{f:File}(h:FAJ fs nm k) (hf:fs[k]? = some f) (e:¬f.name=nm):FAJ fs nm (k+1):=by
 obtain⟨hk,rfl⟩:=gsi_.1 hf;refine⟨hk,fun j hj hlt=>?_⟩;rcases Nat.lt_succ_iff_lt_or_eq.1 hlt with h3 | rfl
 ·exact h.2 j hj h3
 exact e
theorem oK {fs:List File}{nm:ByteArray}(h:¬fAt fs nm<0):∃k:Nat,fAt fs nm=(k:Int)/\k<fs.length:=by
 unfold fAt at *;cases hf:fs.findIdx? (fun f=>decide (f.name=nm)) with
 | none=>rw[hf]at h;simp at h
 | some k=>
  exact⟨k,rfl,(findIdx?_eq_some_iff_getElem.1 hf).1⟩
theorem oV (d:Disk) (nm:ByteArray) (hl:d.files.length<=1048576):Ct1 prog 39 [.S d,.T nm] [.I (fAt d.files nm)]:=
 .one (fAt d.files nm) (rk:=fun a=>[.I a])<|vc func39 (fun hg=>.lp (Γ:=Nat) (fun k=>FAJ d.files nm k) (fun k=>d.files.length-k) [1,2] [1] [0] (fun k=>[vI 5 k]) (fun _=>[]) 0 ⟨Nat.zero_le _,fun _ _ h=>by omega⟩ [] fun k hJ t=>
  .s ((k:Int)<d.files.length)
   (fun h=>.x d.files k (h:=by omega) fun f hf _=>.s (f.name=nm)
    (fun he=>.rt k ⟨fAt_hit hJ hf he,trivial⟩)
    (fun he=>.p k 1<|.n t (k+1) [] (hJ.next hf he) aA))
   (fun h=>.rt (-1) ⟨fAt_none hJ h,trivial⟩)) aB
theorem eN:lF Entry:=fun _ _ _ _ h=>h.2.1
theorem dJ (y:Yard) (h:y.wt<=1048576):y.shelf.flatten.length<=1048576/\y.shelf.length<=1048576/\y.runs.length<=1048576:=by
 have h1:=aU5 y;unfold Yard.wt at h;unfold Yard.wt at h1;simp only[wtL]at h h1;omega
theorem gJ {y:Yard}{k:Nat}{r:Run}(h:y.wt<=1048576) (hr:y.runs[k]? = some r):r.wt<=1048576/\r.tasks.length<=1048576/\r.plan.edges.length<=1048576:=by
 obtain⟨hk,rfl⟩:=gsi_.1 hr;have h1:=yard_run hk;have h2:y.runs[k].tasks.length+y.runs[k].plan.edges.length<=y.runs[k].wt:=by unfold Run.wt Plan.wt;omega
 omega
theorem bU2 (a b:Entry):Ct1 prog 156 [.S a,.S b] [.B (bU a b)]:=
 .one (bU a b) (rk:=fun x=>[.B x])<|vc func156 (fun hg=>.s (b.prio<a.prio)
  (fun h=>.rt true ⟨by unfold bU;simp[h],trivial⟩)
  (fun h=>.s (a.prio=b.prio)
   (fun h2=>.rt (decide (a.seq<b.seq)) ⟨by unfold bU;simp[h,h2],trivial⟩)
   (fun h2=>.rt false ⟨by unfold bU;simp[h,h2],trivial⟩))) aB
theorem bU1 (a b:Entry):Ct1 prog 202 [.S a,.S b] [.B (bU a b)]:=
 .one (bU a b) (rk:=fun x=>[.B x])<|vc func202 (fun hg=>.s (b.prio<a.prio)
  (fun h=>.rt true ⟨by unfold bU;simp[h],trivial⟩)
  (fun h=>.s (a.prio=b.prio)
   (fun h2=>.rt (decide (a.seq<b.seq)) ⟨by unfold bU;simp[h,h2],trivial⟩)
   (fun h2=>.rt false ⟨by unfold bU;simp[h,h2],trivial⟩))) aB
structure ShfJ (xs:List Entry) (k:Nat):Prop where
 pos:1<=k
 le:k<=xs.length∨k=1
 ok:uA xs k
theorem ShfJ.start (xs:List Entry):ShfJ xs 1:=⟨Nat.le_refl _,.inr rfl,fun i hi=>by omega⟩
theorem ShfJ.step {xs:List Entry}{k:Nat}{a b:Entry}(h:ShfJ xs k) (hk:k<xs.length) (ha:xs[k-1]? = some a) (hb:xs[k]? = some b) (hab:bU a b=true):ShfJ xs (k+1):=by
 refine⟨by omega,.inl aA,shelfTo_step h.pos hk h.ok ?_⟩;obtain⟨_,rfl⟩:=gsi_.1 ha;obtain⟨_,rfl⟩:=gsi_.1 hb;exact hab
theorem ShfJ.bad {xs:List Entry}{k:Nat}{a b:Entry}(h:ShfJ xs k) (hk:k<xs.length) (ha:xs[k-1]? = some a) (hb:xs[k]? = some b) (hab:bU a b=false):false=cJ xs:=by
 obtain⟨_,rfl⟩:=gsi_.1 ha;obtain⟨_,rfl⟩:=gsi_.1 hb;unfold cJ;rw[kX (fun hz=>shelfTo_bad h.pos hk hab hz.2)]
theorem ShfJ.all {xs:List Entry}{k:Nat}(h:ShfJ xs k) (hk:¬(k:Int)<xs.length):decide ((xs.length:Int)<=80)=cJ xs:=by
 unfold cJ;by_cases h8:xs.length<=80
 ·rw[pQ ⟨h8,fun i hi hx=>h.ok i aA hx⟩];simp;omega
 rw[kX (fun hz=>h8 hz.1)];simp;omega
theorem ShfJ.long {xs:List Entry}(h:(80:Int)<xs.length):false=cJ xs:=by
 unfold cJ;rw[kX (fun hz=>by omega)]
theorem ShelfOk_i (xs:List Entry):Ct1 prog 99 [.L xs] [.B (cJ xs)]:=
 .one (cJ xs) (rk:=fun x=>[.B x])<|vc func99 (fun (hg:gin [Par.L xs])=>let hl:=hg.1
  .l (Γ:=Nat) (fun k=>ShfJ xs k) (fun k=>xs.length-k) [0] [] [0] (fun k=>[vI 3 k]) (fun _=>[]) 1 (h:=ShfJ.start xs) fun k hJ t=>let hp:=hJ.pos
   .s ((k:Int)<xs.length)
    (fun h=>.m (k:Int) 1 (h:=by unfold I64;omega)<|.xe xs (k-1) ((k:Int)-1) (h:=by omega) (he:=by omega) fun a ha ga=>.x xs k (h:=by omega) fun b hb gb=>
     .c func156 (bU2 a b) fun _=>.v (bU a b)
      (fun h1=>.rt false ⟨hJ.bad aA ha hb h1,trivial⟩)
      (fun h1=>.p k 1<|.n t (k+1) [] (hJ.step aA ha hb h1) aA))
    (fun h=>.rt (decide ((xs.length:Int)<=80)) ⟨hJ.all h,trivial⟩)) aB
theorem ShelfOk_s (xs:List Entry):Ct1 prog 169 [.L xs] [.B (cJ xs)]:=
 .one (cJ xs) (rk:=fun x=>[.B x])<|vc func169 (fun hg=>.s ((80:Int)<xs.length)
  (fun h=>.rt false ⟨ShfJ.long h,trivial⟩)
  (fun h8=>.l (Γ:=Nat) (fun k=>ShfJ xs k) (fun k=>xs.length-k) [0] [] [0] (fun k=>[vI 3 k]) (fun _=>[]) 1 (h:=ShfJ.start xs) fun k hJ t=>let hp:=hJ.pos
   .s ((k:Int)<xs.length)
    (fun h=>.m (k:Int) 1 (h:=by unfold I64;omega)<|.xe xs (k-1) ((k:Int)-1) (h:=by omega) (he:=by omega) fun a ha ga=>.x xs k (h:=by omega) fun b hb gb=>
     .c func202 (bU1 a b) fun _=>.v (bU a b)
      (fun h1=>.rt false ⟨hJ.bad aA ha hb h1,trivial⟩)
      (fun h1=>.p k 1<|.n t (k+1) [] (hJ.step aA ha hb h1) aA))
    (fun h=>.rt true ⟨by rw[<- hJ.all h];simp;omega,trivial⟩))) aB
structure RaJ (y:Yard) (id:Int) (k:Nat):Prop where
 le:k<=y.runs.length
 no:(y.runs.take k).any (fun r=>decide (r.id=id))=false
theorem RaJ.next {y:Yard}{id:Int}{k:Nat}{r:Run}(h:RaJ y id k) (hr:y.runs[k]? = some r) (hn:¬r.id=id):RaJ y id (k+1):=by
 obtain⟨hk,rfl⟩:=gsi_.1 hr;exact⟨hk,tL hk h.no (by simp[hn])⟩
theorem RaJ.hit {y:Yard}{id:Int}{k:Nat}{r:Run}(h:RaJ y id k) (hr:y.runs[k]? = some r) (h8:(y.runs.length:Int)<=8) (hn:r.id=id):(k:Int)=aF y id:=by
 obtain⟨hk,rfl⟩:=gsi_.1 hr;have:bS y id=some k:=by
  unfold bS;rw[if_pos aA,nK hk h.no (by simp[hn])]
 rw[cE this]
theorem RaJ.none_ {y:Yard}{id:Int}{k:Nat}(h:RaJ y id k) (hk:¬((k:Int)<y.runs.length/\(y.runs.length:Int)<=8)):(-1:Int)=aF y id:=by
 have:bS y id=none:=by
  unfold bS;split
  ·have:=h.no;rw[show k=y.runs.length by have:=h.le;omega,take_length]at this;exact qY this
  rfl
 rw[aC5 this]
theorem jP (y:Yard) (id:Int) (hw:y.wt<=1048576):Ct1 prog 103 [.S y,.I id] [.I (aF y id)]:=
 .one (aF y id) (rk:=fun x=>[.I x])<|vc func103 (fun hg=>let hb:=dJ y hw
  .s ((8:Int)<y.runs.length)
   (fun h=>.rt (-1) ⟨RaJ.none_ (k:=0) ⟨Nat.zero_le _,rfl⟩ aA,trivial⟩)
   (fun h8=>.in_ (R':=fun o:Option Nat=>ixI o=aF y id) func159 (
    .la (Γ:=Nat) (RaJ y id) (fun k=>y.runs.length-k) (fun k=>[vI 8 k]) (fun _=>[]) 0 (h:=⟨Nat.zero_le _,rfl⟩) fun k hJ t=>let hl:=hJ.le
     .s ((k:Int)<y.runs.length)
      (fun h=>.x y.runs k (h:=by omega) fun r hr gr=>.in_ (R':=fun _:Unit=>True) func160 (.rt () trivial) fun _ _=>.s (r.id=id)
       (fun h1=>.rt (some k) (hJ.hit hr aA h1))
       (fun h1=>.p k 1<|.n t (k+1) [] (hJ.next hr h1) aA))
      (fun h=>.rt none (hJ.none_ (fun z=>h z.1)))) fun o=>match o with
    | none=>fun ho=>.rt (-1) ⟨ho,trivial⟩
    | some k=>fun ho=>.rt (k:Int) ⟨ho,trivial⟩)) aB
theorem jO (y:Yard) (id:Int) (hw:y.wt<=1048576):Ct1 prog 119 [.S y,.I id] [.I (aF y id)]:=
 .one (aF y id) (rk:=fun x=>[.I x])<|vc func119 (fun hg=>let hb:=dJ y hw
  .l (Γ:=Nat) (fun k=>RaJ y id k) (fun k=>y.runs.length-k) [1,2] [2] [0,1] (fun k=>[vI 5 k]) (fun _=>[]) 0 (h:=⟨Nat.zero_le _,rfl⟩) fun k hJ t=>let hl:=hJ.le
   .s ((k:Int)<y.runs.length)
    (fun h=>.s ((y.runs.length:Int)<=8)
     (fun h8=>.x y.runs k (h:=by omega) fun r hr gr=>.s (r.id=id)
      (fun h1=>.rt (k:Int) ⟨hJ.hit hr h8 h1,trivial⟩)
      (fun h1=>.p k 1<|.n t (k+1) [] (hJ.next hr h1) aA))
     (fun h8=>.rt (-1) ⟨hJ.none_ (fun z=>h8 z.2),trivial⟩))
    (fun h=>.rt (-1) ⟨hJ.none_ (fun z=>h z.1),trivial⟩)) aB
theorem uG {y:Yard}{id:Int}(h:(0:Int)<=aF y id):∃q:Nat×Run,bS y id=some q.1/\aF y id=(q.1:Int)/\y.runs[q.1]? = some q.2:=by
 cases hi:bS y id with
 | none=>rw[aC5 hi]at h;omega
 | some k=>exact⟨(k,y.runs[k]'(aC2 hi)),rfl,cE hi,getElem?_eq_getElem (aC2 hi)⟩
theorem tA {α:Type}{ts:List α}{x:Int}(h:inB x 0 ((ts.length:Int)-1)=true):∃t,ts[x.toNat]? = some t:=by
 have:=inB_iff.1 h;exact⟨ts[x.toNat]'(by omega),getElem?_eq_getElem aA⟩
theorem hQ {x b:Int}(h:inB x 0 b=true):x=(x.toNat:Int):=by have:=inB_iff.1 h;omega
theorem bD8 {y:Yard}{e:Entry}(h:¬(0:Int)<=aF y e.run):false=fresh y e:=by
 have:bS y e.run=none:=by
  cases hi:bS y e.run with
  | none=>rfl
  | some k=>rw[cE hi]at h;omega
 unfold fresh;rw[this]
theorem bD9 {y:Yard}{e:Entry}{k:Nat}{r:Run}(hk:bS y e.run=some k) (hr:y.runs[k]? = some r):fresh y e=(inB e.task 0 ((r.tasks.length:Int)-1) && (match r.tasks[e.task.toNat]? with | some t=>decide (t.state=2) | none=>false)):=by
 unfold fresh;rw[hk];simp only[hr]<;>rfl
theorem aO2 {y:Yard}{e:Entry}{k:Nat}{r:Run}(hk:bS y e.run=some k) (hr:y.runs[k]? = some r) (h:inB e.task 0 ((r.tasks.length:Int)-1)=false):false=fresh y e:=by rw[bD9 hk hr,h];rfl
theorem bE0 {y:Yard}{e:Entry}{k:Nat}{r:Run}{t:Task}(hk:bS y e.run=some k) (hr:y.runs[k]? = some r) (h:inB e.task 0 ((r.tasks.length:Int)-1)=true) (ht:r.tasks[e.task.toNat]? = some t):decide (t.state=2)=fresh y e:=by rw[bD9 hk hr,h,ht];rfl
theorem bT6 (y:Yard) (e:Entry) (hw:y.wt<=1048576):Ct1 prog 161 [.S y,.S e] [.B (fresh y e)]:=
 .one (fresh y e) (rk:=fun x=>[.B x])<|vc func161 (fun (hg:gin [Par.S y,Par.S e])=>.c func103 (jP y e.run hw) (hg:=⟨hg.1.1,trivial⟩) fun _=>.s ((0:Int)<=aF y e.run)
  (fun h=>.ex (uG h) fun q hq=>.ye hq.2.2 (aF y e.run) (he:=hq.2.1) fun gr=>.m (q.2.tasks.length:Int) 1 (h:=by have:=gJ hw hq.2.2;unfold I64;omega)<|.c func29 (bR e.task 0 ((q.2.tasks.length:Int)-1)) fun _=>
   .sb (inB e.task 0 ((q.2.tasks.length:Int)-1))
    (fun h1=>.ye hq.2.2 (aF y e.run) (he:=hq.2.1) fun _=>.ex (tA h1) fun t ht=>.ye ht e.task (he:=hQ h1) fun _=>.rt (decide (t.state=2)) ⟨bE0 hq.1 hq.2.2 h1 ht,trivial⟩)
    (fun h1=>.rt false ⟨aO2 hq.1 hq.2.2 h1,trivial⟩))
  (fun h=>.rt false ⟨bD8 h,trivial⟩)) aB
theorem bT5 (y:Yard) (e:Entry) (hw:y.wt<=1048576):Ct1 prog 173 [.S y,.S e] [.B (fresh y e)]:=
 .one (fresh y e) (rk:=fun x=>[.B x])<|vc func173 (fun (hg:gin [Par.S y,Par.S e])=>.c func119 (jO y e.run hw) (hg:=⟨hg.1.1,trivial⟩) fun _=>.s ((0:Int)<=aF y e.run)
  (fun h=>.ex (uG h) fun q hq=>.ye hq.2.2 (aF y e.run) (he:=hq.2.1) fun gr=>.m (q.2.tasks.length:Int) 1 (h:=by have:=gJ hw hq.2.2;unfold I64;omega)<|.c func38 (InV e.task 0 ((q.2.tasks.length:Int)-1)) fun _=>
   .sb (inB e.task 0 ((q.2.tasks.length:Int)-1))
    (fun h1=>.ye hq.2.2 (aF y e.run) (he:=hq.2.1) fun _=>.ex (tA h1) fun t ht=>.ye ht e.task (he:=hQ h1) fun _=>.rt (decide (t.state=2)) ⟨bE0 hq.1 hq.2.2 h1 ht,trivial⟩)
    (fun h1=>.rt false ⟨aO2 hq.1 hq.2.2 h1,trivial⟩))
  (fun h=>.rt false ⟨bD8 h,trivial⟩)) aB
def kZ (y:Yard) (k:Nat):List Entry:=(y.shelf.take k).flatten
theorem mO {y:Yard}{k:Nat}{l:List Entry}(h:y.shelf[k]? = some l):kZ y k++l=kZ y (k+1):=by
 obtain⟨hk,rfl⟩:=gsi_.1 h;unfold kZ;rw[flat_to hk]
theorem aO8 (y:Yard) (k:Nat) (h:y.wt<=1048576):(kZ y k).length<=1048576:=Nat.le_trans (bQ3 y k) h
theorem rD {y:Yard}{k:Nat}{l:List Entry}(h:y.shelf[k]? = some l) (hw:y.wt<=1048576):(kZ y k).length+l.length<=1048576:=by
 have:=aO8 y (k+1) hw;rw[<- mO h,length_append]at this;exact this
theorem tB {y:Yard}{k:Nat}(h:k<=y.shelf.length) (hk:¬(k:Int)<y.shelf.length):kZ y k=y.shelf.flatten:=by
 unfold kZ;rw[take_of_length_le aA]
theorem aR2 (y:Yard) (hw:y.wt<=1048576):Ct1 prog 100 [.S y] [.L y.shelf.flatten]:=
 vc func100 (fun hg=>let hb:=dJ y hw
  .w Entry 121 3<|.l (Γ:=Nat) (fun k=>k<=y.shelf.length) (fun k=>y.shelf.length-k) [1,7,8] [2] [0,1] (fun k=>[vR 3 3,vI 9 k]) (fun k=>[oR 3 121 (kZ y k)]) 0 fun k hk t=>
   .s ((k:Int)<y.shelf.length)
    (fun h=>.x y.shelf k (h:=by omega) fun l hl gl=>let hz:=rD hl hw
     .as (inferInstance:Shape Entry) eN (kZ y k) l 32 (by unfold maxLen;omega) aA<|.g 3 (mO hl)<|.p k 1<|.n t (k+1) [])
    (fun h=>.g 3 (tB hk h)<|.rt () ⟨trivial,trivial⟩)) aB
theorem aR1 (y:Yard) (hw:y.wt<=1048576):Ct1 prog 120 [.S y] [.L y.shelf.flatten]:=
 vc func120 (fun hg=>let hb:=dJ y hw
  .e Entry<|.l (Γ:=Nat) (fun k=>k<=y.shelf.length) (fun k=>y.shelf.length-k) [1] [2] [0,1] (fun k=>[vR 3 3,vI 4 k]) (fun k=>[oR 3 121 (kZ y k)]) 0 fun k hk t=>
   .s ((k:Int)<y.shelf.length)
    (fun h=>.x y.shelf k (h:=by omega) fun l hl gl=>let hz:=rD hl hw
     .as (inferInstance:Shape Entry) eN (kZ y k) l 32 (by unfold maxLen;omega) aA<|.g 3 (mO hl)<|.p k 1<|.n t (k+1) [])
    (fun h=>.g 3 (tB hk h)<|.rt () ⟨trivial,trivial⟩)) aB
def pEq:List (Nat×Bool)->List (Nat×Bool)->Bool
 | [],[]=>true
 | (a,b)::p,(c,d)::q=>Nat.beq a c && ((b == d) && pEq p q)
 | _,_=>false
theorem bH6:∀{p q:List (Nat×Bool)},pEq p q=true->p=q
 | [],[],_=>rfl
 | (a,b)::p,(c,d)::q,h=>by
  simp only[pEq,Bool.and_eq_true,beq_iff_eq]at h;rw[Nat.eq_of_beq_eq_true h.1,h.2.1,bH6 h.2.2]
 | [],_::_,h=>by cases h
 | _::_,[],h=>by cases h
def sfx (q:List (Nat×Bool)):List (Nat×Bool)->Bool
 | []=>pEq q []
 | x::p=>pEq q (x::p) || sfx q p
def PT (p:List (Nat×Bool)) (f:Nat->Value):Prop:=∀x∈p,f x.1 = .bool x.2
theorem bX4 {q:List (Nat×Bool)}{f:Nat->Value}:∀{p:List (Nat×Bool)},sfx q p=true->PT p f->PT q f
 | [],h,hp=>by rw[bH6 h];exact hp
 | x::p,h,hp=>by
  simp only[sfx,Bool.or_eq_true]at h;rcases h with h | h
  ·rw[bH6 h];exact hp
  ·exact bX4 h (fun y hy=>hp y (mem_cons_of_mem _ hy))
def yF:List (Nat×List (Nat×Bool)×Value)->Nat->Option (List (Nat×Bool)×Value)
 | [],_=>none
 | (t,q,v)::C,x=>cond (Nat.beq x t) (some (q,v)) (yF C x)
def AgC (C:List (Nat×List (Nat×Bool)×Value)) (f:Nat->Value):Prop:=∀t q v,yF C t=some (q,v)->(PT q f->f t=v)/\(¬PT q f->f t=undef)
def lkS (n:Nat) (E:List (Nat×Value)) (C:List (Nat×List (Nat×Bool)×Value)) (p:List (Nat×Bool)):Operand->Option Value
 | .tmp t=>match yF C t with
  | some (q,v)=>cond (sfx q p && Nat.ble (t+1) n) (some v) none
  | none=>lkO n E (.tmp t)
 | x=>lkO n E x
theorem aU1 {n:Nat}{E:List (Nat×Value)}{C:List (Nat×List (Nat×Bool)×Value)}{p:List (Nat×Bool)}{f:Nat->Value}(hA:Ag E f) (hC:AgC C f) (hp:PT p f) (x:Operand) (v:Value) (e:lkS n E C p x=some v):ev n f x=v:=by
 cases x with
 | tmp t=>
  simp only[lkS]at e;split at e
  ·next q u hq=>
   cases hb:(sfx q p && Nat.ble (t+1) n) with
   | false=>rw[hb]at e;cases e
   | true=>
    rw[hb]at e;simp only[cond_true,Option.some.injEq]at e;rw[Bool.and_eq_true]at hb;simp only[ev,hb.2,cond_true];rw[<- e];exact(hC t q u hq).1 (bX4 hb.1 hp)
  exact lY hA _ _ e
 | const u=>exact lY hA _ _ e
 | global g=>exact lY hA _ _ e
 | func g=>exact lY hA _ _ e
theorem lkS_lt {n:Nat}{E:List (Nat×Value)}{C:List (Nat×List (Nat×Bool)×Value)}{p:List (Nat×Bool)}{t:Nat}{v:Value}(e:lkS n E C p (.tmp t)=some v):Nat.ble (t+1) n=true:=by
 simp only[lkS]at e;split at e
 ·next q u hq=>
  cases hb:(sfx q p && Nat.ble (t+1) n) with
  | false=>rw[hb]at e;cases e
  | true=>rw[Bool.and_eq_true]at hb;exact hb.2
 simp only[lkO]at e;cases hb:Nat.ble (t+1) n with
 | false=>rw[hb]at e;cases e
 | true=>rfl
def bH5 (n:Nat) (l:List Oper) (C:List (Nat×List (Nat×Bool)×Value)) (o:Oper):Option (List (Nat×Bool)):=
 match o.guard with
 | none=>some []
 | some (j,w)=>(aW l j).bind fun d=>cond (Nat.ble (d+1) n) (some ((d,w)::(match yF C d with | some (q,_)=>q | none=>[]))) none
def bk (e ea eb:Bool) (a b:Operand):Bool:=
 match b with
 | .const (.bool false)=>e && ea
 | _=>match a with
  | .const (.bool true)=>e || eb
  | _=>cond e ea eb
section
variable {P:Program}{w0 Ws:World}{rs:List Res}
def pkS (e:Bool) (va vb:Value) (a b:Operand) (hs:List (Hn P w0 Ws rs)):R1 P w0 Ws rs:=
 match va,vb with
 | .bool ea,.bool eb=>r0 (.bool (bk e ea eb a b)) hs
 | _,_=>none
def bW9 (n:Nat) (E:List (Nat×Value)) (C:List (Nat×List (Nat×Bool)×Value)) (p:List (Nat×Bool)) (o:Op) (hs:List (Hn P w0 Ws rs)):R1 P w0 Ws rs:=
 match o with
 | .pick (.tmp c) a b=>(lkS n E C p (.tmp c)).bind fun vc=>match vc with
  | .bool e=>(lkS n E C ((c,true)::p) a).bind fun va=>(lkS n E C ((c,false)::p) b).bind fun vb=>pkS e va vb a b hs
  | _=>none
 | o=>opC (lkS n E C p) o hs
def bE1 (C:List (Nat×List (Nat×Bool)×Value)) (p:List (Nat×Bool)) (t:Nat):Bool:=C.all (fun x=> !Nat.beq x.1 t && x.2.1.all (fun y=> !Nat.beq y.1 t)) && p.all (fun y=> !Nat.beq y.1 t)
def aY7 (n:Nat) (l:List Oper):List Oper->Nat->List (Nat×Value)->List (Nat×List (Nat×Bool)×Value)->List (Hn P w0 Ws rs)->Option (List (Nat×Value)×(List (List Value)×List (List Value)))
 | _,0,E,_,_=>some (E,([],[]))
 | [],_+1,_,_,_=>none
 | o::os,m+1,E,C,hs=>match o.dst with
  | none=>none
  | some d=>(bH5 n l C o).bind fun p=>cond (bE1 C p d)
   ((bW9 n E C p o.op hs).bind fun r=>match p with
    | []=>(aY7 n l os m ((d,r.1)::E) C r.2.2).bind fun q=>some (q.1,(r.2.1.1::q.2.1,r.2.1.2::q.2.2))
    | g::p=>(aY7 n l os m (aJ9 d E) ((d,g::p,r.1)::C) r.2.2).bind fun q=>some (q.1,(r.2.1.1::q.2.1,r.2.1.2::q.2.2))) none
end
def bX2 (b:Bool) (r:Option (List (Nat×Value)×(List (List Value)×List (List Value)))) (E':List (Nat×Value)):Option (List (List Value)×List (Option Value)):=
 match r with
 | none=>cond b none (some ([],[]))
 | some q=>cond b (some (q.2.1,E'.map (fun p=>jQ q.1 p.1))) (some (q.2.2,E'.map (fun p=>some p.2)))
section
variable {P:Program}{n:Nat}{f:Nat->Value}{W w0 Ws:World}{rs:List Res}{Q:Exit->Act->World->Prop}{K:Value->World->Prop}
theorem bJ3 {p:List (Nat×Bool)}{d:Nat}{v:Value}(h:p.all (fun y=> !Nat.beq y.1 d)=true):PT p (dF f (some d) v)↔PT p f:=by
 rw[all_eq_true]at h;have key:∀x∈p,dF f (some d) v x.1=f x.1:=fun x hx=>by
  have:=h x hx;simp only[dF,upd];cases hb:Nat.beq x.1 d with
  | true=>rw[hb]at this;cases this
  | false=>rfl
 exact⟨fun hp x hx=>by rw[<- key x hx];exact hp x hx,fun hp x hx=>by rw[key x hx];exact hp x hx⟩
theorem aN2 {t:Nat}{q:List (Nat×Bool)}{v:Value}:∀{C:List (Nat×List (Nat×Bool)×Value)},yF C t=some (q,v)->∃x∈C,x.1=t/\x.2.1=q
 | (s,r,u)::C,h=>by
  unfold yF at h;cases hb:Nat.beq t s with
  | true=>
   rw[hb]at h;simp only[cond_true,Option.some.injEq,Prod.mk.injEq]at h;exact⟨_,mem_cons_self,(Nat.eq_of_beq_eq_true hb).symm,h.1⟩
  | false=>
   rw[hb]at h;obtain⟨x,hx,h2⟩:=aN2 h;exact⟨x,mem_cons_of_mem _ hx,h2⟩
 | [],h=>by cases h
theorem AgC.put {C:List (Nat×List (Nat×Bool)×Value)}{p:List (Nat×Bool)}{d:Nat}{v:Value}(hC:AgC C f) (hf:bE1 C p d=true):AgC C (dF f (some d) v):=by
 unfold bE1 at hf;rw[Bool.and_eq_true,all_eq_true]at hf;intro t q u hq;obtain⟨x,hx,rfl,rfl⟩:=aN2 hq;have h1:=hf.1 x hx;rw[Bool.and_eq_true]at h1;rw[bJ3 h1.2];have:dF f (some d) v x.1=f x.1:=by
  simp only[dF,upd];cases hb:Nat.beq x.1 d with
  | true=>rw[hb]at h1;cases h1.1
  | false=>rfl
 rw[this];exact hC _ _ _ hq
theorem AgC.cons {C:List (Nat×List (Nat×Bool)×Value)}{p:List (Nat×Bool)}{d:Nat}{v:Value}(hC:AgC C f) (h1:PT p f->f d=v) (h2:¬PT p f->f d=undef):AgC ((d,p,v)::C) f:=by
 intro t q u hq;unfold yF at hq;cases hb:Nat.beq t d with
 | true=>
  rw[hb]at hq;simp only[cond_true,Option.some.injEq,Prod.mk.injEq]at hq;obtain⟨rfl,rfl⟩:=hq;rw[Nat.eq_of_beq_eq_true hb];exact⟨h1,h2⟩
 | false=>rw[hb]at hq;exact hC t q u hq
theorem yl_some {v:Value}{w:Bool}(h:yl v=some w):v = .bool w:=by
 cases v<;>simp[yl]at h
 rw[h]
theorem aY3 {E:List (Nat×Value)}{C:List (Nat×List (Nat×Bool)×Value)}{p:List (Nat×Bool)}{d:Option Tmp}{ty:TypeId}{pos:String}{af:Array Go.Edge}{g:Option (Nat×Bool)}{hs hs':List (Hn P w0 Ws rs)}{v:Value}{L R:List Value}
  (hA:Ag E f) (hC:AgC C f) (hp:PT p f) (h1:St w0 W rs) (h2:Below Ws.heap.size Ws W) {o:Op}(h:bW9 n E C p o hs=some (v,(L,R),hs')) (e:L=R):Stp P n ⟨d,o,ty,pos,af,g⟩ f W Q (fun u W'=>u=v/\St w0 W' rs/\Below W.heap.size W W'):=by
 unfold bW9 at h;split at h
 ·next c a b=>
  obtain⟨vc,hvc,h⟩:=Option.bind_eq_some_iff.1 h;split at h
  ·next ec=>
   obtain⟨va,hva,h⟩:=Option.bind_eq_some_iff.1 h;obtain⟨vb,hvb,h⟩:=Option.bind_eq_some_iff.1 h;unfold pkS at h;split at h
   ·next ea eb _=>
    have hv:=uJ h;subst hv;have hec:=aU1 hA hC hp _ _ hvc;have hlt:=lkS_lt hvc;have hfc:f c = .bool ec:=by simpa only[ev,hlt,cond_true] using hec
    cases ec with
    | true=>
     have hpa:PT ((c,true)::p) f:=fun x hx=>by
      rcases mem_cons.1 hx with rfl | hx
      ·exact hfc
      exact hp x hx
     refine sN hec (aU1 hA hC hpa _ _ hva) ⟨?_,h1,Below.refl _ _⟩;unfold bk;split
     ·rfl
     split
     ·have:Value.bool true = .bool ea:=by simpa [lkS,lkO] using hva
      rw[<- Value.bool.inj this];rfl
     rfl
    | false=>
     have hpb:PT ((c,false)::p) f:=fun x hx=>by
      rcases mem_cons.1 hx with rfl | hx
      ·exact hfc
      exact hp x hx
     refine sO hec (aU1 hA hC hpb _ _ hvb) ⟨?_,h1,Below.refl _ _⟩;unfold bk;split
     ·have:Value.bool false = .bool eb:=by simpa [lkS,lkO] using hvb
      rw[<- Value.bool.inj this];rfl
     split<;>rfl
   cases h
  cases h
 exact bH8 (aU1 hA hC hp) h1 h2 h e
theorem zF {l:List Oper}:∀(m:Nat) {rest:List Oper}{W:World}{E E1:List (Nat×Value)}{C:List (Nat×List (Nat×Bool)×Value)}{f:Nat->Value}{hs:List (Hn P w0 Ws rs)}{L R:List (List Value)},St w0 W rs->Below Ws.heap.size Ws W ->
  aY7 n l rest m E C hs=some (E1,(L,R))->L=R->Ag E f->AgC C f->(∀f' W',Ag E1 f'->St w0 W' rs->Below Ws.heap.size Ws W'->Wl P l.toArray Q (rest.drop m) n f' W')->Wl P l.toArray Q rest n f W
 | 0,rest,W,E,E1,C,f,hs,L,R,hst,hbl,h,e,hA,hC,k=>by
  have h':some (E,(([]:List (List Value)),([]:List (List Value))))=some (E1,(L,R)):=by cases rest<;>exact h
  simp only[Option.some.injEq,Prod.mk.injEq]at h';obtain⟨rfl,_⟩:=h';simpa using k f W hA hst hbl
 | m+1,[],W,E,E1,C,f,hs,L,R,hst,hbl,h,e,hA,hC,k=>by simp only[aY7]at h;cases h
 | m+1,o::os,W,E,E1,C,f,hs,L,R,hst,hbl,h,e,hA,hC,k=>by
  simp only[aY7]at h;split at h
  ·cases h
  next d hd=>
  obtain⟨p,hp,h⟩:=Option.bind_eq_some_iff.1 h;cases hfc:bE1 C p d with
  | false=>rw[hfc]at h;cases h
  | true=>
   rw[hfc]at h;simp only[cond_true]at h;obtain⟨r,hr,h⟩:=Option.bind_eq_some_iff.1 h;obtain⟨rv,⟨rL,rR⟩,rh⟩:=r;cases p with
   | nil=>
    simp only at h;obtain⟨q,hq,h⟩:=Option.bind_eq_some_iff.1 h;simp only[Option.some.injEq,Prod.mk.injEq]at h;obtain⟨rfl,rfl,rfl⟩:=h;simp only[List.cons.injEq]at e;obtain⟨qE,qL,qR⟩:=q;have hgn:o.guard=none:=by
     unfold bH5 at hp;split at hp
     ·next hn=>exact hn
     obtain⟨dd,_,hp⟩:=Option.bind_eq_some_iff.1 hp;cases hb:Nat.ble (dd+1) n with
     | false=>rw[hb]at hp;cases hp
     | true=>rw[hb]at hp;simp at hp
    refine sx hgn ((aY3 hA hC (fun x hx=>by cases hx) hst hbl hr e.1).mono ?_);rintro u W' ⟨rfl,h1,h2⟩;refine zF m h1 (hbl.trans (h2.mono hbl.size)) hq e.2 ?_ (by rw[hd];exact hC.put hfc) (fun f' W' hf=>by simpa using k f' W' hf);rw[hd];exact hA.push (d:=some d)
   | cons gp p=>
    simp only at h;obtain⟨q,hq,h⟩:=Option.bind_eq_some_iff.1 h;simp only[Option.some.injEq,Prod.mk.injEq]at h;obtain⟨rfl,rfl,rfl⟩:=h;simp only[List.cons.injEq]at e;obtain⟨qE,qL,qR⟩:=q;unfold bH5 at hp;split at hp
    ·simp at hp
    next j w hg=>
    obtain⟨dd,hdd,hp⟩:=Option.bind_eq_some_iff.1 hp;cases hb:Nat.ble (dd+1) n with
    | false=>rw[hb]at hp;cases hp
    | true=>
     rw[hb]at hp;simp only[cond_true,Option.some.injEq,List.cons.injEq]at hp;obtain⟨rfl,hp2⟩:=hp;have hall:((dd,w)::p).all (fun y=> !Nat.beq y.1 d)=true:=by unfold bE1 at hfc;rw[Bool.and_eq_true]at hfc;exact hfc.2
     have hkA:∀v,Ag (aJ9 d E) (dF f (some d) v):=fun v x u hx=>by
      obtain⟨g1,g2⟩:=nR hx;simp only[dF,upd,g1,cond_false];exact hA x u g2
     by_cases hPT:PT ((dd,w)::p) f
     ·refine bW3 hg (dd:=dd) (by simpa [aW] using hdd) (Nat.le_of_ble_eq_true hb) (by rw[hPT (dd,w) mem_cons_self];rfl) ((aY3 hA hC hPT hst hbl hr e.1).mono ?_);rintro u W' ⟨rfl,h1,h2⟩;refine zF m h1 (hbl.trans (h2.mono hbl.size)) hq e.2 (by rw[hd];exact hkA _) ?_ (fun f' W' hf=>by simpa using k f' W' hf);rw[hd];refine(hC.put hfc).cons (fun _=>by simp[dF,upd]) (fun hn=>absurd ((bJ3 hall).2 hPT) hn)
     refine bG6 hg (dd:=dd) (by simpa [aW] using hdd) (Nat.le_of_ble_eq_true hb) ?_ ?_
     ·cases hy:(yl (f dd) == some w) with
      | false=>rfl
      | true=>
       exfalso;apply hPT;have hfd:=yl_some (by simpa using hy);intro x hx;rcases mem_cons.1 hx with rfl | hx
       ·exact hfd
       cases hl:yF C dd with
       | none=>rw[hl]at hp2;simp at hp2;rw[hp2]at hx;cases hx
       | some qv=>
        obtain⟨q2,v2⟩:=qv;rw[hl]at hp2;simp only at hp2;subst hp2;by_cases hq2:PT q2 f
        ·exact hq2 x hx
        have:=(hC dd q2 v2 hl).2 hq2;rw[this]at hfd;cases hfd
     refine zF m hst hbl hq e.2 (by rw[hd];exact hkA _) ?_ (fun f' W' hf=>by simpa using k f' W' hf);rw[hd];refine(hC.put hfc).cons (fun hn=>absurd ((bJ3 hall).1 hn) hPT) (fun _=>by simp[dF,upd])
theorem rg {l rest:List Oper}{E:List (Nat×Value)}(hst:St w0 W rs) (m:Nat) (hA:Ag E f) (ws:List Nat) (X:List (Nat×Value)) (hs:List (Hn P w0 W rs)) (h:bX2 true (aY7 n l rest m E [] hs) (X++cut ws E)=bX2 false (aY7 n l rest m E [] hs) (X++cut ws E))
  (k:∀f' W',Ag (X++cut ws E) f'->St w0 W' rs->Below W.heap.size W W'->Wl P l.toArray Q (rest.drop m) n f' W'):Wl P l.toArray Q rest n f W:=by
 cases hr:aY7 n l rest m E [] hs with
 | none=>rw[hr]at h;cases h
 | some q=>
  obtain⟨E1,L,R⟩:=q;rw[hr]at h;simp only[bX2,cond_true,cond_false,Option.some.injEq,Prod.mk.injEq]at h;obtain⟨rfl,h⟩:=h;exact zF m hst (Below.refl _ _) hr rfl hA (fun t q v hh=>by cases hh) (fun f' W' hf=>k f' W' (hf.to h))
end
def iZ (r:Run):Nat:=if r.state=1 then r.tasks.length else 0
def dY (y:Yard) (es:List Entry):Nat:=(es.filter (fun e=> !fresh y e)).length
def cI (y:Yard):Int:=((((y.runs).map iZ).sum:Nat):Int)+((dY y y.shelf.flatten:Nat):Int)
theorem slotsR_le (r:Run):iZ r<=r.wt:=by unfold iZ Run.wt;split<;>omega
theorem aL8 (y:Yard) (k:Nat):((y.runs.take k).map iZ).sum<=y.wt:=by
 have h1:=bW4 (f:=iZ) (g:=fun r:Run=>r.wt) slotsR_le (y.runs.take k);have h2:=pG (fun r:Run=>r.wt) y.runs k;unfold Yard.wt wtL;omega
theorem slotsE_t {y:Yard}{es:List Entry}{k:Nat}(hk:k<es.length) (h:(!fresh y es[k])=true):dY y (es.take (k+1))=dY y (es.take k)+1:=by
 unfold dY;rw[take_succ_eq_append_getElem hk,filter_append,length_append];simp[h]
theorem slotsE_f {y:Yard}{es:List Entry}{k:Nat}(hk:k<es.length) (h:(!fresh y es[k])=false):dY y (es.take (k+1))=dY y (es.take k):=by
 unfold dY;rw[take_succ_eq_append_getElem hk,filter_append,length_append];simp[h]
theorem qT (y:Yard) (es:List Entry):dY y es<=es.length:=length_filter_le _ _
theorem slotsE_app (y:Yard) (a b:List Entry):dY y (a++b)=dY y a+dY y b:=by unfold dY;rw[filter_append,length_append]
theorem slotsR_t {r:Run}(h:r.state=1):iZ r=r.tasks.length:=by unfold iZ;rw[if_pos h]
theorem slotsR_f {r:Run}(h:¬r.state=1):iZ r=0:=by unfold iZ;rw[if_neg h]
def oZ (id:Int) (task:Int) (e:Entry):Bool:=decide (e.run=id) && decide (e.task=task)
def wU (id task:Int) (es:List Entry):Nat:=(es.filter (oZ id task)).length
def wG (r:Run) (k:Nat) (es:List Entry):Prop:=∀h:k<r.tasks.length,∀e∈es,oZ r.id (k:Int) e=true->r.tasks[k].state=2->e.prio=r.plan.prio
def aS7 (now:Int) (r:Run) (es:List Entry) (k:Nat):Prop:=wG r k es/\∀h:k<r.tasks.length,(r.tasks[k].state=2->wU r.id (k:Int) es=1)/\(r.tasks[k].state=3->now+1<=r.tasks[k].until_/\r.tasks[k].until_<=now+r.plan.wait)
noncomputable def eS (now:Int) (r:Run) (es:List Entry):Bool:=pB (∀k,k<r.tasks.length->aS7 now r es k)
theorem entN_t {id task:Int}{es:List Entry}{k:Nat}(hk:k<es.length) (h:es[k].run=id/\es[k].task=task):wU id task (es.take (k+1))=wU id task (es.take k)+1:=by
 unfold wU;rw[take_succ_eq_append_getElem hk,filter_append,length_append];simp[oZ,h]
theorem entN_f {id task:Int}{es:List Entry}{k:Nat}(hk:k<es.length) (h:¬(es[k].run=id/\es[k].task=task)):wU id task (es.take (k+1))=wU id task (es.take k):=by
 have:oZ id task es[k]=false:=by
  unfold oZ;by_cases h1:es[k].run=id
  ·have h2:¬es[k].task=task:=fun e=>h ⟨h1,e⟩
   simp[h1,h2]
  simp[h1]
 unfold wU;rw[take_succ_eq_append_getElem hk,filter_append,length_append];simp[this]
theorem yB {r:Run}{k:Nat}{es:List Entry}{i:Nat}(hi:i<es.length) (h:wG r k (es.take i)) (h1:∀hk:k<r.tasks.length,es[i].run=r.id->es[i].task=(k:Int)->r.tasks[k].state=2->es[i].prio=r.plan.prio):wG r k (es.take (i+1)):=by
 intro hk e he hent hst;rw[take_succ_eq_append_getElem hi]at he;rcases mem_append.1 he with he | he
 ·exact h hk e he hent hst
 rw[mem_singleton]at he;subst he;simp only[oZ,Bool.and_eq_true,decide_eq_true_eq]at hent;exact h1 hk hent.1 hent.2 hst
theorem runEnt_step {now:Int}{r:Run}{es:List Entry}{k i:Nat}(hi:i=es.length) (hPr:wG r k (es.take i)) (h2:∀h:k<r.tasks.length,(r.tasks[k].state=2->wU r.id (k:Int) (es.take i)=1)/\(r.tasks[k].state=3->now+1<=r.tasks[k].until_/\r.tasks[k].until_<=now+r.plan.wait)) (hT:∀j,j<k->aS7 now r es j):∀j,j<k+1->aS7 now r es j:=by
 subst hi;rw[take_length]at hPr h2;intro j hj;rcases Nat.lt_succ_iff_lt_or_eq.1 hj with h1 | rfl
 ·exact hT j h1
 exact⟨hPr,h2⟩
theorem prioOk_bad {r:Run}{k:Nat}{es:List Entry}{i:Nat}(hi:i<es.length) (hk:k<r.tasks.length) (h1:es[i].run=r.id) (h2:es[i].task=(k:Int)) (h3:r.tasks[k].state=2) (h4:¬es[i].prio=r.plan.prio):¬wG r k es:=fun h=>h4 (h hk _ (getElem_mem hi) (by simp[oZ,h1,h2]) h3)

def slS (y:Yard) (k:Nat):Nat:=((y.runs.take k).map iZ).sum
theorem bX1 (y:Yard) (k:Nat) (h:y.wt<=1048576):slS y k<=1048576:=Nat.le_trans (aL8 y k) h
theorem slS_t {y:Yard}{k:Nat}{r:Run}(hr:y.runs[k]? = some r) (h:r.state=1):slS y (k+1)=slS y k+r.tasks.length:=by
 obtain⟨hk,rfl⟩:=gsi_.1 hr;unfold slS;rw[aY2 iZ y.runs k hk,slotsR_t h]
theorem slS_f {y:Yard}{k:Nat}{r:Run}(hr:y.runs[k]? = some r) (h:¬r.state=1):slS y (k+1)=slS y k:=by
 obtain⟨hk,rfl⟩:=gsi_.1 hr;unfold slS;rw[aY2 iZ y.runs k hk,slotsR_f h];rfl
theorem slE_t {y:Yard}{es:List Entry}{k:Nat}{e:Entry}(he:es[k]? = some e) (h:fresh y e=false):dY y (es.take (k+1))=dY y (es.take k)+1:=by
 obtain⟨hk,rfl⟩:=gsi_.1 he;exact slotsE_t hk (by rw[h];rfl)
theorem slE_f {y:Yard}{es:List Entry}{k:Nat}{e:Entry}(he:es[k]? = some e) (h:fresh y e=true):dY y (es.take (k+1))=dY y (es.take k):=by
 obtain⟨hk,rfl⟩:=gsi_.1 he;exact slotsE_f hk (by rw[h];rfl)
theorem slots_at {y:Yard}{k i:Nat}(hk:k<=y.runs.length) (h1:¬(k:Int)<y.runs.length) (hi:i<=y.shelf.flatten.length) (h2:¬(i:Int)<y.shelf.flatten.length):((slS y k+dY y (y.shelf.flatten.take i):Nat):Int)=cI y:=by
 unfold cI slS;rw[take_of_length_le aA,take_of_length_le aA];omega
theorem slE_le (y:Yard) (i:Nat) (h:y.wt<=1048576):dY y (y.shelf.flatten.take i)<=1048576:=by
 have h1:=qT y (y.shelf.flatten.take i);have h2:=aU5 y;rw[length_take]at h1;omega
theorem aR0 (y:Yard) (hw:y.wt<=1048576):Ct1 prog 105 [.S y] [.I (cI y)]:=
 .one (cI y) (rk:=fun x=>[.I x])<|vc func105 (fun (hg:gin [Par.S y])=>let hb:=dJ y hw
  .l (Γ:=Nat×Nat) (fun g=>g.1<=y.runs.length/\g.2=slS y g.1) (fun g=>y.runs.length-g.1) [1,9,10] [2] [0,1] (fun g=>[vI 3 g.2,vI 11 g.1]) (fun _=>[]) (0,0) (h:=⟨Nat.zero_le _,rfl⟩) fun g hJ t=>let hs:=bX1 y g.1 hw
   .s ((g.1:Int)<y.runs.length)
    (fun h=>.x y.runs g.1 (h:=by omega) fun r hr gr=>let hl:=gJ hw hr
     .s (r.state=1)
     (fun h1=>.p (g.2:Int) (r.tasks.length:Int) (h:=by unfold I64;omega)<|.p g.1 1<|.n t (g.1+1,g.2+r.tasks.length) [] ⟨by show g.1+1<=_;omega,by show _=slS y (g.1+1);rw[slS_t hr h1,hJ.2]⟩ (by dsimp only;omega))
     (fun h1=>.p g.1 1<|.n t (g.1+1,g.2) [] ⟨by show g.1+1<=_;omega,by show _=slS y (g.1+1);rw[slS_f hr h1,hJ.2]⟩ (by dsimp only;omega)))
    (fun h=>.c func100 (aR2 y hw) (hg:=⟨hg.1.1,trivial⟩) fun _=>
     .l (Γ:=Nat×Nat) (fun q=>q.1<=y.shelf.flatten.length/\q.2=slS y g.1+dY y (y.shelf.flatten.take q.1)) (fun q=>y.shelf.flatten.length-q.1) [1,25,26] [2,3] [0,1] (fun q=>[vI 3 q.2,vI 27 q.1]) (fun _=>[]) (0,g.2) (h:=⟨Nat.zero_le _,by rw[hJ.2];rfl⟩) fun q hq t2=>let hse:=slE_le y q.1 hw
      let hs2:(q.2:Int)<=4194304:=by have:=hq.2;omega
      .s ((q.1:Int)<y.shelf.flatten.length)
       (fun h2=>.x y.shelf.flatten q.1 (h:=by omega) fun e he ge=>.c func161 (bT6 y e hw) (hg:=⟨hg.1.1,ge,trivial⟩) fun _=>.v (fresh y e)
        (fun h3=>.p (q.2:Int) 1 (h:=by unfold I64;omega)<|.p q.1 1<|.n t2 (q.1+1,q.2+1) [] ⟨by show q.1+1<=_;omega,by show q.2+1=slS y g.1+_;rw[slE_t he h3,hq.2];rfl⟩ (by dsimp only;omega))
        (fun h3=>.p q.1 1<|.n t2 (q.1+1,q.2) [] ⟨by show q.1+1<=_;omega,by show q.2=slS y g.1+_;rw[slE_f he h3,hq.2]⟩ (by dsimp only;omega)))
       (fun h2=>.rt (q.2:Int) ⟨by rw[hq.2];exact slots_at hJ.1 h hq.1 h2,trivial⟩))) aB
def slF (y:Yard) (i:Nat):Nat:=dY y (kZ y i)
theorem slF_le (y:Yard) (i:Nat) (h:y.wt<=1048576):slF y i<=1048576:=Nat.le_trans (qT y _) (aO8 y i h)
theorem slF_step {y:Yard}{i j:Nat}{l:List Entry}(hl:y.shelf[i]? = some l) (hj:j<=l.length) (h:¬(j:Int)<l.length):slF y i+dY y (l.take j)=slF y (i+1):=by
 unfold slF;rw[<- mO hl,slotsE_app,take_of_length_le aA]
theorem slF_all {y:Yard}{k i:Nat}(hk:k<=y.runs.length) (h1:¬(k:Int)<y.runs.length) (hi:i<=y.shelf.length) (h2:¬(i:Int)<y.shelf.length):((slS y k+slF y i:Nat):Int)=cI y:=by
 unfold cI slS slF;rw[take_of_length_le aA,tB hi h2];omega
theorem aQ9 (y:Yard) (hw:y.wt<=1048576):Ct1 prog 122 [.S y] [.I (cI y)]:=
 .one (cI y) (rk:=fun x=>[.I x])<|vc func122 (fun (hg:gin [Par.S y])=>let hb:=dJ y hw
  .l (Γ:=Nat×Nat) (fun g=>g.1<=y.runs.length/\g.2=slS y g.1) (fun g=>y.runs.length-g.1) [1] [2] [0,1] (fun g=>[vI 3 g.2,vI 4 g.1]) (fun _=>[]) (0,0) (h:=⟨Nat.zero_le _,rfl⟩) fun g hJ t=>let hs:=bX1 y g.1 hw
   .s ((g.1:Int)<y.runs.length)
    (fun h=>.x y.runs g.1 (h:=by omega) fun r hr gr=>let hl:=gJ hw hr
     .s (r.state=1)
     (fun h1=>.y hr fun _=>.p (g.2:Int) (r.tasks.length:Int) (h:=by unfold I64;omega)<|.p g.1 1<|.n t (g.1+1,g.2+r.tasks.length) [] ⟨by show g.1+1<=_;omega,by show _=slS y (g.1+1);rw[slS_t hr h1,hJ.2]⟩ (by dsimp only;omega))
     (fun h1=>.p g.1 1<|.n t (g.1+1,g.2) [] ⟨by show g.1+1<=_;omega,by show _=slS y (g.1+1);rw[slS_f hr h1,hJ.2]⟩ (by dsimp only;omega)))
    (fun h=>.l (Γ:=Nat×Nat) (fun q=>q.1<=y.shelf.length/\q.2=slS y g.1+slF y q.1) (fun q=>y.shelf.length-q.1) [1] [2] [0,1] (fun q=>[vI 3 q.2,vI 5 q.1]) (fun _=>[]) (0,g.2) (h:=⟨Nat.zero_le _,by rw[hJ.2];rfl⟩) fun q hq t2=>let hse:=slF_le y q.1 hw
      .s ((q.1:Int)<y.shelf.length)
       (fun h2=>.ex (p:=fun l=>y.shelf[q.1]? = some l) ⟨_,getElem?_eq_getElem (show q.1<y.shelf.length by omega)⟩ fun l hl=>let hll:l.length<=1048576:=(by have:=rD hl hw;omega)
        .l (Γ:=Nat×Nat) (fun z=>z.1<=l.length/\z.2=q.2+dY y (l.take z.1)) (fun z=>l.length-z.1) [1,5] [2] [0,1] (fun z=>[vI 3 z.2,vI 6 z.1]) (fun _=>[]) (0,q.2) (h:=⟨Nat.zero_le _,rfl⟩) fun z hz t3=>let hsz:=Nat.le_trans (qT y (l.take z.1)) (length_take_le _ _)
         let hs3:(z.2:Int)<=8388608:=by have:=hz.2;have:=hq.2;omega
         .y hl fun _=>.s ((z.1:Int)<l.length)
          (fun h3=>.y hl fun _=>.x l z.1 (h:=by omega) fun e he ge=>.c func173 (bT5 y e hw) (hg:=⟨hg.1.1,ge,trivial⟩) fun _=>.v (fresh y e)
           (fun h4=>.p (z.2:Int) 1 (h:=by unfold I64;omega)<|.p z.1 1<|.n t3 (z.1+1,z.2+1) [] ⟨by show z.1+1<=_;omega,by show z.2+1=q.2+_;rw[slE_t he h4,hz.2];rfl⟩ (by dsimp only;omega))
           (fun h4=>.p z.1 1<|.n t3 (z.1+1,z.2) [] ⟨by show z.1+1<=_;omega,by show z.2=q.2+_;rw[slE_f he h4,hz.2]⟩ (by dsimp only;omega)))
          (fun h3=>.p q.1 1<|.n t2 (q.1+1,z.2) [] ⟨by show q.1+1<=_;omega,by show z.2=slS y g.1+slF y (q.1+1);rw[<- slF_step hl hz.1 h3,hz.2,hq.2];omega⟩ (by dsimp only;omega)))
       (fun h2=>.rt (q.2:Int) ⟨by rw[hq.2];exact slF_all hJ.1 h hq.1 h2,trivial⟩))) aB
structure EnJ (r:Run) (es:List Entry) (k:Nat) (g:Nat×Nat):Prop where
 le:g.1<=es.length
 pr:wG r k (es.take g.1)
 cnt:g.2=wU r.id (k:Int) (es.take g.1)
 bd:g.2<=g.1
theorem EnJ.start (r:Run) (es:List Entry) (k:Nat):EnJ r es k (0,0):=⟨Nat.zero_le _,fun _ e he=>by simp at he,rfl,Nat.le_refl _⟩
theorem EnJ.skip {r:Run}{es:List Entry}{k:Nat}{g:Nat×Nat}{e:Entry}(h:EnJ r es k g) (he:es[g.1]? = some e) (hn:¬(e.run=r.id/\e.task=(k:Int))):EnJ r es k (g.1+1,g.2):=by
 obtain⟨hk,rfl⟩:=gsi_.1 he;exact⟨hk,yB hk h.pr (fun _ h1 h2 _=>absurd ⟨h1,h2⟩ hn),by rw[h.cnt];exact(entN_f hk hn).symm,Nat.le_succ_of_le h.bd⟩
theorem EnJ.take {r:Run}{es:List Entry}{k:Nat}{g:Nat×Nat}{e:Entry}{t:Task}(h:EnJ r es k g) (he:es[g.1]? = some e) (h1:e.run=r.id) (h2:e.task=(k:Int)) (ht:r.tasks[k]? = some t) (h3:t.state=2->e.prio=r.plan.prio):EnJ r es k (g.1+1,g.2+1):=by
 obtain⟨hk,rfl⟩:=gsi_.1 he;obtain⟨hkt,rfl⟩:=gsi_.1 ht;exact⟨hk,yB hk h.pr (fun _ _ _ h4=>h3 h4),by rw[h.cnt];exact(entN_t hk ⟨h1,h2⟩).symm,Nat.succ_le_succ h.bd⟩
theorem EnJ.bad {now:Int}{r:Run}{es:List Entry}{k:Nat}{g:Nat×Nat}{e:Entry}{t:Task}(h:EnJ r es k g) (he:es[g.1]? = some e) (h1:e.run=r.id) (h2:e.task=(k:Int)) (ht:r.tasks[k]? = some t) (h3:t.state=2) (h4:¬e.prio=r.plan.prio):false=eS now r es:=by
 obtain⟨hk,rfl⟩:=gsi_.1 he;obtain⟨hkt,rfl⟩:=gsi_.1 ht;unfold eS;rw[kX (fun hz=>prioOk_bad hk hkt h1 h2 h3 h4 (hz k hkt).1)]
structure RoJ (now:Int) (r:Run) (es:List Entry) (k:Nat):Prop where
 le:k<=r.tasks.length
 ok:∀j,j<k->aS7 now r es j
theorem RoJ.start (now:Int) (r:Run) (es:List Entry):RoJ now r es 0:=⟨Nat.zero_le _,fun j hj=>by omega⟩
theorem RoJ.next {now:Int}{r:Run}{es:List Entry}{k:Nat}{g:Nat×Nat}{t:Task}(h:RoJ now r es k) (ht:r.tasks[k]? = some t) (hq:EnJ r es k g) (hg:¬(g.1:Int)<es.length) (h2:t.state=2->(g.2:Int)=1) (h3:t.state=3->inB t.until_ (now+1) (now+r.plan.wait)=true):RoJ now r es (k+1):=by
 obtain⟨hkt,rfl⟩:=gsi_.1 ht;refine⟨hkt,runEnt_step (i:=g.1) (by have:=hq.le;omega) hq.pr (fun _=>⟨fun hs=>?_,fun hs=>inB_iff.1 (h3 hs)⟩) h.ok⟩;have:=h2 hs;rw[<- hq.cnt];omega
theorem RoJ.cnt_bad {now:Int}{r:Run}{es:List Entry}{k:Nat}{g:Nat×Nat}{t:Task}(ht:r.tasks[k]? = some t) (hq:EnJ r es k g) (hg:¬(g.1:Int)<es.length) (h2:t.state=2) (h3:¬(g.2:Int)=1):false=eS now r es:=by
 obtain⟨hkt,rfl⟩:=gsi_.1 ht;unfold eS;rw[kX (fun hz=>?_)];have h4:=((hz k hkt).2 hkt).1 h2;have:=hq.cnt;rw[take_of_length_le (by have:=hq.le;omega)]at this;omega
theorem RoJ.till_bad {now:Int}{r:Run}{es:List Entry}{k:Nat}{t:Task}(ht:r.tasks[k]? = some t) (h2:t.state=3) (h3:inB t.until_ (now+1) (now+r.plan.wait)=false):false=eS now r es:=by
 obtain⟨hkt,rfl⟩:=gsi_.1 ht;unfold eS;rw[kX (fun hz=>?_)];have h4:=((hz k hkt).2 hkt).2 h2;rw[inB_iff.2 h4]at h3;cases h3
theorem RoJ.all {now:Int}{r:Run}{es:List Entry}{k:Nat}(h:RoJ now r es k) (hk:¬(k:Int)<r.tasks.length):true=eS now r es:=by
 unfold eS;rw[pQ (fun j hj=>h.ok j (by have:=h.le;omega))]
theorem RunsOk_i (y:Yard) (r:Run) (es:List Entry) (hn:0<=y.now/\y.now<=999999980) (hwt:0<=r.plan.wait/\r.plan.wait<=20) (hl:es.length<=1048576):Ct1 prog 104 [.S y,.S r,.L es] [.B (eS y.now r es)]:=
 .one (eS y.now r es) (rk:=fun x=>[.B x])<|vc func104 (fun (hg:gin [Par.S y,Par.S r,Par.L es])=>let hrl:=hg.2.1.2.2.1
  .l (Γ:=Nat) (fun k=>RoJ y.now r es k) (fun k=>r.tasks.length-k) [2,3,4,13,14] [5,6] [0,1,2,3,4] (fun k=>[vI 15 k]) (fun _=>[]) 0 (h:=RoJ.start _ _ _) fun k hJ t=>
   .s ((k:Int)<r.tasks.length)
    (fun h=>.x r.tasks k (h:=by omega) fun u hu gu=>.l (Γ:=Nat×Nat) (fun g=>EnJ r es k g) (fun g=>es.length-g.1) [2,3,4,7,8,13,14,15,20,21] [5,6,8] [0,1,2,3,4] (fun g=>[vI 9 g.2,vI 22 g.1]) (fun _=>[]) (0,0) (h:=EnJ.start _ _ _) fun g hq t2=>let hb:=hq.bd
      let hle:=hq.le
      .s ((g.1:Int)<es.length)
       (fun h2=>.x es g.1 (h:=by omega) fun e he ge=>.s (e.run=r.id)
        (fun h3=>.s (e.task=(k:Int))
         (fun h4=>.s (u.state=2)
          (fun h5=>.u (e.prio=r.plan.prio)
           (fun h6=>.rt false ⟨hq.bad he h3 h4 hu h5 h6,trivial⟩)
           (fun h6=>.p (g.2:Int) 1 (h:=by unfold I64;omega)<|.p g.1 1<|.n t2 (g.1+1,g.2+1) [] (hq.take he h3 h4 hu (fun _=>h6)) (by dsimp only;omega)))
          (fun h5=>.p (g.2:Int) 1 (h:=by unfold I64;omega)<|.p g.1 1<|.n t2 (g.1+1,g.2+1) [] (hq.take he h3 h4 hu (fun z=>absurd z h5)) (by dsimp only;omega)))
         (fun h4=>.p g.1 1<|.n t2 (g.1+1,g.2) [] (hq.skip he (fun z=>h4 z.2)) (by dsimp only;omega)))
        (fun h3=>.p g.1 1<|.n t2 (g.1+1,g.2) [] (hq.skip he (fun z=>h3 z.1)) (by dsimp only;omega)))
       (fun h2=>.s (u.state=2)
        (fun h5=>.u ((g.2:Int)=1)
         (fun h6=>.rt false ⟨RoJ.cnt_bad hu hq h2 h5 h6,trivial⟩)
         (fun h6=>.kf (u.state=3) aA<|.p k 1<|.n t (k+1) [] (hJ.next hu hq h2 (fun _=>h6) (fun z=>by omega)) aA))
        (fun h5=>.s (u.state=3)
         (fun h6=>.p y.now 1<|.p y.now r.plan.wait<|.c func29 (bR u.until_ (y.now+1) (y.now+r.plan.wait)) fun _=>.v (inB u.until_ (y.now+1) (y.now+r.plan.wait))
          (fun h7=>.rt false ⟨RoJ.till_bad hu h6 h7,trivial⟩)
          (fun h7=>.p k 1<|.n t (k+1) [] (hJ.next hu hq h2 (fun z=>absurd z h5) (fun _=>h7)) aA))
         (fun h6=>.p k 1<|.n t (k+1) [] (hJ.next hu hq h2 (fun z=>absurd z h5) (fun z=>absurd z h6)) aA))))
    (fun h=>.rt true ⟨hJ.all h,trivial⟩)) aB
theorem RunsOk_s (y:Yard) (r:Run) (es:List Entry) (hn:0<=y.now/\y.now<=999999980) (hwt:0<=r.plan.wait/\r.plan.wait<=20) (hl:es.length<=1048576):Ct1 prog 121 [.S y,.S r,.L es] [.B (eS y.now r es)]:=
 .one (eS y.now r es) (rk:=fun x=>[.B x])<|vc func121 (fun (hg:gin [Par.S y,Par.S r,Par.L es])=>let hrl:=hg.2.1.2.2.1
  .l (Γ:=Nat) (fun k=>RoJ y.now r es k) (fun k=>r.tasks.length-k) [2,3,4] [5,6] [0,1,2,3,4] (fun k=>[vI 7 k]) (fun _=>[]) 0 (h:=RoJ.start _ _ _) fun k hJ t=>
   .s ((k:Int)<r.tasks.length)
    (fun h=>.ex (p:=fun u=>r.tasks[k]? = some u) ⟨_,getElem?_eq_getElem (show k<r.tasks.length by omega)⟩ fun u hu=>.l (Γ:=Nat×Nat) (fun g=>EnJ r es k g) (fun g=>es.length-g.1) [2,3,4,7] [5,6] [0,1,2,3,4] (fun g=>[vI 8 g.2,vI 9 g.1]) (fun _=>[]) (0,0) (h:=EnJ.start _ _ _) fun g hq t2=>let hb:=hq.bd
      let hle:=hq.le
      .s ((g.1:Int)<es.length)
       (fun h2=>.x es g.1 (h:=by omega) fun e he ge=>.s (e.run=r.id)
        (fun h3=>.y he fun _=>.s (e.task=(k:Int))
         (fun h4=>.p (g.2:Int) 1 (h:=by unfold I64;omega)<|.y hu fun _=>.s (u.state=2)
          (fun h5=>.y he fun _=>.u (e.prio=r.plan.prio)
           (fun h6=>.rt false ⟨hq.bad he h3 h4 hu h5 h6,trivial⟩)
           (fun h6=>.p g.1 1<|.n t2 (g.1+1,g.2+1) [] (hq.take he h3 h4 hu (fun _=>h6)) (by dsimp only;omega)))
          (fun h5=>.p g.1 1<|.n t2 (g.1+1,g.2+1) [] (hq.take he h3 h4 hu (fun z=>absurd z h5)) (by dsimp only;omega)))
         (fun h4=>.p g.1 1<|.n t2 (g.1+1,g.2) [] (hq.skip he (fun z=>h4 z.2)) (by dsimp only;omega)))
        (fun h3=>.p g.1 1<|.n t2 (g.1+1,g.2) [] (hq.skip he (fun z=>h3 z.1)) (by dsimp only;omega)))
       (fun h2=>.y hu fun _=>.s (u.state=2)
        (fun h5=>.u ((g.2:Int)=1)
         (fun h6=>.rt false ⟨RoJ.cnt_bad hu hq h2 h5 h6,trivial⟩)
         (fun h6=>.y hu fun _=>.kf (u.state=3) aA<|.p k 1<|.n t (k+1) [] (hJ.next hu hq h2 (fun _=>h6) (fun z=>by omega)) aA))
        (fun h5=>.y hu fun _=>.s (u.state=3)
         (fun h6=>.y hu fun _=>.p y.now 1<|.p y.now r.plan.wait<|.c func38 (InV u.until_ (y.now+1) (y.now+r.plan.wait)) fun _=>.v (inB u.until_ (y.now+1) (y.now+r.plan.wait))
          (fun h7=>.rt false ⟨RoJ.till_bad hu h6 h7,trivial⟩)
          (fun h7=>.p k 1<|.n t (k+1) [] (hJ.next hu hq h2 (fun z=>absurd z h5) (fun _=>h7)) aA))
         (fun h6=>.p k 1<|.n t (k+1) [] (hJ.next hu hq h2 (fun z=>absurd z h5) (fun z=>absurd z h6)) aA))))
    (fun h=>.rt true ⟨hJ.all h,trivial⟩)) aB
def Way (es:List Edge):Int->List Int->Prop
 | _,[]=>True
 | a,v::vs=>(⟨a,v⟩:Edge)∈es/\Way es v vs
def Rch (es:List Edge) (a b:Int):Prop:=∃vs,Way es a (vs++[b])
theorem Way.append {es:List Edge}:∀{vs ws:List Int}{a:Int},Way es a (vs++ws)↔Way es a vs/\Way es ((a::vs).getLast (by simp)) ws
 | [],ws,a=>by simp[Way]
 | v::vs,ws,a=>by
  simp only[cons_append,Way];rw[Way.append (vs:=vs)];simp[getLast_cons,and_assoc]
theorem aN4 (a:Int) (vs:List Int) (b:Int):(a::(vs++[b])).getLast (cons_ne_nil _ _)=b:=by
 rw[getLast_cons (by simp)];simp
theorem Rch.one {es:List Edge}{a b:Int}(h:(⟨a,b⟩:Edge)∈es):Rch es a b:=⟨[],h,trivial⟩
theorem Rch.cons {es:List Edge}{a b c:Int}(h:(⟨a,b⟩:Edge)∈es) (k:Rch es b c):Rch es a c:=by
 obtain⟨vs,hv⟩:=k;exact⟨b::vs,h,hv⟩
theorem Rch.cases {es:List Edge}{a c:Int}(h:Rch es a c):(⟨a,c⟩:Edge)∈es∨∃b,(⟨a,b⟩:Edge)∈es/\Rch es b c:=by
 obtain⟨vs,hv⟩:=h;cases vs with
 | nil=>exact .inl hv.1
 | cons b vs=>exact .inr ⟨b,hv.1,vs,hv.2⟩
theorem Rch.snoc {es:List Edge}{a b c:Int}(h:Rch es a b) (k:(⟨b,c⟩:Edge)∈es):Rch es a c:=by
 obtain⟨vs,hv⟩:=h;refine⟨vs++[b],?_⟩;rw[Way.append];refine⟨hv,?_⟩;rw[aN4];exact⟨k,trivial⟩

theorem pR:∀(n:Nat) (l:List Int),l.Nodup->(∀x∈l,0<=x/\x<n)->l.length<=n
 | 0,l,_,h=>by
  cases l with
  | nil=>simp
  | cons x l=>have:=h x (by simp);omega
 | n+1,l,hn,h=>by
  have h1:=pR n (l.erase (n:Int)) (hn.erase _) (fun x hx=>by
   have hm:=mem_of_mem_erase hx;have hne:x≠(n:Int):=fun e=>by
    subst e;exact absurd hx hn.not_mem_erase
   have:=h x hm;omega)
  have h2:l.length<=(l.erase (n:Int)).length+1:=by
   rw[length_erase];split<;>omega
  omega
theorem aM9:∀{l:List Int},¬l.Nodup->∃x l1 l2 l3,l=l1++x::l2++x::l3
 | [],h=>by simp at h
 | y::l,h=>by
  by_cases hm:y∈l
  ·obtain⟨l2,l3,rfl⟩:=append_of_mem hm;exact⟨y,[],l2,l3,rfl⟩
  ·have:¬l.Nodup:=fun hn=>h (nodup_cons.2 ⟨hm,hn⟩)
   obtain⟨x,l1,l2,l3,rfl⟩:=aM9 this;exact⟨x,y::l1,l2,l3,rfl⟩
theorem Way.mem {es:List Edge}:∀{vs:List Int}{a x:Int},Way es a vs->x∈vs->∃e∈es,e.to_=x
 | v::vs,a,x,h,hx=>by
  rcases mem_cons.1 hx with rfl | hx
  ·exact⟨_,h.1,rfl⟩
  ·exact Way.mem h.2 hx
theorem Rch.short {es:List Edge}{n:Nat}(hr:∀e∈es,0<=e.to_/\e.to_<n) {a b:Int}(h:Rch es a b):∃vs,Way es a (vs++[b])/\(vs++[b]).length<=n:=by
 obtain⟨vs,hv⟩:=h
 induction hk:vs.length using Nat.strongRecOn generalizing vs with
 | _ k ih=>
  subst hk;by_cases hn:(vs++[b]).Nodup
  ·exact⟨vs,hv,pR n _ hn (fun x hx=>by obtain⟨e,he,rfl⟩:=Way.mem hv hx;exact hr e he)⟩
  obtain⟨x,l1,l2,l3,hl⟩:=aM9 hn;have hv2:=hv;rw[hl,Way.append]at hv2;have hw:=hv2.1;rw[show l1++x::l2=l1++[x]++l2 by simp,Way.append]at hw;have hnew:Way es a (l1++[x]++l3):=by
   rw[Way.append];refine⟨hw.1,?_⟩;have h3:=hv2.2;rw[aN4];have e1:(a::(l1++x::l2)).getLast (cons_ne_nil _ _)=(a::(l1++x::l2)).getLast (cons_ne_nil _ _):=rfl;exact h3.2
  have hlast:∃ws,l1++[x]++l3=ws++[b]/\ws.length<vs.length:=by
   have hlen:=congrArg List.length hl;simp only[length_append,length_cons,length_nil]at hlen;by_cases h3:l3=[]
   ·subst h3;have e2:x=b:=by
     have:=(append_inj' hl rfl).2;simpa using this.symm
    subst e2;exact⟨l1,by simp,by omega⟩
   obtain⟨m,y,rfl⟩:∃m y,l3=m++[y]:=⟨l3.dropLast,l3.getLast h3,(dropLast_concat_getLast h3).symm⟩;have e2:y=b:=by
    have hl2:vs++[b]=(l1++x::l2++x::m)++[y]:=by rw[hl];simp
    have:=(append_inj' hl2 rfl).2;simpa using this.symm
   subst e2;refine⟨l1++[x]++m,by simp,?_⟩;simp at hlen ⊢;omega
  obtain⟨ws,he,hlt⟩:=hlast;rw[he]at hnew;exact ih ws.length hlt ws hnew rfl

def mG (m:List Nat) (a:Int) (b:Int):Bool:=(m.getD a.toNat 0).testBit b.toNat
def gP (m:List Nat) (e:Edge):List Nat:=m.set e.from_.toNat (m.getD e.from_.toNat 0 ||| (1 <<< e.to_.toNat ||| m.getD e.to_.toNat 0))
def gM (es:List Edge) (m:List Nat):List Nat:=es.foldl gP m
def dC (es:List Edge) (m:List Nat):Nat->List Nat
 | 0=>m
 | k+1=>gM es (dC es m k)
def EdgesIn (n:Nat) (es:List Edge):Prop:=∀e∈es,(0<=e.from_/\e.from_<n)/\(0<=e.to_/\e.to_<n)
theorem oC (m:List Nat) (e:Edge):(gP m e).length=m.length:=by simp[gP]
theorem wE:∀(es:List Edge) (m:List Nat),(gM es m).length=m.length
 | [],m=>rfl
 | e::es,m=>by show (gM es (gP m e)).length=_;rw[wE es,oC]
theorem kA (es:List Edge) (m:List Nat):∀k,(dC es m k).length=m.length
 | 0=>rfl
 | k+1=>by rw[dC,wE,kA es m k]
theorem oT {m:List Nat}{e:Edge}{a b:Int}(ha:0<=a/\a<m.length) (hb:0<=b) (he:0<=e.from_/\0<=e.to_):mG (gP m e) a b=(mG m a b || (decide (a=e.from_) && (decide (b=e.to_) || mG m e.to_ b))):=by
 unfold mG gP;by_cases h:a=e.from_
 ·subst h;have hl:e.from_.toNat<m.length:=by omega
  rw[getD_eq_getElem?_getD,getElem?_set_self hl];simp only[Option.getD_some,decide_true,Bool.true_and,Nat.testBit_or];congr 1;congr 1;rw[Nat.one_shiftLeft,Nat.testBit_two_pow];by_cases h2:b=e.to_
  ·subst h2;simp
  have:¬e.to_.toNat=b.toNat:=by omega
  simp[h2,this]
 have hne:¬e.from_.toNat=a.toNat:=by omega
 rw[getD_eq_getElem?_getD,getElem?_set_ne hne];simp[h,getD_eq_getElem?_getD]
theorem aC8 {n:Nat}:∀{es:List Edge}{m:List Nat}{a b:Int},EdgesIn n es->m.length=n->(0<=a/\a<n)->0<=b->mG m a b=true->mG (gM es m) a b=true
 | [],m,a,b,_,_,_,_,h=>h
 | e::es,m,a,b,hi,hl,ha,hb,h=>by
  refine aC8 (es:=es) (m:=gP m e) (fun x hx=>hi x (by simp[hx])) (by rw[oC,hl]) ha hb ?_;have:=hi e (by simp);rw[oT aA hb aA,h];rfl
theorem sS {n:Nat}:∀{es:List Edge}{m:List Nat}{e:Edge}{b:Int},EdgesIn n es->m.length=n->e∈es->0<=b->(b=e.to_∨mG m e.to_ b=true)->mG (gM es m) e.from_ b=true
 | e0::es,m,e,b,hi,hl,he,hb,h=>by
  have h0:=hi e0 (by simp);have hlen:(gP m e0).length=n:=by rw[oC,hl]
  have hi':EdgesIn n es:=fun x hx=>hi x (by simp[hx])
  rcases mem_cons.1 he with rfl | he
  ·refine aC8 (es:=es) hi' hlen h0.1 hb ?_;rw[oT aA hb aA];rcases h with h | h
   ·simp[h]
   simp[h]
  refine sS (es:=es) (m:=gP m e0) hi' hlen he hb ?_;rcases h with h | h
  ·exact .inl h
  refine .inr ?_;have h1:=hi e (by simp[he]);rw[oT aA hb aA,h];rfl
theorem yA {n:Nat}{all:List Edge}:∀{es:List Edge}{m:List Nat},EdgesIn n es->m.length=n->(∀e∈es,e∈all)->(∀a b:Int,0<=a->a<n->0<=b->mG m a b=true->Rch all a b)->∀a b:Int,0<=a->a<n->0<=b->mG (gM es m) a b=true->Rch all a b
 | [],m,_,_,_,h=>h
 | e::es,m,hi,hl,hs,h=>by
  refine yA (es:=es) (m:=gP m e) (fun x hx=>hi x (by simp[hx])) (by rw[oC,hl]) (fun x hx=>hs x (by simp[hx])) ?_;intro a b ha ha2 hb hbit;have h0:=hi e (by simp);rw[oT aA hb aA]at hbit;simp only[Bool.or_eq_true,Bool.and_eq_true,decide_eq_true_eq]at hbit;rcases hbit with hbit | ⟨rfl,hbit⟩
  ·exact h a b ha ha2 hb hbit
  ·have hem:(⟨e.from_,e.to_⟩:Edge)∈all:=hs e (by simp);rcases hbit with rfl | hbit
   ·exact .one hem
   ·exact .cons hem (h e.to_ b h0.2.1 h0.2.2 hb hbit)
theorem aD0 {n:Nat}{es:List Edge}{m:List Nat}(hi:EdgesIn n es) (hl:m.length=n):∀(k:Nat) {a b:Int}{vs:List Int},Way es a (vs++[b])->(vs++[b]).length<=k->mG (dC es m k) a b=true
 | 0,a,b,vs,_,h=>by simp at h
 | k+1,a,b,[],hw,h=>by
  rw[dC];have hb:=hi _ hw.1;exact sS (e:=⟨a,b⟩) hi (by rw[kA,hl]) hw.1 hb.2.1 (.inl rfl)
 | k+1,a,b,v::vs,hw,h=>by
  rw[dC];have h1:=aD0 hi hl k (vs:=vs) hw.2 (by simpa using h);have hb:0<=b:=by
   have:b∈vs++[b]:=by simp
   obtain⟨e,he,rfl⟩:=Way.mem hw.2 this;exact(hi e he).2.1
  exact sS (e:=⟨a,v⟩) hi (by rw[kA,hl]) hw.1 hb (.inr h1)
theorem waits_iff {n:Nat}{es:List Edge}(hi:EdgesIn n es) {a b:Int}(ha:0<=a/\a<n) (hb:0<=b):mG (dC es (List.replicate n 0) n) a b=true↔Rch es a b:=by
 constructor
 ·have key:∀k,∀a b:Int,0<=a->a<n->0<=b->mG (dC es (List.replicate n 0) k) a b=true->Rch es a b:=by
   intro k
   induction k with
   | zero=>
    intro a b _ _ _ h;simp only[dC,mG,getD_eq_getElem?_getD,getElem?_replicate]at h;split at h<;>simp at h
   | succ k ih=>exact yA hi (by rw[kA];simp) (fun e he=>he) ih
  exact key n a b ha.1 ha.2 hb
 intro h;obtain⟨vs,hv,hlen⟩:=h.short (n:=n) (fun e he=>(hi e he).2);exact aD0 hi (by simp) n hv hlen
structure BInv (es:List Edge) (n:Nat) (t:Int) (q:List Int) (out:List Bool) (h i:Nat):Prop where
 head:q[0]? = some t
 len:out.length=n
 mark:∀x:Int,0<=x->x<n->(out.getD x.toNat false=true↔x∈q.tail)
 nodup:q.tail.Nodup
 sound:∀x∈q.tail,Rch es t x
 range:∀x∈q.tail,0<=x/\x<n
 done:∀(k:Nat) (x:Int),k<h->q[k]? = some x->∀e∈es,e.from_=x->e.to_∈q.tail
 part:∀x:Int,q[h]? = some x->∀e∈es.take i,e.from_=x->e.to_∈q.tail
section
variable {es:List Edge}{n:Nat}{t:Int}{q:List Int}{out:List Bool}{h i:Nat}
theorem BInv.start:BInv es n t [t] (List.replicate n false) 0 0:=
 ⟨rfl,by simp,fun x _ _=>by
  simp only[getD_eq_getElem?_getD,getElem?_replicate,tail_cons,not_mem_nil,iff_false];split<;>simp,by simp,by simp,by simp,fun k x hk=>absurd hk (Nat.not_lt_zero k),by simp⟩
theorem BInv.len_le (b:BInv es n t q out h i):q.length<=n+1:=by
 have:=pR n q.tail b.nodup b.range;rw[length_tail]at this;omega
theorem mem_of_tail {q:List Int}{x:Int}(h:x∈q.tail):x∈q:=mem_of_mem_tail h
theorem BInv.at (b:BInv es n t q out h i) {k:Nat}{x:Int}(hk:q[k]? = some x):x=t∨x∈q.tail:=by
 cases k with
 | zero=>rw[b.head]at hk;exact .inl (Option.some.inj hk).symm
 | succ k=>exact .inr (mem_of_getElem? (by rw[getElem?_tail];exact hk))
theorem BInv.skip (b:BInv es n t q out h i) (hin:EdgesIn n es) {e:Edge}(hi:es[i]? = some e) {x:Int}(hx:q[h]? = some x) (hne:¬(e.from_=x/\out.getD e.to_.toNat false=false)):BInv es n t q out h (i+1):=by
 refine⟨b.head,b.len,b.mark,b.nodup,b.sound,b.range,b.done,?_⟩;intro y hy e' he' hf;rw[hx]at hy;obtain rfl:=Option.some.inj hy;obtain⟨hil,rfl⟩:=gsi_.1 hi;rw[take_succ_eq_append_getElem hil]at he';rcases mem_append.1 he' with h1 | h1
 ·exact b.part x hx e' h1 hf
 simp at h1;subst h1;have hr:=hin es[i] (getElem_mem hil);refine(b.mark es[i].to_ hr.2.1 hr.2.2).1 ?_;cases ho:out.getD es[i].to_.toNat false with
 | true=>rfl
 | false=>exact absurd ⟨hf,ho⟩ hne
theorem BInv.add (b:BInv es n t q out h i) (hin:EdgesIn n es) {e:Edge}(hi:es[i]? = some e) {x:Int}(hx:q[h]? = some x) (hf:e.from_=x) (ho:out.getD e.to_.toNat false=false):BInv es n t (q++[e.to_]) (out.set e.to_.toNat true) h (i+1):=by
 obtain⟨hil,rfl⟩:=gsi_.1 hi;have hem:es[i]∈es:=getElem_mem hil;have hr:=hin es[i] hem;have hq0:q≠[]:=fun e=>by have:=b.head;rw[e]at this;simp at this
 have htail:(q++[es[i].to_]).tail=q.tail++[es[i].to_]:=by
  cases q with
  | nil=>exact absurd rfl hq0
  | cons a q=>rfl
 have hnot:es[i].to_∉q.tail:=fun hm=>by rw[(b.mark _ hr.2.1 hr.2.2).2 hm]at ho;cases ho
 have hsound:Rch es t es[i].to_:=by
  have hxe:(⟨x,es[i].to_⟩:Edge)∈es:=by rw[<- hf];exact hem
  rcases b.at hx with h1 | h1
  ·rw[<- h1];exact .one hxe
  exact(b.sound x h1).snoc hxe
 refine⟨?_,by rw[length_set];exact b.len,?_,?_,?_,?_,?_,?_⟩
 ·rw[getElem?_append_left (length_pos_iff.2 hq0)];exact b.head
 ·intro y h0 h1;rw[htail,mem_append,mem_singleton];by_cases hy:y=es[i].to_
  ·subst hy;rw[getD_eq_getElem?_getD,getElem?_set_self (by rw[b.len];omega)];simp
  have hne:¬es[i].to_.toNat=y.toNat:=by omega
  rw[getD_eq_getElem?_getD,getElem?_set_ne hne,<- getD_eq_getElem?_getD,b.mark y h0 h1];simp[hy]
 ·rw[htail,nodup_append];exact⟨b.nodup,by simp,fun a ha c hc e=>by simp at hc;subst hc e;exact hnot ha⟩
 ·intro y hy;rw[htail]at hy;rcases mem_append.1 hy with hy | hy
  ·exact b.sound y hy
  simp at hy;subst hy;exact hsound
 ·intro y hy;rw[htail]at hy;rcases mem_append.1 hy with hy | hy
  ·exact b.range y hy
  simp at hy;subst hy;exact hr.2
 ·intro k y hk hy e' he' hf';have hkq:k<q.length:=by
   have:=(gsi_.1 hx).1;omega
  rw[getElem?_append_left hkq]at hy;rw[htail];exact mem_append_left _ (b.done k y hk hy e' he' hf')
 intro y hy e' he' hf';have hhq:=(gsi_.1 hx).1;rw[getElem?_append_left hhq,hx]at hy;obtain rfl:=Option.some.inj hy;rw[htail];rw[take_succ_eq_append_getElem hil]at he';rcases mem_append.1 he' with h1 | h1
 ·exact mem_append_left _ (b.part x hx e' h1 hf')
 simp at h1;subst h1;simp
theorem BInv.next (b:BInv es n t q out h i) (hi:i=es.length):BInv es n t q out (h+1) 0:=by
 subst hi;refine⟨b.head,b.len,b.mark,b.nodup,b.sound,b.range,?_,by simp⟩;intro k x hk hx e he hf;by_cases hkh:k=h
 ·subst hkh;exact b.part x hx e (by rw[take_length];exact he) hf
 exact b.done k x aA hx e he hf
theorem BInv.fin (b:BInv es n t q out h i) (hh:h=q.length) {x:Int}(h0:0<=x) (h1:x<n):out.getD x.toNat false=true↔Rch es t x:=by
 rw[b.mark x h0 h1];constructor
 ·exact b.sound x
 rintro⟨vs,hv⟩;have key:∀(vs:List Int) (a:Int),Way es a (vs++[x])->a∈q->x∈q.tail:=by
  intro vs
  induction vs with
  | nil=>
   intro a hw ha;obtain⟨k,hk⟩:=mem_iff_getElem?.1 ha;exact b.done k a (by have:=(gsi_.1 hk).1;omega) hk ⟨a,x⟩ hw.1 rfl
  | cons v vs ih=>
   intro a hw ha;obtain⟨k,hk⟩:=mem_iff_getElem?.1 ha;have:=b.done k a (by have:=(gsi_.1 hk).1;omega) hk ⟨a,v⟩ hw.1 rfl;exact ih v hw.2 (mem_of_tail this)
 exact key vs t hv (mem_of_getElem? b.head)
end
noncomputable def oJ (es:List Edge) (n:Nat) (t:Int):List Bool:=(List.range n).map (fun x:Nat=>pB (Rch es t (x:Int)))
theorem BInv.all {es:List Edge}{n:Nat}{t:Int}{q:List Int}{out:List Bool}{h i:Nat}(b:BInv es n t q out h i) (hh:h=q.length):out=oJ es n t:=by
 apply ext_getElem?;intro j;unfold oJ;by_cases hj:j<n
 ·have hl:j<out.length:=by rw[b.len];exact hj
  have hf:=b.fin hh (x:=(j:Int)) aA aA;rw[Int.toNat_natCast,getD_eq_getElem?_getD,getElem?_eq_getElem hl]at hf;simp only[Option.getD_some]at hf;rw[getElem?_eq_getElem hl,getElem?_map,getElem?_range hj];simp only[Option.map_some];congr 1;rw[Bool.eq_iff_iff,hf,pB_iff]
 rw[getElem?_eq_none (by rw[b.len];omega),getElem?_eq_none (by simp;omega)]
def aN (p:Plan):Prop:=¬(1<=p.tasks/\p.tasks<=12)∨30<p.edges.length∨¬(0<=p.prio/\p.prio<=9)∨¬(1<=p.most/\p.most<=5)∨¬(1<=p.wait/\p.wait<=20)
def uM (p:Plan):Prop:=∃t:Nat,t<p.tasks.toNat/\Rch p.edges (t:Int) (t:Int)
open Classical in
noncomputable def aC (p:Plan):Int:=
 if aN p then 1 else if ¬EdgesIn p.tasks.toNat p.edges then 2 else if ¬p.edges.Nodup then 3 else if uM p then 4 else 0
theorem pf1 {p:Plan}(h:aN p):aC p=1:=by unfold aC;rw[if_pos h]
theorem pf2 {p:Plan}(h:¬aN p) (h2:¬EdgesIn p.tasks.toNat p.edges):aC p=2:=by unfold aC;rw[if_neg h,if_pos h2]
theorem pf3 {p:Plan}(h:¬aN p) (h2:EdgesIn p.tasks.toNat p.edges) (h3:¬p.edges.Nodup):aC p=3:=by unfold aC;rw[if_neg h,if_neg (not_not_intro h2),if_pos h3]
theorem pf4 {p:Plan}(h:¬aN p) (h2:EdgesIn p.tasks.toNat p.edges) (h3:p.edges.Nodup) (h4:uM p):aC p=4:=by unfold aC;rw[if_neg h,if_neg (not_not_intro h2),if_neg (not_not_intro h3),if_pos h4]
theorem pf0 {p:Plan}(h:¬aN p) (h2:EdgesIn p.tasks.toNat p.edges) (h3:p.edges.Nodup) (h4:¬uM p):aC p=0:=by unfold aC;rw[if_neg h,if_neg (not_not_intro h2),if_neg (not_not_intro h3),if_neg h4]
theorem pf_cases (p:Plan):aC p=0∨aC p=1∨aC p=2∨aC p=3∨aC p=4:=by
 unfold aC;split
 ·simp
 split
 ·simp
 split
 ·simp
 split<;>simp
theorem pf_rng (p:Plan):0<=aC p/\aC p<=4:=by
 rcases pf_cases p with h | h | h | h | h<;>omega
theorem gV {p:Plan}(h:aC p=0):¬aN p/\EdgesIn p.tasks.toNat p.edges/\p.edges.Nodup/\¬uM p:=by
 by_cases h1:aN p
 ·rw[pf1 h1]at h;omega
 by_cases h2:EdgesIn p.tasks.toNat p.edges
 ·by_cases h3:p.edges.Nodup
  ·by_cases h4:uM p
   ·rw[pf4 h1 h2 h3 h4]at h;omega
   exact⟨h1,h2,h3,h4⟩
  rw[pf3 h1 h2 h3]at h;omega
 rw[pf2 h1 h2]at h;omega
theorem EdgesIn.nil {n:Nat}:EdgesIn n []:=fun e h=>by cases h
theorem EdgesIn.step {n:Nat}{es:List Edge}{k:Nat}(h:EdgesIn n (es.take k)) (hk:k<es.length) (h1:(0<=es[k].from_/\es[k].from_<n)/\(0<=es[k].to_/\es[k].to_<n)):EdgesIn n (es.take (k+1)):=by
 intro e he;rw[take_succ_eq_append_getElem hk]at he;rcases mem_append.1 he with he | he
 ·exact h e he
 simp at he;subst he;exact h1
theorem EdgesIn.at {n:Nat}{es:List Edge}(h:EdgesIn n es) {k:Nat}(hk:k<es.length):(0<=es[k].from_/\es[k].from_<n)/\(0<=es[k].to_/\es[k].to_<n):=h _ (getElem_mem hk)
theorem nodup_step {α:Type}{xs:List α}{k:Nat}(h:(xs.take k).Nodup) (hk:k<xs.length) (hn:xs[k]∉xs.take k):(xs.take (k+1)).Nodup:=by
 rw[take_succ_eq_append_getElem hk,nodup_append];exact⟨h,by simp,fun a ha b hb=>by simp at hb;subst hb;exact fun e=>hn (e▸ha)⟩
theorem not_nodup_at {α:Type}{xs:List α}{k:Nat}(hk:k<xs.length) (hm:xs[k]∈xs.take k):¬xs.Nodup:=by
 intro h;have h2:(xs.take (k+1)).Nodup:=h.sublist (take_sublist _ _);rw[take_succ_eq_append_getElem hk,nodup_append]at h2;exact h2.2.2 _ hm _ (by simp) rfl
theorem not_mem_take_step {α:Type}{xs:List α}{y:α}{k:Nat}(hk:k<xs.length) (h:y∉xs.take k) (hn:¬y=xs[k]):y∉xs.take (k+1):=by
 rw[take_succ_eq_append_getElem hk,mem_append];rintro(h1 | h1)
 ·exact h h1
 simp at h1;exact hn h1
theorem yD {α:Type}{xs:List α}{i k:Nat}(hi:i<xs.length) (h:i<k):xs[i]∈xs.take k:=by
 rw[mem_take_iff_getElem];exact⟨i,by omega,rfl⟩
theorem relax_snoc (es:List Edge) (m:List Nat) (k:Nat) (hk:k<es.length):gM (es.take (k+1)) m=gP (gM (es.take k) m) es[k]:=by
 unfold gM;rw[take_succ_eq_append_getElem hk,foldl_append];rfl
theorem relax1_bd {m:List Nat}{e:Edge}(h:∀x∈m,x<4294967296) (he:0<=e.to_/\e.to_<32):∀x∈gP m e,x<4294967296:=by
 intro x hx;unfold gP at hx;rcases mem_or_eq_of_mem_set hx with hx | rfl
 ·exact h x hx
 have hd:∀i,m.getD i 0<2 ^ 32:=by
  intro i;rw[getD_eq_getElem?_getD];cases hi:m[i]? with
  | none=>simp
  | some y=>simpa using h y (mem_of_getElem? hi)
 have h1:1 <<< e.to_.toNat<2 ^ 32:=by
  rw[Nat.one_shiftLeft];exact Nat.pow_lt_pow_right aA aA
 exact Nat.or_lt_two_pow (hd _) (Nat.or_lt_two_pow h1 (hd _))
theorem aC9 {n:Nat}(hn:n<=32):∀{es:List Edge}{m:List Nat},EdgesIn n es->(∀x∈m,x<4294967296)->∀x∈gM es m,x<4294967296
 | [],m,_,h=>h
 | e::es,m,hi,h=>by
  refine aC9 hn (es:=es) (m:=gP m e) (fun x hx=>hi x (by simp[hx])) (relax1_bd h ?_);have:=hi e (by simp);omega
theorem aM5 {n:Nat}(hn:n<=32) {es:List Edge}(hi:EdgesIn n es) (k:Nat):∀x∈dC es (List.replicate n 0) k,x<4294967296:=by
 induction k with
 | zero=>intro x hx;simp[dC,mem_replicate]at hx;omega
 | succ k ih=>exact aC9 hn hi ih
theorem castL_relax1 {m:List Nat}{e:Edge}(hf:0<=e.from_) (h1:e.from_.toNat<(dL m).length) (h2:e.to_.toNat<(dL m).length) :
  (dL m).set e.from_.toNat (orI ((dL m)[e.from_.toNat]'h1) (orI (aS5 e.to_) ((dL m)[e.to_.toNat]'h2)))=dL (gP m e):=by
 unfold gP;rw[<- castL_set];congr 1;unfold orI aS5;rw[aH8 h1];simp only[Int.toNat_natCast];rw[aH8 h2]
theorem waits_bit {n:Nat}{es:List Edge}(hi:EdgesIn n es) {t:Nat}(ht:t<n) (h:t<(dL (dC es (List.replicate n 0) n)).length):bJ1 (aB5 ((dL (dC es (List.replicate n 0) n))[t]'h) (t:Int)) 1=1↔Rch es (t:Int) (t:Int):=by
 rw[andI_one,aH8 h];have hw:=waits_iff hi (a:=(t:Int)) (b:=(t:Int)) aA aA;unfold mG at hw;rw[<- hw,Int.toNat_natCast];split<;>simp_all
def lB (l:List Int):List Int:=l.mergeSort (fun x y=>decide (x<=y))
theorem fL (l:List Int):(lB l).Perm l:=mergeSort_perm l _
theorem sortI_le (l:List Int):(lB l).Pairwise (fun x y=>x<=y):=by
 have h:=pairwise_mergeSort (le:=fun x y:Int=>decide (x<=y)) (fun a b c h1 h2=>by simp only[decide_eq_true_eq]at *;omega) (fun a b=>by simp only[Bool.or_eq_true,decide_eq_true_eq];omega) l;exact h.imp (fun h=>by simpa using h)
theorem qS (l:List Int):(lB l).length=l.length:=(fL l).length_eq
theorem sortI_eq {l l':List Int}(hp:l.Perm l') (hs:l.Pairwise (fun x y=>x<=y)):l=lB l':=
 List.Perm.eq_of_pairwise (le:=fun x y=>x<=y) (fun a b _ _ h1 h2=>by omega) hs (sortI_le l') (hp.trans (fL l').symm)
def bW (l:List Int) (n:Nat):List Int:=(List.range n).flatMap (fun t:Nat=>l.filter (fun x=>decide (x=(t:Int))))
theorem filter_or {α:Type}(p q r:α->Bool) (l:List α) (h:∀x,r x=(p x || q x)) (hd:∀x,p x=true->q x=true->False):(l.filter p++l.filter q).Perm (l.filter r):=by
 induction l with
 | nil=>simp
 | cons x l ih=>
  cases hp:p x with
  | true=>
   have hq:q x=false:=by cases hq:q x with | true=>exact(hd x hp hq).elim | false=>rfl
   have hr:r x=true:=by rw[h,hp];rfl
   simp only[filter_cons,hp,hq,hr,if_true,Bool.false_eq_true,if_false,cons_append];exact List.Perm.cons _ ih
  | false=>
   cases hq:q x with
   | true=>
    have hr:r x=true:=by rw[h,hp,hq];rfl
    simp only[filter_cons,hp,hq,hr,if_true,Bool.false_eq_true,if_false];exact(perm_middle).trans (List.Perm.cons _ ih)
   | false=>
    have hr:r x=false:=by rw[h,hp,hq];rfl
    simp only[filter_cons,hp,hq,hr,Bool.false_eq_true,if_false];exact ih
theorem qH (l:List Int):∀n:Nat,(bW l n).Perm (l.filter (fun x=>decide (0<=x) && decide (x<(n:Int))))
 | 0=>by
  have:l.filter (fun x=>decide (0<=x) && decide (x<((0:Nat):Int)))=[]:=by
   rw[filter_eq_nil_iff];intro x _;simp
  rw[this];exact List.Perm.refl _
 | n+1=>by
  have ih:=qH l n;have hb:bW l (n+1)=bW l n++l.filter (fun x=>decide (x=(n:Int))):=by simp[bW,range_succ,flatMap_append]
  rw[hb];refine(ih.append_right _).trans (filter_or _ _ _ l (fun x=>?_) (fun x h1 h2=>?_))
  ·rw[Bool.eq_iff_iff];simp;omega
  simp at h1 h2;omega
theorem aP9 (l:List Int):∀n:Nat,(bW l n).Pairwise (fun x y=>x<=y)/\∀x∈bW l n,x<(n:Int)
 | 0=>by simp[bW]
 | n+1=>by
  have ih:=aP9 l n;have hb:bW l (n+1)=bW l n++l.filter (fun x=>decide (x=(n:Int))):=by simp[bW,range_succ,flatMap_append]
  rw[hb];have hf:∀x∈l.filter (fun x=>decide (x=(n:Int))),x=(n:Int):=fun x hx=>by simpa using (mem_filter.1 hx).2
  refine⟨?_,?_⟩
  ·rw[pairwise_append];refine⟨ih.1,?_,?_⟩
   ·rw[pairwise_iff_forall_sublist];intro a b hs;have h1:=hf a (hs.subset (by simp));have h2:=hf b (hs.subset (by simp));omega
   intro a ha b hb;have h1:=ih.2 a ha;have h2:=hf b hb;omega
  intro x hx;rcases mem_append.1 hx with h | h
  ·have:=ih.2 x h;omega
  have:=hf x h;omega
theorem aQ0 {l:List Int}{n:Nat}(h:∀x∈l,0<=x/\x<(n:Int)):bW l n=lB l:=by
 refine sortI_eq ?_ (aP9 l n).1;have hp:=qH l n
 rwa [filter_eq_self.2 (fun x hx=>by have:=h x hx;simp;omega)]at hp
def cK (es:List Edge) (task:Int):List Int:=(es.filter (fun e=>decide (e.to_=task))).map (·.from_)
def tos (es:List Edge) (task:Int):List Int:=(es.filter (fun e=>decide (e.from_=task))).map (·.to_)
noncomputable def aJ (p:Plan) (task:Int):List Int:=if aC p=0 then lB (cK p.edges task) else []
noncomputable def aO (p:Plan) (task:Int):List Int:=if aC p=0 then lB (tos p.edges task) else []
theorem rA (es:List Edge) (task:Int):(cK es task).length<=es.length:=by
 unfold cK;rw[length_map];exact length_filter_le _ _
theorem yX (es:List Edge) (task:Int):(tos es task).length<=es.length:=by
 unfold tos;rw[length_map];exact length_filter_le _ _
theorem uU {es:List Edge}{task:Int}{k:Nat}(hk:k<es.length) (h:es[k].to_=task):cK (es.take (k+1)) task=cK (es.take k) task++[es[k].from_]:=by
 rw[take_succ_eq_append_getElem hk,cK,filter_append,map_append];simp[cK,h]
theorem froms_step_f {es:List Edge}{task:Int}{k:Nat}(hk:k<es.length) (h:¬es[k].to_=task):cK (es.take (k+1)) task=cK (es.take k) task:=by
 rw[take_succ_eq_append_getElem hk,cK,filter_append,map_append];simp[cK,h]
theorem aA2 {es:List Edge}{task:Int}{k:Nat}(hk:k<es.length) (h:es[k].from_=task):tos (es.take (k+1)) task=tos (es.take k) task++[es[k].to_]:=by
 rw[take_succ_eq_append_getElem hk,tos,filter_append,map_append];simp[tos,h]
theorem tos_step_f {es:List Edge}{task:Int}{k:Nat}(hk:k<es.length) (h:¬es[k].from_=task):tos (es.take (k+1)) task=tos (es.take k) task:=by
 rw[take_succ_eq_append_getElem hk,tos,filter_append,map_append];simp[tos,h]
theorem aO1 {n:Nat}{es:List Edge}(hi:EdgesIn n es) (task:Int):∀x∈cK es task,0<=x/\x<(n:Int):=by
 intro x hx;simp only[cK,mem_map,mem_filter]at hx;obtain⟨e,⟨he,_⟩,rfl⟩:=hx;exact(hi e he).1
theorem bK0 {n:Nat}{es:List Edge}(hi:EdgesIn n es) (task:Int):∀x∈tos es task,0<=x/\x<(n:Int):=by
 intro x hx;simp only[tos,mem_map,mem_filter]at hx;obtain⟨e,⟨he,_⟩,rfl⟩:=hx;exact(hi e he).2
def jH (es:List Edge) (task:Int) (t:Int):List Int:=(cK es task).filter (fun x=>decide (x=t))
def jG (es:List Edge) (task:Int) (t:Int):List Int:=(tos es task).filter (fun x=>decide (x=t))
theorem mP (l:List Int) (n:Nat):bW l (n+1)=bW l n++l.filter (fun x=>decide (x=(n:Int))):=by simp[bW,range_succ,flatMap_append]
theorem sJ (l:List Int) (n:Nat):(bW l n).length<=l.length:=by
 rw[(qH l n).length_eq];exact length_filter_le _ _
theorem onesF_step_t {es:List Edge}{task t:Int}{k:Nat}(hk:k<es.length) (h:es[k].from_=t/\es[k].to_=task):jH (es.take (k+1)) task t=jH (es.take k) task t++[t]:=by
 unfold jH;rw[uU hk h.2];simp[filter_append,h.1]
theorem onesF_step_f {es:List Edge}{task t:Int}{k:Nat}(hk:k<es.length) (h:¬(es[k].from_=t/\es[k].to_=task)):jH (es.take (k+1)) task t=jH (es.take k) task t:=by
 unfold jH;by_cases h2:es[k].to_=task
 ·rw[uU hk h2];have:¬es[k].from_=t:=fun e=>h ⟨e,h2⟩
  simp[filter_append,this]
 rw[froms_step_f hk h2]
theorem onesT_step_t {es:List Edge}{task t:Int}{k:Nat}(hk:k<es.length) (h:es[k].from_=task/\es[k].to_=t):jG (es.take (k+1)) task t=jG (es.take k) task t++[t]:=by
 unfold jG;rw[aA2 hk h.1];simp[filter_append,h.2]
theorem onesT_step_f {es:List Edge}{task t:Int}{k:Nat}(hk:k<es.length) (h:¬(es[k].from_=task/\es[k].to_=t)):jG (es.take (k+1)) task t=jG (es.take k) task t:=by
 unfold jG;by_cases h2:es[k].from_=task
 ·rw[aA2 hk h2];have:¬es[k].to_=t:=fun e=>h ⟨h2,e⟩
  simp[filter_append,this]
 rw[tos_step_f hk h2]
theorem onesF_len (es:List Edge) (task t:Int) (k n:Nat):(bW (cK es task) n++jH (es.take k) task (n:Int)).length<=es.length:=by
 have h1:=sJ (cK es task) (n+1);rw[mP,length_append]at h1;have h2:(jH (es.take k) task (n:Int)).length<=(jH es task (n:Int)).length:=by
  unfold jH cK;exact List.Sublist.length_le (List.Sublist.filter _ (List.Sublist.map _ (List.Sublist.filter _ (take_sublist k es))))
 have h3:=rA es task;rw[length_append];unfold jH at h2 ⊢;omega
theorem onesT_len (es:List Edge) (task t:Int) (k n:Nat):(bW (tos es task) n++jG (es.take k) task (n:Int)).length<=es.length:=by
 have h1:=sJ (tos es task) (n+1);rw[mP,length_append]at h1;have h2:(jG (es.take k) task (n:Int)).length<=(jG es task (n:Int)).length:=by
  unfold jG tos;exact List.Sublist.length_le (List.Sublist.filter _ (List.Sublist.map _ (List.Sublist.filter _ (take_sublist k es))))
 have h3:=yX es task;rw[length_append];unfold jG at h2 ⊢;omega
theorem aI3 (p:Plan) (task:Int):∀x∈aJ p task,0<=x/\x<p.tasks:=by
 intro x hx;unfold aJ at hx;split at hx
 ·rename_i h;obtain⟨h1,h2,_⟩:=gV h;have:=aO1 h2 task x ((fL _).mem_iff.1 hx);unfold aN at h1;omega
 cases hx
theorem aI0 (p:Plan) (task:Int):∀x∈aO p task,0<=x/\x<p.tasks:=by
 intro x hx;unfold aO at hx;split at hx
 ·rename_i h;obtain⟨h1,h2,_⟩:=gV h;have:=bK0 h2 task x ((fL _).mem_iff.1 hx);unfold aN at h1;omega
 cases hx
theorem kC (p:Plan) (task:Int):(aJ p task).length<=30:=by
 unfold aJ;split
 ·rename_i h;obtain⟨h1,_⟩:=gV h;rw[qS];have:=rA p.edges task;unfold aN at h1;omega
 simp
theorem tK (p:Plan) (task:Int):(aO p task).length<=30:=by
 unfold aO;split
 ·rename_i h;obtain⟨h1,_⟩:=gV h;rw[qS];have:=yX p.edges task;unfold aN at h1;omega
 simp
theorem I64_rng {a:Int}(h:0<=a/\a<4294967296):I64 a:=by unfold I64;omega
section
variable {es:List Edge}{n:Nat}{t:Int}{q:List Int}{out:List Bool}{h i:Nat}
end
theorem pM {p:Plan}(h:¬aN p):(1<=p.tasks/\p.tasks<=12)/\p.edges.length<=30:=by unfold aN at h;omega

theorem WaitsI (w:World) {p:Plan}{cs:List Value}{fp:List Nat}(hc:Shape.C w cs p fp) (hn:1<=p.tasks/\p.tasks<=12) (hl:p.edges.length<=30) (hi:EdgesIn p.tasks.toNat p.edges) :
  Calls prog 187 #[.agg cs.toArray] w (rS_ (dL (dC p.edges (List.replicate p.tasks.toNat 0) p.tasks.toNat)) w):=by
 refine enter1 func187 rfl ntmps187 eZ (wp_seq (aS (sg (xQ (cs:=cs) rfl (St.start w) ?_))));intro b1 W2 hb3 st4;refine sg (cC (v := .slice none 0 0) rfl (bO (wp_seq (aS ?_))));have hk9:=hc;obtain⟨v9_0,g9_0,rfl,hok9,h9_0,rfl⟩:=hk9;refine sg (eV fa_Plan_3 rfl (sg (iJ wL rfl rfl (st4.get 0 rfl) (i:=3) rfl rfl ?_)));have hNI:I p.tasks=I ((p.tasks.toNat:Nat):Int):=congrArg I (Int.toNat_of_nonneg aA).symm;refine sg (stp_makeZ (α:=Int) (N:=p.tasks.toNat) (v:=I 0) (z:=0) ap_IntS aB ((show _=I p.tasks from rfl).trans hNI) ((show _=I p.tasks from rfl).trans hNI) aA aA st4 (fun W=>⟨rfl,rfl,by unfold I64;omega⟩) ?_);intro b11 fp15 W12 hb13 st14;refine sg (cC (v:=(.slice (some ⟨b11,0,none⟩) p.tasks.toNat p.tasks.toNat)) rfl (bO (wp_seq (wp_seq (aS (rn st14 3 (Ag.up (t:=7) (v:=I (p.tasks.toNat:Int)) ((show _=I p.tasks from rfl).trans hNI) Ag.nil.put.put.put.put.put.put.put) [] [(10,I p.tasks),(11,I 0)] [qb 1 rfl 3] aB fun f20 h20_=>(bO (wp_block (yZ (fun (m:Nat) (f:Nat->Value) (W:World)=>∃(k:Nat) (fo21:List Nat),k<=p.tasks.toNat/\m=p.tasks.toNat-k/\Ag [(1,pt_ b1),(3,(.slice (some ⟨b11,0,none⟩) p.tasks.toNat p.tasks.toNat)),(10,I p.tasks),(11,I (k:Int))] f/\St w W ([Res.own (α:=List Int) (.slice (some ⟨b11,0,none⟩) p.tasks.toNat p.tasks.toNat) (dL (dC p.edges (List.replicate p.tasks.toNat 0) k)) fo21,Res.bx b1 [I p.prio,I p.most,I p.wait,I p.tasks,v9_0] 44])) (p.tasks.toNat-0) ?_ ?_)))))))))
 ·exact⟨0,fp15,(by first | omega | simp),rfl,(h20_.to aB),(by have hz:=st14;rw[castL_rep]at hz;exact hz)⟩
 intro m22 f23 W24 hJ25;obtain⟨k,fo21,hcd27_0,rfl,hA27,st26⟩:=hJ25;refine wp_seq (aS (sg (aS2 (hA27.at 11) (hA27.at 10) (bO (wp_seq (vY rfl (fun h30p=>?_) (fun h30p=>?_)))))))
 ·refine wp_skip (wp_seq (wp_block (wp_seq (aS (rn st26 4 hA27.put [] [(14,v9_0),(15,I (p.edges.length:Int)),(16,I 0)] [qb 1 rfl 4,ql h9_0] aB fun f32 h32_=>(bO (wp_block (yZ (fun (m:Nat) (f:Nat->Value) (W:World)=>∃(i:Nat) (fo33:List Nat),i<=p.edges.length/\m=p.edges.length-i/\Ag [(1,pt_ b1),(3,(.slice (some ⟨b11,0,none⟩) p.tasks.toNat p.tasks.toNat)),(10,I p.tasks),(11,I (k:Int)),(14,v9_0),(15,I (p.edges.length:Int)),(16,I (i:Int))] f/\St w W ([Res.own (α:=List Int) (.slice (some ⟨b11,0,none⟩) p.tasks.toNat p.tasks.toNat) (dL (gM (p.edges.take i) (dC p.edges (List.replicate p.tasks.toNat 0) k))) fo33,Res.bx b1 [I p.prio,I p.most,I p.wait,I p.tasks,v9_0] 44])) (p.edges.length-0) ?_ ?_))))))))
  ·exact⟨0,fo21,(by first | omega | simp),rfl,(h32_.to aB),st26⟩
  intro m34 f35 W36 hJ37;obtain⟨i,fo33,hcd39_0,rfl,hA39,st38⟩:=hJ37;refine wp_seq (aS (sg (aS2 (hA39.at 16) (hA39.at 15) (bO (wp_seq (vY rfl (fun h42p=>?_) (fun h42p=>?_)))))))
  ·refine wp_skip (wp_seq (wp_block (wp_seq (aS ?_))));have hi99fa3:i<p.edges.length:=aA;obtain⟨b43,o43,cs43,f43,hp43,hr43,hc43,hm43⟩:=idx h9_0 (i:=i) hi99fa3;refine sg (kF sl_EdgeS (hA39.at 14) hp43 (hA39.at 16) rfl (sg (stp_load_rga bP4 rfl rfl hr43 st38.below (Shape.len hc43) (sg (aL4 zz_Edge st38 ?_)))));intro b46 W47 hb48 st49;refine sgn (stp_store_all (cs:=cs43) bP4 hc43 rfl rfl st49 rfl ?_);intro W51 st52;refine bO ?_;have hk53:=hc43;obtain⟨he53,rfl,hok53⟩:=hk53;have he53:_=[I (p.edges[i]'hi99fa3).from_,I (p.edges[i]'hi99fa3).to_]:=he53;subst he53;have hea:=hi.at (k:=i) aA;have hxl:(dL (gM (p.edges.take i) (dC p.edges (List.replicate p.tasks.toNat 0) k))).length=p.tasks.toNat:=by rw[aP6,wE,kA,length_replicate]
   have hbd:=aC9 (n:=p.tasks.toNat) aA (es:=p.edges.take i) (fun e he=>hi e (mem_of_mem_take he)) (aM5 aA hi k);have hi3a21e:((p.edges[i]'hi99fa3).from_).toNat<(dL (gM (p.edges.take i) (dC p.edges (List.replicate p.tasks.toNat 0) k))).length:=aA;obtain⟨b54,o54,cs54,f54,hp54,hr54,hc54,hm54⟩:=idx (gQ (st52.get 1 rfl)) (i:=((p.edges[i]'hi99fa3).from_).toNat) hi3a21e;have hk54:=hc54;obtain⟨rfl,rfl,hok54⟩:=hk54;have hid0fd1:((p.edges[i]'hi99fa3).to_).toNat<(dL (gM (p.edges.take i) (dC p.edges (List.replicate p.tasks.toNat 0) k))).length:=aA;obtain⟨b55,o55,cs55,f55,hp55,hr55,hc55,hm55⟩:=idx (gQ (st52.get 1 rfl)) (i:=((p.edges[i]'hi99fa3).to_).toNat) hid0fd1;have hk55:=hc55;obtain⟨rfl,rfl,hok55⟩:=hk55;refine qN 14 [] [(true,.is ((.slice (some ⟨b11,0,none⟩) p.tasks.toNat p.tasks.toNat))),(true,.is (.pointer (some ⟨b46,0+0,none⟩))),(true,.is (I (p.edges[i]'hi99fa3).from_)),(true,.is (.pointer (some ⟨b54,o54,none⟩))),(true,.is (I ((dL (gM (p.edges.take i) (dC p.edges (List.replicate p.tasks.toNat 0) k)))[((p.edges[i]'hi99fa3).from_).toNat]'hi3a21e))),(true,.is (.pointer (some ⟨b46,0+1,none⟩))),(true,.is (I (p.edges[i]'hi99fa3).to_)),(true,.is (I (aS5 (p.edges[i]'hi99fa3).to_))),(true,.is ((.slice (some ⟨b11,0,none⟩) p.tasks.toNat p.tasks.toNat))),(true,.is (.pointer (some ⟨b46,0+1,none⟩))),(true,.is (I (p.edges[i]'hi99fa3).to_)),(true,.is (.pointer (some ⟨b55,o55,none⟩))),(true,.is (I ((dL (gM (p.edges.take i) (dC p.edges (List.replicate p.tasks.toNat 0) k)))[((p.edges[i]'hi99fa3).to_).toNat]'hid0fd1))),(true,.is (I (orI (aS5 (p.edges[i]'hi99fa3).to_) ((dL (gM (p.edges.take i) (dC p.edges (List.replicate p.tasks.toNat 0) k)))[((p.edges[i]'hi99fa3).to_).toNat]'hid0fd1))))] mix aB aB aB aB (rs0:=[]) rfl st52 (Below.refl _ _) ⟨(mq_ (hA39.at 3)),(fq_ fa_Edge_0 (show _=(pt_ b46:Value) from rfl)),(fun f W hst hbl hd hf=>iJ wL rfl (hd 1 21 rfl rfl) (hst.get 0 rfl) (i:=0) rfl rfl brq),(fun f W hst hbl hd hf=>kF aS4 (hd 0 20 rfl rfl) hp54 (hd 2 22 rfl rfl) aA brq),(fun f W hst hbl hd hf=>xO wL rfl (hd 3 23 rfl rfl) hr54 hbl (i:=0) rfl rfl brq),(fq_ aO9 (show _=(pt_ b46:Value) from rfl)),(fun f W hst hbl hd hf=>iJ wL rfl (hd 5 25 rfl rfl) (hst.get 0 rfl) (i:=1) rfl rfl brq),(fun f W hst hbl hd hf=>stp_shlI rfl (hd 6 26 rfl rfl) aA brq),(mq_ (hA39.at 3)),(fq_ aO9 (show _=(pt_ b46:Value) from rfl)),(fun f W hst hbl hd hf=>iJ wL rfl (hd 9 29 rfl rfl) (hst.get 0 rfl) (i:=1) rfl rfl brq),(fun f W hst hbl hd hf=>kF aS4 (hd 8 28 rfl rfl) hp55 (hd 10 30 rfl rfl) aA brq),(fun f W hst hbl hd hf=>xO wL rfl (hd 11 31 rfl rfl) hr55 hbl (i:=0) rfl rfl brq),(fun f W hst hbl hd hf=>bL6 (hd 7 27 rfl rfl) (hd 12 32 rfl rfl) (aB6 aA) (lP hbd _ _) brq),trivial⟩ ?_;intro f56 W57 rs_ hAL_ st60 hbl61 hv58 hf59;have hn_:rs_=[]:=hAL_;subst hn_
   try simp only[cap_,bB4]at st60
   refine sg (bL6 (hv58 4 24 eZ rfl) (hv58 13 33 eZ rfl) (lP hbd _ _) (aT2 (aB6 aA) (lP hbd _ _)) ?_);have hi3a21e:((p.edges[i]'hi99fa3).from_).toNat<(dL (gM (p.edges.take i) (dC p.edges (List.replicate p.tasks.toNat 0) k))).length:=aA;obtain⟨b63,o63,cs63,f63,hp63,hr63,hc63,hm63⟩:=idx (gQ (st60.get 1 rfl)) (i:=((p.edges[i]'hi99fa3).from_).toNat) hi3a21e;have hk63:=hc63;obtain⟨rfl,rfl,hok63⟩:=hk63;refine sg (kF aS4 (hv58 0 20 eZ rfl) hp63 (hv58 2 22 eZ rfl) aA ?_);have st66:=st60.f1;refine sgn (stp_poke1 (α:=Int) (z:=orI ((dL (gM (p.edges.take i) (dC p.edges (List.replicate p.tasks.toNat 0) k)))[((p.edges[i]'hi99fa3).from_).toNat]'hi3a21e) (orI (aS5 (p.edges[i]'hi99fa3).to_) ((dL (gM (p.edges.take i) (dC p.edges (List.replicate p.tasks.toNat 0) k)))[((p.edges[i]'hi99fa3).to_).toNat]'hid0fd1))) rfl aB rfl hp63 hi3a21e rfl rfl rfl st66 (fun W=>⟨rfl,rfl,(I64_rng (aT2 (lP hbd _ _) (aT2 (aB6 aA) (lP hbd _ _))))⟩) ?_);intro fp67 W68 st69;refine bO (aS (sg (nY ((hf59 16 rfl).trans (hA39.at 16)) rfl i6q_ (sg (bY (v:=I ((i:Int)+1)) rfl (bO ?_))))));exact⟨_,p.edges.length-(i+1),aA,rfl,i+1,fp67,aA,rfl,(Ag.cons ((hf59 1 rfl).trans (hA39.at 1)) (Ag.cons ((hf59 3 rfl).trans (hA39.at 3)) (Ag.cons ((hf59 10 rfl).trans (hA39.at 10)) (Ag.cons ((hf59 11 rfl).trans (hA39.at 11)) (Ag.cons ((hf59 14 rfl).trans (hA39.at 14)) (Ag.cons ((hf59 15 rfl).trans (hA39.at 15)) (Ag.cons rfl Ag.nil))))))),(by rw[relax_snoc _ _ _ aA,<- castL_relax1 (m:=(gM (p.edges.take i) (dC p.edges (List.replicate p.tasks.toNat 0) k))) (e:=p.edges[i]) aA aA aA];exact st69.f2.f1.d2)⟩
  refine wp_exit (aS (sg (nY (hA39.at 11) rfl i6q_ (sg (bY (v:=I ((k:Int)+1)) rfl (bO ?_))))));exact⟨_,p.tasks.toNat-(k+1),aA,rfl,k+1,fo33,aA,rfl,(hA39.put.put.put.to aB),(by rw[show dC p.edges (List.replicate p.tasks.toNat 0) (k+1)=gM (p.edges.take i) (dC p.edges (List.replicate p.tasks.toNat 0) k) from by rw[show i=p.edges.length by omega,take_length];rfl];exact st38)⟩
 refine wp_exit (wp_seq (aS (sg (bY (hA27.at 3) (sg (cC (v:=(.slice (some ⟨b11,0,none⟩) p.tasks.toNat p.tasks.toNat)) rfl (bO (wr (bU5 results187 rfl ?_)))))))));obtain rfl:k=p.tasks.toNat:=by omega
 exact⟨_,_,rfl,st26.only 0 rfl⟩
end Go.Proofs.YtpdgdnpajmcaeaaGreat
namespace Go.Proofs.YtpdgdnpajmcaeaaGreat
set_option maxRecDepth 100000
set_option maxHeartbeats 2000000
open Go.RowKit Go.Proofs.Tryz List Go.Sort
theorem Elems.ints_inv {W:World}:∀{xs:List Int}{cells:List Value}{fp:List Nat},Elems W cells xs fp->cells=xs.map I/\fp=[]/\∀x∈xs,I64 x
 | [],_,_,⟨h1,h2⟩=>⟨h1,h2,by simp⟩
 | x::xs,_,_,⟨cs,rest,f1,f2,h1,h2,h3,h4⟩=>by
  obtain⟨rfl,rfl,hx⟩:=h2;obtain⟨rfl,rfl,hxs⟩:=Elems.ints_inv h3;subst h1 h4;exact⟨rfl,rfl,fun y hy=>by rcases mem_cons.1 hy with rfl | hy;exact hx;exact hxs y hy⟩
theorem St.sorted {w0 W:World}{rs:List Res}{b off cap:Nat}{xs ys:List Int}{fp:List Nat}(h:St w0 W (Res.own (.slice (some ⟨b,off,none⟩) xs.length cap) xs fp::rs)) (hne:xs≠[]) (hl:ys.length=xs.length) (hm:∀y∈ys,y∈xs) (n:Nat) (os:Array Obj) :
  ∃fp',St w0 (grow (putRow (Value.int .i64) (Sort.ahead W n) b off ys.toArray) os) (Res.own (.slice (some ⟨b,off,none⟩) xs.length cap) ys fp'::rs):=by
 have hown:=h.get 0 rfl;have hwr:=hown.2;obtain⟨ao,cap',e,h1,h2,h3⟩:=gQ hown
 injection e with e1 e2 e3
 subst e1 e3;rcases h3 with⟨h0,_⟩ | ⟨b',off',f,_,e4,rfl,hb,h3⟩
 ·exact absurd h0 hne
 injection e4 with e4
 injection e4 with e5 e6
 subst e5 e6;obtain⟨cells,he,hr⟩:=Elems.of_at off h3;obtain⟨rfl,rfl,h64⟩:=he.ints_inv;obtain⟨C,e,hC⟩:=hwr b (by simp);have hdr:Holds (Value.int .i64) W b off xs.toArray:=by
  intro j hj;have hj':j<xs.length:=by simpa using hj
  refine⟨?_,by simp[World.frozen?,hC]⟩;rw[hr j (I xs[j]) (by simp[hj'])];simp[hj']
 have hC':(grow (putRow (Value.int .i64) (Sort.ahead W n) b off ys.toArray) os).heap[b]? = some (.cells (putCells (Value.int .i64) off ys.toArray C) e (0,0)):=by
  rw[heap_grow_old _ _ (by simpa using hb)];simp[putRow,mapBlock,Sort.ahead,Array.getElem?_modify,hC,onCells]
 refine⟨[b],h.turn (r':=Res.own _ ys [b]) rfl rfl rfl (by simp[grow]) ?_ ?_ (by simp[Res.own]) (fun c hc=>.inl hc)⟩
 ·intro k hk hkn;have hkb:b≠k:=fun e=>hkn (by simp[Res.own,e])
  rw[heap_grow_old _ _ (by simpa using hk)];simp[putRow,mapBlock,Sort.ahead,Array.getElem?_modify,hkb]
 refine⟨Sl.v ⟨some ⟨b,off,none⟩,cap,by rw[hl],by rw[hl];exact h1,h2,.inr ⟨b,off,[],?_,rfl,rfl,?_,?_⟩⟩,?_⟩
 ·intro e0;rw[e0]at hl;exact hne (eq_nil_of_length_eq_zero hl.symm)
 ·exact(Array.getElem?_eq_some_iff.1 hC').1
 ·refine(Elems.ints ys (fun y hy=>h64 y (hm y hy))).at off ?_;intro j u hj;have hjl:j<ys.length:=by have:=(gsi_.1 hj).1;simpa using this
  have hu:u=I ys[j]:=by simpa [hjl] using hj.symm
  have hc:=cell?_putRow (Value.int .i64) (Sort.ahead W n) b off xs.toArray ys.toArray (holds_ahead _ _ _ _ _ _ hdr) (by simp[hl]) j (by simpa using hjl);rw[cell?_grow _ _ _ (by simpa using hb)];rw[hc,hu];simp[hjl]
 intro c hc;simp at hc;subst hc;exact⟨_,_,hC'⟩
end Go.Proofs.YtpdgdnpajmcaeaaGreat
namespace Go.Proofs.YtpdgdnpajmcaeaaGreat
set_option maxRecDepth 100000
set_option maxHeartbeats 2000000
open Go.RowKit Go.Proofs.Tryz List
open Go.Sort
def lays189_ren:Go.Shelf.Ren:=⟨fun | 189=>219 | 125=>229 | 257=>228 | 128=>241 | 129=>242 | 294=>232 | 295=>233 | 296=>234 | 297=>235 | 298=>236 | 299=>237 | 216=>238 | 300=>239 | 301=>240 | 328=>244 | 329=>245 | 330=>246 | 331=>247 | 332=>248 | 215=>249 | 343=>251 | n=>n,fun | 28=>39 | 3=>3 | 46=>138 | 0=>0 | 51=>218 | 53=>220 | 4=>4 | 183=>210 | 182=>209 | 131=>215 | 5=>5 | 9=>9 | 218=>221 | 222=>225 | 228=>228 | 229=>229 | n=>n,fun | n=>n⟩
theorem bP5:Go.Proofs.Lays.n189 prog lays189_ren where
 mixed:=by kernel_rfl
 f125:=func229.trans (congrArg some aB)
 f128:=func241.trans (congrArg some aB)
 f129:=func242.trans (congrArg some aB)
 f189:=func219.trans (congrArg some aB)
 f215:=func249.trans (congrArg some aB)
 f216:=func238.trans (congrArg some aB)
 f257:=func228.trans (congrArg some aB)
 f294:=func232.trans (congrArg some aB)
 f295:=func233.trans (congrArg some aB)
 f296:=func234.trans (congrArg some aB)
 f297:=func235.trans (congrArg some aB)
 f298:=func236.trans (congrArg some aB)
 f299:=func237.trans (congrArg some aB)
 f300:=func239.trans (congrArg some aB)
 f301:=func240.trans (congrArg some aB)
 f328:=func244.trans (congrArg some aB)
 f329:=func245.trans (congrArg some aB)
 f330:=func246.trans (congrArg some aB)
 f331:=func247.trans (congrArg some aB)
 f332:=func248.trans (congrArg some aB)
 f343:=func251.trans (congrArg some aB)
 t0:=underlying0
 a0:=Tryz.isAgg0
 z0:=Tryz.sizeOf0
 v0:=Tryz.zeroValue0
 t3:=underlying3
 a3:=Tryz.isAgg3
 z3:=Tryz.sizeOf3
 v3:=Tryz.zeroValue3
 t4:=underlying4
 a4:=Tryz.isAgg4
 z4:=Tryz.sizeOf4
 v4:=Tryz.zeroValue4
 t5:=underlying5
 a5:=Tryz.isAgg5
 z5:=Tryz.sizeOf5
 v5:=Tryz.zeroValue5
 t9:=underlying9
 a9:=Tryz.isAgg9
 z9:=Tryz.sizeOf9
 v9:=Tryz.zeroValue9
 t28:=underlying39
 a28:=Tryz.isAgg39
 z28:=Tryz.sizeOf39
 v28:=Tryz.zeroValue39
 t46:=underlying138
 a46:=Tryz.isAgg138
 z46:=Tryz.sizeOf138
 v46:=Tryz.zeroValue138
 t51:=underlying218
 a51:=Tryz.isAgg218
 z51:=Tryz.sizeOf218
 v51:=Tryz.zeroValue218
 t53:=underlying220
 a53:=Tryz.isAgg220
 z53:=Tryz.sizeOf220
 v53:=Tryz.zeroValue220
 t131:=underlying215
 a131:=Tryz.isAgg215
 z131:=Tryz.sizeOf215
 v131:=Tryz.zeroValue215
 t182:=underlying209
 a182:=Tryz.isAgg209
 z182:=Tryz.sizeOf209
 v182:=Tryz.zeroValue209
 t183:=underlying210
 a183:=Tryz.isAgg210
 z183:=Tryz.sizeOf210
 v183:=Tryz.zeroValue210
 t218:=underlying221
 a218:=Tryz.isAgg221
 z218:=Tryz.sizeOf221
 v218:=Tryz.zeroValue221
 t222:=underlying225
 a222:=Tryz.isAgg225
 z222:=Tryz.sizeOf225
 v222:=Tryz.zeroValue225
 t228:=underlying228
 a228:=Tryz.isAgg228
 z228:=Tryz.sizeOf228
 v228:=Tryz.zeroValue228
 t229:=underlying229
 a229:=Tryz.isAgg229
 z229:=Tryz.sizeOf229
 v229:=Tryz.zeroValue229


theorem SortOwn {w0 W:World}{rs:List Res}{v:Value}{xs:List Int}{fp:List Nat}(h:St w0 W (Res.own v xs fp::rs)) (hn:xs.length<=1000000) :
  Calls prog 219 #[v] W fun e w'=>e = .returned (.tuple #[])/\∃fp',St w0 w' (Res.own v (lB xs) fp'::rs):=by
 have hsl:=gQ (h.get 0 rfl);have hwr:=(h.get 0 rfl).2;obtain⟨ao,cap,rfl,h1,h2,h3⟩:=hsl;rcases h3 with⟨rfl,rfl⟩ | ⟨b,off,f,hne,rfl,rfl,hb,h3⟩
 ·refine(Any.slices_Sort_int_none bP5 ao cap W).mono ?_;rintro e w' ⟨he,rfl⟩;refine⟨he,[],?_⟩;rw[show lB []=[] from eq_nil_of_length_eq_zero (qS [])];exact h
 obtain⟨cells,he,hr⟩:=Elems.of_at off h3;obtain⟨rfl,rfl,h64⟩:=he.ints_inv;obtain⟨C,e,hC⟩:=hwr b (by simp);have hdr:Holds (Value.int .i64) W b off xs.toArray:=by
  intro j hj;have hj':j<xs.length:=by simpa using hj
  refine⟨?_,by simp[World.frozen?,hC]⟩;rw[hr j (I xs[j]) (by simp[hj'])];simp[hj']
 refine(Any.slices_Sort_int bP5 b off cap xs W hdr hb aA).mono ?_;rintro e' w' ⟨he',n,os,rfl⟩;obtain⟨fp',hst⟩:=h.sorted hne (qS xs) (fun y hy=>(fL xs).mem_iff.1 hy) n os;exact⟨he',fp',hst⟩

end Go.Proofs.YtpdgdnpajmcaeaaGreat
namespace Go.Proofs.YtpdgdnpajmcaeaaGreat
set_option maxRecDepth 100000
set_option maxHeartbeats 2000000
open Go.RowKit Go.Proofs.Tryz List
theorem sZ {n a b:Int}(h:inB n a b=false):¬(a<=n/\n<=b):=fun hh=>by rw[inB_t hh]at h;cases h
theorem pm1 {p:Plan}(h:inB p.tasks 1 12=false):aN p := .inl (sZ h)
theorem pm2 {p:Plan}(h:(30:Int)<p.edges.length):aN p := .inr (.inl aA)
theorem pm3 {p:Plan}(h:inB p.prio 0 9=false):aN p := .inr (.inr (.inl (sZ h)))
theorem pm4 {p:Plan}(h:inB p.most 1 5=false):aN p := .inr (.inr (.inr (.inl (sZ h))))
theorem pm5 {p:Plan}(h:inB p.wait 1 20=false):aN p := .inr (.inr (.inr (.inr (sZ h))))
theorem pm0 {p:Plan}(h1:inB p.tasks 1 12=true) (h2:¬(30:Int)<p.edges.length) (h3:inB p.prio 0 9=true) (h4:inB p.most 1 5=true) (h5:inB p.wait 1 20=true):¬aN p:=by
 rintro(h | h | h | h | h)
 ·exact h (inB_iff.1 h1)
 ·omega
 ·exact h (inB_iff.1 h3)
 ·exact h (inB_iff.1 h4)
 exact h (inB_iff.1 h5)
theorem aD3 {p:Plan}(h:¬aN p):(1<=p.tasks/\p.tasks<=12)/\p.edges.length<=30:=by
 unfold aN at h;omega
theorem hk_shrI {P:Program}(a s:Int) (ha:0<=a) (hs:0<=s/\s<60):BOk P .shr (I a) (I s) (I (aB5 a s)):=fun hx hy k=>stp_shrI hx hy ha hs k
theorem hk_andI {P:Program}(a b:Int) (ha:0<=a/\a<4294967296) (hb:0<=b/\b<4294967296):BOk P .and (I a) (I b) (I (bJ1 a b)):=fun hx hy k=>stp_andI hx hy ha hb k
section
variable {α:Type}{xs:List α}{y e:α}{k:Nat}
theorem cn_no (h:xs[k]? = some e) (h0:y∉xs.take k) (hp:¬y=e):y∉xs.take (k+1):=by
 obtain⟨hk,rfl⟩:=gsi_.1 h;rw[take_succ_eq_append_getElem hk,mem_append,mem_singleton];exact fun hh=>hh.elim h0 hp
theorem cD3 (h0:y∉xs.take k) (hn:¬(k:Int)<xs.length):y∉xs:=by rwa [take_of_length_le aA]at h0
def CnF (y:α) (xs:List α):Option Nat->Prop
 | none=>y∉xs
 | some _=>y∈xs
theorem cn_f [DecidableEq α] (h:CnF y xs none):decide ((0:Int) <= -1)=decide (y∈xs):=(decide_eq_false (show ¬y∈xs from h)).symm
theorem cn_t [DecidableEq α] (h:CnF y xs (some k)):decide ((0:Int)<=(k:Int))=decide (y∈xs):=by rw[decide_eq_true (show y∈xs from h)];exact decide_eq_true aA
end
theorem ContE_i (xs:List Edge) (y:Edge) (hl:xs.length<=1048576):Ct1 prog 186 [.L xs,.S y] [.B (decide (y∈xs))]:=
 .one (decide (y∈xs)) (rk:=fun b=>[.B b])<|vc func186 (fun hg=>.in_ (R':=CnF y xs) func218
  (.la (Γ:=Nat) (fun k=>k<=xs.length/\y∉xs.take k) (fun k=>xs.length-k) (fun k=>[vI 8 k]) (fun _=>[]) 0 (h:=⟨Nat.zero_le _,by simp⟩) fun k hk t=>.s ((k:Int)<xs.length)
   (fun h=>.x xs k (h:=by omega) fun e he ge=>.qe (uD y e) aB<|.sb (eqB y e)
    (fun h2=>.rt (some k) (by rw[eqB_iff]at h2;subst h2;exact mem_of_getElem? he))
    (fun h2=>.p k 1<|.n t (k+1) [] (h1:=⟨by omega,cn_no he hk.2 (fun hh=>by rw[eqB_iff.2 hh]at h2;cases h2)⟩)))
   (fun h=>.rt none (cD3 hk.2 h))) fun o=>match o with
  | none=>fun ho=>.rt (decide ((0:Int) <= -1)) ⟨cn_f ho,trivial⟩
  | some k=>fun ho=>.rt (decide ((0:Int)<=(k:Int))) ⟨cn_t ho,trivial⟩) aB
theorem bT8 (xs:List Int) (y:Int) (hl:xs.length<=1048576):Ct1 prog 101 [.L xs,.I y] [.B (decide (y∈xs))]:=
 .one (decide (y∈xs)) (rk:=fun b=>[.B b])<|vc func101 (fun hg=>.in_ (R':=CnF y xs) func157
  (.la (Γ:=Nat) (fun k=>k<=xs.length/\y∉xs.take k) (fun k=>xs.length-k) (fun k=>[vI 8 k]) (fun _=>[]) 0 (h:=⟨Nat.zero_le _,by simp⟩) fun k hk t=>.s ((k:Int)<xs.length)
   (fun h=>.x xs k (h:=by omega) fun e he ge=>.s (y=e)
    (fun h2=>.rt (some k) (by subst h2;exact mem_of_getElem? he))
    (fun h2=>.p k 1<|.n t (k+1) [] (h1:=⟨by omega,cn_no he hk.2 h2⟩)))
   (fun h=>.rt none (cD3 hk.2 h))) fun o=>match o with
  | none=>fun ho=>.rt (decide ((0:Int) <= -1)) ⟨cn_f ho,trivial⟩
  | some k=>fun ho=>.rt (decide ((0:Int)<=(k:Int))) ⟨cn_t ho,trivial⟩) aB
theorem own_sl {β:Type}[Shape β] {w w':World}{xs:List β}{e:Ending}(h:∃(v:Value) (fp':List Nat),e = .returned v/\St w w' [Res.own v xs fp']):∃(a:Unit) (vs:List Value) (rs:List Res),True/\e = .returned (uE vs)/\Rks vs [Rk.L xs] rs/\St w w' rs:=by
 obtain⟨v,fp,he,st⟩:=h;exact⟨(),[v],_,trivial,he,⟨[Res.own v xs fp],[],⟨fp,rfl⟩,rfl,rfl⟩,st⟩
noncomputable def vV (p:Plan):List Int:=dL (dC p.edges (List.replicate p.tasks.toNat 0) p.tasks.toNat)
theorem Waits_i (p:Plan) (hn:1<=p.tasks/\p.tasks<=12) (hl:p.edges.length<=30) (hi:EdgesIn p.tasks.toNat p.edges):Ct1 prog 187 [.S p] [.L (vV p)]:=⟨fun w us _ hp=>by
 match us,hp with
 | [_],⟨⟨cs0,fp0,rfl,hc0⟩,_⟩=>exact(WaitsI w hc0 hn hl hi).mono fun e w' h=>own_sl h⟩
theorem From_s (p:Plan) (t:Int) (hn:1<=p.tasks/\p.tasks<=12) (hl:p.edges.length<=30) (hi:EdgesIn p.tasks.toNat p.edges) (ht:0<=t/\t<p.tasks):Ct1 prog 204 [.S p,.I t] [.L (oJ p.edges p.tasks.toNat t)]:=
 vc func204 (fun hg=>.mk inferInstance false p.tasks.toNat p.tasks aA 1 aA aA trivial<|.lr (inferInstance:Dsh Int) gK 14 [t] (by simp) (all1 (by show I64 t;unfold I64;omega)) <|
  .l (Γ:=Nat×List Int×List Bool) (fun g=>BInv p.edges p.tasks.toNat t g.2.1 g.2.2 g.1 0/\g.1<=g.2.1.length) (fun g=>p.tasks.toNat+2-g.1) [777777,14] [777777] [777777] (fun g=>[vI 7 g.1,vR 6 3]) (fun g=>[oO 2 g.2.2,oR 3 3 g.2.1]) (0,[t],List.replicate p.tasks.toNat false) (h:=⟨BInv.start,Nat.zero_le _⟩) fun g hJ tk=>
   let hq:=hJ.1.len_le
   .s ((g.1:Int)<g.2.1.length)
    (fun h=>.l (Γ:=Nat×List Int×List Bool) (fun z=>BInv p.edges p.tasks.toNat t z.2.1 z.2.2 g.1 z.1/\g.1<z.2.1.length/\z.1<=p.edges.length) (fun z=>p.edges.length-z.1) [777777,16] [777777] [777777] (fun z=>[vI 8 z.1,vR 6 3]) (fun z=>[oO 2 z.2.2,oR 3 3 z.2.1]) (0,g.2.1,g.2.2) (h:=⟨hJ.1,by show g.1<g.2.1.length;omega,Nat.zero_le _⟩) fun z hz tz=>
     let hq2:=hz.1.len_le
     let ho2:=hz.1.len
     .s ((z.1:Int)<p.edges.length)
      (fun h2=>.x p.edges z.1 (h:=by omega) fun e he ge=>.x z.2.1 g.1 (h:=hz.2.1) fun v hv gv=>
       let hea:=hi e (mem_of_getElem? he)
       let no:¬(e.from_=v/\z.2.2.getD e.to_.toNat false=false)->D prog (fun _:Unit=>True/\rgd [Rk.L (oJ p.edges p.tasks.toNat t)]):=fun hno=>.p z.1 1<|.n tz (z.1+1,z.2.1,z.2.2) [] (h1:=⟨hz.1.skip hi he hv hno,hz.2.1,by show z.1+1<=_;omega⟩) (h2:=by show p.edges.length-(z.1+1)<_;omega)
       .s (e.from_=v)
        (fun h3=>.ex (p:=fun b=>z.2.2[e.to_.toNat]? = some b) ⟨_,getElem?_eq_getElem (show e.to_.toNat<z.2.2.length by omega)⟩ fun b hb=>.ye hb e.to_ (he:=by omega) fun _=>.v b
         (fun h4=>let ha:=hz.1.add hi he hv h3 (by rw[getD_eq_getElem?_getD,hb,h4];rfl)
          let hal:=ha.len_le
          .d 2 hb fun _=>.ie e.to_.toNat e.to_ (he:=by omega)<|.wt 52<|.f 2 z.2.2 true (h:=trivial)<|.a z.2.1 e.to_ 8 (hy:=(show e.ok from ge).2) (hby:=by omega)<|.p z.1 1 (h:=by unfold I64;omega) <|
          .n tz (z.1+1,z.2.1++[e.to_],z.2.2.set e.to_.toNat true) [] (h1:=⟨ha,by show g.1<(z.2.1++[e.to_]).length;rw[length_append];have:=hz.2.1;omega,by show z.1+1<=_;omega⟩) (h2:=by show p.edges.length-(z.1+1)<_;omega))
         (fun h4=>no (fun hc=>by have:=hc.2;rw[getD_eq_getElem?_getD,hb,h4]at this;cases this)))
        (fun h3=>no (fun hc=>h3 hc.1)))
      (fun h2=>.p g.1 1<|.n tk (g.1+1,z.2.1,z.2.2) [] (h1:=⟨hz.1.next aA,hz.2.1⟩) (h2:=by show p.tasks.toNat+2-(g.1+1)<_;omega)))
    (fun h=>.g 2 (hJ.1.all aA)<|.rt () ⟨trivial,trivial⟩)) aB
theorem many_last {p:Plan}(h1:inB p.tasks 1 12=true) (h2:¬(30:Int)<p.edges.length) (h3:inB p.prio 0 9=true) (h4:inB p.most 1 5=true):(!inB p.wait 1 20)=pB (aN p):=by
 cases h5:inB p.wait 1 20 with
 | true=>exact(kX (pm0 h1 h2 h3 h4 h5)).symm
 | false=>exact(pQ (pm5 h5)).symm
theorem Many_s (p:Plan):Ct1 prog 203 [.S p] [.B (pB (aN p))]:=
 .one (pB (aN p)) (rk:=fun x=>[.B x])<|vc func203 (fun hg=>
  .c func38 (InV p.tasks 1 12) fun _=>.v (inB p.tasks 1 12) (fun h=>.rt true ⟨(pQ (pm1 h)).symm,trivial⟩) (fun h1=>.s ((30:Int)<p.edges.length) (fun h=>.rt true ⟨(pQ (pm2 h)).symm,trivial⟩) (fun h2=>
  .c func38 (InV p.prio 0 9) fun _=>.v (inB p.prio 0 9) (fun h=>.rt true ⟨(pQ (pm3 h)).symm,trivial⟩) (fun h3=>
  .c func38 (InV p.most 1 5) fun _=>.v (inB p.most 1 5) (fun h=>.rt true ⟨(pQ (pm4 h)).symm,trivial⟩) (fun h4=>
  .c func38 (InV p.wait 1 20) fun _=>.rt (!inB p.wait 1 20) ⟨many_last h1 h2 h3 h4,trivial⟩))))) aB
structure PeJ (p:Plan) (k:Nat):Prop where
 le:k<=p.edges.length
 inn:EdgesIn p.tasks.toNat (p.edges.take k)
theorem PeJ.start (p:Plan):PeJ p 0:=⟨Nat.zero_le _,EdgesIn.nil⟩
theorem PeJ.next {p:Plan}{k:Nat}{e:Edge}(h:PeJ p k) (he:p.edges[k]? = some e) (h1:inB e.from_ 0 (p.tasks-1)=true) (h2:inB e.to_ 0 (p.tasks-1)=true):PeJ p (k+1):=by
 obtain⟨hk,rfl⟩:=gsi_.1 he;have:=inB_iff.1 h1;have:=inB_iff.1 h2;exact⟨hk,h.inn.step hk aA⟩
theorem aT1 {p:Plan}{k:Nat}{e:Edge}(hm:¬aN p) (he:p.edges[k]? = some e) (h:inB e.from_ 0 (p.tasks-1)=false∨inB e.to_ 0 (p.tasks-1)=false):(2:Int)=aC p:=by
 obtain⟨hk,rfl⟩:=gsi_.1 he;refine(pf2 hm fun hE=>?_).symm;have h1:=hE.at hk;have h2:=aD3 hm;rcases h with h | h
 ·exact sZ h aA
 exact sZ h aA
theorem PeJ.all {p:Plan}{k:Nat}(h:PeJ p k) (hk:¬(k:Int)<p.edges.length):EdgesIn p.tasks.toNat p.edges:=by
 have:=h.inn
 rwa [take_of_length_le aA]at this
structure PnJ (p:Plan) (k:Nat):Prop where
 le:k<=p.edges.length
 nd:(p.edges.take k).Nodup
theorem PnJ.start (p:Plan):PnJ p 0:=⟨Nat.zero_le _,nodup_nil⟩
theorem PnJ.next {p:Plan}{k:Nat}{e:Edge}(h:PnJ p k) (he:p.edges[k]? = some e) (h1:e∉p.edges.take k):PnJ p (k+1):=by
 obtain⟨hk,rfl⟩:=gsi_.1 he;exact⟨hk,nodup_step h.nd hk h1⟩
theorem bY4 {p:Plan}{k:Nat}{e:Edge}(hm:¬aN p) (hE:EdgesIn p.tasks.toNat p.edges) (he:p.edges[k]? = some e) (h1:e∈p.edges.take k):(3:Int)=aC p:=by
 obtain⟨hk,rfl⟩:=gsi_.1 he;exact(pf3 hm hE (not_nodup_at hk h1)).symm
theorem PnJ.all {p:Plan}{k:Nat}(h:PnJ p k) (hk:¬(k:Int)<p.edges.length):p.edges.Nodup:=by
 have:=h.nd
 rwa [take_of_length_le aA]at this
structure PcJ (p:Plan) (k:Nat):Prop where
 le:k<=p.tasks.toNat
 no:∀t:Nat,t<k->¬Rch p.edges (t:Int) (t:Int)
theorem PcJ.start (p:Plan):PcJ p 0:=⟨Nat.zero_le _,fun t h=>by omega⟩
theorem PcJ.next {p:Plan}{k:Nat}(h:PcJ p k) (hk:k<p.tasks.toNat) (h1:¬Rch p.edges (k:Int) (k:Int)):PcJ p (k+1):=⟨hk,fun t ht=>by
 rcases Nat.lt_succ_iff_lt_or_eq.1 ht with h2 | rfl
 ·exact h.no t h2
 ·exact h1⟩
theorem PcJ.all {p:Plan}{k:Nat}(h:PcJ p k) (hk:¬k<p.tasks.toNat) (hm:¬aN p) (hE:EdgesIn p.tasks.toNat p.edges) (hN:p.edges.Nodup):(0:Int)=aC p:=
 (pf0 hm hE hN fun ⟨t,ht,hr⟩=>h.no t (by have:=h.le;omega) hr).symm
theorem zU (p:Plan):(vV p).length=p.tasks.toNat:=by unfold vV;rw[aP6,kA,length_replicate]
theorem waitsL_at {p:Plan}{k:Nat}{m:Int}(hm:¬aN p) (hE:EdgesIn p.tasks.toNat p.edges) (h:(vV p)[k]? = some m):(0<=m/\m<4294967296)/\(bJ1 (aB5 m k) 1=1↔Rch p.edges (k:Int) (k:Int)):=by
 obtain⟨hk,rfl⟩:=gsi_.1 h;have h1:=aD3 hm;have hk2:k<p.tasks.toNat:=by rwa [zU]at hk
 refine⟨?_,waits_bit hE hk2 hk⟩;exact lP (aM5 aA hE _) k hk
theorem iQ (p:Plan):Ct1 prog 132 [.S p] [.I (aC p)]:=
 .one (aC p) (rk:=fun x=>[.I x])<|vc func132 (fun (hg:gin [Par.S p])=>let gp:=hg.1.1
  .c func29 (bR p.tasks 1 12) fun _=>.v (inB p.tasks 1 12) (fun h=>.rt 1 ⟨(pf1 (pm1 h)).symm,trivial⟩) (fun h1=>.s ((30:Int)<p.edges.length) (fun h=>.rt 1 ⟨(pf1 (pm2 h)).symm,trivial⟩) (fun h2=>
  .c func29 (bR p.prio 0 9) fun _=>.v (inB p.prio 0 9) (fun h=>.rt 1 ⟨(pf1 (pm3 h)).symm,trivial⟩) (fun h3=>
  .c func29 (bR p.most 1 5) fun _=>.v (inB p.most 1 5) (fun h=>.rt 1 ⟨(pf1 (pm4 h)).symm,trivial⟩) (fun h4=>
  .c func29 (bR p.wait 1 20) fun _=>.v (inB p.wait 1 20) (fun h=>.rt 1 ⟨(pf1 (pm5 h)).symm,trivial⟩) (fun h5=>let hm:=pm0 h1 h2 h3 h4 h5
   let hr:=aD3 hm
   .l (Γ:=Nat) (fun k=>PeJ p k) (fun k=>p.edges.length-k) [1,38,39] [1] [0] (fun k=>[vI 40 k]) (fun _=>[]) 0 (h:=PeJ.start p) fun k hJ t=>let hk0:=hJ.le
    .s ((k:Int)<p.edges.length)
     (fun h=>.x p.edges k (h:=by omega) fun e he ge=>.m p.tasks 1<|.c func29 (bR e.from_ 0 (p.tasks-1)) fun _=>.v (inB e.from_ 0 (p.tasks-1))
      (fun h6=>.rt 2 ⟨aT1 hm he (.inl h6),trivial⟩)
      (fun h6=>.m p.tasks 1<|.c func29 (bR e.to_ 0 (p.tasks-1)) fun _=>.v (inB e.to_ 0 (p.tasks-1))
       (fun h7=>.rt 2 ⟨aT1 hm he (.inr h7),trivial⟩)
       (fun h7=>.p k 1<|.n t (k+1) [] (hJ.next he h6 h7) aA)))
     (fun h=>let hE:=hJ.all h
      .l (Γ:=Nat) (fun k=>PnJ p k) (fun k=>p.edges.length-k) [1,62,63] [1] [0] (fun k=>[vI 64 k]) (fun _=>[]) 0 (h:=PnJ.start p) fun k hJ t=>let hk0:=hJ.le
      .s ((k:Int)<p.edges.length)
       (fun h=>.x p.edges k (h:=by omega) fun e he ge=>.tk inferInstance p.edges k aA (k:Int) rfl<|.c func186 (ContE_i (p.edges.take k) e (by rw[length_take];omega)) fun _=>.s (e∈p.edges.take k)
        (fun h6=>.rt 3 ⟨bY4 hm hE he h6,trivial⟩)
        (fun h6=>.p k 1<|.n t (k+1) [] (hJ.next he h6) aA))
       (fun h=>let hN:=hJ.all h
        .c func187 (Waits_i p hr.1 hr.2 hE) (hg:=⟨gp,trivial⟩) fun _=>let hwl:=zU p
        .l (Γ:=Nat) (fun k=>PcJ p k) (fun k=>p.tasks.toNat-k) [1,77,78] [1,2] [0] (fun k=>[vI 79 k]) (fun _=>[]) 0 (h:=PcJ.start p) fun k hJ t=>let hk0:=hJ.le
        .s ((k:Int)<(vV p).length)
         (fun h=>.x (vV p) k (h:=by omega) fun m hm2 gm=>let ha:=waitsL_at hm hE hm2
          .pb .shr (hk_shrI m k ha.1.1 aA)<|.pb .and (hk_andI (aB5 m k) 1 (shrI_rng ha.1) aA)<|.s (bJ1 (aB5 m k) 1=1)
          (fun h6=>.rt 4 ⟨(pf4 hm hE hN ⟨k,by omega,ha.2.1 h6⟩).symm,trivial⟩)
          (fun h6=>.p k 1<|.n t (k+1) [] (hJ.next aA (fun z=>h6 (ha.2.2 z))) aA))
         (fun h=>.rt 0 ⟨hJ.all aA hm hE hN,trivial⟩))))))))) aB
theorem frmOf_len (es:List Edge) (n:Nat) (t:Int):(oJ es n t).length=n:=by unfold oJ;simp
theorem bD7 {es:List Edge}{n k:Nat}{t:Int}{b:Bool}(h:(oJ es n t)[k]? = some b):b=pB (Rch es t (k:Int)):=by
 unfold oJ at h;rw[getElem?_map]at h;cases hr:(List.range n)[k]? with
 | none=>rw[hr]at h;cases h
 | some x=>
  rw[hr]at h;obtain⟨hk,rfl⟩:=gsi_.1 hr;simp at h;exact h.symm
structure PtJ (p:Plan) (k j:Nat) (e:Edge):Prop where
 le:j<=k
 no:e∉p.edges.take j
theorem PtJ.start (p:Plan) (k:Nat) (e:Edge):PtJ p k 0 e:=⟨Nat.zero_le _,by simp⟩
theorem PtJ.next {p:Plan}{k j:Nat}{e f:Edge}(h:PtJ p k j e) (hj:j<k) (hf:p.edges[j]? = some f) (hn:eqB e f=false):PtJ p k (j+1) e:=by
 obtain⟨hk,rfl⟩:=gsi_.1 hf;exact⟨hj,not_mem_take_step hk h.no (by unfold eqB at hn;simpa using hn)⟩
theorem pt_hit {p:Plan}{k j:Nat}{e f:Edge}(hj:j<k) (hf:p.edges[j]? = some f) (hn:eqB e f=true):e∈p.edges.take k:=by
 obtain⟨hk,rfl⟩:=gsi_.1 hf;have:e=p.edges[j]:=by unfold eqB at hn;simpa using hn
 rw[this];exact yD hk hj
theorem mR (p:Plan):Ct1 prog 170 [.S p] [.I (aC p)]:=
 .one (aC p) (rk:=fun x=>[.I x])<|vc func170 (fun (hg:gin [Par.S p])=>let gp:=hg.1.1
  .c func203 (Many_s p) (hg:=⟨gp,trivial⟩) fun _=>.sb (pB (aN p)) (fun h=>.rt 1 ⟨(pf1 (pB_iff.1 h)).symm,trivial⟩) (fun h0=>let hm:¬aN p:=fun z=>by rw[pQ z]at h0;cases h0
   let hr:=aD3 hm
   .l (Γ:=Nat) (fun k=>PeJ p k) (fun k=>p.edges.length-k) [1] [1] [0] (fun k=>[vI 3 k]) (fun _=>[]) 0 (h:=PeJ.start p) fun k hJ t=>let hk0:=hJ.le
    .s ((k:Int)<p.edges.length)
     (fun h=>.x p.edges k (h:=by omega) fun e he ge=>.m p.tasks 1<|.c func38 (InV e.from_ 0 (p.tasks-1)) fun _=>.v (inB e.from_ 0 (p.tasks-1))
      (fun h6=>.rt 2 ⟨aT1 hm he (.inl h6),trivial⟩)
      (fun h6=>.y he fun _=>.m p.tasks 1<|.c func38 (InV e.to_ 0 (p.tasks-1)) fun _=>.v (inB e.to_ 0 (p.tasks-1))
       (fun h7=>.rt 2 ⟨aT1 hm he (.inr h7),trivial⟩)
       (fun h7=>.p k 1<|.n t (k+1) [] (hJ.next he h6 h7) aA)))
     (fun h=>let hE:=hJ.all h
      .l (Γ:=Nat) (fun k=>PnJ p k) (fun k=>p.edges.length-k) [1] [1] [0] (fun k=>[vI 4 k]) (fun _=>[]) 0 (h:=PnJ.start p) fun k hJ t=>let hk0:=hJ.le
      .s ((k:Int)<p.edges.length)
       (fun h=>.ex (p:=fun e=>p.edges[k]? = some e) ⟨_,getElem?_eq_getElem (show k<p.edges.length by omega)⟩ fun e he=>
        .l (Γ:=Nat) (fun j=>PtJ p k j e) (fun j=>k-j) [1,4] [1] [0] (fun j=>[vI 5 j]) (fun _=>[]) 0 (h:=PtJ.start p k e) fun j hq t2=>let hj0:=hq.le
         .s ((j:Int)<(k:Int))
          (fun h5=>.y he fun _=>.x p.edges j (h:=by omega) fun f hf gf=>.qe (uD e f) aB<|.sb (eqB e f)
           (fun h6=>.rt 3 ⟨bY4 hm hE he (pt_hit aA hf h6),trivial⟩)
           (fun h6=>.p j 1<|.n t2 (j+1) [] (hq.next aA hf h6) aA))
          (fun h5=>.p k 1<|.n t (k+1) [] (hJ.next he (by have:=hq.no;rwa [show j=k by omega]at this)) aA))
       (fun h=>let hN:=hJ.all h
        .l (Γ:=Nat) (fun k=>PcJ p k) (fun k=>p.tasks.toNat-k) [1] [1] [0] (fun k=>[vI 6 k]) (fun _=>[]) 0 (h:=PcJ.start p) fun k hJ t=>let hk0:=hJ.le
        .s ((k:Int)<p.tasks)
         (fun h=>.c func204 (From_s p k hr.1 hr.2 hE aA) (hg:=⟨gp,trivial⟩) fun _=>.x (oJ p.edges p.tasks.toNat (k:Int)) k (h:=by rw[frmOf_len];omega) fun b hb gb=>.sb b
          (fun h6=>.rt 4 ⟨(pf4 hm hE hN ⟨k,by omega,pB_iff.1 ((bD7 hb).symm.trans h6)⟩).symm,trivial⟩)
          (fun h6=>.p k 1<|.n t (k+1) [] (hJ.next aA (fun z=>by have:=bD7 hb;rw[pQ z]at this;rw[this]at h6;cases h6)) aA))
         (fun h=>.rt 0 ⟨hJ.all aA hm hE hN,trivial⟩))))) aB
theorem onesF_t {es:List Edge}{task:Int}{k t:Nat}{e:Edge}(he:es[k]? = some e) (h:e.from_=(t:Int)/\e.to_=task) (l:List Int):l++jH (es.take k) task (t:Int)++[(t:Int)]=l++jH (es.take (k+1)) task (t:Int):=by
 obtain⟨hk,rfl⟩:=gsi_.1 he;rw[onesF_step_t hk h,append_assoc]
theorem bN9 {es:List Edge}{task:Int}{k t:Nat}{e:Edge}(he:es[k]? = some e) (h:¬(e.from_=(t:Int)/\e.to_=task)) (l:List Int):l++jH (es.take k) task (t:Int)=l++jH (es.take (k+1)) task (t:Int):=by
 obtain⟨hk,rfl⟩:=gsi_.1 he;rw[onesF_step_f hk h]
theorem onesT_t {es:List Edge}{task:Int}{k t:Nat}{e:Edge}(he:es[k]? = some e) (h:e.from_=task/\e.to_=(t:Int)) (l:List Int):l++jG (es.take k) task (t:Int)++[(t:Int)]=l++jG (es.take (k+1)) task (t:Int):=by
 obtain⟨hk,rfl⟩:=gsi_.1 he;rw[onesT_step_t hk h,append_assoc]
theorem bN8 {es:List Edge}{task:Int}{k t:Nat}{e:Edge}(he:es[k]? = some e) (h:¬(e.from_=task/\e.to_=(t:Int))) (l:List Int):l++jG (es.take k) task (t:Int)=l++jG (es.take (k+1)) task (t:Int):=by
 obtain⟨hk,rfl⟩:=gsi_.1 he;rw[onesT_step_f hk h]
theorem byF_all {p:Plan}{task:Int}{k i:Nat}(hi:i<=p.edges.length) (h:¬(i:Int)<p.edges.length):bW (cK p.edges task) k++jH (p.edges.take i) task (k:Int)=bW (cK p.edges task) (k+1):=by
 rw[take_of_length_le aA,mP];rfl
theorem byT_all {p:Plan}{task:Int}{k i:Nat}(hi:i<=p.edges.length) (h:¬(i:Int)<p.edges.length):bW (tos p.edges task) k++jG (p.edges.take i) task (k:Int)=bW (tos p.edges task) (k+1):=by
 rw[take_of_length_le aA,mP];rfl
theorem Before_s (p:Plan) (task:Int) (hn:1<=p.tasks/\p.tasks<=12) (hl:p.edges.length<=30) (hE:EdgesIn p.tasks.toNat p.edges):Ct1 prog 205 [.S p,.I task] [.L (lB (cK p.edges task))]:=
 vc func205 (fun hg=>.e Int<|.l (Γ:=Nat) (fun k=>k<=p.tasks.toNat) (fun k=>p.tasks.toNat-k) [1,2] [1] [0] (fun k=>[vR 5 2,vI 6 k]) (fun k=>[oR 2 3 (bW (cK p.edges task) k)]) 0 fun k hk t=>
  .s ((k:Int)<p.tasks)
   (fun h=>.g 2 (show bW (cK p.edges task) k=bW (cK p.edges task) k++jH (p.edges.take 0) task (k:Int) from (append_nil _).symm) <|
    .l (Γ:=Nat) (fun i=>i<=p.edges.length) (fun i=>p.edges.length-i) [1,2,6] [1] [0] (fun i=>[vR 5 2,vI 7 i]) (fun i=>[oR 2 3 (bW (cK p.edges task) k++jH (p.edges.take i) task (k:Int))]) 0 fun i hi t2=>let hln:=onesF_len p.edges task (k:Int) i k
     .s ((i:Int)<p.edges.length)
      (fun h2=>.x p.edges i (h:=by omega) fun e he ge=>.s (e.from_=(k:Int))
       (fun h3=>.y he fun _=>.s (e.to_=task)
        (fun h4=>.a (bW (cK p.edges task) k++jH (p.edges.take i) task (k:Int)) (k:Int) 8 (hy:=by show I64 _;unfold I64;omega) (hby:=by omega)<|.g 2 (onesF_t he ⟨h3,h4⟩ (bW (cK p.edges task) k))<|.p i 1<|.n t2 (i+1) [])
        (fun h4=>.g 2 (bN9 (task:=task) (t:=k) he (fun z=>h4 z.2) (bW (cK p.edges task) k))<|.p i 1<|.n t2 (i+1) []))
       (fun h3=>.g 2 (bN9 (task:=task) (t:=k) he (fun z=>h3 z.1) (bW (cK p.edges task) k))<|.p i 1<|.n t2 (i+1) []))
      (fun h2=>.g 2 (byF_all (p:=p) (task:=task) (k:=k) hi h2)<|.p k 1<|.n t (k+1) []))
   (fun h=>.g 2 (show bW (cK p.edges task) k=lB (cK p.edges task) by rw[show k=p.tasks.toNat by omega];exact aQ0 (aO1 hE task))<|.rt () ⟨trivial,trivial⟩)) aB
theorem Behind_s (p:Plan) (task:Int) (hn:1<=p.tasks/\p.tasks<=12) (hl:p.edges.length<=30) (hE:EdgesIn p.tasks.toNat p.edges):Ct1 prog 223 [.S p,.I task] [.L (lB (tos p.edges task))]:=
 vc func223 (fun hg=>.e Int<|.l (Γ:=Nat) (fun k=>k<=p.tasks.toNat) (fun k=>p.tasks.toNat-k) [1,2] [1] [0] (fun k=>[vR 5 2,vI 6 k]) (fun k=>[oR 2 3 (bW (tos p.edges task) k)]) 0 fun k hk t=>
  .s ((k:Int)<p.tasks)
   (fun h=>.g 2 (show bW (tos p.edges task) k=bW (tos p.edges task) k++jG (p.edges.take 0) task (k:Int) from (append_nil _).symm) <|
    .l (Γ:=Nat) (fun i=>i<=p.edges.length) (fun i=>p.edges.length-i) [1,2,6] [1] [0] (fun i=>[vR 5 2,vI 7 i]) (fun i=>[oR 2 3 (bW (tos p.edges task) k++jG (p.edges.take i) task (k:Int))]) 0 fun i hi t2=>let hln:=onesT_len p.edges task (k:Int) i k
     .s ((i:Int)<p.edges.length)
      (fun h2=>.x p.edges i (h:=by omega) fun e he ge=>.s (e.from_=task)
       (fun h3=>.y he fun _=>.s (e.to_=(k:Int))
        (fun h4=>.a (bW (tos p.edges task) k++jG (p.edges.take i) task (k:Int)) (k:Int) 8 (hy:=by show I64 _;unfold I64;omega) (hby:=by omega)<|.g 2 (onesT_t he ⟨h3,h4⟩ (bW (tos p.edges task) k))<|.p i 1<|.n t2 (i+1) [])
        (fun h4=>.g 2 (bN8 (task:=task) (t:=k) he (fun z=>h4 z.2) (bW (tos p.edges task) k))<|.p i 1<|.n t2 (i+1) []))
       (fun h3=>.g 2 (bN8 (task:=task) (t:=k) he (fun z=>h3 z.1) (bW (tos p.edges task) k))<|.p i 1<|.n t2 (i+1) []))
      (fun h2=>.g 2 (byT_all (p:=p) (task:=task) (k:=k) hi h2)<|.p k 1<|.n t (k+1) []))
   (fun h=>.g 2 (show bW (tos p.edges task) k=lB (tos p.edges task) by rw[show k=p.tasks.toNat by omega];exact aQ0 (bK0 hE task))<|.rt () ⟨trivial,trivial⟩)) aB
def aL (ts:List Task) (s:Int):Int:=((ts.filter (fun t=>decide (t.state=s))).length:Int)
def iS (ts:List Task):List Int:=[aL ts 0,aL ts 1,aL ts 2,aL ts 3,aL ts 4,aL ts 5,aL ts 6]
theorem dG (ts:List Task) (s:Int):0<=aL ts s:=by unfold aL;omega
theorem rF (ts:List Task) (s:Int):aL ts s<=ts.length:=by
 unfold aL;have:=length_filter_le (fun t:Task=>decide (t.state=s)) ts;omega
theorem aP5 {ts:List Task}{k:Nat}(hk:k<ts.length) (s:Int):aL (ts.take (k+1)) s=aL (ts.take k) s+(if ts[k].state=s then 1 else 0):=by
 unfold aL;rw[take_succ_eq_append_getElem hk,filter_append];by_cases h:ts[k].state=s<;>simp[h]
theorem cnts_len (ts:List Task):(iS ts).length=7:=rfl
theorem cnts_nil:iS []=[0,0,0,0,0,0,0]:=rfl
theorem cnts_set {ts:List Task}{k:Nat}(hk:k<ts.length) (h:1<=ts[k].state/\ts[k].state<=6) (hl:ts[k].state.toNat<(iS (ts.take k)).length) :
  (iS (ts.take k)).set ts[k].state.toNat ((iS (ts.take k))[ts[k].state.toNat]'hl+1)=iS (ts.take (k+1)):=by
 have hc:ts[k].state=1∨ts[k].state=2∨ts[k].state=3∨ts[k].state=4∨ts[k].state=5∨ts[k].state=6:=by omega
 have e:iS (ts.take (k+1))=[aL (ts.take k) 0+(if ts[k].state=0 then 1 else 0),aL (ts.take k) 1+(if ts[k].state=1 then 1 else 0),aL (ts.take k) 2+(if ts[k].state=2 then 1 else 0),aL (ts.take k) 3+(if ts[k].state=3 then 1 else 0),aL (ts.take k) 4+(if ts[k].state=4 then 1 else 0),aL (ts.take k) 5+(if ts[k].state=5 then 1 else 0),aL (ts.take k) 6+(if ts[k].state=6 then 1 else 0)]:=by
  unfold iS;simp only[aP5 hk]
 rw[e];generalize ts[k].state=s at hc hl ⊢;rcases hc with rfl | rfl | rfl | rfl | rfl | rfl<;>simp[iS]
theorem cnts_rng (ts:List Task) (i:Nat) (h:i<(iS ts).length):0<=(iS ts)[i]/\(iS ts)[i]<=ts.length:=by
 have hm:(iS ts)[i]∈iS ts:=getElem_mem h;generalize (iS ts)[i]=y at hm;simp only[iS,mem_cons,not_mem_nil,or_false]at hm;rcases hm with rfl | rfl | rfl | rfl | rfl | rfl | rfl<;>exact⟨dG _ _,rF _ _⟩
theorem aV3:∀{ts:List Task},(∀t∈ts,1<=t.state/\t.state<=6)->aL ts 1+aL ts 2+aL ts 3+aL ts 4+aL ts 5+aL ts 6=ts.length
 | [],_=>rfl
 | t::ts,h=>by
  have ih:=aV3 (ts:=ts) (fun x hx=>h x (by simp[hx]));have ht:=h t (by simp);have hs:∀s:Int,aL (t::ts) s=aL ts s+(if t.state=s then 1 else 0):=by
   intro s;unfold aL;by_cases hh:t.state=s<;>simp[hh]
  simp only[hs,length_cons];have hc:t.state=1∨t.state=2∨t.state=3∨t.state=4∨t.state=5∨t.state=6:=by omega
  rcases hc with e | e | e | e | e | e<;>simp[e]<;>omega
theorem xM (ts:List Task) (s:Int):∀k,k<=ts.length->((cH ts s k).length:Int)=aL (ts.take k) s
 | 0,_=>rfl
 | k+1,h=>by
  have ih:=xM ts s k aA;have hk:k<ts.length:=by omega
  rw[aP5 hk];by_cases hh:ts[k].state=s
  ·rw[qM hk hh,length_append,if_pos hh,length_singleton];omega
  rw[vW hk hh,if_neg hh];omega
theorem iH (ts:List Task) (s:Int):((aH ts s).length:Int)=aL ts s:=by
 have:=xM ts s ts.length (Nat.le_refl _)
 rwa [take_length]at this
def bG (ts:List Task):Int:=
 if aL ts 4=ts.length then 2 else if aL ts 5=1/\aL ts 1+aL ts 2+aL ts 3=0 then 3 else if aL ts 5=0/\0<aL ts 6/\aL ts 1+aL ts 2+aL ts 3=0 then 4 else if aL ts 5=0/\aL ts 6=0 then 1 else 0
def eM (r:Run) (x:Int):Bool:=match r.tasks[x.toNat]? with | some t=>decide (t.state=4) | none=>false
def eY (r:Run) (l:List Int):Int:=((l.filter (fun b=> !eM r b)).length:Int)
noncomputable def cO (r:Run) (task:Int):Int:=eY r (aJ r.plan task)
theorem yC {r:Run}{l:List Int}{k:Nat}(hk:k<l.length):eY r (l.take (k+1))=eY r (l.take k)+(if eM r l[k] then 0 else 1):=by
 unfold eY;rw[take_succ_eq_append_getElem hk,filter_append];cases h:eM r l[k]<;>simp[h]
theorem aE1 (r:Run) (l:List Int):0<=eY r l/\eY r l<=l.length:=by
 unfold eY;have:=length_filter_le (fun b=> !eM r b) l;omega
def dR (r:Run) (need:Int) (t:Task):Prop:=
 (1<=t.state/\t.state<=6)/\t.need=need/\(0<=t.try_/\t.try_<=r.plan.most)/\(t.state=3->1<=t.until_/\t.until_<=1000000000)/\(¬t.state=3->t.until_=0) /\
 (t.state=1->0<need)/\(t.state=2->need=0/\t.try_<r.plan.most)/\((t.state=3∨t.state=4∨t.state=5)->need=0/\1<=t.try_)
def nX (r:Run) (k:Nat):Prop:=∀h:k<r.tasks.length,dR r (cO r (k:Int)) r.tasks[k]
noncomputable def dP (r:Run):Bool:=pB ((1<=r.id/\r.id<=9999)/\aC r.plan=0/\(r.tasks.length:Int)=r.plan.tasks/\(∀k,k<r.tasks.length->nX r k)/\r.state=bG r.tasks/\¬r.state=0)
theorem wO {r:Run}{x:Int}(h:x.toNat<r.tasks.length):eM r x=decide (r.tasks[x.toNat].state=4):=by
 unfold eM;rw[getElem?_eq_getElem h]
theorem inB_f' {n a b:Int}:inB n a b=false↔¬(a<=n/\n<=b):=by rw[<- inB_iff',Bool.not_eq_true]
theorem pB_b {p:Prop}{b:Bool}(h:p↔b=true):pB p=b:=by cases b<;>simp_all[pB]
theorem bM8 {r:Run}{b:Bool}(h1:(1<=r.id/\r.id<=9999)/\aC r.plan=0/\(r.tasks.length:Int)=r.plan.tasks) (h4:∀k,k<r.tasks.length->nX r k) (h:(r.state=bG r.tasks/\¬r.state=0)↔b=true):dP r=b:=by
 unfold dP;exact pB_b ⟨fun hz=>h.1 hz.2.2.2.2,fun hb=>⟨h1.1,h1.2.1,h1.2.2,h4,h.2 hb⟩⟩
theorem bY5 {p:Prop}(h:pB p=false):¬p:=fun hp=>by rw[pQ hp]at h;cases h
theorem sA (ts:List Task):(aL ts 4=ts.length->bG ts=2)/\(¬aL ts 4=ts.length->(aL ts 5=1/\aL ts 1+aL ts 2+aL ts 3=0)->bG ts=3) /\
  (¬aL ts 4=ts.length->¬(aL ts 5=1/\aL ts 1+aL ts 2+aL ts 3=0)->(aL ts 5=0/\0<aL ts 6/\aL ts 1+aL ts 2+aL ts 3=0)->bG ts=4) /\
  (¬aL ts 4=ts.length->¬(aL ts 5=1/\aL ts 1+aL ts 2+aL ts 3=0)->¬(aL ts 5=0/\0<aL ts 6/\aL ts 1+aL ts 2+aL ts 3=0)->(aL ts 5=0/\aL ts 6=0)->bG ts=1) /\
  (¬aL ts 4=ts.length->¬(aL ts 5=1/\aL ts 1+aL ts 2+aL ts 3=0)->¬(aL ts 5=0/\0<aL ts 6/\aL ts 1+aL ts 2+aL ts 3=0)->¬(aL ts 5=0/\aL ts 6=0)->bG ts=0):=by
 unfold bG;refine⟨fun h=>by rw[if_pos h],fun h h2=>by rw[if_neg h,if_pos h2],fun h h2 h3=>by rw[if_neg h,if_neg h2,if_pos h3],fun h h2 h3 h4=>by rw[if_neg h,if_neg h2,if_neg h3,if_pos h4],fun h h2 h3 h4=>by rw[if_neg h,if_neg h2,if_neg h3,if_neg h4]⟩
theorem states_of {r:Run}(h:∀j,j<r.tasks.length->nX r j):∀t∈r.tasks,1<=t.state/\t.state<=6:=by
 intro t ht;obtain⟨k,hk,rfl⟩:=getElem_of_mem ht;exact(h k hk hk).1
def dI (t:Task):Task:=⟨6,t.need,t.try_,0⟩
def eK (but:Int) (k:Nat) (t:Task):Task:=if (k:Int)=but∨t.state=4 then t else dI t
def gZ (ts:List Task) (but:Int) (k:Nat):List Task:=ts.mapIdx (fun j t=>if j<k then eK but j t else t)
def dQ (ts:List Task) (but:Int):List Task:=ts.mapIdx (fun j t=>eK but j t)
theorem leaveTo_zero (ts:List Task) (but:Int):gZ ts but 0=ts:=by
 apply ext_getElem?;intro i;simp[gZ,getElem?_mapIdx]
theorem sY (ts:List Task) (but:Int):(dQ ts but).length=ts.length:=by simp[dQ]
theorem leaveTo_at {ts:List Task}{but:Int}{k:Nat}{t:Task}(h:ts[k]? = some t):(gZ ts but k)[k]? = some t:=by
 simp[gZ,getElem?_mapIdx,h]
theorem leaveTo_set {ts:List Task}{but:Int}{k:Nat}{t y:Task}(h:ts[k]? = some t) (hy:eK but k t=y):(gZ ts but k).set k y=gZ ts but (k+1):=by
 apply ext_getElem?;intro i;obtain⟨hl,rfl⟩:=gsi_.1 h;simp only[gZ,getElem?_set,getElem?_mapIdx,length_mapIdx];by_cases e:k=i
 ·subst e;simp[hl,hy]
 rw[if_neg e];cases hi:ts[i]? with
 | none=>rfl
 | some u=>
  have:(i<k)↔(i<k+1):=by omega
  simp[this]
theorem leaveTo_all (ts:List Task) (but:Int):gZ ts but ts.length=dQ ts but:=by
 apply ext_getElem?;intro i;simp only[gZ,dQ,getElem?_mapIdx];cases hi:ts[i]? with
 | none=>rfl
 | some u=>have:=(gsi_.1 hi).1;simp[this]
theorem leaveIf_t {but:Int}{k:Nat}{t:Task}(h:¬(k:Int)=but) (h2:¬t.state=4):eK but k t=dI t:=by unfold eK;rw[if_neg (by simp[h,h2])]
theorem leaveIf_b {but:Int}{k:Nat}{t:Task}(h:(k:Int)=but):eK but k t=t:=by unfold eK;rw[if_pos (.inl h)]
theorem leaveIf_d {but:Int}{k:Nat}{t:Task}(h:t.state=4):eK but k t=t:=by unfold eK;rw[if_pos (.inr h)]
def leaveR (r:Run) (but:Int):Run:=⟨r.id,r.plan,r.state,dQ r.tasks but⟩
def mB (r:Run) (i:Nat) (t:Task):Run:=
 if t.try_<r.plan.most then ⟨r.id,r.plan,r.state,r.tasks.set i ⟨2,t.need,t.try_,0⟩⟩
 else ⟨r.id,r.plan,3,dQ (r.tasks.set i ⟨5,t.need,t.try_,0⟩) i⟩
def bJ (r:Run) (i:Nat):Run:=match r.tasks[i]? with | some t=>mB r i t | none=>r
theorem nO {r:Run}{i:Nat}{t:Task}(h:r.tasks[i]? = some t):bJ r i=mB r i t:=by unfold bJ;rw[h]
theorem gF (ts:List Task) (s:Int):aL ts s=(ts.countP (fun t=>decide (t.state=s)):Nat):=by unfold aL;rw[countP_eq_length_filter]
theorem vL {ts:List Task}{s:Int}{t:Task}(h:t∈ts) (hs:t.state=s):0<aL ts s:=by
 rw[gF];have:=countP_pos_iff (p:=fun t:Task=>decide (t.state=s)) (l:=ts) |>.2 ⟨t,h,by simpa using hs⟩
 omega
theorem nS {ts:List Task}{s:Int}(h:∀t∈ts,¬t.state=s):aL ts s=0:=by
 rw[gF,countP_eq_zero.2 (by intro t ht;simpa using h t ht)];rfl
theorem wX {ts:List Task}{s:Int}(h:aL ts s=0):∀t∈ts,¬t.state=s:=fun t ht hs=>by have:=vL ht hs;omega
theorem zO {ts:List Task}{s:Int}{t:Task}(h:t∈ts) (hs:¬t.state=s):¬aL ts s=ts.length:=by
 rw[gF];intro he;have:=countP_eq_length (p:=fun t:Task=>decide (t.state=s)) (l:=ts) |>.1 aA t h
 exact hs (by simpa using this)
theorem bF5 {ts:List Task}{f:Task->Task}{s:Int}(h:∀t∈ts,((f t).state=s↔t.state=s)):aL (ts.map f) s=aL ts s:=by
 rw[gF,gF,countP_map];congr 1;apply countP_congr;intro t ht;simpa using h t ht
theorem nT {ts:List Task}{i:Nat}(h:i<ts.length) (x:Task) (s:Int):aL (ts.set i x) s=aL ts s-(if ts[i].state=s then 1 else 0)+(if x.state=s then 1 else 0):=by
 rw[gF,gF,countP_set h];have hpos:ts[i].state=s->0<ts.countP (fun t=>decide (t.state=s)):=fun e=>countP_pos_iff.2 ⟨ts[i],getElem_mem h,by simpa using e⟩
 simp only[decide_eq_true_eq];by_cases h1:ts[i].state=s
 ·have:=hpos h1;rw[if_pos h1,if_pos h1];by_cases h2:x.state=s
  ·rw[if_pos h2,if_pos h2];omega
  rw[if_neg h2,if_neg h2];omega
 rw[if_neg h1,if_neg h1];by_cases h2:x.state=s
 ·rw[if_pos h2,if_pos h2];omega
 rw[if_neg h2,if_neg h2];omega
structure RunIs (r:Run):Prop where
 id:1<=r.id/\r.id<=9999
 plan:aC r.plan=0
 len:(r.tasks.length:Int)=r.plan.tasks
 task:∀k,k<r.tasks.length->nX r k
 state:r.state=bG r.tasks
 ne:¬r.state=0
theorem runIs {r:Run}:dP r=true↔RunIs r:=by
 unfold dP;rw[pB_iff];exact⟨fun ⟨a,b,c,d,e,f⟩=>⟨a,b,c,d,e,f⟩,fun h=>⟨h.id,h.plan,h.len,h.task,h.state,h.ne⟩⟩
theorem RunIs.live {r:Run}(h:RunIs r) {t:Task}(ht:t∈r.tasks) (h3:t.state=3):r.state=1/\aL r.tasks 5=0/\aL r.tasks 6=0:=by
 have hs:=h.state;have hn:=h.ne;have c3:=vL ht h3;have c4:=zO (s:=4) ht aA;have p1:=dG r.tasks 1;have p2:=dG r.tasks 2;rw[hs]at hn;rw[hs];unfold bG at hn ⊢;rw[if_neg c4,if_neg aA,if_neg aA]at hn ⊢;by_cases h1:aL r.tasks 5=0/\aL r.tasks 6=0
 ·rw[if_pos h1];exact⟨rfl,h1.1,h1.2⟩
 rw[if_neg h1]at hn;exact absurd rfl hn
theorem RunIs.none5 {r:Run}(h:RunIs r) {t:Task}(ht:t∈r.tasks) (h3:t.state=3):∀u∈r.tasks,¬u.state=5/\¬u.state=6:=fun u hu=>⟨wX (h.live ht h3).2.1 u hu,wX (h.live ht h3).2.2 u hu⟩
def eA (t:Task):Task:=if t.state=4∨t.state=5 then t else dI t
def cU (ts:List Task):List Task:=ts.map eA
theorem aF1 {ts:List Task}{i:Nat}{x:Task}(hi:i<ts.length) (hx:x.state=5) (h:∀u∈ts,¬u.state=5):dQ (ts.set i x) (i:Int)=cU (ts.set i x):=by
 apply ext_getElem?;intro k;unfold dQ cU;rw[getElem?_mapIdx,getElem?_map,getElem?_set];by_cases e:i=k
 ·subst e;simp[hi,eK,eA,hx]
 rw[if_neg e];cases hk:ts[k]? with
 | none=>rfl
 | some u=>
  have h5:=h u (mem_of_getElem? hk);have e':¬(k:Int)=(i:Int):=by omega
  simp[eK,eA,h5,e']
def aG8 (r:Run) (i:Nat):Run:=match r.tasks[i]? with
 | some t=>if t.try_<r.plan.most then ⟨r.id,r.plan,r.state,r.tasks.set i ⟨2,t.need,t.try_,0⟩⟩ else ⟨r.id,r.plan,3,cU (r.tasks.set i ⟨5,t.need,t.try_,0⟩)⟩
 | none=>r
theorem failsS_eq {r:Run}(h:RunIs r) {i:Nat}{t:Task}(ht:r.tasks[i]? = some t) (h3:t.state=3):aG8 r i=bJ r i:=by
 unfold aG8 bJ;rw[ht];simp only[mB];have hm:=mem_of_getElem? ht;rw[aF1 (gsi_.1 ht).1 rfl (fun u hu=>(h.none5 hm h3 u hu).1)]
theorem isDone_of {r r':Run}(h:∀k:Nat,(r'.tasks[k]?).map (fun t=>decide (t.state=4))=(r.tasks[k]?).map (fun t=>decide (t.state=4))) (x:Int):eM r' x=eM r x:=by
 unfold eM;have:=h x.toNat;cases h1:r'.tasks[x.toNat]?<;>cases h2:r.tasks[x.toNat]?<;>simp[h1,h2]at this ⊢
 exact this
theorem qW {r r':Run}(hp:r'.plan=r.plan) (h:∀k:Nat,(r'.tasks[k]?).map (fun t=>decide (t.state=4))=(r.tasks[k]?).map (fun t=>decide (t.state=4))) (x:Int):cO r' x=cO r x:=by
 unfold cO eY;rw[hp];congr 2;apply filter_congr;intro b _;rw[isDone_of h]
theorem tU {r r':Run}{need:Int}{t:Task}(hp:r'.plan=r.plan) (h:dR r need t):dR r' need (dI t):=by
 obtain⟨h1,h2,h3,_⟩:=h;refine⟨⟨by simp[dI],by simp[dI]⟩,h2,by rw[hp];exact h3,?_,?_,?_,?_,?_⟩<;>simp[dI]
theorem iY {r r':Run}{need:Int}{t:Task}(hp:r'.plan=r.plan) (h:dR r need t):dR r' need t:=by
 unfold dR at h ⊢;rw[hp];exact h
theorem RunIs.fails {r:Run}(h:RunIs r) {i:Nat}{t:Task}(ht:r.tasks[i]? = some t) (h3:t.state=3):RunIs (bJ r i):=by
 obtain⟨hi,rfl⟩:=gsi_.1 ht;have hm:r.tasks[i]∈r.tasks:=getElem_mem hi;have hlive:=h.live hm h3;have hn5:=h.none5 hm h3;have htk:=h.task i hi hi;obtain⟨t1,t2,t3,t4,t5,t6,t7,t8⟩:=htk;have t8':=t8 (.inl h3);rw[nO ht];unfold mB;split
 ·next hlt=>
  refine⟨h.id,h.plan,by show ((r.tasks.set i _).length:Int)=_;rw[length_set];exact h.len,?_,?_,by show ¬r.state=0;omega⟩
  ·intro k hk hk';have hk2:k<r.tasks.length:=by simpa using hk
   rw[qW (r:=r) (r':=⟨r.id,r.plan,r.state,r.tasks.set i ⟨2,r.tasks[i].need,r.tasks[i].try_,0⟩⟩) rfl (fun j=>by
    show ((r.tasks.set i _)[j]?).map _=_;rw[getElem?_set];by_cases e:i=j
    ·subst e;simp[hi,h3]
    rw[if_neg e])]
   show dR _ _ ((r.tasks.set i _)[k]'hk');rw[getElem_set];split
   ·next e=>
    subst e;refine⟨⟨by show (1:Int)<=2;omega,by show (2:Int)<=6;omega⟩,t2,t3,?_,fun _=>rfl,?_,fun _=>⟨t8'.1,hlt⟩,?_⟩
    ·intro e;exact absurd (show (2:Int)=3 from e) aA
    ·intro e;exact absurd (show (2:Int)=1 from e) aA
    rintro(e | e | e)
    ·exact absurd (show (2:Int)=3 from e) aA
    ·exact absurd (show (2:Int)=4 from e) aA
    exact absurd (show (2:Int)=5 from e) aA
   exact iY rfl (h.task k hk2 hk2)
  show r.state=bG (r.tasks.set i _);have hmem:(⟨2,r.tasks[i].need,r.tasks[i].try_,0⟩:Task)∈r.tasks.set i ⟨2,r.tasks[i].need,r.tasks[i].try_,0⟩:=mem_set hi _;have c4:=zO (s:=4) hmem (by show ¬(2:Int)=4;omega);have c5:aL (r.tasks.set i ⟨2,r.tasks[i].need,r.tasks[i].try_,0⟩) 5=0:=by rw[nT hi,h3,hlive.2.1];rfl
  have c6:aL (r.tasks.set i ⟨2,r.tasks[i].need,r.tasks[i].try_,0⟩) 6=0:=by rw[nT hi,h3,hlive.2.2];rfl
  unfold bG;rw[if_neg c4,if_neg (by rw[c5];omega),if_neg (by rw[c6];omega),if_pos ⟨c5,c6⟩];exact hlive.1
 next hge=>
 rw[aF1 hi rfl (fun u hu=>(hn5 u hu).1)];have hset:∀j,(cU (r.tasks.set i ⟨5,r.tasks[i].need,r.tasks[i].try_,0⟩))[j]? = (if i=j then some ⟨5,r.tasks[i].need,r.tasks[i].try_,0⟩ else (r.tasks[j]?).map eA):=by
  intro j;unfold cU;rw[getElem?_map,getElem?_set];by_cases e:i=j
  ·subst e;simp[hi,eA]
  rw[if_neg e,if_neg e]
 have hlen:(cU (r.tasks.set i ⟨5,r.tasks[i].need,r.tasks[i].try_,0⟩)).length=r.tasks.length:=by unfold cU;simp
 refine⟨h.id,h.plan,by show ((cU _).length:Int)=_;rw[hlen];exact h.len,?_,?_,by show ¬(3:Int)=0;omega⟩
 ·intro k hk hk';have hk2:k<r.tasks.length:=by rw[<- hlen];exact hk
  rw[qW (r:=r) (r':=⟨r.id,r.plan,3,cU (r.tasks.set i ⟨5,r.tasks[i].need,r.tasks[i].try_,0⟩)⟩) rfl (fun j=>by
   show ((cU _)[j]?).map _=_;rw[hset j];by_cases e:i=j
   ·subst e;simp[hi,h3]
   rw[if_neg e];cases hj:r.tasks[j]? with
   | none=>rfl
   | some u=>
    simp only[Option.map_some,eA];split
    ·rfl
    next hne=>simp[dI];intro e4;exact hne (.inl e4))]
  have hg:(cU (r.tasks.set i ⟨5,r.tasks[i].need,r.tasks[i].try_,0⟩))[k]? = some ((cU (r.tasks.set i ⟨5,r.tasks[i].need,r.tasks[i].try_,0⟩))[k]'hk'):=getElem?_eq_getElem hk';rw[hset k]at hg;show dR _ _ ((cU (r.tasks.set i _))[k]'hk');by_cases e:i=k
  ·rw[if_pos e]at hg;have:=Option.some.inj hg;rw[<- this];subst e;refine⟨⟨by show (1:Int)<=5;omega,by show (5:Int)<=6;omega⟩,t2,t3,?_,fun _=>rfl,?_,?_,fun _=>t8'⟩
   ·intro e;exact absurd (show (5:Int)=3 from e) aA
   ·intro e;exact absurd (show (5:Int)=1 from e) aA
   intro e;exact absurd (show (5:Int)=2 from e) aA
  rw[if_neg e,getElem?_eq_getElem hk2,Option.map_some]at hg;have:=Option.some.inj hg;rw[<- this];unfold eA;split
  ·exact iY rfl (h.task k hk2 hk2)
  exact tU rfl (h.task k hk2 hk2)
 show (3:Int)=bG (cU _);have hst:∀s:Int,s=1∨s=2∨s=3->aL (cU (r.tasks.set i ⟨5,r.tasks[i].need,r.tasks[i].try_,0⟩)) s=0:=by
  intro s hs;apply nS;intro u hu e;unfold cU at hu;obtain⟨v,_,rfl⟩:=mem_map.1 hu;unfold eA at e;split at e
  ·next hc=>omega
  have:(6:Int)=s:=e;omega
 have c5:aL (cU (r.tasks.set i ⟨5,r.tasks[i].need,r.tasks[i].try_,0⟩)) 5=1:=by
  unfold cU;rw[bF5 (fun u _=>by
   unfold eA;split
   ·exact Iff.rfl
   next hc=>
   simp only[not_or]at hc;exact⟨fun e=>absurd (show (6:Int)=5 from e) aA,fun e=>absurd e hc.2⟩),nT hi,h3,hlive.2.1]
  rfl
 have c4:¬aL (cU (r.tasks.set i ⟨5,r.tasks[i].need,r.tasks[i].try_,0⟩)) 4=(cU (r.tasks.set i ⟨5,r.tasks[i].need,r.tasks[i].try_,0⟩)).length:=by
  apply zO (t:=⟨5,r.tasks[i].need,r.tasks[i].try_,0⟩)
  ·exact mem_of_getElem? (i:=i) (by rw[hset i,if_pos rfl])
  show ¬(5:Int)=4;omega
 unfold bG;rw[if_neg c4,if_pos ⟨c5,by rw[hst 1 (.inl rfl),hst 2 (.inr (.inl rfl)),hst 3 (.inr (.inr rfl))];rfl⟩]
theorem jL (r:Run) (i:Nat):(bJ r i).id=r.id/\(bJ r i).plan=r.plan/\(bJ r i).tasks.length=r.tasks.length/\∀(j:Nat) (t:Task),r.tasks[j]? = some t->∃t2,(bJ r i).tasks[j]? = some t2/\t2.try_=t.try_:=by
 unfold bJ;cases hi:r.tasks[i]? with
 | none=>exact⟨rfl,rfl,rfl,fun j t h=>⟨t,h,rfl⟩⟩
 | some u=>
  obtain⟨hl,rfl⟩:=gsi_.1 hi;simp only[mB];split
  ·refine⟨rfl,rfl,by simp,fun j t h=>?_⟩;show ∃t2,(r.tasks.set i _)[j]? = some t2/\_;rw[getElem?_set];by_cases e:i=j
   ·subst e;rw[h]at hi;rw[if_pos rfl,if_pos hl];exact⟨_,rfl,by have:=Option.some.inj hi;rw[this]⟩
   rw[if_neg e];exact⟨t,h,rfl⟩
  refine⟨rfl,rfl,by simp[sY],fun j t h=>?_⟩;show ∃t2,(dQ (r.tasks.set i _) _)[j]? = some t2/\_;unfold dQ;rw[getElem?_mapIdx,getElem?_set];have hli:∀(b:Int) (k:Nat) (x:Task),(eK b k x).try_=x.try_:=by intro b k x;unfold eK;split<;>rfl
  by_cases e:i=j
  ·subst e;rw[h]at hi;rw[if_pos rfl,if_pos hl];exact⟨_,rfl,by rw[hli];have:=Option.some.inj hi;rw[this]⟩
  rw[if_neg e,h];exact⟨_,rfl,hli _ _ _⟩
theorem oY {p:Plan}(h:aC p=0):(1<=p.tasks/\p.tasks<=12)/\p.edges.length<=30/\EdgesIn p.tasks.toNat p.edges:=by
 have h1:=gV h;have h2:=aD3 h1.1;exact⟨h2.1,h2.2,h1.2.1⟩
noncomputable def bM2 (xs:List Int) (hn:xs.length<=1000000):Inc prog 219 (fun _:Unit=>True) where
 T:=fun s us K=>match us with
  | [.on (.ce (.rf j h))]=>match lku s.O j with
   | some (.own i h' xs' _)=>.e0 h h'<|.e1 (⟨i,xs'⟩:Dat) ⟨instShapeInt,xs⟩<|.fn fun fp:List Nat=>K () (.tu []) ⟨s.E,(j,.own instShapeInt h (lB xs) fp)::bB s.O j,lasting s.B,s.nx⟩
   | _=>.no
  | _=>.no
 ok:=by
  intro w0 W s us K h st fa;split at h
  ·next j hd=>
   split at h
   ·next i h' xs' fp hj=>
    obtain⟨rfl,h2,h3⟩:=h;simp only[Dat.mk.injEq]at h2;obtain⟨rfl,h5,h6⟩:=h2;obtain⟨rfl,rfl⟩:=And.intro (eq_of_heq h5) (eq_of_heq h6);have st2:=St.take (rs:=[]) (by simpa [Or,S.rs] using st) hj;rw[append_nil]at st2;refine(SortOwn st2 hn).mono ?_;rintro e W' ⟨rfl,fp',st'⟩;exact⟨(),.tu [],_,trivial,h3 fp',rfl,st',fa.lasting⟩
   exact h.elim
  exact h.elim
theorem froms_t {es:List Edge}{k:Nat}{e:Edge}{task:Int}(h:es[k]? = some e) (he:e.to_=task):cK (es.take k) task++[e.from_]=cK (es.take (k+1)) task:=by
 obtain⟨hk,rfl⟩:=gsi_.1 h;unfold cK;rw[take_succ_eq_append_getElem hk,filter_append,map_append];simp[he]
theorem froms_f {es:List Edge}{k:Nat}{e:Edge}{task:Int}(h:es[k]? = some e) (he:¬e.to_=task):cK (es.take k) task=cK (es.take (k+1)) task:=by
 obtain⟨hk,rfl⟩:=gsi_.1 h;unfold cK;rw[take_succ_eq_append_getElem hk,filter_append,map_append];simp[he]
theorem aJ4 (p:Plan) (task:Int):Ct1 prog 188 [.S p,.I task] [.L (aJ p task)]:=
 .one (aJ p task) (rk:=fun l=>[.L l])<|vc func188 (fun (hg:gin [Par.S p,Par.I task])=>let gp:p.ok:=hg.1.1
  .c func132 (iQ p) (hg:=⟨gp,trivial⟩) fun _=>.u (aC p=0) (fun h=>.rt [] ⟨by unfold aJ;rw[if_neg h],trivial⟩) (fun h=>let he:=(oY h).2.1
   .w Int 3 5<|.la (Γ:=Nat) (fun k=>k<=p.edges.length) (fun k=>p.edges.length-k) (fun k=>[vI 14 k,vR 5 2]) (fun k=>[oR 2 3 (cK (p.edges.take k) task)]) 0 fun k hk t=>let hl:=rA (p.edges.take k) task
    let hl2:(p.edges.take k).length<=30:=(by rw[length_take];omega)
    .s ((k:Int)<p.edges.length)
     (fun h2=>.x p.edges k (h:=by omega) fun e he ge=>.s (e.to_=task)
      (fun h3=>.a (cK (p.edges.take k) task) e.from_ 8 (hy:=(show e.ok from ge).1) (hby:=by omega)<|.g 2 (froms_t he h3)<|.p k 1<|.n t (k+1) [])
      (fun h3=>.g 2 (froms_f he h3)<|.p k 1<|.n t (k+1) []))
     (fun h2=>.sh 2<|.g 2 (show cK (p.edges.take k) task=cK p.edges task by rw[take_of_length_le aA])<|.iv _ func219 (bM2 (cK p.edges task) (by have:=rA p.edges task;omega)) fun _ _=>.rt (lB (cK p.edges task)) ⟨by unfold aJ;rw[if_pos h],trivial⟩))) aB
theorem tos_t {es:List Edge}{k:Nat}{e:Edge}{task:Int}(h:es[k]? = some e) (he:e.from_=task):tos (es.take k) task++[e.to_]=tos (es.take (k+1)) task:=by
 obtain⟨hk,rfl⟩:=gsi_.1 h;unfold tos;rw[take_succ_eq_append_getElem hk,filter_append,map_append];simp[he]
theorem tos_f {es:List Edge}{k:Nat}{e:Edge}{task:Int}(h:es[k]? = some e) (he:¬e.from_=task):tos (es.take k) task=tos (es.take (k+1)) task:=by
 obtain⟨hk,rfl⟩:=gsi_.1 h;unfold tos;rw[take_succ_eq_append_getElem hk,filter_append,map_append];simp[he]
theorem BehindOf_i (p:Plan) (task:Int):Ct1 prog 192 [.S p,.I task] [.L (aO p task)]:=
 .one (aO p task) (rk:=fun l=>[.L l])<|vc func192 (fun (hg:gin [Par.S p,Par.I task])=>let gp:p.ok:=hg.1.1
  .c func132 (iQ p) (hg:=⟨gp,trivial⟩) fun _=>.u (aC p=0) (fun h=>.rt [] ⟨by unfold aO;rw[if_neg h],trivial⟩) (fun h=>let he:=(oY h).2.1
   .w Int 3 5<|.la (Γ:=Nat) (fun k=>k<=p.edges.length) (fun k=>p.edges.length-k) (fun k=>[vI 14 k,vR 5 2]) (fun k=>[oR 2 3 (tos (p.edges.take k) task)]) 0 fun k hk t=>let hl:=yX (p.edges.take k) task
    let hl2:(p.edges.take k).length<=30:=(by rw[length_take];omega)
    .s ((k:Int)<p.edges.length)
     (fun h2=>.x p.edges k (h:=by omega) fun e he ge=>.s (e.from_=task)
      (fun h3=>.a (tos (p.edges.take k) task) e.to_ 8 (hy:=(show e.ok from ge).2) (hby:=by omega)<|.g 2 (tos_t he h3)<|.p k 1<|.n t (k+1) [])
      (fun h3=>.g 2 (tos_f he h3)<|.p k 1<|.n t (k+1) []))
     (fun h2=>.sh 2<|.g 2 (show tos (p.edges.take k) task=tos p.edges task by rw[take_of_length_le aA])<|.iv _ func219 (bM2 (tos p.edges task) (by have:=yX p.edges task;omega)) fun _ _=>.rt (lB (tos p.edges task)) ⟨by unfold aO;rw[if_pos h],trivial⟩))) aB
theorem aR3 (p:Plan) (task:Int) (h:aC p=0):Ct1 prog 205 [.S p,.I task] [.L (aJ p task)]:=by
 have:=Before_s p task (oY h).1 (oY h).2.1 (oY h).2.2;unfold aJ;rw[if_pos h];exact this
theorem BehindP_s (p:Plan) (task:Int) (h:aC p=0):Ct1 prog 223 [.S p,.I task] [.L (aO p task)]:=by
 have:=Behind_s p task (oY h).1 (oY h).2.1 (oY h).2.2;unfold aO;rw[if_pos h];exact this
theorem cE4 {r:Run}{task b:Int}{k:Nat}(hlen:(r.tasks.length:Int)=r.plan.tasks) (h:(aJ r.plan task)[k]? = some b):b=(b.toNat:Int)/\∃t,r.tasks[b.toNat]? = some t:=by
 have h1:=aI3 r.plan task b (mem_of_getElem? h);exact⟨by omega,r.tasks[b.toNat]'(by omega),getElem?_eq_getElem aA⟩
theorem bZ9 {r:Run}{l:List Int}{k:Nat}{b:Int}{t:Task}(h:l[k]? = some b) (ht:r.tasks[b.toNat]? = some t) (h4:t.state=4):eY r (l.take (k+1))=eY r (l.take k):=by
 obtain⟨hk,rfl⟩:=gsi_.1 h;obtain⟨hb,rfl⟩:=gsi_.1 ht;rw[yC hk,wO hb,if_pos (by simpa using h4)];omega
theorem cA0 {r:Run}{l:List Int}{k:Nat}{b:Int}{t:Task}(h:l[k]? = some b) (ht:r.tasks[b.toNat]? = some t) (h4:¬t.state=4):eY r (l.take (k+1))=eY r (l.take k)+1:=by
 obtain⟨hk,rfl⟩:=gsi_.1 h;obtain⟨hb,rfl⟩:=gsi_.1 ht;rw[yC hk,wO hb,if_neg (by simpa using h4)]
theorem bO4 (r:Run) (task:Int) (k:Nat):0<=eY r ((aJ r.plan task).take k)/\eY r ((aJ r.plan task).take k)<=30:=by
 have h1:=aE1 r ((aJ r.plan task).take k);have h2:=kC r.plan task;rw[length_take]at h1;omega
theorem bB1 {r:Run}{task:Int}{k:Nat}(hk:k<=(aJ r.plan task).length) (h:¬(k:Int)<(aJ r.plan task).length):eY r ((aJ r.plan task).take k)=cO r task:=by
 rw[take_of_length_le aA];rfl
theorem NeedOf_i (r:Run) (task:Int) (hlen:(r.tasks.length:Int)=r.plan.tasks):Ct1 prog 195 [.S r,.I task] [.I (cO r task)]:=
 .one (cO r task) (rk:=fun x=>[.I x])<|vc func195 (fun (hg:gin [Par.S r,Par.I task])=>.c func188 (aJ4 r.plan task) (hg:=⟨hg.1.1.2.1,trivial⟩) fun _=>let hbl:=kC r.plan task
  .l (Γ:=Nat×Int) (fun g=>g.1<=(aJ r.plan task).length/\g.2=eY r ((aJ r.plan task).take g.1)) (fun g=>(aJ r.plan task).length-g.1) [2,11,12] [2,3] [0,1] (fun g=>[vI 5 g.2,vI 13 g.1]) (fun _=>[]) (0,0) (h:=⟨Nat.zero_le _,rfl⟩) fun g hJ t=>let hbd:=bO4 r task g.1
   let hj2:=hJ.2
   .s ((g.1:Int)<(aJ r.plan task).length)
    (fun h=>.x (aJ r.plan task) g.1 (h:=by omega) fun b hb gb=>let hbt:=cE4 hlen hb
     .ex hbt.2 fun u hu=>.ye hu b (he:=hbt.1) fun gu=>.u (u.state=4)
      (fun h4=>.p g.2 1<|.p g.1 1<|.n t (g.1+1,g.2+1) [] ⟨by show g.1+1<=_;omega,by show g.2+1=_;rw[cA0 hb hu h4,hJ.2]⟩ (by dsimp only;omega))
      (fun h4=>.p g.1 1<|.n t (g.1+1,g.2) [] ⟨by show g.1+1<=_;omega,by show g.2=_;rw[bZ9 hb hu h4,hJ.2]⟩ (by dsimp only;omega)))
    (fun h=>.rt g.2 ⟨hJ.2.trans (bB1 hJ.1 h),trivial⟩)) aB
theorem iX {P:Prop}(h:P:=by (unfold dR;simp only[Bool.and_eq_true,Bool.or_eq_true,Bool.not_eq_true',Bool.or_eq_false_iff,Bool.and_eq_false_iff,Bool.not_eq_false',decide_eq_true_eq,decide_eq_false_iff_not,inB_iff',inB_f',Bool.false_eq_true,iff_false,iff_true]at *;omega)):P:=h
theorem tb_ {p:Prop}{b:Bool}(h:p↔b=true):b=pB p:=(pB_b h).symm
theorem TaskOk_i (r:Run) (k:Nat) (u:Task) (hu:r.tasks[k]? = some u) (hlen:(r.tasks.length:Int)=r.plan.tasks):Ct1 prog 158 [.S r,.I (k:Int)] [.B (pB (dR r (cO r (k:Int)) u))]:=
 .one (pB (dR r (cO r (k:Int)) u)) (rk:=fun x=>[.B x])<|vc func158 (fun (hg:gin [Par.S r,Par.I (k:Int)])=>.y hu fun _=>
  .c func29 (bR u.state 1 6) fun _=>.v (inB u.state 1 6) (fun h=>.rt false ⟨tb_ iX,trivial⟩) (fun h1=>
  .c func195 (NeedOf_i r k hlen) (hg:=⟨hg.1.1,trivial⟩) fun _=>.u (u.need=cO r (k:Int)) (fun h=>.rt false ⟨tb_ iX,trivial⟩) (fun h2=>
  .c func29 (bR u.try_ 0 r.plan.most) fun _=>.v (inB u.try_ 0 r.plan.most) (fun h=>.rt false ⟨tb_ iX,trivial⟩) (fun h3=>
  .s (u.state=3)
   (fun h4=>.c func29 (bR u.until_ 1 1000000000) fun _=>.v (inB u.until_ 1 1000000000) (fun h=>.rt false ⟨tb_ iX,trivial⟩) (fun h5=>
    .uf (u.state=3) h4<|.kf (u.state=1) aA<|.kf (u.state=2) aA<|.kt (u.state=3) h4<|.s (u.need=0) (fun h6=>.rt (decide ((1:Int)<=u.try_)) ⟨tb_ iX,trivial⟩) (fun h6=>.rt false ⟨tb_ iX,trivial⟩)))
   (fun h4=>.ut (u.state=3) h4<|.u (u.until_=0) (fun h=>.rt false ⟨tb_ iX,trivial⟩) (fun h5=>
    .s (u.state=1) (fun h6=>.rt (decide ((0:Int)<u.need)) ⟨tb_ iX,trivial⟩) (fun h6=>
    .s (u.state=2) (fun h7=>.s (u.need=0) (fun h8=>.rt (decide (u.try_<r.plan.most)) ⟨tb_ iX,trivial⟩) (fun h8=>.rt false ⟨tb_ iX,trivial⟩)) (fun h7=>
    .kf (u.state=3) h4<|.s (u.state=4) (fun h8=>.s (u.need=0) (fun h9=>.rt (decide ((1:Int)<=u.try_)) ⟨tb_ iX,trivial⟩) (fun h9=>.rt false ⟨tb_ iX,trivial⟩)) (fun h8=>
    .s (u.state=5) (fun h9=>.s (u.need=0) (fun h10=>.rt (decide ((1:Int)<=u.try_)) ⟨tb_ iX,trivial⟩) (fun h10=>.rt false ⟨tb_ iX,trivial⟩)) (fun h9=>.rt true ⟨tb_ iX,trivial⟩)))))))))) aB
theorem TaskOk_s (r:Run) (k:Nat) (u:Task) (hu:r.tasks[k]? = some u) (hlen:(r.tasks.length:Int)=r.plan.tasks) (hP:aC r.plan=0) (hs:1<=u.state/\u.state<=6):Ct1 prog 171 [.S r,.I (k:Int)] [.B (pB (dR r (cO r (k:Int)) u))]:=
 .one (pB (dR r (cO r (k:Int)) u)) (rk:=fun x=>[.B x])<|vc func171 (fun (hg:gin [Par.S r,Par.I (k:Int)])=>.y hu fun _=>.c func205 (aR3 r.plan k hP) (hg:=⟨hg.1.1.2.1,trivial⟩) fun _=>let hbl:=kC r.plan (k:Int)
  .l (Γ:=Nat×Int) (fun g=>g.1<=(aJ r.plan (k:Int)).length/\g.2=eY r ((aJ r.plan (k:Int)).take g.1)) (fun g=>(aJ r.plan (k:Int)).length-g.1) [2,5,7] [2,4,5] [0,1] (fun g=>[vI 6 g.2,vI 8 g.1]) (fun _=>[]) (0,0) (h:=⟨Nat.zero_le _,rfl⟩) fun g hJ t=>let hbd:=bO4 r (k:Int) g.1
   let hj2:=hJ.2
   .s ((g.1:Int)<(aJ r.plan (k:Int)).length)
    (fun h=>.x (aJ r.plan (k:Int)) g.1 (h:=by omega) fun b hb gb=>let hbt:=cE4 hlen hb
     .ex hbt.2 fun v hv=>.ye hv b (he:=hbt.1) fun gu=>.u (v.state=4)
      (fun h4=>.p g.2 1<|.p g.1 1<|.n t (g.1+1,g.2+1) [] ⟨by show g.1+1<=_;omega,by show g.2+1=_;rw[cA0 hb hv h4,hJ.2]⟩ (by dsimp only;omega))
      (fun h4=>.p g.1 1<|.n t (g.1+1,g.2) [] ⟨by show g.1+1<=_;omega,by show g.2=_;rw[bZ9 hb hv h4,hJ.2]⟩ (by dsimp only;omega)))
    (fun h=>let hn:=hJ.2.trans (bB1 hJ.1 h)
     .u (u.need=g.2) (fun h=>.rt false ⟨tb_ iX,trivial⟩) (fun h2=>
     .c func38 (InV u.try_ 0 r.plan.most) fun _=>.v (inB u.try_ 0 r.plan.most) (fun h=>.rt false ⟨tb_ iX,trivial⟩) (fun h3=>
     .s (u.state=3)
      (fun h4=>.c func38 (InV u.until_ 1 1000000000) fun _=>.v (inB u.until_ 1 1000000000) (fun h=>.rt false ⟨tb_ iX,trivial⟩) (fun h5=>
       .uf (u.state=3) h4<|.kf (u.state=1) aA<|.kf (u.state=2) aA<|.kt (u.state=3) h4<|.s (g.2=0) (fun h6=>.rt (decide ((1:Int)<=u.try_)) ⟨tb_ iX,trivial⟩) (fun h6=>.rt false ⟨tb_ iX,trivial⟩)))
      (fun h4=>.ut (u.state=3) h4<|.u (u.until_=0) (fun h=>.rt false ⟨tb_ iX,trivial⟩) (fun h5=>
       .s (u.state=1) (fun h6=>.rt (decide ((0:Int)<g.2)) ⟨tb_ iX,trivial⟩) (fun h6=>
       .s (u.state=2) (fun h7=>.s (g.2=0) (fun h8=>.rt (decide (u.try_<r.plan.most)) ⟨tb_ iX,trivial⟩) (fun h8=>.rt false ⟨tb_ iX,trivial⟩)) (fun h7=>
       .kf (u.state=3) h4<|.s (u.state=4) (fun h8=>.s (g.2=0) (fun h9=>.rt (decide ((1:Int)<=u.try_)) ⟨tb_ iX,trivial⟩) (fun h9=>.rt false ⟨tb_ iX,trivial⟩)) (fun h8=>
       .s (u.state=5) (fun h9=>.s (g.2=0) (fun h10=>.rt (decide ((1:Int)<=u.try_)) ⟨tb_ iX,trivial⟩) (fun h10=>.rt false ⟨tb_ iX,trivial⟩)) (fun h9=>.rt (decide (u.state=6)) ⟨tb_ iX,trivial⟩)))))))))) aB
theorem aX7 {ts:List Task}{s:Int}{k:Nat}{u:Task}(hu:ts[k]? = some u) (h:u.state=s):cH ts s k++[(k:Int)]=cH ts s (k+1):=by
 obtain⟨hk,rfl⟩:=gsi_.1 hu;rw[qM hk h]
theorem aX8 {ts:List Task}{s:Int}{k:Nat}{u:Task}(hu:ts[k]? = some u) (h:¬u.state=s):cH ts s k=cH ts s (k+1):=by
 obtain⟨hk,rfl⟩:=gsi_.1 hu;rw[vW hk h]
theorem tiAll {ts:List Task}{s:Int}{k:Nat}(hk:k<=ts.length) (h:¬(k:Int)<ts.length):cH ts s k=aH ts s:=by
 rw[show k=ts.length by omega];rfl
theorem kD (r:Run) (s:Int) (hl:r.tasks.length<=1048576):Ct1 prog 136 [.S r,.I s] [.L (aH r.tasks s)]:=
 vc func136 (fun hg=>.w Int 3 5<|.l (Γ:=Nat) (fun k=>k<=r.tasks.length) (fun k=>r.tasks.length-k) [1,2,9,10] [2] [0,1] (fun k=>[vR 5 3,vI 11 k]) (fun k=>[oR 3 3 (cH r.tasks s k)]) 0 fun k hk t=>
  .s ((k:Int)<r.tasks.length)
   (fun h=>.x r.tasks k (h:=by omega) fun u hu gu=>let hln:=eP r.tasks s k
    .s (u.state=s)
    (fun h2=>.a (cH r.tasks s k) (k:Int) 8 (hy:=by show I64 _;unfold I64;omega) (hby:=by omega)<|.g 3 (aX7 hu h2)<|.p k 1<|.n t (k+1) [])
    (fun h2=>.g 3 (aX8 hu h2)<|.p k 1<|.n t (k+1) []))
   (fun h=>.g 3 (tiAll (s:=s) hk h)<|.rt () ⟨trivial,trivial⟩)) aB
structure RkJ (r:Run) (k:Nat):Prop where
 le:k<=r.tasks.length
 ok:∀j,j<k->nX r j
theorem RkJ.start (r:Run):RkJ r 0:=⟨Nat.zero_le _,fun j h=>by omega⟩
theorem RkJ.next {r:Run}{k:Nat}{u:Task}(h:RkJ r k) (hu:r.tasks[k]? = some u) (ho:pB (dR r (cO r (k:Int)) u)=true):RkJ r (k+1):=by
 obtain⟨hk,rfl⟩:=gsi_.1 hu;refine⟨hk,fun j hj=>?_⟩;rcases Nat.lt_succ_iff_lt_or_eq.1 hj with h1 | rfl
 ·exact h.ok j h1
 exact fun _=>pB_iff.1 ho
theorem bY1 {r:Run}{k:Nat}{u:Task}(hu:r.tasks[k]? = some u) (ho:pB (dR r (cO r (k:Int)) u)=false):false=dP r:=by
 obtain⟨hk,rfl⟩:=gsi_.1 hu;unfold dP;rw[kX (fun hz=>bY5 ho (hz.2.2.2.1 k hk hk))]
theorem aM2 {r:Run}(h:¬((1<=r.id/\r.id<=9999)/\aC r.plan=0/\(r.tasks.length:Int)=r.plan.tasks)):false=dP r:=by
 unfold dP;rw[kX (fun hz=>h ⟨hz.1,hz.2.1,hz.2.2.1⟩)]
theorem rk_st {r:Run}(h:∃(k:Nat) (u:Task),r.tasks[k]? = some u/\¬(1<=u.state/\u.state<=6)):false=dP r:=by
 obtain⟨k,u,hu,h⟩:=h;obtain⟨hk,rfl⟩:=gsi_.1 hu;unfold dP;rw[kX (fun hz=>h (hz.2.2.2.1 k hk hk).1)]
theorem aY8 {r:Run}{k:Nat}(h:RkJ r k) (hk:¬(k:Int)<r.tasks.length):(∀j,j<r.tasks.length->nX r j)/\(aL r.tasks 1+aL r.tasks 2+aL r.tasks 3+aL r.tasks 4+aL r.tasks 5+aL r.tasks 6=r.tasks.length):=by
 have h1:∀j,j<r.tasks.length->nX r j:=fun j hj=>h.ok j (by have:=h.le;omega)
 exact⟨h1,aV3 (states_of h1)⟩
theorem bT0 (r:Run):Ct1 prog 102 [.S r] [.B (dP r)]:=
 .one (dP r) (rk:=fun x=>[.B x])<|vc func102 (fun (hg:gin [Par.S r])=>let gr:=hg.1.1
  .c func29 (bR r.id 1 9999) fun _=>.v (inB r.id 1 9999) (fun h=>.rt false ⟨aM2 (fun z=>sZ h z.1),trivial⟩) (fun h1=>
  .c func132 (iQ r.plan) (hg:=⟨gr.2.1,trivial⟩) fun _=>.u (aC r.plan=0) (fun h=>.rt false ⟨aM2 (fun z=>h z.2.1),trivial⟩) (fun h2=>
  .u ((r.tasks.length:Int)=r.plan.tasks) (fun h=>.rt false ⟨aM2 (fun z=>h z.2.2),trivial⟩) (fun h3=>let hpt:=(oY h2).1
  .l (Γ:=Nat) (fun k=>RkJ r k) (fun k=>r.tasks.length-k) [1,28,29] [2] [0,1] (fun k=>[vI 30 k]) (fun _=>[]) 0 (h:=RkJ.start r) fun k hJ t=>let hk0:=hJ.le
   .s ((k:Int)<r.tasks.length)
    (fun h=>.ex (p:=fun u=>r.tasks[k]? = some u) ⟨_,getElem?_eq_getElem (show k<r.tasks.length by omega)⟩ fun u hu=>.c func158 (TaskOk_i r k u hu h3) (hg:=⟨gr,trivial⟩) fun _=>.v (pB (dR r (cO r (k:Int)) u))
     (fun h4=>.rt false ⟨bY1 hu h4,trivial⟩)
     (fun h4=>.p k 1<|.n t (k+1) [] (hJ.next hu h4) aA))
    (fun h=>let hf:=aY8 hJ h
     let hc:=sA r.tasks
     let e4:=iH r.tasks 4
     let e5:=iH r.tasks 5
     let e6:=iH r.tasks 6
     let n1:=dG r.tasks 1
     let n2:=dG r.tasks 2
     let n3:=dG r.tasks 3
     let hs:=hf.2
     let fin:∀{b:Bool},((r.state=bG r.tasks/\¬r.state=0)↔b=true)->b=dP r:=fun hz=>(bM8 ⟨inB_iff.1 h1,h2,h3⟩ hf.1 hz).symm
     let over:=((aH r.tasks 4).length:Int)+(aH r.tasks 5).length+(aH r.tasks 6).length=r.tasks.length
     let tail:¬((aH r.tasks 4).length:Int)=r.tasks.length->¬(((aH r.tasks 5).length:Int)=1/\over)->¬(((aH r.tasks 5).length:Int)=0/\(0:Int)<(aH r.tasks 6).length/\over)->D prog (fun a:Bool=>a=dP r/\rgd [Rk.B a]):=fun q1 q2 q3=>
      .s (r.state=1)
       (fun q4=>.s (((aH r.tasks 5).length:Int)=0)
        (fun q5=>.rt (decide (((aH r.tasks 6).length:Int)=0)) ⟨fin (by simp only[decide_eq_true_eq];omega),trivial⟩)
        (fun q5=>.rt false ⟨fin (by simp only[Bool.false_eq_true,iff_false];omega),trivial⟩))
       (fun q4=>.rt false ⟨fin (by simp only[Bool.false_eq_true,iff_false];omega),trivial⟩)
     .c func136 (kD r 4 aA) (hg:=⟨gr,trivial⟩) fun _=>.c func136 (kD r 5 aA) (hg:=⟨gr,trivial⟩) fun _=>.c func136 (kD r 6 aA) (hg:=⟨gr,trivial⟩) fun _=>
     .p ((aH r.tasks 4).length:Int) ((aH r.tasks 5).length:Int) (h:=by unfold I64;omega)<|.p (((aH r.tasks 4).length:Int)+(aH r.tasks 5).length) ((aH r.tasks 6).length:Int) (h:=by unfold I64;omega) <|
     .s (((aH r.tasks 4).length:Int)=r.tasks.length)
      (fun q1=>.rt (decide (r.state=2)) ⟨fin (by simp only[decide_eq_true_eq];omega),trivial⟩)
      (fun q1=>.s (((aH r.tasks 5).length:Int)=1)
       (fun q2=>.s over
        (fun q3=>.rt (decide (r.state=3)) ⟨fin (by simp only[decide_eq_true_eq];omega),trivial⟩)
        (fun q3=>.kf (((aH r.tasks 5).length:Int)=0) aA<|tail q1 (fun z=>q3 z.2) (fun z=>q3 z.2.2)))
       (fun q2=>.s (((aH r.tasks 5).length:Int)=0)
        (fun q3=>.s ((0:Int)<(aH r.tasks 6).length)
         (fun q4=>.s over
          (fun q5=>.rt (decide (r.state=4)) ⟨fin (by simp only[decide_eq_true_eq];omega),trivial⟩)
          (fun q5=>tail q1 (fun z=>q5 z.2) (fun z=>q5 z.2.2)))
         (fun q4=>tail q1 (fun z=>q2 z.1) (fun z=>q4 z.2.1)))
        (fun q3=>tail q1 (fun z=>q2 z.1) (fun z=>q3 z.1))))))))) aB
theorem cnts_st {ts:List Task}{k:Nat}{u:Task}(hu:ts[k]? = some u) (hs:1<=u.state/\u.state<=6):∃x,(iS (ts.take k))[u.state.toNat]? = some x/\(0<=x/\x<=ts.length)/\(iS (ts.take k)).set u.state.toNat (x+1)=iS (ts.take (k+1)):=by
 obtain⟨hk,rfl⟩:=gsi_.1 hu;have hl:ts[k].state.toNat<(iS (ts.take k)).length:=by rw[cnts_len];omega
 refine⟨_,getElem?_eq_getElem hl,?_,cnts_set hk hs hl⟩;have:=cnts_rng (ts.take k) _ hl;rw[length_take]at this;omega
theorem bS9 (r:Run) (hS:∀t∈r.tasks,1<=t.state/\t.state<=6) (hl:r.tasks.length<=1048576):Ct1 prog 172 [.S r] [.I (bG r.tasks)]:=
 .one (bG r.tasks) (rk:=fun x=>[.I x])<|vc func172 (fun hg=>.li (inferInstance:Dsh Int) 6 [0,0,0,0,0,0,0] (by simp) (by simp) (by intro y hy;simp at hy;subst hy;show I64 0;unfold I64;omega) <|
  .g 3 (cnts_nil.symm)<|.l (Γ:=Nat) (fun k=>k<=r.tasks.length) (fun k=>r.tasks.length-k) [1] [2] [0,1] (fun k=>[vR 3 3,vI 4 k]) (fun k=>[oO 3 (iS (r.tasks.take k))]) 0 fun k hk t=>
   .s ((k:Int)<r.tasks.length)
    (fun h=>.x r.tasks k (h:=by omega) fun u hu gu=>let hs:=hS u (mem_of_getElem? hu)
     .ex (cnts_st hu hs) fun x hx=>.d 3 hx.1 fun gx=>.ie u.state.toNat u.state (he:=by omega)<|.p x 1 (h:=by have:=hx.2.1;unfold I64;omega)<|.ie u.state.toNat u.state (he:=by omega) <|
     .wt 12<|.f 3 (iS (r.tasks.take k)) (x+1) (h:=by have:=hx.2.1;show I64 _;unfold I64;omega)<|.g 3 hx.2.2<|.p k 1<|.n t (k+1) [])
    (fun h=>.g 3 (show iS (r.tasks.take k)=iS r.tasks by rw[take_of_length_le aA]) <|
     let hc:=sA r.tasks
     let n1:=dG r.tasks 1
     let n2:=dG r.tasks 2
     let n3:=dG r.tasks 3
     let m1:=rF r.tasks 1
     let m2:=rF r.tasks 2
     let m3:=rF r.tasks 3
     let rest:=aL r.tasks 1+aL r.tasks 2+aL r.tasks 3=0
     let at5:(iS r.tasks)[5]? = some (aL r.tasks 5):=rfl
     let at6:(iS r.tasks)[6]? = some (aL r.tasks 6):=rfl
     let t13:¬aL r.tasks 4=(r.tasks.length:Int)->¬(aL r.tasks 5=1/\rest)->¬(aL r.tasks 5=0/\(0:Int)<aL r.tasks 6/\rest)->D prog (fun a:Int=>a=bG r.tasks/\rgd [Rk.I a]):=fun q1 q2 q3=>
      .y at5 fun _=>.s (aL r.tasks 5=0)
       (fun q4=>.y at6 fun _=>.s (aL r.tasks 6=0) (fun q5=>.rt 1 ⟨(hc.2.2.2.1 q1 q2 q3 ⟨q4,q5⟩).symm,trivial⟩) (fun q5=>.rt 0 ⟨(hc.2.2.2.2 q1 q2 q3 (fun z=>q5 z.2)).symm,trivial⟩))
       (fun q4=>.rt 0 ⟨(hc.2.2.2.2 q1 q2 q3 (fun z=>q4 z.1)).symm,trivial⟩)
     let t11:¬aL r.tasks 4=(r.tasks.length:Int)->¬(aL r.tasks 5=1/\rest)->D prog (fun a:Int=>a=bG r.tasks/\rgd [Rk.I a]):=fun q1 q2=>
      .y at5 fun _=>.s (aL r.tasks 5=0)
       (fun q3=>.y at6 fun _=>.s ((0:Int)<aL r.tasks 6)
        (fun q4=>.s rest (fun q5=>.rt 4 ⟨(hc.2.2.1 q1 q2 ⟨q3,q4,q5⟩).symm,trivial⟩) (fun q5=>t13 q1 q2 (fun z=>q5 z.2.2)))
        (fun q4=>t13 q1 q2 (fun z=>q4 z.2.1)))
       (fun q3=>t13 q1 q2 (fun z=>q3 z.1))
     .y (show (iS r.tasks)[1]? = some (aL r.tasks 1) from rfl) fun _=>.y (show (iS r.tasks)[2]? = some (aL r.tasks 2) from rfl) fun _=>.p (aL r.tasks 1) (aL r.tasks 2)<|.y (show (iS r.tasks)[3]? = some (aL r.tasks 3) from rfl) fun _=>.p (aL r.tasks 1+aL r.tasks 2) (aL r.tasks 3) (h:=by unfold I64;omega) <|
     .y (show (iS r.tasks)[4]? = some (aL r.tasks 4) from rfl) fun _=>.s (aL r.tasks 4=(r.tasks.length:Int))
      (fun q1=>.rt 2 ⟨(hc.1 q1).symm,trivial⟩)
      (fun q1=>.y at5 fun _=>.s (aL r.tasks 5=1)
       (fun q2=>.s rest (fun q3=>.rt 3 ⟨(hc.2.1 q1 ⟨q2,q3⟩).symm,trivial⟩) (fun q3=>t11 q1 (fun z=>q3 z.2)))
       (fun q2=>t11 q1 (fun z=>q2 z.1))))) aB
structure RsJ (r:Run) (k:Nat):Prop where
 le:k<=r.tasks.length
 ok:∀t∈r.tasks.take k,1<=t.state/\t.state<=6
theorem RsJ.start (r:Run):RsJ r 0:=⟨Nat.zero_le _,fun t h=>by simp at h⟩
theorem RsJ.next {r:Run}{k:Nat}{u:Task}(h:RsJ r k) (hu:r.tasks[k]? = some u) (ho:inB u.state 1 6=true):RsJ r (k+1):=by
 obtain⟨hk,rfl⟩:=gsi_.1 hu;refine⟨hk,fun t ht=>?_⟩;rw[take_add_one,getElem?_eq_getElem hk]at ht;rcases mem_append.1 ht with h1 | h1
 ·exact h.ok t h1
 simp at h1;subst h1;exact inB_iff.1 ho
theorem RsJ.all {r:Run}{k:Nat}(h:RsJ r k) (hk:¬(k:Int)<r.tasks.length):∀t∈r.tasks,1<=t.state/\t.state<=6:=by
 have:=h.ok
 rwa [take_of_length_le aA]at this
theorem aW2 (r:Run):Ct1 prog 118 [.S r] [.B (dP r)]:=
 .one (dP r) (rk:=fun x=>[.B x])<|vc func118 (fun (hg:gin [Par.S r])=>let gr:=hg.1.1
  .c func38 (InV r.id 1 9999) fun _=>.v (inB r.id 1 9999) (fun h=>.rt false ⟨aM2 (fun z=>sZ h z.1),trivial⟩) (fun h1=>
  .c func170 (mR r.plan) (hg:=⟨gr.2.1,trivial⟩) fun _=>.u (aC r.plan=0) (fun h=>.rt false ⟨aM2 (fun z=>h z.2.1),trivial⟩) (fun h2=>
  .u ((r.tasks.length:Int)=r.plan.tasks) (fun h=>.rt false ⟨aM2 (fun z=>h z.2.2),trivial⟩) (fun h3=>let hpt:=(oY h2).1
  .l (Γ:=Nat) (fun k=>RsJ r k) (fun k=>r.tasks.length-k) [1] [2] [0,1] (fun k=>[vI 3 k]) (fun _=>[]) 0 (h:=RsJ.start r) fun k hJ t=>let hk0:=hJ.le
   .s ((k:Int)<r.tasks.length)
    (fun h=>.x r.tasks k (h:=by omega) fun u hu gu=>.c func38 (InV u.state 1 6) fun _=>.v (inB u.state 1 6)
     (fun h4=>.rt false ⟨rk_st ⟨k,u,hu,sZ h4⟩,trivial⟩)
     (fun h4=>.p k 1<|.n t (k+1) [] (hJ.next hu h4) aA))
    (fun h=>let hst:=hJ.all h
     .l (Γ:=Nat) (fun k=>RkJ r k) (fun k=>r.tasks.length-k) [1] [2] [0,1] (fun k=>[vI 4 k]) (fun _=>[]) 0 (h:=RkJ.start r) fun k hJ t=>let hk0:=hJ.le
     .s ((k:Int)<r.tasks.length)
      (fun h=>.ex (p:=fun u=>r.tasks[k]? = some u) ⟨_,getElem?_eq_getElem (show k<r.tasks.length by omega)⟩ fun u hu=>.c func171 (TaskOk_s r k u hu h3 h2 (hst u (mem_of_getElem? hu))) (hg:=⟨gr,trivial⟩) fun _=>.v (pB (dR r (cO r (k:Int)) u))
       (fun h4=>.rt false ⟨bY1 hu h4,trivial⟩)
       (fun h4=>.p k 1<|.n t (k+1) [] (hJ.next hu h4) aA))
      (fun h=>let hf:=aY8 hJ h
       let fin:∀{b:Bool},((r.state=bG r.tasks/\¬r.state=0)↔b=true)->b=dP r:=fun hz=>(bM8 ⟨inB_iff.1 h1,h2,h3⟩ hf.1 hz).symm
       .c func172 (bS9 r hst aA) (hg:=⟨gr,trivial⟩) fun _=>.s (r.state=bG r.tasks)
       (fun q1=>.rt (!decide (r.state=0)) ⟨fin (by simp only[Bool.not_eq_true',decide_eq_false_iff_not];exact⟨fun z=>z.2,fun z=>⟨q1,z⟩⟩),trivial⟩)
       (fun q1=>.rt false ⟨fin (by simp only[Bool.false_eq_true,iff_false];exact fun z=>q1 z.1),trivial⟩))))))) aB
end Go.Proofs.YtpdgdnpajmcaeaaGreat
