/-
  Shelves in order, runs by their numbers, entries that are fresh, of both; told to the reader.
  Slots that are taken, runs that stand in a yard as they should, of both; told to the reader.
  Plans that are right or not, what waits for what, of both; told to the reader.
  Runs that are changed in place, of the program.
  A task that fails: what becomes of a right run. Theory alone.
  Runs that are right or not, of both; told to the reader.
  Yards that are right or not, of both; told to the reader.
  A yard's numbers, as they are put one behind the other. Plain theory; older contracts told anew.
  Plans, runs, yards copied, of both; told to the reader.
  Engines: right or not, copied, of both.
  An element of an owned slice is left out.
  A yard's text, of the program.
  A yard's text, of the reference.
  A mark's steps, plain.
  A mark's steps, as calls; their weights.
  Room for a run, of both.
  An entry put on a shelf, of both.
  What a yard gets on its shelf, of the program.
  Yards of which runs are turned: what is kept. Theory alone.
  What a worker is given, and from which shelf. Theory alone.
  A mark, of both.
  Who holds what, room, new runs, shelves that are taken from, of both; told to the reader.
  A number's text, the shelf of an id, of both; told to the reader.
  Runs of which a task fails, yards that are turned, of the reference.
  What a change of a run lays on the shelves, of both: read where it is called.
  What was told to the reader, as calls (for the older walks).
-/
import Derived.Test.YtanpcpoogkdlaaaGreatQ01
import Derived.Test.YtanpcpoogkdlaaaGreatQ02
import Derived.Test.YtanpcpoogkdlaaaGreatQ03
import Derived.Test.YtanpcpoogkdlaaaGreatQ04
namespace Go.Proofs.YtanpcpoogkdlaaaGreat
set_option linter.unusedSimpArgs false
set_option linter.unusedVariables false
set_option maxRecDepth 100000
set_option maxHeartbeats 2000000
open Go.RowKit Go.Proofs.Tryz List
theorem eL:lU Entry:=fun _ _ _ _ h=>h.2.1
theorem dV (y:Yard) (h:y.wt≤1048576):y.shelf.flatten.length≤1048576∧y.shelf.length≤1048576∧y.runs.length≤1048576:=by
 have h1:=aN1 y
 unfold Yard.wt at h
 unfold Yard.wt at h1
 simp only[wtL] at h h1
 omega
theorem gQ {y:Yard} {k:Nat} {r:Run} (h:y.wt≤1048576) (hr:y.runs[k]? = some r):r.wt≤1048576∧r.tasks.length≤1048576∧r.plan.edges.length≤1048576:=by
 obtain ⟨hk,rfl⟩:=gsi_.1 hr
 have h1:=yard_run hk
 have h2:y.runs[k].tasks.length+y.runs[k].plan.edges.length≤y.runs[k].wt:=by unfold Run.wt Plan.wt;omega
 omega
theorem bH4 (a b:Entry):Ct1 prog 341 [.S a,.S b] [.B (dQ a b)]:=
 .one (dQ a b) (rk:=fun x=>[.B x])<|vc func341 (fun hg => .s (b.prio<a.prio)
  (fun h => .rt true ⟨by unfold dQ;simp[h],trivial⟩)
  (fun h => .s (a.prio=b.prio)
   (fun h2 => .rt (decide (a.seq<b.seq)) ⟨by unfold dQ;simp[h,h2],trivial⟩)
   (fun h2 => .rt false ⟨by unfold dQ;simp[h,h2],trivial⟩))) aC
theorem bH3 (a b:Entry):Ct1 prog 404 [.S a,.S b] [.B (dQ a b)]:=
 .one (dQ a b) (rk:=fun x=>[.B x])<|vc func404 (fun hg => .s (b.prio<a.prio)
  (fun h => .rt true ⟨by unfold dQ;simp[h],trivial⟩)
  (fun h => .s (a.prio=b.prio)
   (fun h2 => .rt (decide (a.seq<b.seq)) ⟨by unfold dQ;simp[h,h2],trivial⟩)
   (fun h2 => .rt false ⟨by unfold dQ;simp[h,h2],trivial⟩))) aC
structure ShfJ (xs:List Entry) (k:Nat):Prop where
 pos:1≤k
 le:k≤xs.length∨k=1
 ok:sS xs k
theorem ShfJ.start (xs:List Entry):ShfJ xs 1:=⟨Nat.le_refl _,.inr rfl,fun i hi=>by omega⟩
theorem ShfJ.step {xs:List Entry} {k:Nat} {a b:Entry} (h:ShfJ xs k) (hk:k<xs.length) (ha:xs[k - 1]? = some a) (hb:xs[k]? = some b) (hab:dQ a b=true):ShfJ xs (k+1):=by
 refine ⟨by omega,.inl aA,shelfTo_step h.pos hk h.ok ?_⟩
 obtain ⟨_,rfl⟩:=gsi_.1 ha
 obtain ⟨_,rfl⟩:=gsi_.1 hb
 exact hab
theorem ShfJ.bad {xs:List Entry} {k:Nat} {a b:Entry} (h:ShfJ xs k) (hk:k<xs.length) (ha:xs[k - 1]? = some a) (hb:xs[k]? = some b) (hab:dQ a b=false):false=cW xs:=by
 obtain ⟨_,rfl⟩:=gsi_.1 ha
 obtain ⟨_,rfl⟩:=gsi_.1 hb
 unfold cW
 rw[kI (fun hz=>shelfTo_bad h.pos hk hab hz.2)]
theorem ShfJ.all {xs:List Entry} {k:Nat} (h:ShfJ xs k) (hk:¬ (k:Int)<xs.length):decide ((xs.length:Int)≤80)=cW xs:=by
 unfold cW
 by_cases h8:xs.length≤80
 ·rw[tD ⟨h8,fun i hi hx=>h.ok i aA hx⟩];simp;omega
 rw[kI (fun hz=>h8 hz.1)];simp;omega
theorem ShfJ.long {xs:List Entry} (h:(80:Int)<xs.length):false=cW xs:=by
 unfold cW;rw[kI (fun hz=>by omega)]
theorem ShelfOk_i (xs:List Entry):Ct1 prog 228 [.L xs] [.B (cW xs)]:=
 .one (cW xs) (rk:=fun x=>[.B x])<|vc func228 (fun (hg:gin [Par.L xs])=>let hl:=hg.1
  .l (Γ:=Nat) (fun k=>ShfJ xs k) (fun k=>xs.length - k) [0] [] [0] (fun k=>[vI 3 k]) (fun _=>[]) 1 (h:=ShfJ.start xs) fun k hJ t=>let hp:=hJ.pos
   .s ((k:Int)<xs.length)
    (fun h => .m (k:Int) 1 (h:=by unfold I64;omega) <| .xe xs (k - 1) ((k:Int) - 1) (h:=by omega) (he:=by omega) fun a ha ga => .x xs k (h:=by omega) fun b hb gb=>
     .c func341 (bH4 a b) fun _ => .v (dQ a b)
      (fun h1 => .rt false ⟨hJ.bad aA ha hb h1,trivial⟩)
      (fun h1 => .p k 1 (h:=by unfold I64;omega) <| .n t (k+1) [] (hJ.step aA ha hb h1) aA))
    (fun h => .rt (decide ((xs.length:Int)≤80)) ⟨hJ.all h,trivial⟩)) aC
theorem ShelfOk_s (xs:List Entry):Ct1 prog 371 [.L xs] [.B (cW xs)]:=
 .one (cW xs) (rk:=fun x=>[.B x])<|vc func371 (fun hg => .s ((80:Int)<xs.length)
  (fun h => .rt false ⟨ShfJ.long h,trivial⟩)
  (fun h8 => .l (Γ:=Nat) (fun k=>ShfJ xs k) (fun k=>xs.length - k) [0] [] [0] (fun k=>[vI 3 k]) (fun _=>[]) 1 (h:=ShfJ.start xs) fun k hJ t=>let hp:=hJ.pos
   .s ((k:Int)<xs.length)
    (fun h => .m (k:Int) 1 (h:=by unfold I64;omega) <| .xe xs (k - 1) ((k:Int) - 1) (h:=by omega) (he:=by omega) fun a ha ga => .x xs k (h:=by omega) fun b hb gb=>
     .c func404 (bH3 a b) fun _ => .v (dQ a b)
      (fun h1 => .rt false ⟨hJ.bad aA ha hb h1,trivial⟩)
      (fun h1 => .p k 1 (h:=by unfold I64;omega) <| .n t (k+1) [] (hJ.step aA ha hb h1) aA))
    (fun h => .rt true ⟨by rw[← hJ.all h];simp;omega,trivial⟩))) aC
structure RaJ (y:Yard) (id:Int) (k:Nat):Prop where
 le:k≤y.runs.length
 no:(y.runs.take k).any (fun r=>decide (r.id=id))=false
theorem RaJ.next {y:Yard} {id:Int} {k:Nat} {r:Run} (h:RaJ y id k) (hr:y.runs[k]? = some r) (hn:¬ r.id=id):RaJ y id (k+1):=by
 obtain ⟨hk,rfl⟩:=gsi_.1 hr
 exact ⟨hk,sF hk h.no (by simp[hn])⟩
theorem RaJ.hit {y:Yard} {id:Int} {k:Nat} {r:Run} (h:RaJ y id k) (hr:y.runs[k]? = some r) (h8:(y.runs.length:Int)≤8) (hn:r.id=id):(k:Int)=aE y id:=by
 obtain ⟨hk,rfl⟩:=gsi_.1 hr
 have:bO y id=some k:=by
  unfold bO
  rw[if_pos aA,nA hk h.no (by simp[hn])]
 rw[cI this]
theorem RaJ.none_ {y:Yard} {id:Int} {k:Nat} (h:RaJ y id k) (hk:¬ ((k:Int)<y.runs.length∧(y.runs.length:Int)≤8)):(-1:Int)=aE y id:=by
 have:bO y id=none:=by
  unfold bO
  split
  ·have:=h.no
   rw[show k=y.runs.length by have:=h.le;omega,take_length] at this
   exact nB this
  rfl
 rw[yK this]
theorem iY (y:Yard) (id:Int) (hw:y.wt≤1048576):Ct1 prog 232 [.S y,.I id] [.I (aE y id)]:=
 .one (aE y id) (rk:=fun x=>[.I x])<|vc func232 (fun hg=>let hb:=dV y hw
  .s ((8:Int)<y.runs.length)
   (fun h => .rt (-1) ⟨RaJ.none_ (k:=0) ⟨Nat.zero_le _,rfl⟩ aA,trivial⟩)
   (fun h8 => .in_ (R':=fun o:Option Nat=>ixI o=aE y id) func344 (
    .la (Γ:=Nat) (RaJ y id) (fun k=>y.runs.length - k) (fun k=>[vI 8 k]) (fun _=>[]) 0 (h:=⟨Nat.zero_le _,rfl⟩) fun k hJ t=>let hl:=hJ.le
     .s ((k:Int)<y.runs.length)
      (fun h => .x y.runs k (h:=by omega) fun r hr gr => .in_ (R':=fun _:Unit=>True) func345 (.rt () trivial) fun _ _ => .s (r.id=id)
       (fun h1 => .rt (some k) (hJ.hit hr aA h1))
       (fun h1 => .p k 1 (h:=by unfold I64;omega) <| .n t (k+1) [] (hJ.next hr h1) aA))
      (fun h => .rt none (hJ.none_ (fun z=>h z.1)))) fun o=>match o with
    | none=>fun ho => .rt (-1) ⟨ho,trivial⟩
    | some k=>fun ho => .rt (k:Int) ⟨ho,trivial⟩)) aC
theorem jT (y:Yard) (id:Int) (hw:y.wt≤1048576):Ct1 prog 291 [.S y,.I id] [.I (aE y id)]:=
 .one (aE y id) (rk:=fun x=>[.I x])<|vc func291 (fun hg=>let hb:=dV y hw
  .l (Γ:=Nat) (fun k=>RaJ y id k) (fun k=>y.runs.length - k) [1,2] [2] [0,1] (fun k=>[vI 5 k]) (fun _=>[]) 0 (h:=⟨Nat.zero_le _,rfl⟩) fun k hJ t=>let hl:=hJ.le
   .s ((k:Int)<y.runs.length)
    (fun h => .s ((y.runs.length:Int)≤8)
     (fun h8 => .x y.runs k (h:=by omega) fun r hr gr => .s (r.id=id)
      (fun h1 => .rt (k:Int) ⟨hJ.hit hr h8 h1,trivial⟩)
      (fun h1 => .p k 1 (h:=by unfold I64;omega) <| .n t (k+1) [] (hJ.next hr h1) aA))
     (fun h8 => .rt (-1) ⟨hJ.none_ (fun z=>h8 z.2),trivial⟩))
    (fun h => .rt (-1) ⟨hJ.none_ (fun z=>h z.1),trivial⟩)) aC
theorem sX {y:Yard} {id:Int} (h:(0:Int)≤aE y id):∃ q:Nat×Run,bO y id=some q.1∧aE y id=(q.1:Int)∧y.runs[q.1]? = some q.2:=by
 cases hi:bO y id with
 | none=>rw[yK hi] at h;omega
 | some k=>exact ⟨(k,y.runs[k]'(yI hi)),rfl,cI hi,getElem?_eq_getElem (yI hi)⟩
theorem rW {α:Type} {ts:List α} {x:Int} (h:inB x 0 ((ts.length:Int) - 1)=true):∃ t,ts[x.toNat]? = some t:=by
 have:=inB_iff.1 h
 exact ⟨ts[x.toNat]'(by omega),getElem?_eq_getElem aA⟩
theorem gT {x b:Int} (h:inB x 0 b=true):x=(x.toNat:Int):=by have:=inB_iff.1 h;omega
theorem aT3 {y:Yard} {e:Entry} (h:¬ (0:Int)≤aE y e.run):false=fresh y e:=by
 have:bO y e.run=none:=by
  cases hi:bO y e.run with
  | none=>rfl
  | some k=>rw[cI hi] at h;omega
 unfold fresh;rw[this]
theorem aT4 {y:Yard} {e:Entry} {k:Nat} {r:Run} (hk:bO y e.run=some k) (hr:y.runs[k]? = some r):fresh y e=(inB e.task 0 ((r.tasks.length:Int) - 1) && (match r.tasks[e.task.toNat]? with | some t=>decide (t.state=2) | none=>false)):=by
 unfold fresh;rw[hk];simp only[hr] <;> rfl
theorem aH9 {y:Yard} {e:Entry} {k:Nat} {r:Run} (hk:bO y e.run=some k) (hr:y.runs[k]? = some r) (h:inB e.task 0 ((r.tasks.length:Int) - 1)=false):false=fresh y e:=by rw[aT4 hk hr,h];rfl
theorem aT5 {y:Yard} {e:Entry} {k:Nat} {r:Run} {t:Task} (hk:bO y e.run=some k) (hr:y.runs[k]? = some r) (h:inB e.task 0 ((r.tasks.length:Int) - 1)=true) (ht:r.tasks[e.task.toNat]? = some t):decide (t.state=2)=fresh y e:=by rw[aT4 hk hr,h,ht];rfl
theorem bG8 (y:Yard) (e:Entry) (hw:y.wt≤1048576):Ct1 prog 346 [.S y,.S e] [.B (fresh y e)]:=
 .one (fresh y e) (rk:=fun x=>[.B x])<|vc func346 (fun (hg:gin [Par.S y,Par.S e]) => .c func232 (iY y e.run hw) (hg:=⟨hg.1.1,trivial⟩) fun _ => .s ((0:Int)≤aE y e.run)
  (fun h => .ex (sX h) fun q hq => .ye hq.2.2 (aE y e.run) (he:=hq.2.1) fun gr => .m (q.2.tasks.length:Int) 1 (h:=by have:=gQ hw hq.2.2;unfold I64;omega) <| .c func92 (bN e.task 0 ((q.2.tasks.length:Int) - 1)) fun _=>
   .sb (inB e.task 0 ((q.2.tasks.length:Int) - 1))
    (fun h1 => .ye hq.2.2 (aE y e.run) (he:=hq.2.1) fun _ => .ex (rW h1) fun t ht => .ye ht e.task (he:=gT h1) fun _ => .rt (decide (t.state=2)) ⟨aT5 hq.1 hq.2.2 h1 ht,trivial⟩)
    (fun h1 => .rt false ⟨aH9 hq.1 hq.2.2 h1,trivial⟩))
  (fun h => .rt false ⟨aT3 h,trivial⟩)) aC
theorem bG7 (y:Yard) (e:Entry) (hw:y.wt≤1048576):Ct1 prog 374 [.S y,.S e] [.B (fresh y e)]:=
 .one (fresh y e) (rk:=fun x=>[.B x])<|vc func374 (fun (hg:gin [Par.S y,Par.S e]) => .c func291 (jT y e.run hw) (hg:=⟨hg.1.1,trivial⟩) fun _ => .s ((0:Int)≤aE y e.run)
  (fun h => .ex (sX h) fun q hq => .ye hq.2.2 (aE y e.run) (he:=hq.2.1) fun gr => .m (q.2.tasks.length:Int) 1 (h:=by have:=gQ hw hq.2.2;unfold I64;omega) <| .c func138 (InV e.task 0 ((q.2.tasks.length:Int) - 1)) fun _=>
   .sb (inB e.task 0 ((q.2.tasks.length:Int) - 1))
    (fun h1 => .ye hq.2.2 (aE y e.run) (he:=hq.2.1) fun _ => .ex (rW h1) fun t ht => .ye ht e.task (he:=gT h1) fun _ => .rt (decide (t.state=2)) ⟨aT5 hq.1 hq.2.2 h1 ht,trivial⟩)
    (fun h1 => .rt false ⟨aH9 hq.1 hq.2.2 h1,trivial⟩))
  (fun h => .rt false ⟨aT3 h,trivial⟩)) aC
def kK (y:Yard) (k:Nat):List Entry:=(y.shelf.take k).flatten
theorem mJ {y:Yard} {k:Nat} {l:List Entry} (h:y.shelf[k]? = some l):kK y k++l=kK y (k+1):=by
 obtain ⟨hk,rfl⟩:=gsi_.1 h
 unfold kK;rw[flat_to hk]
theorem aI3 (y:Yard) (k:Nat) (h:y.wt≤1048576):(kK y k).length≤1048576:=Nat.le_trans (bD8 y k) h
theorem qG {y:Yard} {k:Nat} {l:List Entry} (h:y.shelf[k]? = some l) (hw:y.wt≤1048576):(kK y k).length+l.length≤1048576:=by
 have:=aI3 y (k+1) hw
 rw[← mJ h,length_append] at this
 exact this
theorem rX {y:Yard} {k:Nat} (h:k≤y.shelf.length) (hk:¬ (k:Int)<y.shelf.length):kK y k=y.shelf.flatten:=by
 unfold kK;rw[take_of_length_le aA]
theorem aK1 (y:Yard) (hw:y.wt≤1048576):Ct1 prog 229 [.S y] [.L y.shelf.flatten]:=
 vc func229 (fun hg=>let hb:=dV y hw
  .w Entry 243 3 <| .l (Γ:=Nat) (fun k=>k≤y.shelf.length) (fun k=>y.shelf.length - k) [1,7,8] [2] [0,1] (fun k=>[vR 3 3,vI 9 k]) (fun k=>[oR 3 243 (kK y k)]) 0 fun k hk t=>
   .s ((k:Int)<y.shelf.length)
    (fun h => .x y.shelf k (h:=by omega) fun l hl gl=>let hz:=qG hl hw
     .as (inferInstance:Shape Entry) eL (kK y k) l 32 (by unfold maxLen;omega) aA <| .g 3 (mJ hl) <| .p k 1 (h:=by unfold I64;omega) <| .n t (k+1) [])
    (fun h => .g 3 (rX hk h) <| .rt () ⟨trivial,trivial⟩)) aC
theorem aK0 (y:Yard) (hw:y.wt≤1048576):Ct1 prog 292 [.S y] [.L y.shelf.flatten]:=
 vc func292 (fun hg=>let hb:=dV y hw
  .e Entry <| .l (Γ:=Nat) (fun k=>k≤y.shelf.length) (fun k=>y.shelf.length - k) [1] [2] [0,1] (fun k=>[vR 3 3,vI 4 k]) (fun k=>[oR 3 243 (kK y k)]) 0 fun k hk t=>
   .s ((k:Int)<y.shelf.length)
    (fun h => .x y.shelf k (h:=by omega) fun l hl gl=>let hz:=qG hl hw
     .as (inferInstance:Shape Entry) eL (kK y k) l 32 (by unfold maxLen;omega) aA <| .g 3 (mJ hl) <| .p k 1 (h:=by unfold I64;omega) <| .n t (k+1) [])
    (fun h => .g 3 (rX hk h) <| .rt () ⟨trivial,trivial⟩)) aC
def slS (y:Yard) (k:Nat):Nat:=((y.runs.take k).map kF).sum
theorem bK6 (y:Yard) (k:Nat) (h:y.wt≤1048576):slS y k≤1048576:=Nat.le_trans (aF1 y k) h
theorem slS_t {y:Yard} {k:Nat} {r:Run} (hr:y.runs[k]? = some r) (h:r.state=1):slS y (k+1)=slS y k+r.tasks.length:=by
 obtain ⟨hk,rfl⟩:=gsi_.1 hr
 unfold slS;rw[aP9 kF y.runs k hk,slotsR_t h]
theorem slS_f {y:Yard} {k:Nat} {r:Run} (hr:y.runs[k]? = some r) (h:¬ r.state=1):slS y (k+1)=slS y k:=by
 obtain ⟨hk,rfl⟩:=gsi_.1 hr
 unfold slS;rw[aP9 kF y.runs k hk,slotsR_f h];rfl
theorem slE_t {y:Yard} {es:List Entry} {k:Nat} {e:Entry} (he:es[k]? = some e) (h:fresh y e=false):eK y (es.take (k+1))=eK y (es.take k)+1:=by
 obtain ⟨hk,rfl⟩:=gsi_.1 he
 exact slotsE_t hk (by rw[h];rfl)
theorem slE_f {y:Yard} {es:List Entry} {k:Nat} {e:Entry} (he:es[k]? = some e) (h:fresh y e=true):eK y (es.take (k+1))=eK y (es.take k):=by
 obtain ⟨hk,rfl⟩:=gsi_.1 he
 exact slotsE_f hk (by rw[h];rfl)
theorem slots_at {y:Yard} {k i:Nat} (hk:k≤y.runs.length) (h1:¬ (k:Int)<y.runs.length) (hi:i≤y.shelf.flatten.length) (h2:¬ (i:Int)<y.shelf.flatten.length):((slS y k+eK y (y.shelf.flatten.take i):Nat):Int)=cV y:=by
 unfold cV slS;rw[take_of_length_le aA,take_of_length_le aA];omega
theorem slE_le (y:Yard) (i:Nat) (h:y.wt≤1048576):eK y (y.shelf.flatten.take i)≤1048576:=by
 have h1:=pY y (y.shelf.flatten.take i)
 have h2:=aN1 y
 rw[length_take] at h1
 omega
theorem aJ9 (y:Yard) (hw:y.wt≤1048576):Ct1 prog 234 [.S y] [.I (cV y)]:=
 .one (cV y) (rk:=fun x=>[.I x])<|vc func234 (fun (hg:gin [Par.S y])=>let hb:=dV y hw
  .l (Γ:=Nat×Nat) (fun g=>g.1≤y.runs.length∧g.2=slS y g.1) (fun g=>y.runs.length - g.1) [1,9,10] [2] [0,1] (fun g=>[vI 3 g.2,vI 11 g.1]) (fun _=>[]) (0,0) (h:=⟨Nat.zero_le _,rfl⟩) fun g hJ t=>let hs:=bK6 y g.1 hw
   .s ((g.1:Int)<y.runs.length)
    (fun h => .x y.runs g.1 (h:=by omega) fun r hr gr=>let hl:=gQ hw hr
     .s (r.state=1)
     (fun h1 => .p (g.2:Int) (r.tasks.length:Int) (h:=by unfold I64;omega) <| .p g.1 1 (h:=by unfold I64;omega) <| .n t (g.1+1,g.2+r.tasks.length) [] ⟨by show g.1+1≤_;omega,by show _=slS y (g.1+1);rw[slS_t hr h1,hJ.2]⟩ (by dsimp only;omega))
     (fun h1 => .p g.1 1 (h:=by unfold I64;omega) <| .n t (g.1+1,g.2) [] ⟨by show g.1+1≤_;omega,by show _=slS y (g.1+1);rw[slS_f hr h1,hJ.2]⟩ (by dsimp only;omega)))
    (fun h => .c func229 (aK1 y hw) (hg:=⟨hg.1.1,trivial⟩) fun _=>
     .l (Γ:=Nat×Nat) (fun q=>q.1≤y.shelf.flatten.length∧q.2=slS y g.1+eK y (y.shelf.flatten.take q.1)) (fun q=>y.shelf.flatten.length - q.1) [1,25,26] [2,3] [0,1] (fun q=>[vI 3 q.2,vI 27 q.1]) (fun _=>[]) (0,g.2) (h:=⟨Nat.zero_le _,by rw[hJ.2];rfl⟩) fun q hq t2=>let hse:=slE_le y q.1 hw
      let hs2:(q.2:Int)≤4194304:=by have:=hq.2;omega
      .s ((q.1:Int)<y.shelf.flatten.length)
       (fun h2 => .x y.shelf.flatten q.1 (h:=by omega) fun e he ge => .c func346 (bG8 y e hw) (hg:=⟨hg.1.1,ge,trivial⟩) fun _ => .v (fresh y e)
        (fun h3 => .p (q.2:Int) 1 (h:=by unfold I64;omega) <| .p q.1 1 (h:=by unfold I64;omega) <| .n t2 (q.1+1,q.2+1) [] ⟨by show q.1+1≤_;omega,by show q.2+1=slS y g.1+_;rw[slE_t he h3,hq.2];rfl⟩ (by dsimp only;omega))
        (fun h3 => .p q.1 1 (h:=by unfold I64;omega) <| .n t2 (q.1+1,q.2) [] ⟨by show q.1+1≤_;omega,by show q.2=slS y g.1+_;rw[slE_f he h3,hq.2]⟩ (by dsimp only;omega)))
       (fun h2 => .rt (q.2:Int) ⟨by rw[hq.2];exact slots_at hJ.1 h hq.1 h2,trivial⟩))) aC
def slF (y:Yard) (i:Nat):Nat:=eK y (kK y i)
theorem slF_le (y:Yard) (i:Nat) (h:y.wt≤1048576):slF y i≤1048576:=Nat.le_trans (pY y _) (aI3 y i h)
theorem slF_step {y:Yard} {i j:Nat} {l:List Entry} (hl:y.shelf[i]? = some l) (hj:j≤l.length) (h:¬ (j:Int)<l.length):slF y i+eK y (l.take j)=slF y (i+1):=by
 unfold slF;rw[← mJ hl,slotsE_app,take_of_length_le aA]
theorem slF_all {y:Yard} {k i:Nat} (hk:k≤y.runs.length) (h1:¬ (k:Int)<y.runs.length) (hi:i≤y.shelf.length) (h2:¬ (i:Int)<y.shelf.length):((slS y k+slF y i:Nat):Int)=cV y:=by
 unfold cV slS slF;rw[take_of_length_le aA,rX hi h2];omega
theorem aJ8 (y:Yard) (hw:y.wt≤1048576):Ct1 prog 294 [.S y] [.I (cV y)]:=
 .one (cV y) (rk:=fun x=>[.I x])<|vc func294 (fun (hg:gin [Par.S y])=>let hb:=dV y hw
  .l (Γ:=Nat×Nat) (fun g=>g.1≤y.runs.length∧g.2=slS y g.1) (fun g=>y.runs.length - g.1) [1] [2] [0,1] (fun g=>[vI 3 g.2,vI 4 g.1]) (fun _=>[]) (0,0) (h:=⟨Nat.zero_le _,rfl⟩) fun g hJ t=>let hs:=bK6 y g.1 hw
   .s ((g.1:Int)<y.runs.length)
    (fun h => .x y.runs g.1 (h:=by omega) fun r hr gr=>let hl:=gQ hw hr
     .s (r.state=1)
     (fun h1 => .y hr fun _ => .p (g.2:Int) (r.tasks.length:Int) (h:=by unfold I64;omega) <| .p g.1 1 (h:=by unfold I64;omega) <| .n t (g.1+1,g.2+r.tasks.length) [] ⟨by show g.1+1≤_;omega,by show _=slS y (g.1+1);rw[slS_t hr h1,hJ.2]⟩ (by dsimp only;omega))
     (fun h1 => .p g.1 1 (h:=by unfold I64;omega) <| .n t (g.1+1,g.2) [] ⟨by show g.1+1≤_;omega,by show _=slS y (g.1+1);rw[slS_f hr h1,hJ.2]⟩ (by dsimp only;omega)))
    (fun h => .l (Γ:=Nat×Nat) (fun q=>q.1≤y.shelf.length∧q.2=slS y g.1+slF y q.1) (fun q=>y.shelf.length - q.1) [1] [2] [0,1] (fun q=>[vI 3 q.2,vI 5 q.1]) (fun _=>[]) (0,g.2) (h:=⟨Nat.zero_le _,by rw[hJ.2];rfl⟩) fun q hq t2=>let hse:=slF_le y q.1 hw
      .s ((q.1:Int)<y.shelf.length)
       (fun h2 => .ex (p:=fun l=>y.shelf[q.1]? = some l) ⟨_,getElem?_eq_getElem (show q.1<y.shelf.length by omega)⟩ fun l hl=>let hll:l.length≤1048576:=(by have:=qG hl hw;omega)
        .l (Γ:=Nat×Nat) (fun z=>z.1≤l.length∧z.2=q.2+eK y (l.take z.1)) (fun z=>l.length - z.1) [1,5] [2] [0,1] (fun z=>[vI 3 z.2,vI 6 z.1]) (fun _=>[]) (0,q.2) (h:=⟨Nat.zero_le _,rfl⟩) fun z hz t3=>let hsz:=Nat.le_trans (pY y (l.take z.1)) (length_take_le _ _)
         let hs3:(z.2:Int)≤8388608:=by have:=hz.2;have:=hq.2;omega
         .y hl fun _ => .s ((z.1:Int)<l.length)
          (fun h3 => .y hl fun _ => .x l z.1 (h:=by omega) fun e he ge => .c func374 (bG7 y e hw) (hg:=⟨hg.1.1,ge,trivial⟩) fun _ => .v (fresh y e)
           (fun h4 => .p (z.2:Int) 1 (h:=by unfold I64;omega) <| .p z.1 1 (h:=by unfold I64;omega) <| .n t3 (z.1+1,z.2+1) [] ⟨by show z.1+1≤_;omega,by show z.2+1=q.2+_;rw[slE_t he h4,hz.2];rfl⟩ (by dsimp only;omega))
           (fun h4 => .p z.1 1 (h:=by unfold I64;omega) <| .n t3 (z.1+1,z.2) [] ⟨by show z.1+1≤_;omega,by show z.2=q.2+_;rw[slE_f he h4,hz.2]⟩ (by dsimp only;omega)))
          (fun h3 => .p q.1 1 (h:=by unfold I64;omega) <| .n t2 (q.1+1,z.2) [] ⟨by show q.1+1≤_;omega,by show z.2=slS y g.1+slF y (q.1+1);rw[← slF_step hl hz.1 h3,hz.2,hq.2];omega⟩ (by dsimp only;omega)))
       (fun h2 => .rt (q.2:Int) ⟨by rw[hq.2];exact slF_all hJ.1 h hq.1 h2,trivial⟩))) aC
structure EnJ (r:Run) (es:List Entry) (k:Nat) (g:Nat×Nat):Prop where
 le:g.1≤es.length
 pr:uK r k (es.take g.1)
 cnt:g.2=aN6 r.id (k:Int) (es.take g.1)
 bd:g.2≤g.1
theorem EnJ.start (r:Run) (es:List Entry) (k:Nat):EnJ r es k (0,0):=⟨Nat.zero_le _,fun _ e he=>by simp at he,rfl,Nat.le_refl _⟩
theorem EnJ.skip {r:Run} {es:List Entry} {k:Nat} {g:Nat×Nat} {e:Entry} (h:EnJ r es k g) (he:es[g.1]? = some e) (hn:¬ (e.run=r.id∧e.task=(k:Int))):EnJ r es k (g.1+1,g.2):=by
 obtain ⟨hk,rfl⟩:=gsi_.1 he
 exact ⟨hk,vY hk h.pr (fun _ h1 h2 _=>absurd ⟨h1,h2⟩ hn),by rw[h.cnt];exact (entN_f hk hn).symm,Nat.le_succ_of_le h.bd⟩
theorem EnJ.take {r:Run} {es:List Entry} {k:Nat} {g:Nat×Nat} {e:Entry} {t:Task} (h:EnJ r es k g) (he:es[g.1]? = some e) (h1:e.run=r.id) (h2:e.task=(k:Int)) (ht:r.tasks[k]? = some t) (h3:t.state=2→e.prio=r.plan.prio):EnJ r es k (g.1+1,g.2+1):=by
 obtain ⟨hk,rfl⟩:=gsi_.1 he
 obtain ⟨hkt,rfl⟩:=gsi_.1 ht
 exact ⟨hk,vY hk h.pr (fun _ _ _ h4=>h3 h4),by rw[h.cnt];exact (entN_t hk ⟨h1,h2⟩).symm,Nat.succ_le_succ h.bd⟩
theorem EnJ.bad {now:Int} {r:Run} {es:List Entry} {k:Nat} {g:Nat×Nat} {e:Entry} {t:Task} (h:EnJ r es k g) (he:es[g.1]? = some e) (h1:e.run=r.id) (h2:e.task=(k:Int)) (ht:r.tasks[k]? = some t) (h3:t.state=2) (h4:¬ e.prio=r.plan.prio):false=eP now r es:=by
 obtain ⟨hk,rfl⟩:=gsi_.1 he
 obtain ⟨hkt,rfl⟩:=gsi_.1 ht
 unfold eP
 rw[kI (fun hz=>prioOk_bad hk hkt h1 h2 h3 h4 (hz k hkt).1)]
structure RoJ (now:Int) (r:Run) (es:List Entry) (k:Nat):Prop where
 le:k≤r.tasks.length
 ok:∀ j,j<k→aL5 now r es j
theorem RoJ.start (now:Int) (r:Run) (es:List Entry):RoJ now r es 0:=⟨Nat.zero_le _,fun j hj=>by omega⟩
theorem RoJ.next {now:Int} {r:Run} {es:List Entry} {k:Nat} {g:Nat×Nat} {t:Task} (h:RoJ now r es k) (ht:r.tasks[k]? = some t) (hq:EnJ r es k g) (hg:¬ (g.1:Int)<es.length) (h2:t.state=2→(g.2:Int)=1) (h3:t.state=3→inB t.until_ (now+1) (now+r.plan.wait)=true):RoJ now r es (k+1):=by
 obtain ⟨hkt,rfl⟩:=gsi_.1 ht
 refine ⟨hkt,runEnt_step (i:=g.1) (by have:=hq.le;omega) hq.pr (fun _=>⟨fun hs => ?_,fun hs=>inB_iff.1 (h3 hs)⟩) h.ok⟩
 have:=h2 hs
 rw[← hq.cnt]
 omega
theorem RoJ.cnt_bad {now:Int} {r:Run} {es:List Entry} {k:Nat} {g:Nat×Nat} {t:Task} (ht:r.tasks[k]? = some t) (hq:EnJ r es k g) (hg:¬ (g.1:Int)<es.length) (h2:t.state=2) (h3:¬ (g.2:Int)=1):false=eP now r es:=by
 obtain ⟨hkt,rfl⟩:=gsi_.1 ht
 unfold eP
 rw[kI (fun hz => ?_)]
 have h4:=((hz k hkt).2 hkt).1 h2
 have:=hq.cnt
 rw[take_of_length_le (by have:=hq.le;omega)] at this
 omega
theorem RoJ.till_bad {now:Int} {r:Run} {es:List Entry} {k:Nat} {t:Task} (ht:r.tasks[k]? = some t) (h2:t.state=3) (h3:inB t.until_ (now+1) (now+r.plan.wait)=false):false=eP now r es:=by
 obtain ⟨hkt,rfl⟩:=gsi_.1 ht
 unfold eP
 rw[kI (fun hz => ?_)]
 have h4:=((hz k hkt).2 hkt).2 h2
 rw[inB_iff.2 h4] at h3
 cases h3
theorem RoJ.all {now:Int} {r:Run} {es:List Entry} {k:Nat} (h:RoJ now r es k) (hk:¬ (k:Int)<r.tasks.length):true=eP now r es:=by
 unfold eP
 rw[tD (fun j hj=>h.ok j (by have:=h.le;omega))]
theorem RunsOk_i (y:Yard) (r:Run) (es:List Entry) (hn:0≤y.now∧y.now≤999999980) (hwt:0≤r.plan.wait∧r.plan.wait≤20) (hl:es.length≤1048576):Ct1 prog 233 [.S y,.S r,.L es] [.B (eP y.now r es)]:=
 .one (eP y.now r es) (rk:=fun x=>[.B x])<|vc func233 (fun (hg:gin [Par.S y,Par.S r,Par.L es])=>let hrl:=hg.2.1.2.2.1
  .l (Γ:=Nat) (fun k=>RoJ y.now r es k) (fun k=>r.tasks.length - k) [2,3,4,13,14] [5,6] [0,1,2,3,4] (fun k=>[vI 15 k]) (fun _=>[]) 0 (h:=RoJ.start _ _ _) fun k hJ t=>
   .s ((k:Int)<r.tasks.length)
    (fun h => .x r.tasks k (h:=by omega) fun u hu gu => .l (Γ:=Nat×Nat) (fun g=>EnJ r es k g) (fun g=>es.length - g.1) [2,3,4,7,8,13,14,15,20,21] [5,6,8] [0,1,2,3,4] (fun g=>[vI 9 g.2,vI 22 g.1]) (fun _=>[]) (0,0) (h:=EnJ.start _ _ _) fun g hq t2=>let hb:=hq.bd
      let hle:=hq.le
      .s ((g.1:Int)<es.length)
       (fun h2 => .x es g.1 (h:=by omega) fun e he ge => .s (e.run=r.id)
        (fun h3 => .s (e.task=(k:Int))
         (fun h4 => .s (u.state=2)
          (fun h5 => .u (e.prio=r.plan.prio)
           (fun h6 => .rt false ⟨hq.bad he h3 h4 hu h5 h6,trivial⟩)
           (fun h6 => .p (g.2:Int) 1 (h:=by unfold I64;omega) <| .p g.1 1 (h:=by unfold I64;omega) <| .n t2 (g.1+1,g.2+1) [] (hq.take he h3 h4 hu (fun _=>h6)) (by dsimp only;omega)))
          (fun h5 => .p (g.2:Int) 1 (h:=by unfold I64;omega) <| .p g.1 1 (h:=by unfold I64;omega) <| .n t2 (g.1+1,g.2+1) [] (hq.take he h3 h4 hu (fun z=>absurd z h5)) (by dsimp only;omega)))
         (fun h4 => .p g.1 1 (h:=by unfold I64;omega) <| .n t2 (g.1+1,g.2) [] (hq.skip he (fun z=>h4 z.2)) (by dsimp only;omega)))
        (fun h3 => .p g.1 1 (h:=by unfold I64;omega) <| .n t2 (g.1+1,g.2) [] (hq.skip he (fun z=>h3 z.1)) (by dsimp only;omega)))
       (fun h2 => .s (u.state=2)
        (fun h5 => .u ((g.2:Int)=1)
         (fun h6 => .rt false ⟨RoJ.cnt_bad hu hq h2 h5 h6,trivial⟩)
         (fun h6 => .kf (u.state=3) aA <| .p k 1 (h:=by unfold I64;omega) <| .n t (k+1) [] (hJ.next hu hq h2 (fun _=>h6) (fun z=>by omega)) aA))
        (fun h5 => .s (u.state=3)
         (fun h6 => .p y.now 1 (h:=by unfold I64;omega) <| .p y.now r.plan.wait (h:=by unfold I64;omega) <| .c func92 (bN u.until_ (y.now+1) (y.now+r.plan.wait)) fun _ => .v (inB u.until_ (y.now+1) (y.now+r.plan.wait))
          (fun h7 => .rt false ⟨RoJ.till_bad hu h6 h7,trivial⟩)
          (fun h7 => .p k 1 (h:=by unfold I64;omega) <| .n t (k+1) [] (hJ.next hu hq h2 (fun z=>absurd z h5) (fun _=>h7)) aA))
         (fun h6 => .p k 1 (h:=by unfold I64;omega) <| .n t (k+1) [] (hJ.next hu hq h2 (fun z=>absurd z h5) (fun z=>absurd z h6)) aA))))
    (fun h => .rt true ⟨hJ.all h,trivial⟩)) aC
theorem RunsOk_s (y:Yard) (r:Run) (es:List Entry) (hn:0≤y.now∧y.now≤999999980) (hwt:0≤r.plan.wait∧r.plan.wait≤20) (hl:es.length≤1048576):Ct1 prog 293 [.S y,.S r,.L es] [.B (eP y.now r es)]:=
 .one (eP y.now r es) (rk:=fun x=>[.B x])<|vc func293 (fun (hg:gin [Par.S y,Par.S r,Par.L es])=>let hrl:=hg.2.1.2.2.1
  .l (Γ:=Nat) (fun k=>RoJ y.now r es k) (fun k=>r.tasks.length - k) [2,3,4] [5,6] [0,1,2,3,4] (fun k=>[vI 7 k]) (fun _=>[]) 0 (h:=RoJ.start _ _ _) fun k hJ t=>
   .s ((k:Int)<r.tasks.length)
    (fun h => .ex (p:=fun u=>r.tasks[k]? = some u) ⟨_,getElem?_eq_getElem (show k<r.tasks.length by omega)⟩ fun u hu => .l (Γ:=Nat×Nat) (fun g=>EnJ r es k g) (fun g=>es.length - g.1) [2,3,4,7] [5,6] [0,1,2,3,4] (fun g=>[vI 8 g.2,vI 9 g.1]) (fun _=>[]) (0,0) (h:=EnJ.start _ _ _) fun g hq t2=>let hb:=hq.bd
      let hle:=hq.le
      .s ((g.1:Int)<es.length)
       (fun h2 => .x es g.1 (h:=by omega) fun e he ge => .s (e.run=r.id)
        (fun h3 => .y he fun _ => .s (e.task=(k:Int))
         (fun h4 => .p (g.2:Int) 1 (h:=by unfold I64;omega) <| .y hu fun _ => .s (u.state=2)
          (fun h5 => .y he fun _ => .u (e.prio=r.plan.prio)
           (fun h6 => .rt false ⟨hq.bad he h3 h4 hu h5 h6,trivial⟩)
           (fun h6 => .p g.1 1 (h:=by unfold I64;omega) <| .n t2 (g.1+1,g.2+1) [] (hq.take he h3 h4 hu (fun _=>h6)) (by dsimp only;omega)))
          (fun h5 => .p g.1 1 (h:=by unfold I64;omega) <| .n t2 (g.1+1,g.2+1) [] (hq.take he h3 h4 hu (fun z=>absurd z h5)) (by dsimp only;omega)))
         (fun h4 => .p g.1 1 (h:=by unfold I64;omega) <| .n t2 (g.1+1,g.2) [] (hq.skip he (fun z=>h4 z.2)) (by dsimp only;omega)))
        (fun h3 => .p g.1 1 (h:=by unfold I64;omega) <| .n t2 (g.1+1,g.2) [] (hq.skip he (fun z=>h3 z.1)) (by dsimp only;omega)))
       (fun h2 => .y hu fun _ => .s (u.state=2)
        (fun h5 => .u ((g.2:Int)=1)
         (fun h6 => .rt false ⟨RoJ.cnt_bad hu hq h2 h5 h6,trivial⟩)
         (fun h6 => .y hu fun _ => .kf (u.state=3) aA <| .p k 1 (h:=by unfold I64;omega) <| .n t (k+1) [] (hJ.next hu hq h2 (fun _=>h6) (fun z=>by omega)) aA))
        (fun h5 => .y hu fun _ => .s (u.state=3)
         (fun h6 => .y hu fun _ => .p y.now 1 (h:=by unfold I64;omega) <| .p y.now r.plan.wait (h:=by unfold I64;omega) <| .c func138 (InV u.until_ (y.now+1) (y.now+r.plan.wait)) fun _ => .v (inB u.until_ (y.now+1) (y.now+r.plan.wait))
          (fun h7 => .rt false ⟨RoJ.till_bad hu h6 h7,trivial⟩)
          (fun h7 => .p k 1 (h:=by unfold I64;omega) <| .n t (k+1) [] (hJ.next hu hq h2 (fun z=>absurd z h5) (fun _=>h7)) aA))
         (fun h6 => .p k 1 (h:=by unfold I64;omega) <| .n t (k+1) [] (hJ.next hu hq h2 (fun z=>absurd z h5) (fun z=>absurd z h6)) aA))))
    (fun h => .rt true ⟨hJ.all h,trivial⟩)) aC
theorem rV {n a b:Int} (h:inB n a b=false):¬ (a≤n∧n≤b):=fun hh=>by rw[inB_t hh] at h;cases h
theorem pm1 {p:Plan} (h:inB p.tasks 1 12=false):bE p := .inl (rV h)
theorem pm2 {p:Plan} (h:(30:Int)<p.edges.length):bE p := .inr (.inl aA)
theorem pm3 {p:Plan} (h:inB p.prio 0 9=false):bE p := .inr (.inr (.inl (rV h)))
theorem pm4 {p:Plan} (h:inB p.most 1 5=false):bE p := .inr (.inr (.inr (.inl (rV h))))
theorem pm5 {p:Plan} (h:inB p.wait 1 20=false):bE p := .inr (.inr (.inr (.inr (rV h))))
theorem pm0 {p:Plan} (h1:inB p.tasks 1 12=true) (h2:¬ (30:Int)<p.edges.length) (h3:inB p.prio 0 9=true) (h4:inB p.most 1 5=true) (h5:inB p.wait 1 20=true):¬ bE p:=by
 rintro (h | h | h | h | h)
 ·exact h (inB_iff.1 h1)
 ·omega
 ·exact h (inB_iff.1 h3)
 ·exact h (inB_iff.1 h4)
 exact h (inB_iff.1 h5)
theorem yS {p:Plan} (h:¬ bE p):(1≤p.tasks∧p.tasks≤12)∧p.edges.length≤30:=by
 unfold bE at h
 omega
theorem hk_shrI {P:Program} (a s:Int) (ha:0≤a) (hs:0≤s∧s<60):BOk P .shr (I a) (I s) (I (yC a s)):=fun hx hy k=>stp_shrI hx hy ha hs k
theorem hk_andI {P:Program} (a b:Int) (ha:0≤a∧a<4294967296) (hb:0≤b∧b<4294967296):BOk P .and (I a) (I b) (I (aX5 a b)):=fun hx hy k=>stp_andI hx hy ha hb k
section
variable {α:Type} {xs:List α} {y e:α} {k:Nat}
theorem cn_no (h:xs[k]? = some e) (h0:y∉xs.take k) (hp:¬ y=e):y∉xs.take (k+1):=by
 obtain ⟨hk,rfl⟩:=gsi_.1 h
 rw[take_succ_eq_append_getElem hk,mem_append,mem_singleton];exact fun hh=>hh.elim h0 hp
theorem bQ3 (h0:y∉xs.take k) (hn:¬ (k:Int)<xs.length):y∉xs:=by rwa [take_of_length_le aA] at h0
def CnF (y:α) (xs:List α):Option Nat→Prop
 | none=>y∉xs
 | some _=>y∈xs
theorem cn_f [DecidableEq α] (h:CnF y xs none):decide ((0:Int) ≤ -1)=decide (y∈xs):=(decide_eq_false (show ¬ y∈xs from h)).symm
theorem cn_t [DecidableEq α] (h:CnF y xs (some k)):decide ((0:Int)≤(k:Int))=decide (y∈xs):=by rw[decide_eq_true (show y∈xs from h)];exact decide_eq_true aA
end
theorem ContE_i (xs:List Edge) (y:Edge) (hl:xs.length≤1048576):Ct1 prog 377 [.L xs,.S y] [.B (decide (y∈xs))]:=
 .one (decide (y∈xs)) (rk:=fun b=>[.B b])<|vc func377 (fun hg => .in_ (R':=CnF y xs) func405
  (.la (Γ:=Nat) (fun k=>k≤xs.length∧y∉xs.take k) (fun k=>xs.length - k) (fun k=>[vI 8 k]) (fun _=>[]) 0 (h:=⟨Nat.zero_le _,by simp⟩) fun k hk t => .s ((k:Int)<xs.length)
   (fun h => .x xs k (h:=by omega) fun e he ge => .qe (aL3 y e) aC <| .sb (eqB y e)
    (fun h2 => .rt (some k) (by rw[eqB_iff] at h2;subst h2;exact mem_of_getElem? he))
    (fun h2 => .p k 1 (h:=by unfold I64;omega) <| .n t (k+1) [] (h1:=⟨by omega,cn_no he hk.2 (fun hh=>by rw[eqB_iff.2 hh] at h2;cases h2)⟩)))
   (fun h => .rt none (bQ3 hk.2 h))) fun o=>match o with
  | none=>fun ho => .rt (decide ((0:Int) ≤ -1)) ⟨cn_f ho,trivial⟩
  | some k=>fun ho => .rt (decide ((0:Int)≤(k:Int))) ⟨cn_t ho,trivial⟩) aC
theorem bH2 (xs:List Int) (y:Int) (hl:xs.length≤1048576):Ct1 prog 230 [.L xs,.I y] [.B (decide (y∈xs))]:=
 .one (decide (y∈xs)) (rk:=fun b=>[.B b])<|vc func230 (fun hg => .in_ (R':=CnF y xs) func342
  (.la (Γ:=Nat) (fun k=>k≤xs.length∧y∉xs.take k) (fun k=>xs.length - k) (fun k=>[vI 8 k]) (fun _=>[]) 0 (h:=⟨Nat.zero_le _,by simp⟩) fun k hk t => .s ((k:Int)<xs.length)
   (fun h => .x xs k (h:=by omega) fun e he ge => .s (y=e)
    (fun h2 => .rt (some k) (by subst h2;exact mem_of_getElem? he))
    (fun h2 => .p k 1 (h:=by unfold I64;omega) <| .n t (k+1) [] (h1:=⟨by omega,cn_no he hk.2 h2⟩)))
   (fun h => .rt none (bQ3 hk.2 h))) fun o=>match o with
  | none=>fun ho => .rt (decide ((0:Int) ≤ -1)) ⟨cn_f ho,trivial⟩
  | some k=>fun ho => .rt (decide ((0:Int)≤(k:Int))) ⟨cn_t ho,trivial⟩) aC
theorem own_sl {β:Type} [Shape β] {w w':World} {xs:List β} {e:Ending} (h:∃ (v:Value) (fp':List Nat),e = .returned v∧St w w' [Res.own v xs fp']):∃ (a:Unit) (vs:List Value) (rs:List Res),True∧e = .returned (uI vs)∧Rks vs [Rk.L xs] rs∧St w w' rs:=by
 obtain ⟨v,fp,he,st⟩:=h
 exact ⟨(),[v],_,trivial,he,⟨[Res.own v xs fp],[],⟨fp,rfl⟩,rfl,rfl⟩,st⟩
noncomputable def uA (p:Plan):List Int:=dG (cY p.edges (List.replicate p.tasks.toNat 0) p.tasks.toNat)
theorem Waits_i (p:Plan) (hn:1≤p.tasks∧p.tasks≤12) (hl:p.edges.length≤30) (hi:EdgesIn p.tasks.toNat p.edges):Ct1 prog 378 [.S p] [.L (uA p)]:=⟨fun w us _ hp=>by
 match us,hp with
 | [_],⟨⟨cs0,fp0,rfl,hc0⟩,_⟩=>exact (WaitsI w hc0 hn hl hi).mono fun e w' h=>own_sl h⟩
theorem From_s (p:Plan) (t:Int) (hn:1≤p.tasks∧p.tasks≤12) (hl:p.edges.length≤30) (hi:EdgesIn p.tasks.toNat p.edges) (ht:0≤t∧t<p.tasks):Ct1 prog 385 [.S p,.I t] [.L (nX p.edges p.tasks.toNat t)]:=
 vc func385 (fun hg => .mk inferInstance false p.tasks.toNat p.tasks aA 1 aA aA trivial <| .lr (inferInstance:Dsh Int) hQ 14 [t] (by simp) (all1 (by show I64 t;unfold I64;omega)) <|
  .l (Γ:=Nat×List Int×List Bool) (fun g=>BInv p.edges p.tasks.toNat t g.2.1 g.2.2 g.1 0∧g.1≤g.2.1.length) (fun g=>p.tasks.toNat+2 - g.1) [777777,14] [777777] [777777] (fun g=>[vI 7 g.1,vR 6 3]) (fun g=>[oO 2 g.2.2,oR 3 3 g.2.1]) (0,[t],List.replicate p.tasks.toNat false) (h:=⟨BInv.start,Nat.zero_le _⟩) fun g hJ tk=>
   let hq:=hJ.1.len_le
   .s ((g.1:Int)<g.2.1.length)
    (fun h => .l (Γ:=Nat×List Int×List Bool) (fun z=>BInv p.edges p.tasks.toNat t z.2.1 z.2.2 g.1 z.1∧g.1<z.2.1.length∧z.1≤p.edges.length) (fun z=>p.edges.length - z.1) [777777,16] [777777] [777777] (fun z=>[vI 8 z.1,vR 6 3]) (fun z=>[oO 2 z.2.2,oR 3 3 z.2.1]) (0,g.2.1,g.2.2) (h:=⟨hJ.1,by show g.1<g.2.1.length;omega,Nat.zero_le _⟩) fun z hz tz=>
     let hq2:=hz.1.len_le
     let ho2:=hz.1.len
     .s ((z.1:Int)<p.edges.length)
      (fun h2 => .x p.edges z.1 (h:=by omega) fun e he ge => .x z.2.1 g.1 (h:=hz.2.1) fun v hv gv=>
       let hea:=hi e (mem_of_getElem? he)
       let no:¬ (e.from_=v∧z.2.2.getD e.to_.toNat false=false)→D prog (fun _:Unit=>True∧rgd [Rk.L (nX p.edges p.tasks.toNat t)]):=fun hno => .p z.1 1 (h:=by unfold I64;omega) <| .n tz (z.1+1,z.2.1,z.2.2) [] (h1:=⟨hz.1.skip hi he hv hno,hz.2.1,by show z.1+1≤_;omega⟩) (h2:=by show p.edges.length - (z.1+1)<_;omega)
       .s (e.from_=v)
        (fun h3 => .ex (p:=fun b=>z.2.2[e.to_.toNat]? = some b) ⟨_,getElem?_eq_getElem (show e.to_.toNat<z.2.2.length by omega)⟩ fun b hb => .ye hb e.to_ (he:=by omega) fun _ => .v b
         (fun h4=>let ha:=hz.1.add hi he hv h3 (by rw[getD_eq_getElem?_getD,hb,h4];rfl)
          let hal:=ha.len_le
          .d 2 hb fun _ => .ie e.to_.toNat e.to_ (he:=by omega) <| .wt 52 <| .f 2 z.2.2 true (h:=trivial) <| .a z.2.1 e.to_ 8 (hy:=(show e.ok from ge).2) (h63:=by unfold maxLen;omega) (hby:=by omega) <| .p z.1 1 (h:=by unfold I64;omega) <|
          .n tz (z.1+1,z.2.1++[e.to_],z.2.2.set e.to_.toNat true) [] (h1:=⟨ha,by show g.1<(z.2.1++[e.to_]).length;rw[length_append];have:=hz.2.1;omega,by show z.1+1≤_;omega⟩) (h2:=by show p.edges.length - (z.1+1)<_;omega))
         (fun h4=>no (fun hc=>by have:=hc.2;rw[getD_eq_getElem?_getD,hb,h4] at this;cases this)))
        (fun h3=>no (fun hc=>h3 hc.1)))
      (fun h2 => .p g.1 1 (h:=by unfold I64;omega) <| .n tk (g.1+1,z.2.1,z.2.2) [] (h1:=⟨hz.1.next aA,hz.2.1⟩) (h2:=by show p.tasks.toNat+2 - (g.1+1)<_;omega)))
    (fun h => .g 2 (hJ.1.all aA) <| .rt () ⟨trivial,trivial⟩)) aC
theorem many_last {p:Plan} (h1:inB p.tasks 1 12=true) (h2:¬ (30:Int)<p.edges.length) (h3:inB p.prio 0 9=true) (h4:inB p.most 1 5=true):(!inB p.wait 1 20)=pB (bE p):=by
 cases h5:inB p.wait 1 20 with
 | true=>exact (kI (pm0 h1 h2 h3 h4 h5)).symm
 | false=>exact (tD (pm5 h5)).symm
theorem Many_s (p:Plan):Ct1 prog 384 [.S p] [.B (pB (bE p))]:=
 .one (pB (bE p)) (rk:=fun x=>[.B x])<|vc func384 (fun hg=>
  .c func138 (InV p.tasks 1 12) fun _ => .v (inB p.tasks 1 12) (fun h => .rt true ⟨(tD (pm1 h)).symm,trivial⟩) (fun h1 => .s ((30:Int)<p.edges.length) (fun h => .rt true ⟨(tD (pm2 h)).symm,trivial⟩) (fun h2=>
  .c func138 (InV p.prio 0 9) fun _ => .v (inB p.prio 0 9) (fun h => .rt true ⟨(tD (pm3 h)).symm,trivial⟩) (fun h3=>
  .c func138 (InV p.most 1 5) fun _ => .v (inB p.most 1 5) (fun h => .rt true ⟨(tD (pm4 h)).symm,trivial⟩) (fun h4=>
  .c func138 (InV p.wait 1 20) fun _ => .rt (!inB p.wait 1 20) ⟨many_last h1 h2 h3 h4,trivial⟩))))) aC
structure PeJ (p:Plan) (k:Nat):Prop where
 le:k≤p.edges.length
 inn:EdgesIn p.tasks.toNat (p.edges.take k)
theorem PeJ.start (p:Plan):PeJ p 0:=⟨Nat.zero_le _,EdgesIn.nil⟩
theorem PeJ.next {p:Plan} {k:Nat} {e:Edge} (h:PeJ p k) (he:p.edges[k]? = some e) (h1:inB e.from_ 0 (p.tasks - 1)=true) (h2:inB e.to_ 0 (p.tasks - 1)=true):PeJ p (k+1):=by
 obtain ⟨hk,rfl⟩:=gsi_.1 he
 have:=inB_iff.1 h1
 have:=inB_iff.1 h2
 exact ⟨hk,h.inn.step hk aA⟩
theorem aM0 {p:Plan} {k:Nat} {e:Edge} (hm:¬ bE p) (he:p.edges[k]? = some e) (h:inB e.from_ 0 (p.tasks - 1)=false∨inB e.to_ 0 (p.tasks - 1)=false):(2:Int)=aG p:=by
 obtain ⟨hk,rfl⟩:=gsi_.1 he
 refine (pf2 hm fun hE => ?_).symm
 have h1:=hE.at hk
 have h2:=yS hm
 rcases h with h | h
 ·exact rV h aA
 exact rV h aA
theorem PeJ.all {p:Plan} {k:Nat} (h:PeJ p k) (hk:¬ (k:Int)<p.edges.length):EdgesIn p.tasks.toNat p.edges:=by
 have:=h.inn
 rwa [take_of_length_le aA] at this
structure PnJ (p:Plan) (k:Nat):Prop where
 le:k≤p.edges.length
 nd:(p.edges.take k).Nodup
theorem PnJ.start (p:Plan):PnJ p 0:=⟨Nat.zero_le _,nodup_nil⟩
theorem PnJ.next {p:Plan} {k:Nat} {e:Edge} (h:PnJ p k) (he:p.edges[k]? = some e) (h1:e∉p.edges.take k):PnJ p (k+1):=by
 obtain ⟨hk,rfl⟩:=gsi_.1 he
 exact ⟨hk,nodup_step h.nd hk h1⟩
theorem bL6 {p:Plan} {k:Nat} {e:Edge} (hm:¬ bE p) (hE:EdgesIn p.tasks.toNat p.edges) (he:p.edges[k]? = some e) (h1:e∈p.edges.take k):(3:Int)=aG p:=by
 obtain ⟨hk,rfl⟩:=gsi_.1 he
 exact (pf3 hm hE (not_nodup_at hk h1)).symm
theorem PnJ.all {p:Plan} {k:Nat} (h:PnJ p k) (hk:¬ (k:Int)<p.edges.length):p.edges.Nodup:=by
 have:=h.nd
 rwa [take_of_length_le aA] at this
structure PcJ (p:Plan) (k:Nat):Prop where
 le:k≤p.tasks.toNat
 no:∀ t:Nat,t<k→¬ Rch p.edges (t:Int) (t:Int)
theorem PcJ.start (p:Plan):PcJ p 0:=⟨Nat.zero_le _,fun t h=>by omega⟩
theorem PcJ.next {p:Plan} {k:Nat} (h:PcJ p k) (hk:k<p.tasks.toNat) (h1:¬ Rch p.edges (k:Int) (k:Int)):PcJ p (k+1):=⟨hk,fun t ht=>by
 rcases Nat.lt_succ_iff_lt_or_eq.1 ht with h2 | rfl
 ·exact h.no t h2
 ·exact h1⟩
theorem PcJ.all {p:Plan} {k:Nat} (h:PcJ p k) (hk:¬ k<p.tasks.toNat) (hm:¬ bE p) (hE:EdgesIn p.tasks.toNat p.edges) (hN:p.edges.Nodup):(0:Int)=aG p:=
 (pf0 hm hE hN fun ⟨t,ht,hr⟩=>h.no t (by have:=h.le;omega) hr).symm
theorem xI (p:Plan):(uA p).length=p.tasks.toNat:=by unfold uA;rw[aJ1,jH,length_replicate]
theorem waitsL_at {p:Plan} {k:Nat} {m:Int} (hm:¬ bE p) (hE:EdgesIn p.tasks.toNat p.edges) (h:(uA p)[k]? = some m):(0≤m∧m<4294967296)∧(aX5 (yC m k) 1=1↔Rch p.edges (k:Int) (k:Int)):=by
 obtain ⟨hk,rfl⟩:=gsi_.1 h
 have h1:=yS hm
 have hk2:k<p.tasks.toNat:=by rwa [xI] at hk
 refine ⟨?_,waits_bit hE hk2 hk⟩
 exact lC (aF8 aA hE _) k hk
theorem iB (p:Plan):Ct1 prog 302 [.S p] [.I (aG p)]:=
 .one (aG p) (rk:=fun x=>[.I x])<|vc func302 (fun (hg:gin [Par.S p])=>let gp:=hg.1.1
  .c func92 (bN p.tasks 1 12) fun _ => .v (inB p.tasks 1 12) (fun h => .rt 1 ⟨(pf1 (pm1 h)).symm,trivial⟩) (fun h1 => .s ((30:Int)<p.edges.length) (fun h => .rt 1 ⟨(pf1 (pm2 h)).symm,trivial⟩) (fun h2=>
  .c func92 (bN p.prio 0 9) fun _ => .v (inB p.prio 0 9) (fun h => .rt 1 ⟨(pf1 (pm3 h)).symm,trivial⟩) (fun h3=>
  .c func92 (bN p.most 1 5) fun _ => .v (inB p.most 1 5) (fun h => .rt 1 ⟨(pf1 (pm4 h)).symm,trivial⟩) (fun h4=>
  .c func92 (bN p.wait 1 20) fun _ => .v (inB p.wait 1 20) (fun h => .rt 1 ⟨(pf1 (pm5 h)).symm,trivial⟩) (fun h5=>let hm:=pm0 h1 h2 h3 h4 h5
   let hr:=yS hm
   .l (Γ:=Nat) (fun k=>PeJ p k) (fun k=>p.edges.length - k) [1,38,39] [1] [0] (fun k=>[vI 40 k]) (fun _=>[]) 0 (h:=PeJ.start p) fun k hJ t=>let hk0:=hJ.le
    .s ((k:Int)<p.edges.length)
     (fun h => .x p.edges k (h:=by omega) fun e he ge => .m p.tasks 1 (h:=by unfold I64;omega) <| .c func92 (bN e.from_ 0 (p.tasks - 1)) fun _ => .v (inB e.from_ 0 (p.tasks - 1))
      (fun h6 => .rt 2 ⟨aM0 hm he (.inl h6),trivial⟩)
      (fun h6 => .m p.tasks 1 (h:=by unfold I64;omega) <| .c func92 (bN e.to_ 0 (p.tasks - 1)) fun _ => .v (inB e.to_ 0 (p.tasks - 1))
       (fun h7 => .rt 2 ⟨aM0 hm he (.inr h7),trivial⟩)
       (fun h7 => .p k 1 (h:=by unfold I64;omega) <| .n t (k+1) [] (hJ.next he h6 h7) aA)))
     (fun h=>let hE:=hJ.all h
      .l (Γ:=Nat) (fun k=>PnJ p k) (fun k=>p.edges.length - k) [1,62,63] [1] [0] (fun k=>[vI 64 k]) (fun _=>[]) 0 (h:=PnJ.start p) fun k hJ t=>let hk0:=hJ.le
      .s ((k:Int)<p.edges.length)
       (fun h => .x p.edges k (h:=by omega) fun e he ge => .tk inferInstance p.edges k aA (k:Int) rfl <| .c func377 (ContE_i (p.edges.take k) e (by rw[length_take];omega)) fun _ => .s (e∈p.edges.take k)
        (fun h6 => .rt 3 ⟨bL6 hm hE he h6,trivial⟩)
        (fun h6 => .p k 1 (h:=by unfold I64;omega) <| .n t (k+1) [] (hJ.next he h6) aA))
       (fun h=>let hN:=hJ.all h
        .c func378 (Waits_i p hr.1 hr.2 hE) (hg:=⟨gp,trivial⟩) fun _=>let hwl:=xI p
        .l (Γ:=Nat) (fun k=>PcJ p k) (fun k=>p.tasks.toNat - k) [1,77,78] [1,2] [0] (fun k=>[vI 79 k]) (fun _=>[]) 0 (h:=PcJ.start p) fun k hJ t=>let hk0:=hJ.le
        .s ((k:Int)<(uA p).length)
         (fun h => .x (uA p) k (h:=by omega) fun m hm2 gm=>let ha:=waitsL_at hm hE hm2
          .pb .shr (hk_shrI m k ha.1.1 aA) <| .pb .and (hk_andI (yC m k) 1 (shrI_rng ha.1) aA) <| .s (aX5 (yC m k) 1=1)
          (fun h6 => .rt 4 ⟨(pf4 hm hE hN ⟨k,by omega,ha.2.1 h6⟩).symm,trivial⟩)
          (fun h6 => .p k 1 (h:=by unfold I64;omega) <| .n t (k+1) [] (hJ.next aA (fun z=>h6 (ha.2.2 z))) aA))
         (fun h => .rt 0 ⟨hJ.all aA hm hE hN,trivial⟩))))))))) aC
theorem frmOf_len (es:List Edge) (n:Nat) (t:Int):(nX es n t).length=n:=by unfold nX;simp
theorem aT2 {es:List Edge} {n k:Nat} {t:Int} {b:Bool} (h:(nX es n t)[k]? = some b):b=pB (Rch es t (k:Int)):=by
 unfold nX at h
 rw[getElem?_map] at h
 cases hr:(List.range n)[k]? with
 | none=>rw[hr] at h;cases h
 | some x=>
  rw[hr] at h
  obtain ⟨hk,rfl⟩:=gsi_.1 hr
  simp at h
  exact h.symm
structure PtJ (p:Plan) (k j:Nat) (e:Edge):Prop where
 le:j≤k
 no:e∉p.edges.take j
theorem PtJ.start (p:Plan) (k:Nat) (e:Edge):PtJ p k 0 e:=⟨Nat.zero_le _,by simp⟩
theorem PtJ.next {p:Plan} {k j:Nat} {e f:Edge} (h:PtJ p k j e) (hj:j<k) (hf:p.edges[j]? = some f) (hn:eqB e f=false):PtJ p k (j+1) e:=by
 obtain ⟨hk,rfl⟩:=gsi_.1 hf
 exact ⟨hj,not_mem_take_step hk h.no (by unfold eqB at hn;simpa using hn)⟩
theorem pt_hit {p:Plan} {k j:Nat} {e f:Edge} (hj:j<k) (hf:p.edges[j]? = some f) (hn:eqB e f=true):e∈p.edges.take k:=by
 obtain ⟨hk,rfl⟩:=gsi_.1 hf
 have:e=p.edges[j]:=by unfold eqB at hn;simpa using hn
 rw[this];exact wB hk hj
theorem mO (p:Plan):Ct1 prog 325 [.S p] [.I (aG p)]:=
 .one (aG p) (rk:=fun x=>[.I x])<|vc func325 (fun (hg:gin [Par.S p])=>let gp:=hg.1.1
  .c func384 (Many_s p) (hg:=⟨gp,trivial⟩) fun _ => .sb (pB (bE p)) (fun h => .rt 1 ⟨(pf1 (pB_iff.1 h)).symm,trivial⟩) (fun h0=>let hm:¬ bE p:=fun z=>by rw[tD z] at h0;cases h0
   let hr:=yS hm
   .l (Γ:=Nat) (fun k=>PeJ p k) (fun k=>p.edges.length - k) [1] [1] [0] (fun k=>[vI 3 k]) (fun _=>[]) 0 (h:=PeJ.start p) fun k hJ t=>let hk0:=hJ.le
    .s ((k:Int)<p.edges.length)
     (fun h => .x p.edges k (h:=by omega) fun e he ge => .m p.tasks 1 (h:=by unfold I64;omega) <| .c func138 (InV e.from_ 0 (p.tasks - 1)) fun _ => .v (inB e.from_ 0 (p.tasks - 1))
      (fun h6 => .rt 2 ⟨aM0 hm he (.inl h6),trivial⟩)
      (fun h6 => .y he fun _ => .m p.tasks 1 (h:=by unfold I64;omega) <| .c func138 (InV e.to_ 0 (p.tasks - 1)) fun _ => .v (inB e.to_ 0 (p.tasks - 1))
       (fun h7 => .rt 2 ⟨aM0 hm he (.inr h7),trivial⟩)
       (fun h7 => .p k 1 (h:=by unfold I64;omega) <| .n t (k+1) [] (hJ.next he h6 h7) aA)))
     (fun h=>let hE:=hJ.all h
      .l (Γ:=Nat) (fun k=>PnJ p k) (fun k=>p.edges.length - k) [1] [1] [0] (fun k=>[vI 4 k]) (fun _=>[]) 0 (h:=PnJ.start p) fun k hJ t=>let hk0:=hJ.le
      .s ((k:Int)<p.edges.length)
       (fun h => .ex (p:=fun e=>p.edges[k]? = some e) ⟨_,getElem?_eq_getElem (show k<p.edges.length by omega)⟩ fun e he=>
        .l (Γ:=Nat) (fun j=>PtJ p k j e) (fun j=>k - j) [1,4] [1] [0] (fun j=>[vI 5 j]) (fun _=>[]) 0 (h:=PtJ.start p k e) fun j hq t2=>let hj0:=hq.le
         .s ((j:Int)<(k:Int))
          (fun h5 => .y he fun _ => .x p.edges j (h:=by omega) fun f hf gf => .qe (aL3 e f) aC <| .sb (eqB e f)
           (fun h6 => .rt 3 ⟨bL6 hm hE he (pt_hit aA hf h6),trivial⟩)
           (fun h6 => .p j 1 (h:=by unfold I64;omega) <| .n t2 (j+1) [] (hq.next aA hf h6) aA))
          (fun h5 => .p k 1 (h:=by unfold I64;omega) <| .n t (k+1) [] (hJ.next he (by have:=hq.no;rwa [show j=k by omega] at this)) aA))
       (fun h=>let hN:=hJ.all h
        .l (Γ:=Nat) (fun k=>PcJ p k) (fun k=>p.tasks.toNat - k) [1] [1] [0] (fun k=>[vI 6 k]) (fun _=>[]) 0 (h:=PcJ.start p) fun k hJ t=>let hk0:=hJ.le
        .s ((k:Int)<p.tasks)
         (fun h => .c func385 (From_s p k hr.1 hr.2 hE aA) (hg:=⟨gp,trivial⟩) fun _ => .x (nX p.edges p.tasks.toNat (k:Int)) k (h:=by rw[frmOf_len];omega) fun b hb gb => .sb b
          (fun h6 => .rt 4 ⟨(pf4 hm hE hN ⟨k,by omega,pB_iff.1 ((aT2 hb).symm.trans h6)⟩).symm,trivial⟩)
          (fun h6 => .p k 1 (h:=by unfold I64;omega) <| .n t (k+1) [] (hJ.next aA (fun z=>by have:=aT2 hb;rw[tD z] at this;rw[this] at h6;cases h6)) aA))
         (fun h => .rt 0 ⟨hJ.all aA hm hE hN,trivial⟩))))) aC
theorem onesF_t {es:List Edge} {task:Int} {k t:Nat} {e:Edge} (he:es[k]? = some e) (h:e.from_=(t:Int)∧e.to_=task) (l:List Int):l++iP (es.take k) task (t:Int)++[(t:Int)]=l++iP (es.take (k+1)) task (t:Int):=by
 obtain ⟨hk,rfl⟩:=gsi_.1 he
 rw[onesF_step_t hk h,append_assoc]
theorem bB5 {es:List Edge} {task:Int} {k t:Nat} {e:Edge} (he:es[k]? = some e) (h:¬ (e.from_=(t:Int)∧e.to_=task)) (l:List Int):l++iP (es.take k) task (t:Int)=l++iP (es.take (k+1)) task (t:Int):=by
 obtain ⟨hk,rfl⟩:=gsi_.1 he
 rw[onesF_step_f hk h]
theorem onesT_t {es:List Edge} {task:Int} {k t:Nat} {e:Edge} (he:es[k]? = some e) (h:e.from_=task∧e.to_=(t:Int)) (l:List Int):l++iO (es.take k) task (t:Int)++[(t:Int)]=l++iO (es.take (k+1)) task (t:Int):=by
 obtain ⟨hk,rfl⟩:=gsi_.1 he
 rw[onesT_step_t hk h,append_assoc]
theorem bB4 {es:List Edge} {task:Int} {k t:Nat} {e:Edge} (he:es[k]? = some e) (h:¬ (e.from_=task∧e.to_=(t:Int))) (l:List Int):l++iO (es.take k) task (t:Int)=l++iO (es.take (k+1)) task (t:Int):=by
 obtain ⟨hk,rfl⟩:=gsi_.1 he
 rw[onesT_step_f hk h]
theorem byF_all {p:Plan} {task:Int} {k i:Nat} (hi:i≤p.edges.length) (h:¬ (i:Int)<p.edges.length):bS (cM p.edges task) k++iP (p.edges.take i) task (k:Int)=bS (cM p.edges task) (k+1):=by
 rw[take_of_length_le aA,mM];rfl
theorem byT_all {p:Plan} {task:Int} {k i:Nat} (hi:i≤p.edges.length) (h:¬ (i:Int)<p.edges.length):bS (tos p.edges task) k++iO (p.edges.take i) task (k:Int)=bS (tos p.edges task) (k+1):=by
 rw[take_of_length_le aA,mM];rfl
theorem Before_s (p:Plan) (task:Int) (hn:1≤p.tasks∧p.tasks≤12) (hl:p.edges.length≤30) (hE:EdgesIn p.tasks.toNat p.edges):Ct1 prog 386 [.S p,.I task] [.L (kN (cM p.edges task))]:=
 vc func386 (fun hg => .e Int <| .l (Γ:=Nat) (fun k=>k≤p.tasks.toNat) (fun k=>p.tasks.toNat - k) [1,2] [1] [0] (fun k=>[vR 5 2,vI 6 k]) (fun k=>[oR 2 3 (bS (cM p.edges task) k)]) 0 fun k hk t=>
  .s ((k:Int)<p.tasks)
   (fun h => .g 2 (show bS (cM p.edges task) k=bS (cM p.edges task) k++iP (p.edges.take 0) task (k:Int) from (append_nil _).symm) <|
    .l (Γ:=Nat) (fun i=>i≤p.edges.length) (fun i=>p.edges.length - i) [1,2,6] [1] [0] (fun i=>[vR 5 2,vI 7 i]) (fun i=>[oR 2 3 (bS (cM p.edges task) k++iP (p.edges.take i) task (k:Int))]) 0 fun i hi t2=>let hln:=onesF_len p.edges task (k:Int) i k
     .s ((i:Int)<p.edges.length)
      (fun h2 => .x p.edges i (h:=by omega) fun e he ge => .s (e.from_=(k:Int))
       (fun h3 => .y he fun _ => .s (e.to_=task)
        (fun h4 => .a (bS (cM p.edges task) k++iP (p.edges.take i) task (k:Int)) (k:Int) 8 (hy:=by show I64 _;unfold I64;omega) (h63:=by unfold maxLen;omega) (hby:=by omega) <| .g 2 (onesF_t he ⟨h3,h4⟩ (bS (cM p.edges task) k)) <| .p i 1 (h:=by unfold I64;omega) <| .n t2 (i+1) [])
        (fun h4 => .g 2 (bB5 (task:=task) (t:=k) he (fun z=>h4 z.2) (bS (cM p.edges task) k)) <| .p i 1 (h:=by unfold I64;omega) <| .n t2 (i+1) []))
       (fun h3 => .g 2 (bB5 (task:=task) (t:=k) he (fun z=>h3 z.1) (bS (cM p.edges task) k)) <| .p i 1 (h:=by unfold I64;omega) <| .n t2 (i+1) []))
      (fun h2 => .g 2 (byF_all (p:=p) (task:=task) (k:=k) hi h2) <| .p k 1 (h:=by unfold I64;omega) <| .n t (k+1) []))
   (fun h => .g 2 (show bS (cM p.edges task) k=kN (cM p.edges task) by rw[show k=p.tasks.toNat by omega];exact aJ5 (aH8 hE task)) <| .rt () ⟨trivial,trivial⟩)) aC
theorem Behind_s (p:Plan) (task:Int) (hn:1≤p.tasks∧p.tasks≤12) (hl:p.edges.length≤30) (hE:EdgesIn p.tasks.toNat p.edges):Ct1 prog 391 [.S p,.I task] [.L (kN (tos p.edges task))]:=
 vc func391 (fun hg => .e Int <| .l (Γ:=Nat) (fun k=>k≤p.tasks.toNat) (fun k=>p.tasks.toNat - k) [1,2] [1] [0] (fun k=>[vR 5 2,vI 6 k]) (fun k=>[oR 2 3 (bS (tos p.edges task) k)]) 0 fun k hk t=>
  .s ((k:Int)<p.tasks)
   (fun h => .g 2 (show bS (tos p.edges task) k=bS (tos p.edges task) k++iO (p.edges.take 0) task (k:Int) from (append_nil _).symm) <|
    .l (Γ:=Nat) (fun i=>i≤p.edges.length) (fun i=>p.edges.length - i) [1,2,6] [1] [0] (fun i=>[vR 5 2,vI 7 i]) (fun i=>[oR 2 3 (bS (tos p.edges task) k++iO (p.edges.take i) task (k:Int))]) 0 fun i hi t2=>let hln:=onesT_len p.edges task (k:Int) i k
     .s ((i:Int)<p.edges.length)
      (fun h2 => .x p.edges i (h:=by omega) fun e he ge => .s (e.from_=task)
       (fun h3 => .y he fun _ => .s (e.to_=(k:Int))
        (fun h4 => .a (bS (tos p.edges task) k++iO (p.edges.take i) task (k:Int)) (k:Int) 8 (hy:=by show I64 _;unfold I64;omega) (h63:=by unfold maxLen;omega) (hby:=by omega) <| .g 2 (onesT_t he ⟨h3,h4⟩ (bS (tos p.edges task) k)) <| .p i 1 (h:=by unfold I64;omega) <| .n t2 (i+1) [])
        (fun h4 => .g 2 (bB4 (task:=task) (t:=k) he (fun z=>h4 z.2) (bS (tos p.edges task) k)) <| .p i 1 (h:=by unfold I64;omega) <| .n t2 (i+1) []))
       (fun h3 => .g 2 (bB4 (task:=task) (t:=k) he (fun z=>h3 z.1) (bS (tos p.edges task) k)) <| .p i 1 (h:=by unfold I64;omega) <| .n t2 (i+1) []))
      (fun h2 => .g 2 (byT_all (p:=p) (task:=task) (k:=k) hi h2) <| .p k 1 (h:=by unfold I64;omega) <| .n t (k+1) []))
   (fun h => .g 2 (show bS (tos p.edges task) k=kN (tos p.edges task) by rw[show k=p.tasks.toNat by omega];exact aJ5 (aY5 hE task)) <| .rt () ⟨trivial,trivial⟩)) aC
def gB (t:Task):Task:=⟨6,t.need,t.try_,0⟩
def fF (but:Int) (k:Nat) (t:Task):Task:=if (k:Int)=but∨t.state=4 then t else gB t
def gS (ts:List Task) (but:Int) (k:Nat):List Task:=ts.mapIdx (fun j t=>if j<k then fF but j t else t)
def fE (ts:List Task) (but:Int):List Task:=ts.mapIdx (fun j t=>fF but j t)
theorem leaveTo_zero (ts:List Task) (but:Int):gS ts but 0=ts:=by
 apply ext_getElem?;intro i
 simp[gS,getElem?_mapIdx]
theorem zO (ts:List Task) (but:Int):(fE ts but).length=ts.length:=by simp[fE]
theorem leaveTo_at {ts:List Task} {but:Int} {k:Nat} {t:Task} (h:ts[k]? = some t):(gS ts but k)[k]? = some t:=by
 simp[gS,getElem?_mapIdx,h]
theorem leaveTo_set {ts:List Task} {but:Int} {k:Nat} {t y:Task} (h:ts[k]? = some t) (hy:fF but k t=y):(gS ts but k).set k y=gS ts but (k+1):=by
 apply ext_getElem?;intro i
 obtain ⟨hl,rfl⟩:=gsi_.1 h
 simp only[gS,getElem?_set,getElem?_mapIdx,length_mapIdx]
 by_cases e:k=i
 ·subst e;simp[hl,hy]
 rw[if_neg e]
 cases hi:ts[i]? with
 | none=>rfl
 | some u=>
  have:(i<k)↔(i<k+1):=by omega
  simp[this]
theorem leaveTo_all (ts:List Task) (but:Int):gS ts but ts.length=fE ts but:=by
 apply ext_getElem?;intro i
 simp only[gS,fE,getElem?_mapIdx]
 cases hi:ts[i]? with
 | none=>rfl
 | some u=>have:=(gsi_.1 hi).1;simp[this]
theorem leaveIf_t {but:Int} {k:Nat} {t:Task} (h:¬ (k:Int)=but) (h2:¬ t.state=4):fF but k t=gB t:=by unfold fF;rw[if_neg (by simp[h,h2])]
theorem leaveIf_b {but:Int} {k:Nat} {t:Task} (h:(k:Int)=but):fF but k t=t:=by unfold fF;rw[if_pos (.inl h)]
theorem leaveIf_d {but:Int} {k:Nat} {t:Task} (h:t.state=4):fF but k t=t:=by unfold fF;rw[if_pos (.inr h)]
def leaveR (r:Run) (but:Int):Run:=⟨r.id,r.plan,r.state,fE r.tasks but⟩
def nZ (r:Run) (i:Nat) (t:Task):Run:=
 if t.try_<r.plan.most then ⟨r.id,r.plan,r.state,r.tasks.set i ⟨2,t.need,t.try_,0⟩⟩
 else ⟨r.id,r.plan,3,fE (r.tasks.set i ⟨5,t.need,t.try_,0⟩) i⟩
def bR (r:Run) (i:Nat):Run:=match r.tasks[i]? with | some t=>nZ r i t | none=>r
theorem uR {r:Run} {i:Nat} {t:Task} (h:r.tasks[i]? = some t):bR r i=nZ r i t:=by unfold bR;rw[h]
theorem gC (ts:List Task) (s:Int):aN ts s=(ts.countP (fun t=>decide (t.state=s)):Nat):=by unfold aN;rw[countP_eq_length_filter]
theorem aB3 {ts:List Task} {s:Int} {t:Task} (h:t∈ts) (hs:t.state=s):0<aN ts s:=by
 rw[gC]
 have:=countP_pos_iff (p:=fun t:Task=>decide (t.state=s)) (l:=ts) |>.2 ⟨t,h,by simpa using hs⟩
 omega
theorem uV {ts:List Task} {s:Int} (h:∀ t∈ts,¬ t.state=s):aN ts s=0:=by
 rw[gC,countP_eq_zero.2 (by intro t ht;simpa using h t ht)];rfl
theorem aJ0 {ts:List Task} {s:Int} (h:aN ts s=0):∀ t∈ts,¬ t.state=s:=fun t ht hs=>by have:=aB3 ht hs;omega
theorem aN9 {ts:List Task} {s:Int} {t:Task} (h:t∈ts) (hs:¬ t.state=s):¬ aN ts s=ts.length:=by
 rw[gC]
 intro he
 have:=countP_eq_length (p:=fun t:Task=>decide (t.state=s)) (l:=ts) |>.1 aA t h
 exact hs (by simpa using this)
theorem cntI_map {ts:List Task} {f:Task→Task} {s:Int} (h:∀ t∈ts,((f t).state=s↔t.state=s)):aN (ts.map f) s=aN ts s:=by
 rw[gC,gC,countP_map]
 congr 1
 apply countP_congr
 intro t ht
 simpa using h t ht
theorem aB2 {ts:List Task} {i:Nat} (h:i<ts.length) (x:Task) (s:Int):aN (ts.set i x) s=aN ts s - (if ts[i].state=s then 1 else 0)+(if x.state=s then 1 else 0):=by
 rw[gC,gC,countP_set h]
 have hpos:ts[i].state=s→0<ts.countP (fun t=>decide (t.state=s)):=fun e=>countP_pos_iff.2 ⟨ts[i],getElem_mem h,by simpa using e⟩
 simp only[decide_eq_true_eq]
 by_cases h1:ts[i].state=s
 ·have:=hpos h1
  rw[if_pos h1,if_pos h1]
  by_cases h2:x.state=s
  ·rw[if_pos h2,if_pos h2];omega
  rw[if_neg h2,if_neg h2];omega
 rw[if_neg h1,if_neg h1]
 by_cases h2:x.state=s
 ·rw[if_pos h2,if_pos h2];omega
 rw[if_neg h2,if_neg h2];omega
structure RunIs (r:Run):Prop where
 id:1≤r.id∧r.id≤9999
 plan:aG r.plan=0
 len:(r.tasks.length:Int)=r.plan.tasks
 task:∀ k,k<r.tasks.length→nH r k
 state:r.state=bQ r.tasks
 ne:¬ r.state=0
theorem runIs {r:Run}:dL r=true↔RunIs r:=by
 unfold dL
 rw[pB_iff]
 exact ⟨fun ⟨a,b,c,d,e,f⟩=>⟨a,b,c,d,e,f⟩,fun h=>⟨h.id,h.plan,h.len,h.task,h.state,h.ne⟩⟩
theorem RunIs.live {r:Run} (h:RunIs r) {t:Task} (ht:t∈r.tasks) (h3:t.state=3):r.state=1∧aN r.tasks 5=0∧aN r.tasks 6=0:=by
 have hs:=h.state
 have hn:=h.ne
 have c3:=aB3 ht h3
 have c4:=aN9 (s:=4) ht aA
 have p1:=dY r.tasks 1
 have p2:=dY r.tasks 2
 rw[hs] at hn
 rw[hs]
 unfold bQ at hn ⊢
 rw[if_neg c4,if_neg aA,if_neg aA] at hn ⊢
 by_cases h1:aN r.tasks 5=0∧aN r.tasks 6=0
 ·rw[if_pos h1];exact ⟨rfl,h1.1,h1.2⟩
 rw[if_neg h1] at hn;exact absurd rfl hn
theorem RunIs.none5 {r:Run} (h:RunIs r) {t:Task} (ht:t∈r.tasks) (h3:t.state=3):∀ u∈r.tasks,¬ u.state=5∧¬ u.state=6:=fun u hu=>⟨aJ0 (h.live ht h3).2.1 u hu,aJ0 (h.live ht h3).2.2 u hu⟩
def dW (t:Task):Task:=if t.state=4∨t.state=5 then t else gB t
def cQ (ts:List Task):List Task:=ts.map dW
theorem zN {ts:List Task} {i:Nat} {x:Task} (hi:i<ts.length) (hx:x.state=5) (h:∀ u∈ts,¬ u.state=5):fE (ts.set i x) (i:Int)=cQ (ts.set i x):=by
 apply ext_getElem?
 intro k
 unfold fE cQ
 rw[getElem?_mapIdx,getElem?_map,getElem?_set]
 by_cases e:i=k
 ·subst e
  simp[hi,fF,dW,hx]
 rw[if_neg e]
 cases hk:ts[k]? with
 | none=>rfl
 | some u=>
  have h5:=h u (mem_of_getElem? hk)
  have e':¬ (k:Int)=(i:Int):=by omega
  simp[fF,dW,h5,e']
def aA4 (r:Run) (i:Nat):Run:=match r.tasks[i]? with
 | some t=>if t.try_<r.plan.most then ⟨r.id,r.plan,r.state,r.tasks.set i ⟨2,t.need,t.try_,0⟩⟩ else ⟨r.id,r.plan,3,cQ (r.tasks.set i ⟨5,t.need,t.try_,0⟩)⟩
 | none=>r
theorem failsS_eq {r:Run} (h:RunIs r) {i:Nat} {t:Task} (ht:r.tasks[i]? = some t) (h3:t.state=3):aA4 r i=bR r i:=by
 unfold aA4 bR
 rw[ht]
 simp only[nZ]
 have hm:=mem_of_getElem? ht
 rw[zN (gsi_.1 ht).1 rfl (fun u hu=>(h.none5 hm h3 u hu).1)]
theorem isDone_of {r r':Run} (h:∀ k:Nat,(r'.tasks[k]?).map (fun t=>decide (t.state=4))=(r.tasks[k]?).map (fun t=>decide (t.state=4))) (x:Int):nW r' x=nW r x:=by
 unfold nW
 have:=h x.toNat
 cases h1:r'.tasks[x.toNat]? <;> cases h2:r.tasks[x.toNat]? <;> simp[h1,h2] at this ⊢
 exact this
theorem aG4 {r r':Run} (hp:r'.plan=r.plan) (h:∀ k:Nat,(r'.tasks[k]?).map (fun t=>decide (t.state=4))=(r.tasks[k]?).map (fun t=>decide (t.state=4))) (x:Int):fY r' x=fY r x:=by
 unfold fY fZ
 rw[hp]
 congr 2
 apply filter_congr
 intro b _
 rw[isDone_of h]
theorem taskOkT_left {r r':Run} {need:Int} {t:Task} (hp:r'.plan=r.plan) (h:eM r need t):eM r' need (gB t):=by
 obtain ⟨h1,h2,h3,_⟩:=h
 refine ⟨⟨by simp[gB],by simp[gB]⟩,h2,by rw[hp];exact h3,?_,?_,?_,?_,?_⟩ <;> simp[gB]
theorem sN {r r':Run} {need:Int} {t:Task} (hp:r'.plan=r.plan) (h:eM r need t):eM r' need t:=by
 unfold eM at h ⊢
 rw[hp];exact h
theorem RunIs.fails {r:Run} (h:RunIs r) {i:Nat} {t:Task} (ht:r.tasks[i]? = some t) (h3:t.state=3):RunIs (bR r i):=by
 obtain ⟨hi,rfl⟩:=gsi_.1 ht
 have hm:r.tasks[i]∈r.tasks:=getElem_mem hi
 have hlive:=h.live hm h3
 have hn5:=h.none5 hm h3
 have htk:=h.task i hi hi
 obtain ⟨t1,t2,t3,t4,t5,t6,t7,t8⟩:=htk
 have t8':=t8 (.inl h3)
 rw[uR ht]
 unfold nZ
 split
 ·next hlt=>
  refine ⟨h.id,h.plan,by show ((r.tasks.set i _).length:Int)=_;rw[length_set];exact h.len,?_,?_,by show ¬ r.state=0;omega⟩
  ·intro k hk hk'
   have hk2:k<r.tasks.length:=by simpa using hk
   rw[aG4 (r:=r) (r':=⟨r.id,r.plan,r.state,r.tasks.set i ⟨2,r.tasks[i].need,r.tasks[i].try_,0⟩⟩) rfl (fun j=>by
    show ((r.tasks.set i _)[j]?).map _=_
    rw[getElem?_set]
    by_cases e:i=j
    ·subst e;simp[hi,h3]
    rw[if_neg e])]
   show eM _ _ ((r.tasks.set i _)[k]'hk')
   rw[getElem_set]
   split
   ·next e=>
    subst e
    refine ⟨⟨by show (1:Int)≤2;omega,by show (2:Int)≤6;omega⟩,t2,t3,?_,fun _=>rfl,?_,fun _=>⟨t8'.1,hlt⟩,?_⟩
    ·intro e;exact absurd (show (2:Int)=3 from e) aA
    ·intro e;exact absurd (show (2:Int)=1 from e) aA
    rintro (e | e | e)
    ·exact absurd (show (2:Int)=3 from e) aA
    ·exact absurd (show (2:Int)=4 from e) aA
    exact absurd (show (2:Int)=5 from e) aA
   exact sN rfl (h.task k hk2 hk2)
  show r.state=bQ (r.tasks.set i _)
  have hmem:(⟨2,r.tasks[i].need,r.tasks[i].try_,0⟩:Task)∈r.tasks.set i ⟨2,r.tasks[i].need,r.tasks[i].try_,0⟩:=mem_set hi _
  have c4:=aN9 (s:=4) hmem (by show ¬ (2:Int)=4;omega)
  have c5:aN (r.tasks.set i ⟨2,r.tasks[i].need,r.tasks[i].try_,0⟩) 5=0:=by rw[aB2 hi,h3,hlive.2.1];rfl
  have c6:aN (r.tasks.set i ⟨2,r.tasks[i].need,r.tasks[i].try_,0⟩) 6=0:=by rw[aB2 hi,h3,hlive.2.2];rfl
  unfold bQ
  rw[if_neg c4,if_neg (by rw[c5];omega),if_neg (by rw[c6];omega),if_pos ⟨c5,c6⟩]
  exact hlive.1
 next hge=>
 rw[zN hi rfl (fun u hu=>(hn5 u hu).1)]
 have hset:∀ j,(cQ (r.tasks.set i ⟨5,r.tasks[i].need,r.tasks[i].try_,0⟩))[j]? = (if i=j then some ⟨5,r.tasks[i].need,r.tasks[i].try_,0⟩ else (r.tasks[j]?).map dW):=by
  intro j
  unfold cQ
  rw[getElem?_map,getElem?_set]
  by_cases e:i=j
  ·subst e;simp[hi,dW]
  rw[if_neg e,if_neg e]
 have hlen:(cQ (r.tasks.set i ⟨5,r.tasks[i].need,r.tasks[i].try_,0⟩)).length=r.tasks.length:=by unfold cQ;simp
 refine ⟨h.id,h.plan,by show ((cQ _).length:Int)=_;rw[hlen];exact h.len,?_,?_,by show ¬ (3:Int)=0;omega⟩
 ·intro k hk hk'
  have hk2:k<r.tasks.length:=by rw[← hlen];exact hk
  rw[aG4 (r:=r) (r':=⟨r.id,r.plan,3,cQ (r.tasks.set i ⟨5,r.tasks[i].need,r.tasks[i].try_,0⟩)⟩) rfl (fun j=>by
   show ((cQ _)[j]?).map _=_
   rw[hset j]
   by_cases e:i=j
   ·subst e;simp[hi,h3]
   rw[if_neg e]
   cases hj:r.tasks[j]? with
   | none=>rfl
   | some u=>
    simp only[Option.map_some,dW]
    split
    ·rfl
    next hne=>simp[gB];intro e4;exact hne (.inl e4))]
  have hg:(cQ (r.tasks.set i ⟨5,r.tasks[i].need,r.tasks[i].try_,0⟩))[k]? = some ((cQ (r.tasks.set i ⟨5,r.tasks[i].need,r.tasks[i].try_,0⟩))[k]'hk'):=getElem?_eq_getElem hk'
  rw[hset k] at hg
  show eM _ _ ((cQ (r.tasks.set i _))[k]'hk')
  by_cases e:i=k
  ·rw[if_pos e] at hg
   have:=Option.some.inj hg
   rw[← this]
   subst e
   refine ⟨⟨by show (1:Int)≤5;omega,by show (5:Int)≤6;omega⟩,t2,t3,?_,fun _=>rfl,?_,?_,fun _=>t8'⟩
   ·intro e;exact absurd (show (5:Int)=3 from e) aA
   ·intro e;exact absurd (show (5:Int)=1 from e) aA
   intro e;exact absurd (show (5:Int)=2 from e) aA
  rw[if_neg e,getElem?_eq_getElem hk2,Option.map_some] at hg
  have:=Option.some.inj hg
  rw[← this]
  unfold dW
  split
  ·exact sN rfl (h.task k hk2 hk2)
  exact taskOkT_left rfl (h.task k hk2 hk2)
 show (3:Int)=bQ (cQ _)
 have hst:∀ s:Int,s=1∨s=2∨s=3→aN (cQ (r.tasks.set i ⟨5,r.tasks[i].need,r.tasks[i].try_,0⟩)) s=0:=by
  intro s hs
  apply uV
  intro u hu e
  unfold cQ at hu
  obtain ⟨v,_,rfl⟩:=mem_map.1 hu
  unfold dW at e
  split at e
  ·next hc=>omega
  have:(6:Int)=s:=e
  omega
 have c5:aN (cQ (r.tasks.set i ⟨5,r.tasks[i].need,r.tasks[i].try_,0⟩)) 5=1:=by
  unfold cQ
  rw[cntI_map (fun u _=>by
   unfold dW
   split
   ·exact Iff.rfl
   next hc=>
   simp only[not_or] at hc
   exact ⟨fun e=>absurd (show (6:Int)=5 from e) aA,fun e=>absurd e hc.2⟩),aB2 hi,h3,hlive.2.1]
  rfl
 have c4:¬ aN (cQ (r.tasks.set i ⟨5,r.tasks[i].need,r.tasks[i].try_,0⟩)) 4=(cQ (r.tasks.set i ⟨5,r.tasks[i].need,r.tasks[i].try_,0⟩)).length:=by
  apply aN9 (t:=⟨5,r.tasks[i].need,r.tasks[i].try_,0⟩)
  ·exact mem_of_getElem? (i:=i) (by rw[hset i,if_pos rfl])
  show ¬ (5:Int)=4
  omega
 unfold bQ
 rw[if_neg c4,if_pos ⟨c5,by rw[hst 1 (.inl rfl),hst 2 (.inr (.inl rfl)),hst 3 (.inr (.inr rfl))];rfl⟩]
theorem oA (r:Run) (i:Nat):(bR r i).id=r.id∧(bR r i).plan=r.plan∧(bR r i).tasks.length=r.tasks.length∧∀ (j:Nat) (t:Task),r.tasks[j]? = some t→∃ t2,(bR r i).tasks[j]? = some t2∧t2.try_=t.try_:=by
 unfold bR
 cases hi:r.tasks[i]? with
 | none=>exact ⟨rfl,rfl,rfl,fun j t h=>⟨t,h,rfl⟩⟩
 | some u=>
  obtain ⟨hl,rfl⟩:=gsi_.1 hi
  simp only[nZ]
  split
  ·refine ⟨rfl,rfl,by simp,fun j t h => ?_⟩
   show ∃ t2,(r.tasks.set i _)[j]? = some t2∧_
   rw[getElem?_set]
   by_cases e:i=j
   ·subst e
    rw[h] at hi
    rw[if_pos rfl,if_pos hl]
    exact ⟨_,rfl,by have:=Option.some.inj hi;rw[this]⟩
   rw[if_neg e];exact ⟨t,h,rfl⟩
  refine ⟨rfl,rfl,by simp[zO],fun j t h => ?_⟩
  show ∃ t2,(fE (r.tasks.set i _) _)[j]? = some t2∧_
  unfold fE
  rw[getElem?_mapIdx,getElem?_set]
  have hli:∀ (b:Int) (k:Nat) (x:Task),(fF b k x).try_=x.try_:=by intro b k x;unfold fF;split <;> rfl
  by_cases e:i=j
  ·subst e
   rw[h] at hi
   rw[if_pos rfl,if_pos hl]
   exact ⟨_,rfl,by rw[hli];have:=Option.some.inj hi;rw[this]⟩
  rw[if_neg e,h];exact ⟨_,rfl,hli _ _ _⟩
theorem oM {p:Plan} (h:aG p=0):(1≤p.tasks∧p.tasks≤12)∧p.edges.length≤30∧EdgesIn p.tasks.toNat p.edges:=by
 have h1:=qW h
 have h2:=yS h1.1
 exact ⟨h2.1,h2.2,h1.2.1⟩
noncomputable def bA3 (xs:List Int) (hn:xs.length≤1000000):Inc prog 406 (fun _:Unit=>True) where
 T:=fun s us K=>match us with
  | [.on (.ce (.rf j h))]=>match lku s.O j with
   | some (.own i h' xs' _) => .e0 h h' <| .e1 (⟨i,xs'⟩:Dat) ⟨instShapeInt,xs⟩ <| .fn fun fp:List Nat=>K () (.tu []) ⟨s.E,(j,.own instShapeInt h (kN xs) fp)::bZ s.O j,lasting s.B,s.nx⟩
   | _ => .no
  | _ => .no
 ok:=by
  intro w0 W s us K h st fa
  split at h
  ·next j hd=>
   split at h
   ·next i h' xs' fp hj=>
    obtain ⟨rfl,h2,h3⟩:=h
    simp only[Dat.mk.injEq] at h2
    obtain ⟨rfl,h5,h6⟩:=h2
    obtain ⟨rfl,rfl⟩:=And.intro (eq_of_heq h5) (eq_of_heq h6)
    have st2:=St.take (rs:=[]) (by simpa [Or,S.rs] using st) hj
    rw[append_nil] at st2
    refine (SortOwn st2 hn).mono ?_
    rintro e W' ⟨rfl,fp',st'⟩
    exact ⟨(),.tu [],_,trivial,h3 fp',rfl,st',fa.lasting⟩
   exact h.elim
  exact h.elim
theorem froms_t {es:List Edge} {k:Nat} {e:Edge} {task:Int} (h:es[k]? = some e) (he:e.to_=task):cM (es.take k) task++[e.from_]=cM (es.take (k+1)) task:=by
 obtain ⟨hk,rfl⟩:=gsi_.1 h
 unfold cM;rw[take_succ_eq_append_getElem hk,filter_append,map_append];simp[he]
theorem froms_f {es:List Edge} {k:Nat} {e:Edge} {task:Int} (h:es[k]? = some e) (he:¬ e.to_=task):cM (es.take k) task=cM (es.take (k+1)) task:=by
 obtain ⟨hk,rfl⟩:=gsi_.1 h
 unfold cM;rw[take_succ_eq_append_getElem hk,filter_append,map_append];simp[he]
theorem aD2 (p:Plan) (task:Int):Ct1 prog 379 [.S p,.I task] [.L (aS p task)]:=
 .one (aS p task) (rk:=fun l=>[.L l])<|vc func379 (fun (hg:gin [Par.S p,Par.I task])=>let gp:p.ok:=hg.1.1
  .c func302 (iB p) (hg:=⟨gp,trivial⟩) fun _ => .u (aG p=0) (fun h => .rt [] ⟨by unfold aS;rw[if_neg h],trivial⟩) (fun h=>let he:=(oM h).2.1
   .w Int 3 5 <| .la (Γ:=Nat) (fun k=>k≤p.edges.length) (fun k=>p.edges.length - k) (fun k=>[vI 14 k,vR 5 2]) (fun k=>[oR 2 3 (cM (p.edges.take k) task)]) 0 fun k hk t=>let hl:=qD (p.edges.take k) task
    let hl2:(p.edges.take k).length≤30:=(by rw[length_take];omega)
    .s ((k:Int)<p.edges.length)
     (fun h2 => .x p.edges k (h:=by omega) fun e he ge => .s (e.to_=task)
      (fun h3 => .a (cM (p.edges.take k) task) e.from_ 8 (hy:=(show e.ok from ge).1) (h63:=by unfold maxLen;omega) (hby:=by omega) <| .g 2 (froms_t he h3) <| .p k 1 (h:=by unfold I64;omega) <| .n t (k+1) [])
      (fun h3 => .g 2 (froms_f he h3) <| .p k 1 (h:=by unfold I64;omega) <| .n t (k+1) []))
     (fun h2 => .sh 2 <| .g 2 (show cM (p.edges.take k) task=cM p.edges task by rw[take_of_length_le aA]) <| .iv _ func406 (bA3 (cM p.edges task) (by have:=qD p.edges task;omega)) fun _ _ => .rt (kN (cM p.edges task)) ⟨by unfold aS;rw[if_pos h],trivial⟩))) aC
theorem tos_t {es:List Edge} {k:Nat} {e:Edge} {task:Int} (h:es[k]? = some e) (he:e.from_=task):tos (es.take k) task++[e.to_]=tos (es.take (k+1)) task:=by
 obtain ⟨hk,rfl⟩:=gsi_.1 h
 unfold tos;rw[take_succ_eq_append_getElem hk,filter_append,map_append];simp[he]
theorem tos_f {es:List Edge} {k:Nat} {e:Edge} {task:Int} (h:es[k]? = some e) (he:¬ e.from_=task):tos (es.take k) task=tos (es.take (k+1)) task:=by
 obtain ⟨hk,rfl⟩:=gsi_.1 h
 unfold tos;rw[take_succ_eq_append_getElem hk,filter_append,map_append];simp[he]
theorem BehindOf_i (p:Plan) (task:Int):Ct1 prog 381 [.S p,.I task] [.L (bF p task)]:=
 .one (bF p task) (rk:=fun l=>[.L l])<|vc func381 (fun (hg:gin [Par.S p,Par.I task])=>let gp:p.ok:=hg.1.1
  .c func302 (iB p) (hg:=⟨gp,trivial⟩) fun _ => .u (aG p=0) (fun h => .rt [] ⟨by unfold bF;rw[if_neg h],trivial⟩) (fun h=>let he:=(oM h).2.1
   .w Int 3 5 <| .la (Γ:=Nat) (fun k=>k≤p.edges.length) (fun k=>p.edges.length - k) (fun k=>[vI 14 k,vR 5 2]) (fun k=>[oR 2 3 (tos (p.edges.take k) task)]) 0 fun k hk t=>let hl:=wO (p.edges.take k) task
    let hl2:(p.edges.take k).length≤30:=(by rw[length_take];omega)
    .s ((k:Int)<p.edges.length)
     (fun h2 => .x p.edges k (h:=by omega) fun e he ge => .s (e.from_=task)
      (fun h3 => .a (tos (p.edges.take k) task) e.to_ 8 (hy:=(show e.ok from ge).2) (h63:=by unfold maxLen;omega) (hby:=by omega) <| .g 2 (tos_t he h3) <| .p k 1 (h:=by unfold I64;omega) <| .n t (k+1) [])
      (fun h3 => .g 2 (tos_f he h3) <| .p k 1 (h:=by unfold I64;omega) <| .n t (k+1) []))
     (fun h2 => .sh 2 <| .g 2 (show tos (p.edges.take k) task=tos p.edges task by rw[take_of_length_le aA]) <| .iv _ func406 (bA3 (tos p.edges task) (by have:=wO p.edges task;omega)) fun _ _ => .rt (kN (tos p.edges task)) ⟨by unfold bF;rw[if_pos h],trivial⟩))) aC
theorem aK2 (p:Plan) (task:Int) (h:aG p=0):Ct1 prog 386 [.S p,.I task] [.L (aS p task)]:=by
 have:=Before_s p task (oM h).1 (oM h).2.1 (oM h).2.2
 unfold aS;rw[if_pos h];exact this
theorem BehindP_s (p:Plan) (task:Int) (h:aG p=0):Ct1 prog 391 [.S p,.I task] [.L (bF p task)]:=by
 have:=Behind_s p task (oM h).1 (oM h).2.1 (oM h).2.2
 unfold bF;rw[if_pos h];exact this
theorem bR2 {r:Run} {task b:Int} {k:Nat} (hlen:(r.tasks.length:Int)=r.plan.tasks) (h:(aS r.plan task)[k]? = some b):b=(b.toNat:Int)∧∃ t,r.tasks[b.toNat]? = some t:=by
 have h1:=before_rng r.plan task b (mem_of_getElem? h)
 exact ⟨by omega,r.tasks[b.toNat]'(by omega),getElem?_eq_getElem aA⟩
theorem bN3 {r:Run} {l:List Int} {k:Nat} {b:Int} {t:Task} (h:l[k]? = some b) (ht:r.tasks[b.toNat]? = some t) (h4:t.state=4):fZ r (l.take (k+1))=fZ r (l.take k):=by
 obtain ⟨hk,rfl⟩:=gsi_.1 h
 obtain ⟨hb,rfl⟩:=gsi_.1 ht
 rw[wA hk,aH2 hb,if_pos (by simpa using h4)];omega
theorem bN4 {r:Run} {l:List Int} {k:Nat} {b:Int} {t:Task} (h:l[k]? = some b) (ht:r.tasks[b.toNat]? = some t) (h4:¬ t.state=4):fZ r (l.take (k+1))=fZ r (l.take k)+1:=by
 obtain ⟨hk,rfl⟩:=gsi_.1 h
 obtain ⟨hb,rfl⟩:=gsi_.1 ht
 rw[wA hk,aH2 hb,if_neg (by simpa using h4)]
theorem bC0 (r:Run) (task:Int) (k:Nat):0≤fZ r ((aS r.plan task).take k)∧fZ r ((aS r.plan task).take k)≤30:=by
 have h1:=yY r ((aS r.plan task).take k)
 have h2:=jK r.plan task
 rw[length_take] at h1
 omega
theorem aR7 {r:Run} {task:Int} {k:Nat} (hk:k≤(aS r.plan task).length) (h:¬ (k:Int)<(aS r.plan task).length):fZ r ((aS r.plan task).take k)=fY r task:=by
 rw[take_of_length_le aA];rfl
theorem NeedOf_i (r:Run) (task:Int) (hlen:(r.tasks.length:Int)=r.plan.tasks):Ct1 prog 393 [.S r,.I task] [.I (fY r task)]:=
 .one (fY r task) (rk:=fun x=>[.I x])<|vc func393 (fun (hg:gin [Par.S r,Par.I task]) => .c func379 (aD2 r.plan task) (hg:=⟨hg.1.1.2.1,trivial⟩) fun _=>let hbl:=jK r.plan task
  .l (Γ:=Nat×Int) (fun g=>g.1≤(aS r.plan task).length∧g.2=fZ r ((aS r.plan task).take g.1)) (fun g=>(aS r.plan task).length - g.1) [2,11,12] [2,3] [0,1] (fun g=>[vI 5 g.2,vI 13 g.1]) (fun _=>[]) (0,0) (h:=⟨Nat.zero_le _,rfl⟩) fun g hJ t=>let hbd:=bC0 r task g.1
   let hj2:=hJ.2
   .s ((g.1:Int)<(aS r.plan task).length)
    (fun h => .x (aS r.plan task) g.1 (h:=by omega) fun b hb gb=>let hbt:=bR2 hlen hb
     .ex hbt.2 fun u hu => .ye hu b (he:=hbt.1) fun gu => .u (u.state=4)
      (fun h4 => .p g.2 1 (h:=by unfold I64;omega) <| .p g.1 1 (h:=by unfold I64;omega) <| .n t (g.1+1,g.2+1) [] ⟨by show g.1+1≤_;omega,by show g.2+1=_;rw[bN4 hb hu h4,hJ.2]⟩ (by dsimp only;omega))
      (fun h4 => .p g.1 1 (h:=by unfold I64;omega) <| .n t (g.1+1,g.2) [] ⟨by show g.1+1≤_;omega,by show g.2=_;rw[bN3 hb hu h4,hJ.2]⟩ (by dsimp only;omega)))
    (fun h => .rt g.2 ⟨hJ.2.trans (aR7 hJ.1 h),trivial⟩)) aC
theorem iH {P:Prop} (h:P:=by (unfold eM;simp only[Bool.and_eq_true,Bool.or_eq_true,Bool.not_eq_true',Bool.or_eq_false_iff,Bool.and_eq_false_iff,Bool.not_eq_false',decide_eq_true_eq,decide_eq_false_iff_not,inB_iff',inB_f',Bool.false_eq_true,iff_false,iff_true] at *;omega)):P:=h
theorem tb_ {p:Prop} {b:Bool} (h:p↔b=true):b=pB p:=(pB_b h).symm
theorem TaskOk_i (r:Run) (k:Nat) (u:Task) (hu:r.tasks[k]? = some u) (hlen:(r.tasks.length:Int)=r.plan.tasks):Ct1 prog 343 [.S r,.I (k:Int)] [.B (pB (eM r (fY r (k:Int)) u))]:=
 .one (pB (eM r (fY r (k:Int)) u)) (rk:=fun x=>[.B x])<|vc func343 (fun (hg:gin [Par.S r,Par.I (k:Int)]) => .y hu fun _=>
  .c func92 (bN u.state 1 6) fun _ => .v (inB u.state 1 6) (fun h => .rt false ⟨tb_ iH,trivial⟩) (fun h1=>
  .c func393 (NeedOf_i r k hlen) (hg:=⟨hg.1.1,trivial⟩) fun _ => .u (u.need=fY r (k:Int)) (fun h => .rt false ⟨tb_ iH,trivial⟩) (fun h2=>
  .c func92 (bN u.try_ 0 r.plan.most) fun _ => .v (inB u.try_ 0 r.plan.most) (fun h => .rt false ⟨tb_ iH,trivial⟩) (fun h3=>
  .s (u.state=3)
   (fun h4 => .c func92 (bN u.until_ 1 1000000000) fun _ => .v (inB u.until_ 1 1000000000) (fun h => .rt false ⟨tb_ iH,trivial⟩) (fun h5=>
    .uf (u.state=3) h4 <| .kf (u.state=1) aA <| .kf (u.state=2) aA <| .kt (u.state=3) h4 <| .s (u.need=0) (fun h6 => .rt (decide ((1:Int)≤u.try_)) ⟨tb_ iH,trivial⟩) (fun h6 => .rt false ⟨tb_ iH,trivial⟩)))
   (fun h4 => .ut (u.state=3) h4 <| .u (u.until_=0) (fun h => .rt false ⟨tb_ iH,trivial⟩) (fun h5=>
    .s (u.state=1) (fun h6 => .rt (decide ((0:Int)<u.need)) ⟨tb_ iH,trivial⟩) (fun h6=>
    .s (u.state=2) (fun h7 => .s (u.need=0) (fun h8 => .rt (decide (u.try_<r.plan.most)) ⟨tb_ iH,trivial⟩) (fun h8 => .rt false ⟨tb_ iH,trivial⟩)) (fun h7=>
    .kf (u.state=3) h4 <| .s (u.state=4) (fun h8 => .s (u.need=0) (fun h9 => .rt (decide ((1:Int)≤u.try_)) ⟨tb_ iH,trivial⟩) (fun h9 => .rt false ⟨tb_ iH,trivial⟩)) (fun h8=>
    .s (u.state=5) (fun h9 => .s (u.need=0) (fun h10 => .rt (decide ((1:Int)≤u.try_)) ⟨tb_ iH,trivial⟩) (fun h10 => .rt false ⟨tb_ iH,trivial⟩)) (fun h9 => .rt true ⟨tb_ iH,trivial⟩)))))))))) aC
theorem TaskOk_s (r:Run) (k:Nat) (u:Task) (hu:r.tasks[k]? = some u) (hlen:(r.tasks.length:Int)=r.plan.tasks) (hP:aG r.plan=0) (hs:1≤u.state∧u.state≤6):Ct1 prog 372 [.S r,.I (k:Int)] [.B (pB (eM r (fY r (k:Int)) u))]:=
 .one (pB (eM r (fY r (k:Int)) u)) (rk:=fun x=>[.B x])<|vc func372 (fun (hg:gin [Par.S r,Par.I (k:Int)]) => .y hu fun _ => .c func386 (aK2 r.plan k hP) (hg:=⟨hg.1.1.2.1,trivial⟩) fun _=>let hbl:=jK r.plan (k:Int)
  .l (Γ:=Nat×Int) (fun g=>g.1≤(aS r.plan (k:Int)).length∧g.2=fZ r ((aS r.plan (k:Int)).take g.1)) (fun g=>(aS r.plan (k:Int)).length - g.1) [2,5,7] [2,4,5] [0,1] (fun g=>[vI 6 g.2,vI 8 g.1]) (fun _=>[]) (0,0) (h:=⟨Nat.zero_le _,rfl⟩) fun g hJ t=>let hbd:=bC0 r (k:Int) g.1
   let hj2:=hJ.2
   .s ((g.1:Int)<(aS r.plan (k:Int)).length)
    (fun h => .x (aS r.plan (k:Int)) g.1 (h:=by omega) fun b hb gb=>let hbt:=bR2 hlen hb
     .ex hbt.2 fun v hv => .ye hv b (he:=hbt.1) fun gu => .u (v.state=4)
      (fun h4 => .p g.2 1 (h:=by unfold I64;omega) <| .p g.1 1 (h:=by unfold I64;omega) <| .n t (g.1+1,g.2+1) [] ⟨by show g.1+1≤_;omega,by show g.2+1=_;rw[bN4 hb hv h4,hJ.2]⟩ (by dsimp only;omega))
      (fun h4 => .p g.1 1 (h:=by unfold I64;omega) <| .n t (g.1+1,g.2) [] ⟨by show g.1+1≤_;omega,by show g.2=_;rw[bN3 hb hv h4,hJ.2]⟩ (by dsimp only;omega)))
    (fun h=>let hn:=hJ.2.trans (aR7 hJ.1 h)
     .u (u.need=g.2) (fun h => .rt false ⟨tb_ iH,trivial⟩) (fun h2=>
     .c func138 (InV u.try_ 0 r.plan.most) fun _ => .v (inB u.try_ 0 r.plan.most) (fun h => .rt false ⟨tb_ iH,trivial⟩) (fun h3=>
     .s (u.state=3)
      (fun h4 => .c func138 (InV u.until_ 1 1000000000) fun _ => .v (inB u.until_ 1 1000000000) (fun h => .rt false ⟨tb_ iH,trivial⟩) (fun h5=>
       .uf (u.state=3) h4 <| .kf (u.state=1) aA <| .kf (u.state=2) aA <| .kt (u.state=3) h4 <| .s (g.2=0) (fun h6 => .rt (decide ((1:Int)≤u.try_)) ⟨tb_ iH,trivial⟩) (fun h6 => .rt false ⟨tb_ iH,trivial⟩)))
      (fun h4 => .ut (u.state=3) h4 <| .u (u.until_=0) (fun h => .rt false ⟨tb_ iH,trivial⟩) (fun h5=>
       .s (u.state=1) (fun h6 => .rt (decide ((0:Int)<g.2)) ⟨tb_ iH,trivial⟩) (fun h6=>
       .s (u.state=2) (fun h7 => .s (g.2=0) (fun h8 => .rt (decide (u.try_<r.plan.most)) ⟨tb_ iH,trivial⟩) (fun h8 => .rt false ⟨tb_ iH,trivial⟩)) (fun h7=>
       .kf (u.state=3) h4 <| .s (u.state=4) (fun h8 => .s (g.2=0) (fun h9 => .rt (decide ((1:Int)≤u.try_)) ⟨tb_ iH,trivial⟩) (fun h9 => .rt false ⟨tb_ iH,trivial⟩)) (fun h8=>
       .s (u.state=5) (fun h9 => .s (g.2=0) (fun h10 => .rt (decide ((1:Int)≤u.try_)) ⟨tb_ iH,trivial⟩) (fun h10 => .rt false ⟨tb_ iH,trivial⟩)) (fun h9 => .rt (decide (u.state=6)) ⟨tb_ iH,trivial⟩)))))))))) aC
theorem tiStep_t {ts:List Task} {s:Int} {k:Nat} {u:Task} (hu:ts[k]? = some u) (h:u.state=s):dK ts s k++[(k:Int)]=dK ts s (k+1):=by
 obtain ⟨hk,rfl⟩:=gsi_.1 hu
 rw[pS hk h]
theorem tiStep_f {ts:List Task} {s:Int} {k:Nat} {u:Task} (hu:ts[k]? = some u) (h:¬ u.state=s):dK ts s k=dK ts s (k+1):=by
 obtain ⟨hk,rfl⟩:=gsi_.1 hu
 rw[uB hk h]
theorem tiAll {ts:List Task} {s:Int} {k:Nat} (hk:k≤ts.length) (h:¬ (k:Int)<ts.length):dK ts s k=aM ts s:=by
 rw[show k=ts.length by omega];rfl
theorem jL (r:Run) (s:Int) (hl:r.tasks.length≤1048576):Ct1 prog 30 [.S r,.I s] [.L (aM r.tasks s)]:=
 vc func30 (fun hg => .w Int 3 5 <| .l (Γ:=Nat) (fun k=>k≤r.tasks.length) (fun k=>r.tasks.length - k) [1,2,9,10] [2] [0,1] (fun k=>[vR 5 3,vI 11 k]) (fun k=>[oR 3 3 (dK r.tasks s k)]) 0 fun k hk t=>
  .s ((k:Int)<r.tasks.length)
   (fun h => .x r.tasks k (h:=by omega) fun u hu gu=>let hln:=fT r.tasks s k
    .s (u.state=s)
    (fun h2 => .a (dK r.tasks s k) (k:Int) 8 (hy:=by show I64 _;unfold I64;omega) (h63:=by unfold maxLen;omega) (hby:=by omega) <| .g 3 (tiStep_t hu h2) <| .p k 1 (h:=by unfold I64;omega) <| .n t (k+1) [])
    (fun h2 => .g 3 (tiStep_f hu h2) <| .p k 1 (h:=by unfold I64;omega) <| .n t (k+1) []))
   (fun h => .g 3 (tiAll (s:=s) hk h) <| .rt () ⟨trivial,trivial⟩)) aC
structure RkJ (r:Run) (k:Nat):Prop where
 le:k≤r.tasks.length
 ok:∀ j,j<k→nH r j
theorem RkJ.start (r:Run):RkJ r 0:=⟨Nat.zero_le _,fun j h=>by omega⟩
theorem RkJ.next {r:Run} {k:Nat} {u:Task} (h:RkJ r k) (hu:r.tasks[k]? = some u) (ho:pB (eM r (fY r (k:Int)) u)=true):RkJ r (k+1):=by
 obtain ⟨hk,rfl⟩:=gsi_.1 hu
 refine ⟨hk,fun j hj => ?_⟩
 rcases Nat.lt_succ_iff_lt_or_eq.1 hj with h1 | rfl
 ·exact h.ok j h1
 exact fun _=>pB_iff.1 ho
theorem bL3 {r:Run} {k:Nat} {u:Task} (hu:r.tasks[k]? = some u) (ho:pB (eM r (fY r (k:Int)) u)=false):false=dL r:=by
 obtain ⟨hk,rfl⟩:=gsi_.1 hu
 unfold dL
 rw[kI (fun hz=>bL9 ho (hz.2.2.2.1 k hk hk))]
theorem aF5 {r:Run} (h:¬ ((1≤r.id∧r.id≤9999)∧aG r.plan=0∧(r.tasks.length:Int)=r.plan.tasks)):false=dL r:=by
 unfold dL
 rw[kI (fun hz=>h ⟨hz.1,hz.2.1,hz.2.2.1⟩)]
theorem rk_st {r:Run} (h:∃ (k:Nat) (u:Task),r.tasks[k]? = some u∧¬ (1≤u.state∧u.state≤6)):false=dL r:=by
 obtain ⟨k,u,hu,h⟩:=h
 obtain ⟨hk,rfl⟩:=gsi_.1 hu
 unfold dL
 rw[kI (fun hz=>h (hz.2.2.2.1 k hk hk).1)]
theorem aQ3 {r:Run} {k:Nat} (h:RkJ r k) (hk:¬ (k:Int)<r.tasks.length):(∀ j,j<r.tasks.length→nH r j)∧(aN r.tasks 1+aN r.tasks 2+aN r.tasks 3+aN r.tasks 4+aN r.tasks 5+aN r.tasks 6=r.tasks.length):=by
 have h1:∀ j,j<r.tasks.length→nH r j:=fun j hj=>h.ok j (by have:=h.le;omega)
 exact ⟨h1,bF0 (states_of h1)⟩
theorem bG3 (r:Run):Ct1 prog 231 [.S r] [.B (dL r)]:=
 .one (dL r) (rk:=fun x=>[.B x])<|vc func231 (fun (hg:gin [Par.S r])=>let gr:=hg.1.1
  .c func92 (bN r.id 1 9999) fun _ => .v (inB r.id 1 9999) (fun h => .rt false ⟨aF5 (fun z=>rV h z.1),trivial⟩) (fun h1=>
  .c func302 (iB r.plan) (hg:=⟨gr.2.1,trivial⟩) fun _ => .u (aG r.plan=0) (fun h => .rt false ⟨aF5 (fun z=>h z.2.1),trivial⟩) (fun h2=>
  .u ((r.tasks.length:Int)=r.plan.tasks) (fun h => .rt false ⟨aF5 (fun z=>h z.2.2),trivial⟩) (fun h3=>let hpt:=(oM h2).1
  .l (Γ:=Nat) (fun k=>RkJ r k) (fun k=>r.tasks.length - k) [1,28,29] [2] [0,1] (fun k=>[vI 30 k]) (fun _=>[]) 0 (h:=RkJ.start r) fun k hJ t=>let hk0:=hJ.le
   .s ((k:Int)<r.tasks.length)
    (fun h => .ex (p:=fun u=>r.tasks[k]? = some u) ⟨_,getElem?_eq_getElem (show k<r.tasks.length by omega)⟩ fun u hu => .c func343 (TaskOk_i r k u hu h3) (hg:=⟨gr,trivial⟩) fun _ => .v (pB (eM r (fY r (k:Int)) u))
     (fun h4 => .rt false ⟨bL3 hu h4,trivial⟩)
     (fun h4 => .p k 1 (h:=by unfold I64;omega) <| .n t (k+1) [] (hJ.next hu h4) aA))
    (fun h=>let hf:=aQ3 hJ h
     let hc:=qU r.tasks
     let e4:=jV r.tasks 4
     let e5:=jV r.tasks 5
     let e6:=jV r.tasks 6
     let n1:=dY r.tasks 1
     let n2:=dY r.tasks 2
     let n3:=dY r.tasks 3
     let hs:=hf.2
     let fin:∀ {b:Bool},((r.state=bQ r.tasks∧¬ r.state=0)↔b=true)→b=dL r:=fun hz=>(bA7 ⟨inB_iff.1 h1,h2,h3⟩ hf.1 hz).symm
     let over:=((aM r.tasks 4).length:Int)+(aM r.tasks 5).length+(aM r.tasks 6).length=r.tasks.length
     let tail:¬ ((aM r.tasks 4).length:Int)=r.tasks.length→¬ (((aM r.tasks 5).length:Int)=1∧over)→¬ (((aM r.tasks 5).length:Int)=0∧(0:Int)<(aM r.tasks 6).length∧over)→D prog (fun a:Bool=>a=dL r∧rgd [Rk.B a]):=fun q1 q2 q3=>
      .s (r.state=1)
       (fun q4 => .s (((aM r.tasks 5).length:Int)=0)
        (fun q5 => .rt (decide (((aM r.tasks 6).length:Int)=0)) ⟨fin (by simp only[decide_eq_true_eq];omega),trivial⟩)
        (fun q5 => .rt false ⟨fin (by simp only[Bool.false_eq_true,iff_false];omega),trivial⟩))
       (fun q4 => .rt false ⟨fin (by simp only[Bool.false_eq_true,iff_false];omega),trivial⟩)
     .c func30 (jL r 4 aA) (hg:=⟨gr,trivial⟩) fun _ => .c func30 (jL r 5 aA) (hg:=⟨gr,trivial⟩) fun _ => .c func30 (jL r 6 aA) (hg:=⟨gr,trivial⟩) fun _=>
     .p ((aM r.tasks 4).length:Int) ((aM r.tasks 5).length:Int) (h:=by unfold I64;omega) <| .p (((aM r.tasks 4).length:Int)+(aM r.tasks 5).length) ((aM r.tasks 6).length:Int) (h:=by unfold I64;omega) <|
     .s (((aM r.tasks 4).length:Int)=r.tasks.length)
      (fun q1 => .rt (decide (r.state=2)) ⟨fin (by simp only[decide_eq_true_eq];omega),trivial⟩)
      (fun q1 => .s (((aM r.tasks 5).length:Int)=1)
       (fun q2 => .s over
        (fun q3 => .rt (decide (r.state=3)) ⟨fin (by simp only[decide_eq_true_eq];omega),trivial⟩)
        (fun q3 => .kf (((aM r.tasks 5).length:Int)=0) aA<|tail q1 (fun z=>q3 z.2) (fun z=>q3 z.2.2)))
       (fun q2 => .s (((aM r.tasks 5).length:Int)=0)
        (fun q3 => .s ((0:Int)<(aM r.tasks 6).length)
         (fun q4 => .s over
          (fun q5 => .rt (decide (r.state=4)) ⟨fin (by simp only[decide_eq_true_eq];omega),trivial⟩)
          (fun q5=>tail q1 (fun z=>q5 z.2) (fun z=>q5 z.2.2)))
         (fun q4=>tail q1 (fun z=>q2 z.1) (fun z=>q4 z.2.1)))
        (fun q3=>tail q1 (fun z=>q2 z.1) (fun z=>q3 z.1))))))))) aC
theorem cnts_st {ts:List Task} {k:Nat} {u:Task} (hu:ts[k]? = some u) (hs:1≤u.state∧u.state≤6):∃ x,(iD (ts.take k))[u.state.toNat]? = some x∧(0≤x∧x≤ts.length)∧(iD (ts.take k)).set u.state.toNat (x+1)=iD (ts.take (k+1)):=by
 obtain ⟨hk,rfl⟩:=gsi_.1 hu
 have hl:ts[k].state.toNat<(iD (ts.take k)).length:=by rw[cnts_len];omega
 refine ⟨_,getElem?_eq_getElem hl,?_,cnts_set hk hs hl⟩
 have:=cnts_rng (ts.take k) _ hl
 rw[length_take] at this
 omega
theorem bG2 (r:Run) (hS:∀ t∈r.tasks,1≤t.state∧t.state≤6) (hl:r.tasks.length≤1048576):Ct1 prog 373 [.S r] [.I (bQ r.tasks)]:=
 .one (bQ r.tasks) (rk:=fun x=>[.I x])<|vc func373 (fun hg => .li (inferInstance:Dsh Int) 6 [0,0,0,0,0,0,0] (by simp) (by simp) (by intro y hy;simp at hy;subst hy;show I64 0;unfold I64;omega) <|
  .g 3 (cnts_nil.symm) <| .l (Γ:=Nat) (fun k=>k≤r.tasks.length) (fun k=>r.tasks.length - k) [1] [2] [0,1] (fun k=>[vR 3 3,vI 4 k]) (fun k=>[oO 3 (iD (r.tasks.take k))]) 0 fun k hk t=>
   .s ((k:Int)<r.tasks.length)
    (fun h => .x r.tasks k (h:=by omega) fun u hu gu=>let hs:=hS u (mem_of_getElem? hu)
     .ex (cnts_st hu hs) fun x hx => .d 3 hx.1 fun gx => .ie u.state.toNat u.state (he:=by omega) <| .p x 1 (h:=by have:=hx.2.1;unfold I64;omega) <| .ie u.state.toNat u.state (he:=by omega) <|
     .wt 12 <| .f 3 (iD (r.tasks.take k)) (x+1) (h:=by have:=hx.2.1;show I64 _;unfold I64;omega) <| .g 3 hx.2.2 <| .p k 1 (h:=by unfold I64;omega) <| .n t (k+1) [])
    (fun h => .g 3 (show iD (r.tasks.take k)=iD r.tasks by rw[take_of_length_le aA]) <|
     let hc:=qU r.tasks
     let n1:=dY r.tasks 1
     let n2:=dY r.tasks 2
     let n3:=dY r.tasks 3
     let m1:=xE r.tasks 1
     let m2:=xE r.tasks 2
     let m3:=xE r.tasks 3
     let rest:=aN r.tasks 1+aN r.tasks 2+aN r.tasks 3=0
     let at5:(iD r.tasks)[5]? = some (aN r.tasks 5):=rfl
     let at6:(iD r.tasks)[6]? = some (aN r.tasks 6):=rfl
     let t13:¬ aN r.tasks 4=(r.tasks.length:Int)→¬ (aN r.tasks 5=1∧rest)→¬ (aN r.tasks 5=0∧(0:Int)<aN r.tasks 6∧rest)→D prog (fun a:Int=>a=bQ r.tasks∧rgd [Rk.I a]):=fun q1 q2 q3=>
      .y at5 fun _ => .s (aN r.tasks 5=0)
       (fun q4 => .y at6 fun _ => .s (aN r.tasks 6=0) (fun q5 => .rt 1 ⟨(hc.2.2.2.1 q1 q2 q3 ⟨q4,q5⟩).symm,trivial⟩) (fun q5 => .rt 0 ⟨(hc.2.2.2.2 q1 q2 q3 (fun z=>q5 z.2)).symm,trivial⟩))
       (fun q4 => .rt 0 ⟨(hc.2.2.2.2 q1 q2 q3 (fun z=>q4 z.1)).symm,trivial⟩)
     let t11:¬ aN r.tasks 4=(r.tasks.length:Int)→¬ (aN r.tasks 5=1∧rest)→D prog (fun a:Int=>a=bQ r.tasks∧rgd [Rk.I a]):=fun q1 q2=>
      .y at5 fun _ => .s (aN r.tasks 5=0)
       (fun q3 => .y at6 fun _ => .s ((0:Int)<aN r.tasks 6)
        (fun q4 => .s rest (fun q5 => .rt 4 ⟨(hc.2.2.1 q1 q2 ⟨q3,q4,q5⟩).symm,trivial⟩) (fun q5=>t13 q1 q2 (fun z=>q5 z.2.2)))
        (fun q4=>t13 q1 q2 (fun z=>q4 z.2.1)))
       (fun q3=>t13 q1 q2 (fun z=>q3 z.1))
     .y (show (iD r.tasks)[1]? = some (aN r.tasks 1) from rfl) fun _ => .y (show (iD r.tasks)[2]? = some (aN r.tasks 2) from rfl) fun _ => .p (aN r.tasks 1) (aN r.tasks 2) (h:=by unfold I64;omega) <| .y (show (iD r.tasks)[3]? = some (aN r.tasks 3) from rfl) fun _ => .p (aN r.tasks 1+aN r.tasks 2) (aN r.tasks 3) (h:=by unfold I64;omega) <|
     .y (show (iD r.tasks)[4]? = some (aN r.tasks 4) from rfl) fun _ => .s (aN r.tasks 4=(r.tasks.length:Int))
      (fun q1 => .rt 2 ⟨(hc.1 q1).symm,trivial⟩)
      (fun q1 => .y at5 fun _ => .s (aN r.tasks 5=1)
       (fun q2 => .s rest (fun q3 => .rt 3 ⟨(hc.2.1 q1 ⟨q2,q3⟩).symm,trivial⟩) (fun q3=>t11 q1 (fun z=>q3 z.2)))
       (fun q2=>t11 q1 (fun z=>q2 z.1))))) aC
structure RsJ (r:Run) (k:Nat):Prop where
 le:k≤r.tasks.length
 ok:∀ t∈r.tasks.take k,1≤t.state∧t.state≤6
theorem RsJ.start (r:Run):RsJ r 0:=⟨Nat.zero_le _,fun t h=>by simp at h⟩
theorem RsJ.next {r:Run} {k:Nat} {u:Task} (h:RsJ r k) (hu:r.tasks[k]? = some u) (ho:inB u.state 1 6=true):RsJ r (k+1):=by
 obtain ⟨hk,rfl⟩:=gsi_.1 hu
 refine ⟨hk,fun t ht => ?_⟩
 rw[take_add_one,getElem?_eq_getElem hk] at ht
 rcases mem_append.1 ht with h1 | h1
 ·exact h.ok t h1
 simp at h1;subst h1;exact inB_iff.1 ho
theorem RsJ.all {r:Run} {k:Nat} (h:RsJ r k) (hk:¬ (k:Int)<r.tasks.length):∀ t∈r.tasks,1≤t.state∧t.state≤6:=by
 have:=h.ok
 rwa [take_of_length_le aA] at this
theorem aO3 (r:Run):Ct1 prog 290 [.S r] [.B (dL r)]:=
 .one (dL r) (rk:=fun x=>[.B x])<|vc func290 (fun (hg:gin [Par.S r])=>let gr:=hg.1.1
  .c func138 (InV r.id 1 9999) fun _ => .v (inB r.id 1 9999) (fun h => .rt false ⟨aF5 (fun z=>rV h z.1),trivial⟩) (fun h1=>
  .c func325 (mO r.plan) (hg:=⟨gr.2.1,trivial⟩) fun _ => .u (aG r.plan=0) (fun h => .rt false ⟨aF5 (fun z=>h z.2.1),trivial⟩) (fun h2=>
  .u ((r.tasks.length:Int)=r.plan.tasks) (fun h => .rt false ⟨aF5 (fun z=>h z.2.2),trivial⟩) (fun h3=>let hpt:=(oM h2).1
  .l (Γ:=Nat) (fun k=>RsJ r k) (fun k=>r.tasks.length - k) [1] [2] [0,1] (fun k=>[vI 3 k]) (fun _=>[]) 0 (h:=RsJ.start r) fun k hJ t=>let hk0:=hJ.le
   .s ((k:Int)<r.tasks.length)
    (fun h => .x r.tasks k (h:=by omega) fun u hu gu => .c func138 (InV u.state 1 6) fun _ => .v (inB u.state 1 6)
     (fun h4 => .rt false ⟨rk_st ⟨k,u,hu,rV h4⟩,trivial⟩)
     (fun h4 => .p k 1 (h:=by unfold I64;omega) <| .n t (k+1) [] (hJ.next hu h4) aA))
    (fun h=>let hst:=hJ.all h
     .l (Γ:=Nat) (fun k=>RkJ r k) (fun k=>r.tasks.length - k) [1] [2] [0,1] (fun k=>[vI 4 k]) (fun _=>[]) 0 (h:=RkJ.start r) fun k hJ t=>let hk0:=hJ.le
     .s ((k:Int)<r.tasks.length)
      (fun h => .ex (p:=fun u=>r.tasks[k]? = some u) ⟨_,getElem?_eq_getElem (show k<r.tasks.length by omega)⟩ fun u hu => .c func372 (TaskOk_s r k u hu h3 h2 (hst u (mem_of_getElem? hu))) (hg:=⟨gr,trivial⟩) fun _ => .v (pB (eM r (fY r (k:Int)) u))
       (fun h4 => .rt false ⟨bL3 hu h4,trivial⟩)
       (fun h4 => .p k 1 (h:=by unfold I64;omega) <| .n t (k+1) [] (hJ.next hu h4) aA))
      (fun h=>let hf:=aQ3 hJ h
       let fin:∀ {b:Bool},((r.state=bQ r.tasks∧¬ r.state=0)↔b=true)→b=dL r:=fun hz=>(bA7 ⟨inB_iff.1 h1,h2,h3⟩ hf.1 hz).symm
       .c func373 (bG2 r hst aA) (hg:=⟨gr,trivial⟩) fun _ => .s (r.state=bQ r.tasks)
       (fun q1 => .rt (!decide (r.state=0)) ⟨fin (by simp only[Bool.not_eq_true',decide_eq_false_iff_not];exact ⟨fun z=>z.2,fun z=>⟨q1,z⟩⟩),trivial⟩)
       (fun q1 => .rt false ⟨fin (by simp only[Bool.false_eq_true,iff_false];exact fun z=>q1 z.1),trivial⟩))))))) aC
structure YoH (y:Yard):Prop where
 now:0≤y.now∧y.now≤999999980
 seq:1≤y.seq∧y.seq≤1000000000
 four:y.shelf.length=4
 eight:y.runs.length≤8
theorem yo_1 {y:Yard} (h:¬ (0≤y.now∧y.now≤999999980)):false=aK y:=by unfold aK;rw[kI (fun z=>h z.1)]
theorem yo_2 {y:Yard} (h:¬ (1≤y.seq∧y.seq≤1000000000)):false=aK y:=by unfold aK;rw[kI (fun z=>h z.2.1)]
theorem yo_3 {y:Yard} (h:¬ (y.shelf.length:Int)=4):false=aK y:=by unfold aK;rw[kI (fun z=>h (by have:=z.2.2.1;omega))]
theorem yo_4 {y:Yard} (h:(8:Int)<y.runs.length):false=aK y:=by unfold aK;rw[kI (fun z=>by have:=z.2.2.2.1;omega)]
theorem yo_5 {y:Yard} {l:List Entry} (hl:l∈y.shelf) (h:cW l=false):false=aK y:=by unfold aK;rw[kI (fun z=>by rw[z.2.2.2.2.1 l hl] at h;cases h)]
theorem yo_6 {y:Yard} {e:Entry} (he:e∈y.shelf.flatten) (h:inB e.seq 1 (y.seq - 1)=false):false=aK y:=by unfold aK;rw[kI (fun z=>rV h (z.2.2.2.2.2.1 e he))]
theorem yo_7 {y:Yard} (h:¬ (y.shelf.flatten.map (·.seq)).Nodup):false=aK y:=by unfold aK;rw[kI (fun z=>h z.2.2.2.2.2.2.1)]
theorem bH5 {y:Yard} {k:Nat} {r:Run} (hr:y.runs[k]? = some r) (h:¬ (dL r=true∧aE y r.id=(k:Int)∧eP y.now r y.shelf.flatten=true)):false=aK y:=by
 obtain ⟨hk,rfl⟩:=gsi_.1 hr
 unfold aK;rw[kI (fun z=>h (z.2.2.2.2.2.2.2.1 k hk hk))]
structure YsJ (y:Yard) (k:Nat):Prop where
 le:k≤y.shelf.length
 ok:∀ l∈y.shelf.take k,cW l=true
theorem YsJ.start (y:Yard):YsJ y 0:=⟨Nat.zero_le _,fun l h=>by simp at h⟩
theorem YsJ.next {y:Yard} {k:Nat} {l:List Entry} (h:YsJ y k) (hl:y.shelf[k]? = some l) (ho:cW l=true):YsJ y (k+1):=by
 obtain ⟨hk,rfl⟩:=gsi_.1 hl
 exact ⟨hk,aU9 hk h.ok ho⟩
theorem YsJ.all {y:Yard} {k:Nat} (h:YsJ y k) (hk:¬ (k:Int)<y.shelf.length):∀ l∈y.shelf,cW l=true:=by
 have:=h.ok
 rwa [take_of_length_le aA] at this
structure YeJ (y:Yard) (k:Nat):Prop where
 le:k≤y.shelf.flatten.length
 ok:∀ e∈y.shelf.flatten.take k,1≤e.seq∧e.seq≤y.seq - 1
 nd:((y.shelf.flatten.take k).map (·.seq)).Nodup
theorem YeJ.start (y:Yard):YeJ y 0:=⟨Nat.zero_le _,fun e h=>by simp at h,by simp⟩
theorem YeJ.next {y:Yard} {k:Nat} {e:Entry} (h:YeJ y k) (he:y.shelf.flatten[k]? = some e) (h1:inB e.seq 1 (y.seq - 1)=true) (h2:e.seq∉(y.shelf.flatten.take k).map (·.seq)):YeJ y (k+1):=by
 obtain ⟨hk,rfl⟩:=gsi_.1 he
 exact ⟨hk,aU9 hk h.ok (inB_iff.1 h1),nodup_map_step hk h.nd h2⟩
theorem bI7 {y:Yard} {k:Nat} {e:Entry} (he:y.shelf.flatten[k]? = some e) (h2:e.seq∈(y.shelf.flatten.take k).map (·.seq)):¬ (y.shelf.flatten.map (·.seq)).Nodup:=by
 obtain ⟨hk,rfl⟩:=gsi_.1 he
 exact not_nodup_map hk h2
theorem bI6 {es:List Entry} {k:Nat} {e:Entry} (he:es[k]? = some e):(es.take k).map (·.seq)++[e.seq]=(es.take (k+1)).map (·.seq):=by
 obtain ⟨hk,rfl⟩:=gsi_.1 he
 rw[zK _ hk]
theorem YeJ.all {y:Yard} {k:Nat} (h:YeJ y k) (hk:¬ (k:Int)<y.shelf.flatten.length):(∀ e∈y.shelf.flatten,1≤e.seq∧e.seq≤y.seq - 1)∧(y.shelf.flatten.map (·.seq)).Nodup:=by
 have h1:=h.ok
 have h2:=h.nd
 rw[take_of_length_le aA] at h1 h2
 exact ⟨h1,h2⟩
structure YrJ (y:Yard) (k:Nat):Prop where
 le:k≤y.runs.length
 ok:∀ j,j<k→aL4 y j
theorem YrJ.start (y:Yard):YrJ y 0:=⟨Nat.zero_le _,fun j h=>by omega⟩
theorem YrJ.next {y:Yard} {k:Nat} {r:Run} (h:YrJ y k) (hr:y.runs[k]? = some r) (h1:dL r=true) (h2:aE y r.id=(k:Int)) (h3:eP y.now r y.shelf.flatten=true):YrJ y (k+1):=by
 obtain ⟨hk,rfl⟩:=gsi_.1 hr
 refine ⟨hk,fun j hj => ?_⟩
 rcases Nat.lt_succ_iff_lt_or_eq.1 hj with h4 | rfl
 ·exact h.ok j h4
 exact fun _=>⟨h1,h2,h3⟩
theorem bI5 {y:Yard} {k:Nat} (hH:YoH y) (h5:∀ l∈y.shelf,cW l=true) (h6:(∀ e∈y.shelf.flatten,1≤e.seq∧e.seq≤y.seq - 1)∧(y.shelf.flatten.map (·.seq)).Nodup) (h:YrJ y k) (hk:¬ (k:Int)<y.runs.length):decide (cV y≤40)=aK y:=by
 unfold aK
 have h7:∀ j,j<y.runs.length→aL4 y j:=fun j hj=>h.ok j (by have:=h.le;omega)
 by_cases h8:cV y≤40
 ·rw[tD ⟨hH.now,hH.seq,hH.four,hH.eight,h5,h6.1,h6.2,h7,h8⟩];simpa using h8
 rw[kI (fun z=>h8 z.2.2.2.2.2.2.2.2)];simpa using h8
theorem aT8 {y:Yard} {k:Nat} {e:Entry} (he:y.shelf.flatten[k]? = some e):e∈y.shelf.flatten:=mem_of_getElem? he
theorem iX (y:Yard) (hw:y.wt≤1048576):Ct1 prog 118 [.S y] [.B (aK y)]:=
 .one (aK y) (rk:=fun x=>[.B x])<|vc func118 (fun (hg:gin [Par.S y])=>let gy:=hg.1.1
  let hb:=dV y hw
  .c func92 (bN y.now 0 999999980) fun _ => .v (inB y.now 0 999999980) (fun h => .rt false ⟨yo_1 (rV h),trivial⟩) (fun h1=>
  .c func92 (bN y.seq 1 1000000000) fun _ => .v (inB y.seq 1 1000000000) (fun h => .rt false ⟨yo_2 (rV h),trivial⟩) (fun h2=>
  .u ((y.shelf.length:Int)=4) (fun h => .rt false ⟨yo_3 h,trivial⟩) (fun h3=>
  .s ((8:Int)<y.runs.length) (fun h => .rt false ⟨yo_4 h,trivial⟩) (fun h4=>let hH:YoH y:=⟨inB_iff.1 h1,inB_iff.1 h2,by omega,by omega⟩
  let hseq:=inB_iff.1 h2
  .l (Γ:=Nat) (fun k=>YsJ y k) (fun k=>y.shelf.length - k) [1,34,35] [2] [0,1] (fun k=>[vI 36 k]) (fun _=>[]) 0 (h:=YsJ.start y) fun k hJ t=>let hk0:=hJ.le
   .s ((k:Int)<y.shelf.length)
    (fun h => .x y.shelf k (h:=by omega) fun l hl gl => .c func228 (ShelfOk_i l) fun _ => .v (cW l)
     (fun h5 => .rt false ⟨yo_5 (mem_of_getElem? hl) h5,trivial⟩)
     (fun h5 => .p k 1 (h:=by unfold I64;omega) <| .n t (k+1) [] (hJ.next hl h5) aA))
    (fun h=>let h5:=hJ.all h
     .c func229 (aK1 y hw) (hg:=⟨gy,trivial⟩) fun _ => .w Int 3 6 <|
     .l (Γ:=Nat) (fun k=>YeJ y k) (fun k=>y.shelf.flatten.length - k) [1,5,46,47] [2,3] [0,1] (fun k=>[vR 6 4,vI 48 k]) (fun k=>[oR 4 3 ((y.shelf.flatten.take k).map (·.seq))]) 0 (h:=YeJ.start y) fun k hJ t=>let hk0:=hJ.le
     .s ((k:Int)<y.shelf.flatten.length)
      (fun h => .x y.shelf.flatten k (h:=by omega) fun e he ge => .m y.seq 1 (h:=by unfold I64;omega) <| .c func92 (bN e.seq 1 (y.seq - 1)) fun _ => .v (inB e.seq 1 (y.seq - 1))
       (fun h6 => .rt false ⟨yo_6 (aT8 he) h6,trivial⟩)
       (fun h6 => .c func230 (bH2 ((y.shelf.flatten.take k).map (·.seq)) e.seq (by rw[length_map,length_take];omega)) fun _ => .s (e.seq∈(y.shelf.flatten.take k).map (·.seq))
        (fun h7 => .rt false ⟨yo_7 (bI7 he h7),trivial⟩)
        (fun h7 => .a ((y.shelf.flatten.take k).map (·.seq)) e.seq 8 (hy:=(show Entry.ok e from ge).2.1) (h63:=by rw[length_map,length_take];unfold maxLen;omega) (hby:=by rw[length_map,length_take];omega) <| .g 4 (bI6 he) <| .p k 1 (h:=by unfold I64;omega) <| .n t (k+1) [] (hJ.next he h6 h7) aA)))
      (fun h=>let h6:=hJ.all h
       .l (Γ:=Nat) (fun k=>YrJ y k) (fun k=>y.runs.length - k) [1,5,72,73] [2,3] [0,1] (fun k=>[vI 74 k]) (fun _=>[]) 0 (h:=YrJ.start y) fun k hJ t=>let hk0:=hJ.le
       .s ((k:Int)<y.runs.length)
        (fun h => .x y.runs k (h:=by omega) fun r hr gr => .c func231 (bG3 r) (hg:=⟨gr,trivial⟩) fun _ => .v (dL r)
         (fun h7 => .rt false ⟨bH5 hr (fun z=>by rw[z.1] at h7;cases h7),trivial⟩)
         (fun h7 => .c func232 (iY y r.id hw) (hg:=⟨gy,trivial⟩) fun _ => .u (aE y r.id=(k:Int))
          (fun h8 => .rt false ⟨bH5 hr (fun z=>h8 z.2.1),trivial⟩)
          (fun h8 => .c func233 (RunsOk_i y r y.shelf.flatten hH.now (yF h7).1 aA) (hg:=⟨gy,gr,trivial⟩) fun _ => .v (eP y.now r y.shelf.flatten)
           (fun h9 => .rt false ⟨bH5 hr (fun z=>by rw[z.2.2] at h9;cases h9),trivial⟩)
           (fun h9 => .p k 1 (h:=by unfold I64;omega) <| .n t (k+1) [] (hJ.next hr h7 h8 h9) aA))))
        (fun h => .c func234 (aJ9 y hw) (hg:=⟨gy,trivial⟩) fun _ => .rt (decide (cV y≤40)) ⟨bI5 hH h5 h6 hJ h,trivial⟩)))))))) aC
noncomputable def sR (y:Yard):Bool:=pB (y.shelf.length=4∧(∀ l∈y.shelf,cW l=true)∧(∀ e∈y.shelf.flatten,1≤e.seq∧e.seq≤y.seq - 1)∧(y.shelf.flatten.map (·.seq)).Nodup)
theorem bA5 {y:Yard} (h:¬ (y.shelf.length=4∧(∀ l∈y.shelf,cW l=true)∧(∀ e∈y.shelf.flatten,1≤e.seq∧e.seq≤y.seq - 1)∧(y.shelf.flatten.map (·.seq)).Nodup)):false=sR y:=(kI h).symm
structure YdJ (es:List Entry) (k j:Nat) (e:Entry):Prop where
 le:j≤k
 no:e.seq∉(es.take j).map (·.seq)
theorem YdJ.start (es:List Entry) (k:Nat) (e:Entry):YdJ es k 0 e:=⟨Nat.zero_le _,by simp⟩
theorem YdJ.next {es:List Entry} {k j:Nat} {e f:Entry} (h:YdJ es k j e) (hj:j<k) (hf:es[j]? = some f) (hn:¬ f.seq=e.seq):YdJ es k (j+1) e:=by
 refine ⟨hj,?_⟩
 rw[← bI6 hf]
 intro hm
 rcases mem_append.1 hm with h1 | h1
 ·exact h.no h1
 simp at h1;exact hn h1.symm
theorem yd_hit {es:List Entry} {k j:Nat} {e f:Entry} (hj:j<k) (hf:es[j]? = some f) (hn:f.seq=e.seq):e.seq∈(es.take k).map (·.seq):=by
 obtain ⟨hk,rfl⟩:=gsi_.1 hf
 rw[← hn]
 exact mem_map.2 ⟨_,wB hk hj,rfl⟩
theorem Shelves_s (y:Yard) (hsq:1≤y.seq∧y.seq≤1000000000) (hw:y.wt≤1048576):Ct1 prog 289 [.S y] [.B (sR y)]:=
 .one (sR y) (rk:=fun x=>[.B x])<|vc func289 (fun (hg:gin [Par.S y])=>let gy:=hg.1.1
  let hb:=dV y hw
  .u ((y.shelf.length:Int)=4) (fun h => .rt false ⟨bA5 (fun z=>h (by have:=z.1;omega)),trivial⟩) (fun h3=>
  .l (Γ:=Nat) (fun k=>YsJ y k) (fun k=>y.shelf.length - k) [1] [2] [0,1] (fun k=>[vI 3 k]) (fun _=>[]) 0 (h:=YsJ.start y) fun k hJ t=>let hk0:=hJ.le
   .s ((k:Int)<y.shelf.length)
    (fun h => .x y.shelf k (h:=by omega) fun l hl gl => .c func371 (ShelfOk_s l) fun _ => .v (cW l)
     (fun h5 => .rt false ⟨bA5 (fun z=>by rw[z.2.1 l (mem_of_getElem? hl)] at h5;cases h5),trivial⟩)
     (fun h5 => .p k 1 (h:=by unfold I64;omega) <| .n t (k+1) [] (hJ.next hl h5) aA))
    (fun h=>let h5:=hJ.all h
     .c func292 (aK0 y hw) (hg:=⟨gy,trivial⟩) fun _=>
     .l (Γ:=Nat) (fun k=>YeJ y k) (fun k=>y.shelf.flatten.length - k) [1,4] [2,3] [0,1] (fun k=>[vI 5 k]) (fun k=>[]) 0 (h:=YeJ.start y) fun k hJ t=>let hk0:=hJ.le
     .s ((k:Int)<y.shelf.flatten.length)
      (fun h => .x y.shelf.flatten k (h:=by omega) fun e he ge => .m y.seq 1 (h:=by unfold I64;omega) <| .c func138 (InV e.seq 1 (y.seq - 1)) fun _ => .v (inB e.seq 1 (y.seq - 1))
       (fun h6 => .rt false ⟨bA5 (fun z=>rV h6 (z.2.2.1 e (aT8 he))),trivial⟩)
       (fun h6 => .l (Γ:=Nat) (fun j=>YdJ y.shelf.flatten k j e) (fun j=>k - j) [1,4,5] [2,3] [0,1] (fun j=>[vI 6 j]) (fun _=>[]) 0 (h:=YdJ.start _ k e) fun j hq t2=>let hj0:=hq.le
        .s ((j:Int)<(k:Int))
         (fun h7 => .x y.shelf.flatten j (h:=by omega) fun f hf gf => .y he fun _ => .s (f.seq=e.seq)
          (fun h8 => .rt false ⟨bA5 (fun z=>bI7 he (yd_hit aA hf h8) z.2.2.2),trivial⟩)
          (fun h8 => .p j 1 (h:=by unfold I64;omega) <| .n t2 (j+1) [] (hq.next aA hf h8) aA))
         (fun h7 => .p k 1 (h:=by unfold I64;omega) <| .n t (k+1) [] (hJ.next he h6 (by have:=hq.no;rwa [show j=k by omega] at this)) aA)))
      (fun h => .rt true ⟨(tD ⟨by omega,h5,(hJ.all h).1,(hJ.all h).2⟩).symm,trivial⟩)))) aC
structure YqJ (y:Yard) (k:Nat):Prop where
 le:k≤y.runs.length
 ok:∀ j r,j<k→y.runs[j]? = some r→dL r=true∧aE y r.id=(j:Int)
theorem YqJ.start (y:Yard):YqJ y 0:=⟨Nat.zero_le _,fun j r h=>by omega⟩
theorem YqJ.next {y:Yard} {k:Nat} {r:Run} (h:YqJ y k) (hr:y.runs[k]? = some r) (h1:dL r=true) (h2:aE y r.id=(k:Int)):YqJ y (k+1):=by
 refine ⟨(gsi_.1 hr).1,fun j q hj hq => ?_⟩
 rcases Nat.lt_succ_iff_lt_or_eq.1 hj with h4 | rfl
 ·exact h.ok j q h4 hq
 rw[hr] at hq;cases hq;exact ⟨h1,h2⟩
theorem YqJ.all {y:Yard} {k:Nat} (h:YqJ y k) (hk:¬ (k:Int)<y.runs.length) {j:Nat} {r:Run} (hr:y.runs[j]? = some r):dL r=true∧aE y r.id=(j:Int):=
 h.ok j r (by have:=(gsi_.1 hr).1;omega) hr
theorem iW (y:Yard) (hw:y.wt≤1048576):Ct1 prog 185 [.S y] [.B (aK y)]:=
 .one (aK y) (rk:=fun x=>[.B x])<|vc func185 (fun (hg:gin [Par.S y])=>let gy:=hg.1.1
  let hb:=dV y hw
  .c func138 (InV y.now 0 999999980) fun _ => .v (inB y.now 0 999999980) (fun h => .rt false ⟨yo_1 (rV h),trivial⟩) (fun h1=>
  .c func138 (InV y.seq 1 1000000000) fun _ => .v (inB y.seq 1 1000000000) (fun h => .rt false ⟨yo_2 (rV h),trivial⟩) (fun h2=>
  .s ((8:Int)<y.runs.length) (fun h => .rt false ⟨yo_4 h,trivial⟩) (fun h4=>
  .c func289 (Shelves_s y (inB_iff.1 h2) hw) (hg:=⟨gy,trivial⟩) fun _ => .v (sR y) (fun h => .rt false ⟨by unfold aK;rw[kI (fun z=>bL9 h ⟨z.2.2.1,z.2.2.2.2.1,z.2.2.2.2.2.1,z.2.2.2.2.2.2.1⟩)],trivial⟩) (fun h3=>let hS:=pB_iff.1 h3
  let hH:YoH y:=⟨inB_iff.1 h1,inB_iff.1 h2,hS.1,by omega⟩
  .l (Γ:=Nat) (fun k=>YqJ y k) (fun k=>y.runs.length - k) [1] [2] [0,1] (fun k=>[vI 3 k]) (fun _=>[]) 0 (h:=YqJ.start y) fun k hJ t=>let hk0:=hJ.le
   .s ((k:Int)<y.runs.length)
    (fun h => .x y.runs k (h:=by omega) fun r hr gr => .c func290 (aO3 r) (hg:=⟨gr,trivial⟩) fun _ => .v (dL r)
     (fun h7 => .rt false ⟨bH5 hr (fun z=>by rw[z.1] at h7;cases h7),trivial⟩)
     (fun h7 => .y hr fun _ => .c func291 (jT y r.id hw) (hg:=⟨gy,trivial⟩) fun _ => .u (aE y r.id=(k:Int))
      (fun h8 => .rt false ⟨bH5 hr (fun z=>h8 z.2.1),trivial⟩)
      (fun h8 => .p k 1 (h:=by unfold I64;omega) <| .n t (k+1) [] (hJ.next hr h7 h8) aA)))
    (fun h => .c func292 (aK0 y hw) (hg:=⟨gy,trivial⟩) fun _=>
     .l (Γ:=Nat) (fun k=>YrJ y k) (fun k=>y.runs.length - k) [1,4] [2,3] [0,1] (fun k=>[vI 5 k]) (fun _=>[]) 0 (h:=YrJ.start y) fun k hq t=>let hk0:=hq.le
     .s ((k:Int)<y.runs.length)
      (fun h6 => .x y.runs k (h:=by omega) fun r hr gr=>let hro:=hJ.all h hr
       .c func293 (RunsOk_s y r y.shelf.flatten hH.now (yF hro.1).1 aA) (hg:=⟨gy,gr,trivial⟩) fun _ => .v (eP y.now r y.shelf.flatten)
       (fun h9 => .rt false ⟨bH5 hr (fun z=>by rw[z.2.2] at h9;cases h9),trivial⟩)
       (fun h9 => .p k 1 (h:=by unfold I64;omega) <| .n t (k+1) [] (hq.next hr hro.1 hro.2 h9) aA))
      (fun h6 => .c func294 (aJ8 y hw) (hg:=⟨gy,trivial⟩) fun _ => .rt (decide (cV y≤40)) ⟨bI5 hH hS.2.1 ⟨hS.2.2.1,hS.2.2.2⟩ hq h6,trivial⟩))))))) aC
theorem flat_step {α β:Type} {f:α→List β} {xs:List α} {i:Nat} {x:α} (h:xs[i]? = some x):(xs.take (i+1)).flatMap f=(xs.take i).flatMap f++f x:=by
 obtain ⟨hi,rfl⟩:=gsi_.1 h
 rw[take_succ_eq_append_getElem hi,flatMap_append]
 simp
/-! ### How many they are -/
theorem aN2 {α β:Type} {f:α→List β} {g:α→Nat} {c:Nat} (h:∀ x,(f x).length≤c*(g x+1)):∀ xs:List α,(xs.flatMap f).length≤c*(xs.length+(xs.map g).sum)
 | []=>by simp
 | x::xs=>by
  have ih:=aN2 h xs
  have h1:=h x
  rw[flatMap_cons,length_append,map_cons,sum_cons,length_cons]
  have e:c*(xs.length+1+(g x+(xs.map g).sum))=c*(g x+1)+c*(xs.length+(xs.map g).sum):=by
   rw[← Nat.mul_add];congr 1;omega
  omega
theorem flat_n {α β:Type} {f:α→List β} {c:Nat} (h:∀ x,(f x).length≤c) (xs:List α):(xs.flatMap f).length≤c*xs.length:=by
 have h1:=aN2 (f:=f) (g:=fun _=>0) (c:=c) (fun x=>by simpa using h x) xs
 have h2:(xs.map fun _=>0).sum=0:=by
  induction xs with
  | nil=>rfl
  | cons a xs ih=>rw[map_cons,sum_cons,ih (aN2 (f:=f) (g:=fun _=>0) (c:=c) (fun x=>by simpa using h x) xs)]
 rw[h2] at h1
 exact h1
theorem yard_lens (y:Yard):y.shelf.length≤y.wt∧y.runs.length≤y.wt:=by unfold Yard.wt wtL;omega
theorem xW (l:List Int):(fS l).length≤5*l.length:=flat_n (fun n=>by
 have:=dJ n
 unfold vtxt
 exact this) l
theorem vH {l:List Int} {k:Nat} {z:Int} (h:l[k]? = some z):fS (l.take k)++(aY z).data.toList=fS (l.take (k+1)):=(flat_step h).symm
theorem YardOkD (y:Yard) (hw:y.wt≤1048576):Ct1 prog 118 [.S y] [.B (aK y)]:=iX y hw
theorem YardOkSD (y:Yard) (hw:y.wt≤1048576):Ct1 prog 185 [.S y] [.B (aK y)]:=iW y hw
theorem aG0:lU Edge:=fun _ _ _ _ h=>h.2.1
theorem aF9:lU Task:=fun _ _ _ _ h=>h.2.1
theorem cU {α:Type} {xs:List α} {k:Nat} {x:α} (h:xs[k]? = some x):xs.take k++[x]=xs.take (k+1):=by
 rw[take_add_one,h];rfl
theorem jW {α:Type} {xs:List α} {k:Nat} (h:¬ (k:Int)<xs.length):xs.take k=xs:=take_of_length_le aA
theorem eV (xs:List Entry) (hl:xs.length≤1048576):Ct1 prog 235 [.L xs] [.rw (inferInstance:Shape Entry) 243 xs]:=
 vc func235 (fun hg => .as (inferInstance:Shape Entry) eL [] xs 32 (by simp only[length_nil];unfold maxLen;omega) (by simp only[length_nil];omega) <| .rt () ⟨trivial,trivial⟩) aC
theorem aD0 (p:Plan) (hl:p.edges.length≤1048576):Ct1 prog 347 [.S p] [.S p]:=
 vc func347 (fun hg => .as (inferInstance:Shape Edge) aG0 [] p.edges 16 (by simp only[length_nil];unfold maxLen;omega) (by simp only[length_nil];omega) <| .rt () ⟨trivial,hg.1.1,trivial⟩) aC
theorem aC9 (p:Plan) (hl:p.edges.length≤1048576):Ct1 prog 366 [.S p] [.S p]:=
 vc func366 (fun hg => .e Edge <| .as (inferInstance:Shape Edge) aG0 [] p.edges 16 (by simp only[length_nil];unfold maxLen;omega) (by simp only[length_nil];omega) <| .rt () ⟨trivial,hg.1.1,trivial⟩) aC
theorem vD (r:Run) (hl:r.plan.edges.length≤1048576) (ht:r.tasks.length≤1048576):Ct1 prog 236 [.S r] [.S r]:=
 vc func236 (fun (hg:gin [Par.S r]) => .c func347 (aD0 r.plan hl) (hg:=⟨hg.1.1.2.1,trivial⟩) fun _ => .as (inferInstance:Shape Task) aF9 [] r.tasks 32 (by simp only[length_nil];unfold maxLen;omega) (by simp only[length_nil];omega) <| .rt () ⟨trivial,hg.1.1,trivial⟩) aC
theorem lD (r:Run) (hl:r.plan.edges.length≤1048576) (ht:r.tasks.length≤1048576):Ct1 prog 288 [.S r] [.S r]:=
 vc func288 (fun (hg:gin [Par.S r]) => .c func366 (aC9 r.plan hl) (hg:=⟨hg.1.1.2.1,trivial⟩) fun _ => .e Task <| .as (inferInstance:Shape Task) aF9 [] r.tasks 32 (by simp only[length_nil];unfold maxLen;omega) (by simp only[length_nil];omega) <| .rt () ⟨trivial,hg.1.1,trivial⟩) aC
theorem jG {y:Yard} {k:Nat} {l:List Entry} (h:y.shelf[k]? = some l) (hw:y.wt≤1048576):l.length≤1048576:=by have:=qG h hw;omega
theorem eH (y:Yard) (hw:y.wt≤1048576):Ct1 prog 119 [.S y] [.S y]:=
 vc func119 (fun (hg:gin [Par.S y])=>let hb:=dV y hw
  .wt 14 <| .r0 (inferInstance:Shape (List Entry)) 217 <| .l (Γ:=Nat) (fun k=>k≤y.shelf.length) (fun k=>y.shelf.length - k) [1,2,3,14,15] [2,3] [0,1] (fun k=>[vI 16 k]) (fun k=>[oR 5 217 (y.shelf.take k),oB 4 [.v (I y.now),.v (I y.seq),.r 5,.v (.slice none 0 0)]]) 0 fun k hk t=>
   .s ((k:Int)<y.shelf.length)
    (fun h => .x y.shelf k (h:=by omega) fun l hl gl => .c func235 (eV l (jG hl hw)) fun _ => .a (y.shelf.take k) l 24 (hy:=trivial) (h63:=by rw[length_take];unfold maxLen;omega) (hby:=by rw[length_take];omega) <| .g 5 (cU hl) <| .p k 1 (h:=by unfold I64;omega) <| .n t (k+1) [])
    (fun h => .g 5 (jW h) <| .r0 (inferInstance:Shape Run) 55 <| .l (Γ:=Nat) (fun k=>k≤y.runs.length) (fun k=>y.runs.length - k) [1,2,3,29,30] [2,3] [0,1] (fun k=>[vI 31 k]) (fun k=>[oR 5 217 y.shelf,oR 6 55 (y.runs.take k),oB 4 [.v (I y.now),.v (I y.seq),.r 5,.r 6]]) 0 fun k hk t=>
     .s ((k:Int)<y.runs.length)
      (fun h2 => .x y.runs k (h:=by omega) fun r hr gr=>let hrl:=gQ hw hr
       .c func236 (vD r hrl.2.2 hrl.2.1) (hg:=⟨gr,trivial⟩) fun _ => .a (y.runs.take k) r 96 (hy:=gr) (h63:=by rw[length_take];unfold maxLen;omega) (hby:=by rw[length_take];omega) <| .g 6 (cU hr) <| .p k 1 (h:=by unfold I64;omega) <| .n t (k+1) [])
      (fun h2 => .g 6 (jW h2) <| .rt () ⟨trivial,hg.1.1,trivial⟩))) aC
theorem eG (y:Yard) (hw:y.wt≤1048576):Ct1 prog 184 [.S y] [.S y]:=
 vc func184 (fun (hg:gin [Par.S y])=>let hb:=dV y hw
  .wt 4 <| .r0 (inferInstance:Shape (List Entry)) 217 <| .l (Γ:=Nat) (fun k=>k≤y.shelf.length) (fun k=>y.shelf.length - k) [1,2,3] [2,3] [0,1] (fun k=>[vI 4 k]) (fun k=>[oR 5 217 (y.shelf.take k),oB 4 [.v (I y.now),.v (I y.seq),.r 5,.v (.slice none 0 0)]]) 0 fun k hk t=>
   .s ((k:Int)<y.shelf.length)
    (fun h => .x y.shelf k (h:=by omega) fun l hl gl=>let hll:=jG hl hw
     .e Entry <| .as (inferInstance:Shape Entry) eL [] l 32 (by simp only[length_nil];unfold maxLen;omega) (by simp only[length_nil];omega) <| .a (y.shelf.take k) l 24 (hy:=trivial) (h63:=by rw[length_take];unfold maxLen;omega) (hby:=by rw[length_take];omega) <| .g 5 (cU hl) <| .p k 1 (h:=by unfold I64;omega) <| .n t (k+1) [])
    (fun h => .g 5 (jW h) <| .r0 (inferInstance:Shape Run) 55 <| .l (Γ:=Nat) (fun k=>k≤y.runs.length) (fun k=>y.runs.length - k) [1,2,3] [2,3] [0,1] (fun k=>[vI 5 k]) (fun k=>[oR 5 217 y.shelf,oR 6 55 (y.runs.take k),oB 4 [.v (I y.now),.v (I y.seq),.r 5,.r 6]]) 0 fun k hk t=>
     .s ((k:Int)<y.runs.length)
      (fun h2 => .x y.runs k (h:=by omega) fun r hr gr=>let hrl:=gQ hw hr
       .c func288 (lD r hrl.2.2 hrl.2.1) (hg:=⟨gr,trivial⟩) fun _ => .a (y.runs.take k) r 96 (hy:=gr) (h63:=by rw[length_take];unfold maxLen;omega) (hby:=by rw[length_take];omega) <| .g 6 (cU hr) <| .p k 1 (h:=by unfold I64;omega) <| .n t (k+1) [])
      (fun h2 => .g 6 (jW h2) <| .rt () ⟨trivial,hg.1.1,trivial⟩))) aC
structure waitP (e:Engine) (k:Nat) (w:Wait):Prop where
 rng:inB w.call 1 e.calls=true
 up:∀ j v,k=j+1→e.waits[j]? = some v→v.call<w.call
structure engH (e:Engine):Prop where
 yard:aK e.yard=true
 disk:bW e.disk=true
 next:inB e.next 1 999999999=true
 calls:inB e.calls 0 999999999=true
 waits:¬ (60:Int)<e.waits.length
 state:inB e.state 1 3=true
structure engP (e:Engine):Prop extends engH e where
 ok:∀ k w,e.waits[k]? = some w→waitP e k w
noncomputable def kE (e:Engine):Bool:=pB (engP e)
theorem engOk_iff {e:Engine}:kE e=true↔engP e:=pB_iff
structure EgJ (e:Engine) (k:Nat):Prop extends engH e where
 le:k≤e.waits.length
 ok:∀ j w,j<k→e.waits[j]? = some w→waitP e j w
theorem oP {e:Engine} (h:¬ engH e):false=kE e:=(kI fun hp=>h hp.toengH).symm
theorem aN7 {e:Engine} {k:Nat} {w:Wait} (hw:e.waits[k]? = some w) (h:¬ waitP e k w):false=kE e:=(kI fun hp=>h (hp.ok k w hw)).symm
theorem EgJ.start {e:Engine} (h:engH e):EgJ e 0:=⟨h,Nat.zero_le _,fun j w h=>by omega⟩
theorem EgJ.step {e:Engine} {k:Nat} {w:Wait} (h:EgJ e k) (hw:e.waits[k]? = some w) (hok:waitP e k w):EgJ e (k+1):=by
 refine ⟨h.toengH,(gsi_.1 hw).1,fun j g hj hg => ?_⟩
 rcases Nat.lt_succ_iff_lt_or_eq.1 hj with h1 | rfl
 ·exact h.ok j g h1 hg
 rw[hw] at hg;cases hg;exact hok
theorem bP6 {e:Engine} {k:Nat} (h:EgJ e k) (hk:¬ (k:Int)<e.waits.length):true=kE e:=(tD ⟨h.toengH,fun j w hj=>h.ok j w (by have:=(gsi_.1 hj).1;omega) hj⟩).symm
theorem xJ {e:Engine} {k:Nat} {w:Wait} (h1:inB w.call 1 e.calls=true) (h:¬ (0:Int)<k):waitP e k w:=⟨h1,fun j v e1 _=>by omega⟩
theorem aD9 {e:Engine} {k:Nat} {w v:Wait} (h1:inB w.call 1 e.calls=true) (hv:e.waits[k - 1]? = some v) (h:¬ w.call≤v.call):waitP e k w:=⟨h1,fun j u e1 hu=>by subst e1;rw[Nat.add_sub_cancel,hu] at hv;cases hv;omega⟩
theorem aP0 {e:Engine} {k:Nat} {w v:Wait} (hk:(0:Int)<k) (hv:e.waits[k - 1]? = some v) (h:w.call≤v.call):¬ waitP e k w:=fun hp=>by
 have:=hp.up (k - 1) v aA hv
 omega
theorem EngineOkI (e:Engine) (hw:e.yard.wt≤1048576):Ct1 prog 29 [.S e] [.B (kE e)]:=
 .one (kE e) (rk:=fun a=>[.B a])<|vc func29 (fun hg => .c func118 (YardOkD e.yard hw) (hg:=⟨hg.1.1.1,trivial⟩) fun _ => .v (aK e.yard)
  (fun h => .rt false ⟨oP (fun e=>by have:=e.yard;simp_all),trivial⟩)
  (fun g1 => .c func84 (aO6 e.disk) fun _ => .v (bW e.disk)
  (fun h => .rt false ⟨oP (fun e=>by have:=e.disk;simp_all),trivial⟩)
  (fun g2 => .c func92 (bN e.next 1 999999999) fun _ => .v (inB e.next 1 999999999)
  (fun h => .rt false ⟨oP (fun e=>by have:=e.next;simp_all),trivial⟩)
  (fun g3 => .c func92 (bN e.calls 0 999999999) fun _ => .v (inB e.calls 0 999999999)
  (fun h => .rt false ⟨oP (fun e=>by have:=e.calls;simp_all),trivial⟩)
  (fun g4 => .s ((60:Int)<e.waits.length)
  (fun h => .rt false ⟨oP (fun e=>e.waits h),trivial⟩)
  (fun g5 => .c func92 (bN e.state 1 3) fun _ => .v (inB e.state 1 3)
  (fun h => .rt false ⟨oP (fun e=>by have:=e.state;simp_all),trivial⟩)
  (fun g6 => .l (Γ:=Nat) (fun k=>EgJ e k) (fun k=>e.waits.length - k) [1,40,41] [4] [0,1,2,3] (fun k=>[vI 42 k]) (fun _=>[]) 0 (h:=EgJ.start ⟨g1,g2,g3,g4,g5,g6⟩) fun k hJ t=>let hkl:k≤e.waits.length:=hJ.le
   .s ((k:Int)<e.waits.length)
    (fun h => .x e.waits k (h:=by omega) fun w hw0 gw => .c func92 (bN w.call 1 e.calls) fun _ => .v (inB w.call 1 e.calls)
     (fun h1 => .rt false ⟨aN7 hw0 (fun h=>by have:=h.rng;simp_all),trivial⟩)
     (fun h1 => .s ((0:Int)<(k:Int))
      (fun h2 => .m (k:Int) 1 (h:=by unfold I64;omega) <| .xe e.waits (k - 1) ((k:Int) - 1) (h:=by omega) (he:=by omega) fun v hv gv => .s (w.call≤v.call)
       (fun h3 => .rt false ⟨aN7 hw0 (aP0 h2 hv h3),trivial⟩)
       (fun h3 => .p k 1 (h:=by unfold I64;omega) <| .n t (k+1) [] (hJ.step hw0 (aD9 h1 hv h3)) aA))
      (fun h2 => .p k 1 (h:=by unfold I64;omega) <| .n t (k+1) [] (hJ.step hw0 (xJ h1 h2)) aA)))
    (fun h => .rt true ⟨bP6 hJ h,trivial⟩)))))))) aC
theorem EngineOkS (e:Engine) (hw:e.yard.wt≤1048576):Ct1 prog 80 [.S e] [.B (kE e)]:=
 .one (kE e) (rk:=fun a=>[.B a])<|vc func80 (fun hg => .c func185 (YardOkSD e.yard hw) (hg:=⟨hg.1.1.1,trivial⟩) fun _ => .v (aK e.yard)
  (fun h => .rt false ⟨oP (fun e=>by have:=e.yard;simp_all),trivial⟩)
  (fun g1 => .c func116 (pR e.disk) fun _ => .v (bW e.disk)
  (fun h => .rt false ⟨oP (fun e=>by have:=e.disk;simp_all),trivial⟩)
  (fun g2 => .c func138 (InV e.next 1 999999999) fun _ => .v (inB e.next 1 999999999)
  (fun h => .rt false ⟨oP (fun e=>by have:=e.next;simp_all),trivial⟩)
  (fun g3 => .c func138 (InV e.calls 0 999999999) fun _ => .v (inB e.calls 0 999999999)
  (fun h => .rt false ⟨oP (fun e=>by have:=e.calls;simp_all),trivial⟩)
  (fun g4 => .s ((60:Int)<e.waits.length)
  (fun h => .rt false ⟨oP (fun e=>e.waits h),trivial⟩)
  (fun g5 => .c func138 (InV e.state 1 3) fun _ => .v (inB e.state 1 3)
  (fun h => .rt false ⟨oP (fun e=>by have:=e.state;simp_all),trivial⟩)
  (fun g6 => .l (Γ:=Nat) (fun k=>EgJ e k) (fun k=>e.waits.length - k) [1] [4] [0,1,2,3] (fun k=>[vI 3 k]) (fun _=>[]) 0 (h:=EgJ.start ⟨g1,g2,g3,g4,g5,g6⟩) fun k hJ t=>let hkl:k≤e.waits.length:=hJ.le
   .s ((k:Int)<e.waits.length)
    (fun h => .x e.waits k (h:=by omega) fun w hw0 gw => .c func138 (InV w.call 1 e.calls) fun _ => .v (inB w.call 1 e.calls)
     (fun h1 => .rt false ⟨aN7 hw0 (fun h=>by have:=h.rng;simp_all),trivial⟩)
     (fun h1 => .s ((0:Int)<(k:Int))
      (fun h2 => .m (k:Int) 1 (h:=by unfold I64;omega) <| .xe e.waits (k - 1) ((k:Int) - 1) (h:=by omega) (he:=by omega) fun v hv gv => .y hw0 fun _ => .s (w.call≤v.call)
       (fun h3 => .rt false ⟨aN7 hw0 (aP0 h2 hv h3),trivial⟩)
       (fun h3 => .p k 1 (h:=by unfold I64;omega) <| .n t (k+1) [] (hJ.step hw0 (aD9 h1 hv h3)) aA))
      (fun h2 => .p k 1 (h:=by unfold I64;omega) <| .n t (k+1) [] (hJ.step hw0 (xJ h1 h2)) aA)))
    (fun h => .rt true ⟨bP6 hJ h,trivial⟩)))))))) aC
theorem aC8 (y:Yard) (hw:y.wt≤1048576):Ct1 prog 119 [.S y] [.S y]:=eH y hw
theorem CopyYardSD (y:Yard) (hw:y.wt≤1048576):Ct1 prog 184 [.S y] [.S y]:=eG y hw
theorem CopyEngineI (e:Engine) (hw:e.yard.wt≤1048576) (hd:e.disk.files.length≤1048576) (hs:e.waits.length≤1048576):Ct1 prog 82 [.S e] [.S e]:=
 vc func82 (fun hg => .c func119 (aC8 e.yard hw) (hg:=⟨hg.1.1.1,trivial⟩) fun _ => .c func89 (nF e.disk aA) fun _ => .as (inferInstance:Shape Wait) rO [] e.waits 40 (by simp only[length_nil];unfold maxLen;omega) (by simp only[length_nil];omega) <| .wt 15 <| .sh 8 <| .sh 9 <| .rt () ⟨trivial,hg.1.1,trivial⟩) aC
def brk (e:Engine):Engine:=⟨e.yard,e.disk,e.next,e.calls,e.waits,2,false⟩
theorem BrokenI (e:Engine) (hw:e.yard.wt≤1048576) (hd:e.disk.files.length≤1048576) (hs:e.waits.length≤1048576):Ct1 prog 93 [.S e] [.S (brk e)]:=
 vc func93 (fun hg => .c func82 (CopyEngineI e hw hd hs) (hg:=⟨hg.1.1,trivial⟩) fun _ => .rt () ⟨trivial,⟨hg.1.1.1,hg.1.1.2.1,hg.1.1.2.2.1,by show I64 2;unfold I64;omega⟩,trivial⟩) aC
theorem DeleteRun {w W0:World} {rs:List Res} {v:Value} {xs:List Run} {fp:List Nat} {k:Nat} (hst:St w W0 (Res.own v xs fp::rs)) (hk:k<xs.length) (hxl:xs.length≤1048576:=by omega) :
  Calls prog 317 #[v,I (k:Int),I ((k:Int)+1)] W0 fun e w'=>∃ (v':Value) (fp':List Nat),e = .returned v'∧St w w' (Res.own v' (xs.eraseIdx k) fp'::rs):=by
 refine bP2 func317 rfl ntmps317 eS (wp_seq ?_)
 have hq_:=St.ownOpen' hst eS aA
 obtain ⟨bD,oD,cD,CD,eD,feD,hvD,hcD,hmD,hlD,st1⟩:=hq_
 subst hvD
 refine aD (sg (bI (v := .slice none 0 0) rfl (aI (wp_seq (aD (rn st1 5 Ag.nil.put.put.put.put [] [(8,.slice (some ⟨bD,oD,none⟩) xs.length cD),(9,I (k:Int)),(10,I ((k:Int)+1)),(12,I ((xs.length:Nat):Int))] [.l (.slice (some ⟨bD,oD,none⟩) xs.length cD) xs.length ⟨_,_,rfl⟩] aC fun f5 h5_=>(sg (stp_x3 (l:=k) (h:=k+1) (mx:=xs.length) gE (h5_.at 8) (h5_.at 9) (h5_.at 10) (h5_.at 12) aA aA aA aA aA aA ?_))))))));intro v3_
 refine aI (wp_seq (wp_seq (aD (rn st1 3 h5_.put [] [(16,.bool (decide ((k:Int)=((k:Int)+1))))] [.o] aC fun f7 h7_=>(aI (iK (h7_.at 16) (fun h8p => ?_) (fun h8p => ?_)))))))
 ·omega
 refine wp_skip (wp_seq (aD (rn st1 3 h7_ [] [(7,I ((xs.length:Nat):Int))] [.l (.slice (some ⟨bD,oD,none⟩) xs.length cD) xs.length ⟨_,_,rfl⟩] aC fun f10 h10_=>(aI (wp_seq ?_)))))
 rcases nem (k+1<cD) with h11p | h11p
 ·refine nI 6 [] [(true,.is (.slice (some ⟨bD,oD,none⟩) xs.length cD)),(true,.is (I (k:Int))),(true,.is (.slice (some ⟨bD,oD,none⟩) k cD)),(true,.is (.slice (some ⟨bD,oD,none⟩) xs.length cD)),(true,.is (I ((k:Int)+1))),(true,.is (.slice (some ⟨bD,oD,none⟩) 0 0))] mix aC aC aC aC (rs0:=[]) rfl st1 (Below.refl _ _) ⟨(mq_ (h10_.at 0)),(mq_ (h10_.at 1)),(fun f W hst hbl hd hf=>uG (h:=k) gE (hd 0 20 rfl rfl) (hd 1 21 rfl rfl) aA aA aA brq),(mq_ (h10_.at 0)),(mq_ (h10_.at 2)),(fun f W hst hbl hd hf=>bK0 (l:=k+1) gE (hd 3 23 rfl rfl) (hd 4 24 rfl rfl) aA aA aA brq),trivial⟩ ?_
  intro f12 W13 rs_ hAL_ st16 hbl17 hv14 hf15
  have hn_:rs_=[]:=hAL_
  subst hn_
  try simp only[cap_,zA] at st16
  have h1_:∀ v∈(CD.drop (oD+(k+1)*8)).take ((xs.length - (k+1))*8),v.oneCell'=true:=fun v hv=>(st16.get 1 rfl).1.one v (aZ4 hv (by show (k+1)*8+(xs.length - (k+1))*8≤xs.length*8;omega))
  have h0_:xs.length - (k+1)=0:=by omega
  refine sg (aE7 (α:=Run) (i:=k) (m:=xs.length - (k+1)) (oy:=oD+(k+1)*8) (q:=xs.length - 1) gE (hv14 2 22 eS rfl) (Eq.trans (hv14 5 25 eS rfl) (by rw[h0_])) (fun hz=>by omega) aA aA (by show oD+(k+1)*8+(xs.length - (k+1))*8≤CD.length;have hl_:oD+xs.length*8≤CD.length:=hlD;omega) (by show oD+k*8+(xs.length - (k+1))*8≤CD.length;have hl_:oD+xs.length*8≤CD.length:=hlD;omega) h1_ st16 ?_);intro W19 st20
  refine sg (bI (v := .slice (some ⟨bD,oD,none⟩) (xs.length - 1) cD) rfl (aI (wp_seq (aD (rn st20 4 (Ag.cons (show f12 7=I ((xs.length:Nat):Int) from ((hf15 7 rfl).trans (h10_.at 7))) Ag.nil).put.put [] [(27,.slice (some ⟨bD,oD,none⟩) (xs.length - 1) cD),(29,I (((xs.length - 1):Nat):Int)),(30,I ((xs.length:Nat):Int))] [.l (.slice (some ⟨bD,oD,none⟩) (xs.length - 1) cD) (xs.length - 1) ⟨_,_,rfl⟩] aC fun f24 h24_=>(sg (bK1 (l:=xs.length - 1) (h:=xs.length) gE (h24_.at 27) (h24_.at 29) (h24_.at 30) aA aA aA aA aA ?_)))))))
  refine sgn (rJ (s:=8) (zs:=[I 0,I 0,I 0,I 0,I 0,.slice none 0 0,I 0,.slice none 0 0]) underlying25 aC rfl aA (by intro v hv;simp only[mem_cons,not_mem_nil,or_false] at hv;rcases hv with rfl | rfl | rfl | rfl | rfl | rfl | rfl | rfl <;> rfl) rfl aA st20 (by rw[dR];have hl_:oD+xs.length*8≤CD.length:=hlD;show oD+(xs.length - 1)*8+(xs.length - (xs.length - 1))*8≤_;omega) ?_);intro ZD W25 hZD st26
  refine aI (wp_seq (aD (sg (bX (h24_.at 0) (sg (bI (v := .slice (some ⟨bD,oD,none⟩) (xs.length - 1) cD) rfl (aI (wr (aL8 results317 rfl ?_)))))))))
  have hE_:=(st26.get 1 rfl).1.erase hk
  obtain ⟨f1,f2,f3,hfe_,hE3⟩:=hE_
  have hs_:=st26.f1.es_sub (fe':=f1++f3) (by rw[hfe_];exact (List.Sublist.refl _).append (sublist_append_right _ _)) hE3
  have hq_:=St.ownShut' (off:=oD) (cap:=cD) (m:=xs.length - 1) hs_.f1 (aI6 hk hlD (by rw[hZD,show xs.length - (xs.length - 1)=1 by omega];rfl)).symm (by rw[length_eraseIdx_of_lt hk]) aA hmD
  obtain ⟨fpz,stz⟩:=hq_
  exact ⟨_,fpz,rfl,stz⟩
 refine nI 6 [] [(true,.is (.slice (some ⟨bD,oD,none⟩) xs.length cD)),(true,.is (I (k:Int))),(true,.is (.slice (some ⟨bD,oD,none⟩) k cD)),(true,.is (.slice (some ⟨bD,oD,none⟩) xs.length cD)),(true,.is (I ((k:Int)+1))),(true,.is (.slice (some ⟨bD,oD+(k+1)*8,none⟩) (xs.length - (k+1)) (cD - (k+1))))] mix aC aC aC aC (rs0:=[]) rfl st1 (Below.refl _ _) ⟨(mq_ (h10_.at 0)),(mq_ (h10_.at 1)),(fun f W hst hbl hd hf=>uG (h:=k) gE (hd 0 20 rfl rfl) (hd 1 21 rfl rfl) aA aA aA brq),(mq_ (h10_.at 0)),(mq_ (h10_.at 2)),(fun f W hst hbl hd hf=>nJ (l:=k+1) gE (hd 3 23 rfl rfl) (hd 4 24 rfl rfl) aA aA aA brq),trivial⟩ ?_
 intro f29 W30 rs_ hAL_ st33 hbl34 hv31 hf32
 have hn_:rs_=[]:=hAL_
 subst hn_
 try simp only[cap_,zA] at st33
 have h1_:∀ v∈(CD.drop (oD+(k+1)*8)).take ((xs.length - (k+1))*8),v.oneCell'=true:=fun v hv=>(st33.get 1 rfl).1.one v (aZ4 hv (by show (k+1)*8+(xs.length - (k+1))*8≤xs.length*8;omega))
 refine sg (aE7 (α:=Run) (i:=k) (m:=xs.length - (k+1)) (oy:=oD+(k+1)*8) (q:=xs.length - 1) gE (hv31 2 22 eS rfl) (hv31 5 25 eS rfl) (fun _=>rfl) aA aA (by show oD+(k+1)*8+(xs.length - (k+1))*8≤CD.length;have hl_:oD+xs.length*8≤CD.length:=hlD;omega) (by show oD+k*8+(xs.length - (k+1))*8≤CD.length;have hl_:oD+xs.length*8≤CD.length:=hlD;omega) h1_ st33 ?_);intro W36 st37
 refine sg (bI (v := .slice (some ⟨bD,oD,none⟩) (xs.length - 1) cD) rfl (aI (wp_seq (aD (rn st37 4 (Ag.cons (show f29 7=I ((xs.length:Nat):Int) from ((hf32 7 rfl).trans (h10_.at 7))) Ag.nil).put.put [] [(27,.slice (some ⟨bD,oD,none⟩) (xs.length - 1) cD),(29,I (((xs.length - 1):Nat):Int)),(30,I ((xs.length:Nat):Int))] [.l (.slice (some ⟨bD,oD,none⟩) (xs.length - 1) cD) (xs.length - 1) ⟨_,_,rfl⟩] aC fun f41 h41_=>(sg (bK1 (l:=xs.length - 1) (h:=xs.length) gE (h41_.at 27) (h41_.at 29) (h41_.at 30) aA aA aA aA aA ?_)))))))
 refine sgn (rJ (s:=8) (zs:=[I 0,I 0,I 0,I 0,I 0,.slice none 0 0,I 0,.slice none 0 0]) underlying25 aC rfl aA (by intro v hv;simp only[mem_cons,not_mem_nil,or_false] at hv;rcases hv with rfl | rfl | rfl | rfl | rfl | rfl | rfl | rfl <;> rfl) rfl aA st37 (by rw[dR];have hl_:oD+xs.length*8≤CD.length:=hlD;show oD+(xs.length - 1)*8+(xs.length - (xs.length - 1))*8≤_;omega) ?_);intro ZD W42 hZD st43
 refine aI (wp_seq (aD (sg (bX (h41_.at 0) (sg (bI (v := .slice (some ⟨bD,oD,none⟩) (xs.length - 1) cD) rfl (aI (wr (aL8 results317 rfl ?_)))))))))
 have hE_:=(st43.get 1 rfl).1.erase hk
 obtain ⟨f1,f2,f3,hfe_,hE3⟩:=hE_
 have hs_:=st43.f1.es_sub (fe':=f1++f3) (by rw[hfe_];exact (List.Sublist.refl _).append (sublist_append_right _ _)) hE3
 have hq_:=St.ownShut' (off:=oD) (cap:=cD) (m:=xs.length - 1) hs_.f1 (aI6 hk hlD (by rw[hZD,show xs.length - (xs.length - 1)=1 by omega];rfl)).symm (by rw[length_eraseIdx_of_lt hk]) aA hmD
 obtain ⟨fpz,stz⟩:=hq_
 exact ⟨_,fpz,rfl,stz⟩
theorem VarsI (l:List Int) (hl:l.length≤20000000):Ct1 prog 203 [.L l] [.T ⟨(fS l).toArray⟩]:=
 vc func203 (fun hg => .w UInt8 5 3 <| .l (Γ:=Nat) (fun k=>k≤l.length) (fun k=>l.length - k) [6,7] [] [0] (fun k=>[vR 3 1,vI 8 k]) (fun k=>[oR 1 5 (fS (l.take k))]) 0 fun k hk t=>
  let hb:(fS (l.take k)).length≤5*l.length:=by have:=xW (l.take k);rw[length_take] at this;omega
  .s ((k:Int)<l.length)
   (fun h => .x l k (h:=by omega) fun z hz gz => .c func202 (VarTextD z) fun _ => .bs (fS (l.take k)) (aY z) (by have:=dJ z;unfold maxLen;omega) (by have:=dJ z;omega) <|
    .g 1 (vH hz) <| .p k 1 (h:=by unfold I64;omega) <| .n t (k+1) [])
   (fun h => .g 1 (show fS (l.take k)=fS l by rw[take_of_length_le aA]) <| .so (fS l) <| .rt () ⟨trivial,trivial⟩)) aC
theorem n4 (n:Nat) (h:n≤8388611):n+40≤maxLen∧(n+40)*8≤140737488355328:=by unfold maxLen;omega
def kM (l:List Int):ByteArray:=⟨(fS l).toArray⟩
theorem strOf_size (l:List Int):(kM l).size≤5*l.length:=by
 have:=xW l
 show (fS l).toArray.size≤_
 simpa using this
theorem str_step {l:List Int} {k:Nat} {z:Int} (h:l[k]? = some z):kM (l.take k)++aY z=kM (l.take (k+1)):=by
 apply ByteArray.ext
 rw[ByteArray.data_append]
 apply Array.toList_inj.1
 show _=fS (l.take (k+1))
 rw[← vH h]
 simp[kM]
theorem VarsS (l:List Int) (hl:l.length≤20000000):Ct1 prog 218 [.L l] [.T (kM l)]:=
 vc func218 (fun hg => .l (Γ:=Nat) (fun k=>k≤l.length) (fun k=>l.length - k) [0] [] [0] (fun k=>[vT 3 (kM (l.take k)),vI 4 k]) (fun _=>[]) 0 fun k hk t=>
  let hb:(kM (l.take k)).size≤5*l.length:=by have:=strOf_size (l.take k);rw[length_take] at this;omega
  .s ((k:Int)<l.length)
   (fun h => .x l k (h:=by omega) fun z hz gz => .c func214 (VarTextSD z) fun _ => .pb .add (iT (kM (l.take k)) (aY z) (by have:=dJ z;omega)) <|
    .rv 17 (.string (kM (l.take (k+1)))) (y := .string (kM (l.take k)++aY z)) (by rw[str_step hz]) <| .p k 1 (h:=by unfold I64;omega) <| .n t (k+1) [])
   (fun h => .rv 3 (.string (kM l)) (y := .string (kM (l.take k))) (by rw[take_of_length_le aA]) <| .rt () ⟨trivial,trivial⟩)) aC
abbrev bB8:ByteArray:=⟨#[110,101,120,116]⟩
abbrev logN:ByteArray:=⟨#[108,111,103]⟩
abbrev markN:ByteArray:=⟨#[109,97,114,107]⟩
def withD (e:Engine) (d:Disk):Engine:=⟨e.yard,d,e.next,e.calls,e.waits,e.state,e.broken⟩
noncomputable def aU6 (d:Disk) (nm:ByteArray):Disk×Bool:=if 0≤fAt d.files nm then xD d nm 0 else (d,true)
noncomputable def opF (e:Engine) (k:Int):Disk×Bool:=
 if k=0 then aU6 e.disk bB8 else if k=4 then aU6 e.disk logN else if k=1 then gH e.disk bB8 (markT (e.next - 1) (yardT e.yard)) else if k=2 then aZ2 e.disk bB8 else bC4 e.disk bB8 markN
noncomputable def zB (e:Engine) (k:Int):Engine×Bool:=
 if ¬ (kE e=true∧e.state=1∧inB k 0 4=true) then (e,false) else if e.broken=true then (brk e,false) else (withD e (opF e k).1,(opF e k).2)
def small (d:Disk):Prop:=d.files.length≤4∧∀ f∈d.files,f.wt≤60010
theorem bJ6 {α:Type} (f:α→Nat) (c:Nat):∀ l:List α,(∀ x∈l,f x≤c)→(l.map f).sum≤l.length*c
 | [],_=>by simp
 | x::l,h=>by
  have h1:=h x mem_cons_self
  have h2:=bJ6 f c l fun y hy=>h y (mem_cons_of_mem _ hy)
  simp only[map_cons,sum_cons,length_cons,Nat.add_mul,Nat.one_mul]
  omega
theorem small_wt {d:Disk} (h:small d):d.wt≤300000:=by
 have:=bJ6 (fun y:File=>y.wt) 60010 d.files h.2
 have:=h.1
 unfold Disk.wt wtL
 omega
theorem nL {d:Disk} (h:bW d=true) {f:File} (hf:f∈d.files):f.name.size≤10∧f.data.size≤60000:=by
 obtain ⟨k,hk⟩:=mem_iff_getElem?.1 hf
 have h1:=((diskOk_iff.1 h).ok k f hk)
 have h2:=h1.name
 have h3:=h1.data
 unfold pC inB at h2
 simp only[Bool.and_eq_true,decide_eq_true_eq] at h2
 omega
theorem aR4 {d:Disk} (h:bW d=true):small d:=⟨uS h,fun f hf=>by have:=nL h hf;unfold File.wt;omega⟩
theorem aE9 {d:Disk} (h:bW d=true) {k:Nat} {y:File} (hy:y.wt≤60010):small ⟨d.files.set k y⟩:=⟨by show (d.files.set k y).length≤4;rw[length_set];exact uS h,fun f hf=>by
 rcases mem_or_eq_of_mem_set hf with h1 | rfl
 ·exact (aR4 h).2 f h1
 ·exact hy⟩
theorem bC2 {d:Disk} (h:bW d=true) {k:Nat} {to:ByteArray} (ht:to.size≤10):∀ i,∀ f∈mvG d.files k to i,f.wt≤60010
 | 0,f,hf=>by cases hf
 | i+1,f,hf=>by
  have ih:=bC2 h (k:=k) ht i
  have hf:f∈(match d.files[i]? with | some g=>if g.name=to then mvG d.files k to i else mvG d.files k to i++[if i=k then mvF g to else g] | none=>mvG d.files k to i):=hf
  split at hf
  ·rename_i g hg
   have hs:=nL h (mem_of_getElem? hg)
   split at hf
   ·exact ih f hf
   ·rcases mem_append.1 hf with h1 | h1
    ·exact ih f h1
    ·rw[mem_singleton] at h1
     subst h1
     split
     ·show to.size+g.data.size≤60010;omega
     ·unfold File.wt;omega
  ·exact ih f hf
theorem aY1 (d:Disk) (nm more:ByteArray):(gH d nm more).1=d∨small (gH d nm more).1:=by
 unfold gH
 split
 ·rename_i h;exact .inr (aR4 h.2)
 exact .inl rfl
theorem sync_s (d:Disk) (nm:ByteArray):(aZ2 d nm).1=d∨small (aZ2 d nm).1:=by
 unfold aZ2
 split
 ·rename_i h
  unfold synD
  simp only
  split
  ·rename_i f hf
   have:=nL h.2 (mem_of_getElem? hf)
   exact .inr (aE9 h.2 (by show f.name.size+f.data.size≤_;omega))
  exact .inl rfl
 exact .inl rfl
theorem cut_s (d:Disk) (nm:ByteArray) (n:Int):(xD d nm n).1=d∨small (xD d nm n).1:=by
 unfold xD
 split
 ·rename_i h
  unfold cutD
  simp only
  split
  ·rename_i f hf
   have:=nL h.2.1 (mem_of_getElem? hf)
   exact .inr (aE9 h.2.1 (by show f.name.size+(f.data.extract 0 n.toNat).size≤_;rw[ByteArray.size_extract];omega))
  exact .inl rfl
 exact .inl rfl
theorem move_s (d:Disk) (fr to:ByteArray):(bC4 d fr to).1=d∨small (bC4 d fr to).1:=by
 unfold bC4
 split
 ·rename_i h
  have h3:=h.2.2.2.1
  unfold pC inB at h3
  simp only[Bool.and_eq_true,decide_eq_true_eq] at h3
  refine .inr ⟨?_,fun f hf=>bC2 h.2.1 aA _ f hf⟩
  have:=bC3 d.files (fAt d.files fr).toNat to d.files.length
  have:=uS h.2.1
  simp only
  omega
 exact .inl rfl
theorem bE9 (d:Disk) (nm:ByteArray):(aU6 d nm).1=d∨small (aU6 d nm).1:=by
 unfold aU6
 split
 ·exact cut_s d nm 0
 exact .inl rfl
theorem op_s (e:Engine) (k:Int):(opF e k).1=e.disk∨small (opF e k).1:=by
 unfold opF
 split
 ·exact bE9 _ _
 split
 ·exact bE9 _ _
 split
 ·exact aY1 _ _ _
 split
 ·exact sync_s _ _
 exact move_s _ _ _
theorem aU1 {e:Engine} (hw:e.wt≤1048576):e.yard.wt≤1048576∧e.disk.files.length≤1048576∧e.waits.length≤1048576:=by
 unfold Engine.wt Disk.wt wtL at hw
 omega
noncomputable def gN (y:Yard) (p:Plan):Bool:=decide ((y.runs.length:Int)<8) && inB p.tasks 0 12 && decide (cV y+p.tasks≤40) && decide (y.seq≤999999000 - p.tasks)
theorem aF0 (y:Yard):0≤cV y∧cV y≤2*(y.wt:Int):=by
 have h1:=aF1 y y.runs.length
 rw[take_length] at h1
 have h2:=Nat.le_trans (pY y y.shelf.flatten) (aN1 y)
 unfold cV;omega
noncomputable def aK8 (p:Plan) (k:Nat):Task:=⟨if (aS p k).length=0 then 2 else 1,(aS p k).length,0,0⟩
noncomputable def cT (p:Plan) (k:Nat):List Task:=(List.range k).map (aK8 p)
noncomputable def bK (id:Int) (p:Plan):Run:=⟨id,p,1,cT p p.tasks.toNat⟩
theorem xX {p:Plan} {k:Nat} (h:((aS p k).length:Int)=0):cT p (k+1)=cT p k++[⟨2,(aS p k).length,0,0⟩]:=by
 unfold cT;rw[range_succ,map_append];simp only[map_cons,map_nil,aK8];rw[if_pos aA]
theorem xY {p:Plan} {k:Nat} (h:¬ ((aS p k).length:Int)=0):cT p (k+1)=cT p k++[⟨1,(aS p k).length,0,0⟩]:=by
 unfold cT;rw[range_succ,map_append];simp only[map_cons,map_nil,aK8];rw[if_neg aA]
theorem iI (p:Plan) (k:Nat):(cT p k).length=k:=by unfold cT;rw[length_map,length_range]
def zRun:Run:=⟨0,⟨0,0,0,0,[]⟩,0,[]⟩
noncomputable def kD (id:Int) (p:Plan):Bool:=inB id 1 9999 && decide (aG p=0)
noncomputable def yX (id:Int) (p:Plan):Run:=if kD id p=true then bK id p else zRun
theorem newR_f {id:Int} {p:Plan} (h:kD id p=false):yX id p=zRun:=by unfold yX;rw[h];rfl
theorem bN1 {id:Int} {p:Plan} (h:kD id p=true):yX id p=bK id p:=by unfold yX;rw[if_pos h]
theorem aR1 {p:Plan} (h:aG p=0):1≤p.tasks∧p.tasks≤12∧p.edges.length≤30:=by
 have:=(qW h).1;unfold bE at this;omega
def oL (xs:List Entry) (e:Entry):Nat:=(oQ (fun x => !dQ x e) xs).getD xs.length
def jY (xs:List Entry) (e:Entry):List Entry:=xs.take (oL xs e)++e::xs.drop (oL xs e)
theorem putIx_le (xs:List Entry) (e:Entry):oL xs e≤xs.length:=by
 unfold oL
 cases h:oQ (fun x => !dQ x e) xs with
 | none=>exact Nat.le_refl _
 | some k=>exact Nat.le_of_lt (aN0 h).1
theorem aQ9 (xs:List Entry) (e:Entry):(jY xs e).length=xs.length+1:=by
 have:=putIx_le xs e
 unfold jY
 rw[length_append,length_cons,length_take,length_drop];omega
theorem aQ8 {xs:List Entry} {e:Entry} {k:Nat} (hk:k≤xs.length) (ha:(xs.take k).any (fun x => !dQ x e)=false) (he:k=xs.length∨∃ h:k<xs.length,dQ xs[k] e=false):oL xs e=k:=by
 unfold oL
 rcases he with rfl | ⟨h,he⟩
 ·rw[take_length] at ha
  rw[nB ha];rfl
 rw[nA h ha (by simp[he])];rfl


theorem aR5 {a b c:Nat} (h:c≤a∧c≤b) (h2:c=a∨c=b):Nat.min a b=c:=by
 have:Nat.min a b=min a b:=rfl
 omega
theorem aM7 {C:List Value} {o m j:Nat} {v:Value} (h:((C.drop o).take m)[j]? = some v):C[o+j]? = some v:=by
 rw[getElem?_take] at h
 split at h
 ·rwa [getElem?_drop] at h
 cases h
theorem bC5 {W:World} {C:List Value} {xs:List Entry} {k m:Nat} (he:Elems W (C.take (xs.length*Shape.size Entry)) xs []) (hkm:k*4+m≤xs.length*4:=by omega):∀ v∈(C.drop (k*4)).take m,v.oneCell'=true:=by
 intro v hv
 refine he.one v ?_
 obtain ⟨j,hj⟩:=mem_iff_getElem?.1 hv
 have hjm:j<m:=by
  rw[getElem?_take] at hj
  split at hj
  ·assumption
  cases hj
 have:=aM7 hj
 exact mem_iff_getElem?.2 ⟨k*4+j,by rw[getElem?_take,if_pos (by show _<xs.length*4;omega)];exact this⟩
theorem overlaps_E {w0 W:World} {rs:List Res} {b b2:Nat} {C C2:List Value} {o2 n1 c1 n2 c2:Nat} {i:Nat} (hst:St w0 W (Res.bx b C 243::rs)) (hi:rs[i]? = some (Res.bx b2 C2 243)) (hC:0<C2.length) :
  (callFunc 407 #[.slice (some ⟨b,0,none⟩) n1 c1,.slice (some ⟨b2,o2,none⟩) n2 c2]).run prog W = .ok (.value (.bool false)) W:=by
 have hB:W.heap[b]? = some (.cells C.toArray 243 (0,0)):=hst.get 0 rfl
 have hB2:W.heap[b2]? = some (.cells C2.toArray 243 (0,0)):=hst.get (i+1) (by simpa using hi)
 have hne:b≠b2:=by
  have hnd:=hst.nodup
  rw[flatMap_cons,nodup_append] at hnd
  exact fun e=>hnd.2.2 b (by simp[Res.bx]) b2 (mem_flatMap.2 ⟨_,mem_of_getElem? hi,by simp[Res.bx]⟩) e
 rw[run_callFunc_extern func407 aC aC aC (e:=Extern.SlicesOverlaps.overlaps #[217,217] #[4]) aC,
  Go.Lib.run_overlaps_apart W 217 4 243 underlying217 4 (fun w=>fJ sl_EntryS.size w) ⟨b,0,none⟩ ⟨b2,o2,none⟩ n1 c1 n2 c2 hne 243 243 C.length C2.length
   (by simp[World.shape?,hB]) (by simp[World.shape?,hB2]) aA (by simp[World.frozen?,hB]) (by simp[World.frozen?,hB])]
 rfl

theorem InsertE {w W0:World} {rs:List Res} {v:Value} {xs:List Entry} {lb:Nat} {y:Entry} (k:Nat) (hst:St w W0 (Res.row (α:=Entry) 243 v xs []::Res.bx lb [I y.prio,I y.seq,I y.run,I y.task] 243::rs)) (hk:k≤xs.length) (hy:y.ok) (hxl:xs.length≤1048576) :
  Calls prog 395 #[v,I (k:Int),.slice (some ⟨lb,0,none⟩) 1 1] W0 fun e w'=>∃ v',e = .returned v'∧St w w' (Res.row (α:=Entry) 243 v' (xs.take k++y::xs.drop k) []::rs):=by
 refine bP2 func395 rfl ntmps395 eS (wp_seq (aD (sg (bI (v := .slice none 0 0) rfl (aI (wp_seq (aD (sg (bX (v:=v) rfl (sg (bX (v:=I (k:Int)) rfl (sg (stp_slice_l (l:=k) sl_EntryS rfl (gI (hst.get 0 rfl)) rfl rfl aA ?_)))))))))))));intro v5 g6 h7 hm8
 refine aI (wp_seq (aD (rn hst 3 Ag.nil.put.put.put.put.put.put.put [] [(7,I 1)] [.l (.slice (some ⟨lb,0,none⟩) 1 1) 1 ⟨_,_,rfl⟩] aC fun f10 h10_=>(aI (wp_seq (wp_seq (aD (sg (bX (h10_.at 7) (sg (bA2 rfl rfl (aI (iK rfl (fun h13p => ?_) (fun h13p => ?_))))))))))))))
 ·exact absurd h13p eS
 refine wp_skip (wp_seq (aD (rn hst 3 h10_.put.put [] [(8,I (xs.length:Int))] [ql (gI (hst.get 0 rfl))] aC fun f15 h15_=>(aI (wp_seq (wp_seq (aD (rn hst 3 h15_ [] [(22,.bool (decide ((k:Int)=(xs.length:Int))))] [.o] aC fun f17 h17_=>(aI (iK (h17_.at 22) (fun h18p => ?_) (fun h18p => ?_)))))))))))
 ·refine wp_seq (aD (sg (bX (h17_.at 0) (sg (bX (h17_.at 2) ?_)))))
  have st21:=hst.f1
  refine sg (mT (ys:=[(⟨y.prio,y.seq,y.run,y.task⟩:Entry)]) iA rfl rfl rfl st21.f1 (Elems.one1 ⟨rfl,rfl,hy⟩) (by unfold maxLen;omega) aA ?_);intro v23 W24 st25
  refine sg (bI (v:=v23) rfl (aI (wr (aL8 results395 rfl ?_))))
  have hke:k=xs.length:=by omega
  subst hke
  refine ⟨_,rfl,?_⟩
  rw[take_length,drop_length]
  exact st25
 refine wp_skip (wp_seq (wp_seq (aD (rn hst 4 h17_ [] [(28,I ((xs.length:Int)+1)),(29,v)] [qad (xs.length:Int) 1] aC fun f30 h30_ => ?_))))
 have hq_:=St.rowOpen hst aA
 obtain ⟨bg,cp,Cg,hvv,hcap,hmx,hCl,hel,st31⟩:=hq_
 have hCl4:Cg.length=cp*4:=hCl
 subst hvv
 refine sg (stp_xcap sl_EntryS (h30_.at 29) (sg (bA1 (h30_.at 28) rfl (aI (iK rfl (fun h34p => ?_) (fun h34p => ?_))))))
 ·refine wp_seq (aD (sg (bX (h30_.at 0) (sg (bX (h30_.at 1) (sg (uG (h:=k) sl_EntryS rfl rfl aA aA aA (lw h30_.put.put.put.put.put [(0,.slice (some ⟨bg,0,none⟩) xs.length cp),(1,I (k:Int)),(2,.slice (some ⟨lb,0,none⟩) 1 1),(7,I 1),(8,I (xs.length:Int)),(34,.slice (some ⟨bg,0,none⟩) k cp)] aC fun h39_=>(rn st31 5 h39_ [] [(39,I (((xs.length:Int)+1) - (k:Int)))] [qad (xs.length:Int) 1,qsb ((xs.length:Int)+1) (k:Int)] aC fun f38 h38_=>(sg (stp_appz (α:=Entry) (k0:=xs.length+1 - k) (n1:=xs.length+1) iA underlying3 (h38_.at 34) (h38_.at 39) aA aA st31 (by rw[hCl];exact Nat.mul_le_mul_right _ aA) aA aA (by unfold maxLen;omega) aA ?_)))))))))));intro b40 cp2 Z2 W41 hcp2 hmx2 hZl hb2 st42
  have hZl4:Z2.length=(cp2 - k)*4:=hZl
  refine sg (bI (v := .slice (some ⟨b40,0,none⟩) (xs.length+1) cp2) rfl (aI (wp_seq (aD (sg (bX (v := .slice (some ⟨b40,0,none⟩) (xs.length+1) cp2) rfl (sg (bX (h38_.at 1) (sg (nJ (l:=k) sl_EntryS rfl rfl aA aA aA (sg (bX (h38_.at 2) ?_))))))))))))
  refine sg (pT (α:=Entry) (C:=(Cg.take (k*Shape.size Entry)++Z2)) (cs:=[I y.prio,I y.seq,I y.run,I y.task]) sl_EntryS rfl rfl (by rw[show Nat.min 1 ((xs.length+1) - k)=1 from Nat.min_eq_left aA];rfl) (fun j v hj=>(by rw[Addr.add_mid];exact bG (st42.get 2 rfl) j v hj)) (by intro v hv;simp only[mem_cons,not_mem_nil,or_false] at hv;rcases hv with rfl | rfl | rfl | rfl <;> rfl) st42 (by simp only[length_cons,length_nil,length_append,length_take,dR,show Shape.size Entry=4 from rfl];omega) ?_);intro _ W50 st51
  refine aI (wp_seq (nI 8 [] [(true,.is (.slice (some ⟨b40,0,none⟩) (xs.length+1) cp2)),(true,.is (I (k:Int))),(true,.is (I 1)),(true,.is (I ((k:Int)+1))),(true,.is (.slice (some ⟨b40,0+(k+1)*4,none⟩) ((xs.length+1) - (k+1)) (cp2 - (k+1)))),(true,.is (.slice (some ⟨bg,0,none⟩) xs.length cp)),(true,.is (I (k:Int))),(true,.is (.slice (some ⟨bg,0+k*4,none⟩) (xs.length - k) (cp - k)))] mix aC aC aC aC (rs0:=[]) rfl st51 (Below.refl _ _) ⟨(mq_ (show _=(.slice (some ⟨b40,0,none⟩) (xs.length+1) cp2:Value) from rfl)),(mq_ (h38_.at 1)),(mq_ (h38_.at 7)),(fun f W hst hbl hd hf=>mA (hd 1 47 rfl rfl) (hd 2 48 rfl rfl) bI1 brq),(fun f W hst hbl hd hf=>nJ (l:=k+1) sl_EntryS (hd 0 46 rfl rfl) (hd 3 49 rfl rfl) aA aA aA brq),(mq_ (h38_.at 0)),(mq_ (h38_.at 1)),(fun f W hst hbl hd hf=>nJ (l:=k) sl_EntryS (hd 5 51 rfl rfl) (hd 6 52 rfl rfl) aA aA aA brq),trivial⟩ ?_))
  intro f52 W53 rs_ hAL_ st56 hbl57 hv54 hf55
  have hn_:rs_=[]:=hAL_
  subst hn_
  try simp only[cap_,zA] at st56
  refine sg (pT (α:=Entry) (C:=(aL (Cg.take (k*Shape.size Entry)++Z2) (0+k*4) [I y.prio,I y.seq,I y.run,I y.task])) (cs:=((Cg.drop (k*4)).take ((xs.length - k)*4))) sl_EntryS (hv54 4 50 eS rfl) (hv54 7 53 eS rfl) (by rw[show Nat.min (xs.length - k) ((xs.length+1) - (k+1))=xs.length - k from aR5 aA aA];rw[length_take,length_drop,hCl4,show Shape.size Entry=4 from rfl];omega) (fun j v hj=>(by rw[Addr.add_mid,Nat.add_assoc];exact bG (st56.get 1 rfl) _ v (aM7 hj))) (bC5 hel) st56 (by simp only[length_append,length_take,length_drop,dR,show Shape.size Entry=4 from rfl];omega) ?_);intro _ W59 st60
  refine aI (wp_seq (aD (sg (bX (v := .slice (some ⟨b40,0,none⟩) (xs.length+1) cp2) ((hf55 9 rfl).trans (show _=(.slice (some ⟨b40,0,none⟩) (xs.length+1) cp2:Value) from rfl)) (sg (bI (v := .slice (some ⟨b40,0,none⟩) (xs.length+1) cp2) rfl (aI (wr (aL8 results395 rfl ?_)))))))))
  have hel_:Elems _ (Cg.take (xs.length*4)) xs []:=hel
  have hYe:Elems W59 [I y.prio,I y.seq,I y.run,I y.task] [y] []:=Elems.one1 ⟨rfl,rfl,hy⟩
  have hq_:=ins_new (D:=Cg.take (k*4)++Z2) (a:=k*4) (Y:=[I y.prio,I y.seq,I y.run,I y.task]) (M:=(Cg.drop (k*4)).take ((xs.length - k)*4)) rfl (by simp only[length_append,length_take,length_drop,length_cons,length_nil,dR,show Shape.size Entry=4 from rfl];omega)
  obtain ⟨T,hT⟩:=hq_
  rw[take_append_of_le_length (by rw[length_take];omega),take_take,Nat.min_self] at hT
  have hfin:=aH3 (W:=_) (W':=W59) (y:=y) (k:=k) aA (hel_) aA hYe hT
  have hCe:(aL (aL (Cg.take (k*Shape.size Entry)++Z2) (0+k*4) [I y.prio,I y.seq,I y.run,I y.task]) (0+(k+1)*4) ((Cg.drop (k*4)).take ((xs.length - k)*4)))=aL (aL (Cg.take (k*4)++Z2) (k*4) [I y.prio,I y.seq,I y.run,I y.task]) (k*4+4) ((Cg.drop (k*4)).take ((xs.length - k)*4)):=by simp only[Nat.zero_add,Nat.add_mul,Nat.one_mul,show Shape.size Entry=4 from rfl]
  have stz:St w W59 (Res.bx b40 (aL (aL (Cg.take (k*Shape.size Entry)++Z2) (0+k*4) [I y.prio,I y.seq,I y.run,I y.task]) (0+(k+1)*4) ((Cg.drop (k*4)).take ((xs.length - k)*4))) 243::_):=st60
  rw[hCe] at stz
  have hl4:(aL (aL (Cg.take (k*4)++Z2) (k*4) [I y.prio,I y.seq,I y.run,I y.task]) (k*4+4) ((Cg.drop (k*4)).take ((xs.length - k)*4))).length=cp2*Shape.size Entry:=by rw[← hCe];simp only[length_append,length_take,length_drop,dR,show Shape.size Entry=4 from rfl];omega
  have stf:=St.rowShut (α:=Entry) (xs:=xs.take k++y::xs.drop k) (m:=xs.length+1) (cap:=cp2) stz (by rw[length_append,length_cons,length_take,length_drop];omega) aA aA hl4 hfin
  exact ⟨_,rfl,stf.d1.d1⟩
 refine wp_skip (wp_seq (aD (lw h30_.put.put [(0,.slice (some ⟨bg,0,none⟩) xs.length cp),(1,I (k:Int)),(2,.slice (some ⟨lb,0,none⟩) 1 1),(7,I 1),(8,I (xs.length:Int))] aC fun h65_=>(rn st31 4 h65_ [] [(56,.slice (some ⟨bg,0,none⟩) xs.length cp),(59,I ((xs.length:Int)+1))] [qad (xs.length:Int) 1] aC fun f64 h64_=>(sg (uG (h:=(xs.length)+1) sl_EntryS (h64_.at 56) (h64_.at 59) aA aA aA (sg (bI (v := .slice (some ⟨bg,0,none⟩) ((xs.length)+1) cp) rfl (aI (wp_seq (wp_seq (aD (rn st31 5 h64_.put.put [] [(61,.slice (some ⟨lb,0,none⟩) 1 1),(62,.slice (some ⟨bg,0,none⟩) ((xs.length)+1) cp),(65,I ((k:Int)+1))] [qad (k:Int) 1] aC fun f69 h69_ => ?_)))))))))))))
 refine sg (nJ (l:=k+1) sl_EntryS (h69_.at 62) (h69_.at 65) aA aA aA (sg (stp_callx (h69_.at 61) rfl (overlaps_E st31.f1 (i:=0) rfl aA) (sg (wR rfl (aI (sx_t rfl rfl (wp_seq (nI 8 [] [(true,.is (.slice (some ⟨bg,0,none⟩) ((xs.length)+1) cp)),(true,.is (I (k:Int))),(true,.is (I 1)),(true,.is (I ((k:Int)+1))),(true,.is (.slice (some ⟨bg,0+(k+1)*4,none⟩) (((xs.length)+1) - (k+1)) (cp - (k+1)))),(true,.is (.slice (some ⟨bg,0,none⟩) ((xs.length)+1) cp)),(true,.is (I (k:Int))),(true,.is (.slice (some ⟨bg,0+k*4,none⟩) (((xs.length)+1) - k) (cp - k)))] mix aC aC aC aC (rs0:=[]) rfl st31.f1 (Below.refl _ _) ⟨(mq_ (h69_.at 0)),(mq_ (h69_.at 1)),(mq_ (h69_.at 7)),(fun f W hst hbl hd hf=>mA (hd 1 70 rfl rfl) (hd 2 71 rfl rfl) bI1 brq),(fun f W hst hbl hd hf=>nJ (l:=k+1) sl_EntryS (hd 0 69 rfl rfl) (hd 3 72 rfl rfl) aA aA aA brq),(mq_ (h69_.at 0)),(mq_ (h69_.at 1)),(fun f W hst hbl hd hf=>nJ (l:=k) sl_EntryS (hd 5 74 rfl rfl) (hd 6 75 rfl rfl) aA aA aA brq),trivial⟩ ?_)))))))))
 intro f74 W75 rs_ hAL_ st78 hbl79 hv76 hf77
 have hn_:rs_=[]:=hAL_
 subst hn_
 try simp only[cap_,zA] at st78
 have st81:=st78.f1
 refine sg (pT (α:=Entry) (C:=Cg) (cs:=((Cg.drop (k*4)).take ((xs.length - k)*4))) sl_EntryS (hv76 4 73 eS rfl) (hv76 7 76 eS rfl) (by rw[show Nat.min (((xs.length)+1) - k) (((xs.length)+1) - (k+1))=xs.length - k from aR5 aA aA];rw[length_take,length_drop,hCl4,show Shape.size Entry=4 from rfl];omega) (fun j v hj=>(by rw[Addr.add_mid,Nat.add_assoc];exact bG (st81.get 0 rfl) _ v (aM7 hj))) (bC5 hel) st81 (by simp only[length_append,length_take,length_drop,dR,show Shape.size Entry=4 from rfl];omega) ?_);intro _ W82 st83
 refine aI (wp_seq (aD (sg (bX (v := .slice (some ⟨bg,0,none⟩) ((xs.length)+1) cp) ((hf77 0 rfl).trans (h69_.at 0)) (sg (bX (v:=I (k:Int)) ((hf77 1 rfl).trans (h69_.at 1)) (sg (nJ (l:=k) sl_EntryS rfl rfl aA aA aA (sg (bX (v := .slice (some ⟨lb,0,none⟩) 1 1) ((hf77 2 rfl).trans (h69_.at 2)) ?_))))))))))
 refine sg (pT (α:=Entry) (C:=(aL Cg (0+(k+1)*4) ((Cg.drop (k*4)).take ((xs.length - k)*4)))) (cs:=[I y.prio,I y.seq,I y.run,I y.task]) sl_EntryS rfl rfl (by rw[show Nat.min 1 (((xs.length)+1) - k)=1 from Nat.min_eq_left aA];rfl) (fun j v hj=>(by rw[Addr.add_mid];exact bG (st83.get 1 rfl) j v hj)) (by intro v hv;simp only[mem_cons,not_mem_nil,or_false] at hv;rcases hv with rfl | rfl | rfl | rfl <;> rfl) st83 (by simp only[length_cons,length_nil,length_append,length_take,dR,show Shape.size Entry=4 from rfl];omega) ?_);intro _ W88 st89
 refine aI (wp_seq (aD (sg (bX (v := .slice (some ⟨bg,0,none⟩) ((xs.length)+1) cp) ((hf77 0 rfl).trans (h69_.at 0)) (sg (bI (v := .slice (some ⟨bg,0,none⟩) ((xs.length)+1) cp) rfl (aI (wr (aL8 results395 rfl ?_)))))))))
 have hel_:Elems _ (Cg.take (xs.length*4)) xs []:=hel
 have hYe:Elems W88 [I y.prio,I y.seq,I y.run,I y.task] [y] []:=Elems.one1 ⟨rfl,rfl,hy⟩
 have hq_:=ins_in (D:=Cg) (a:=k*4) (Y:=[I y.prio,I y.seq,I y.run,I y.task]) (M:=(Cg.drop (k*4)).take ((xs.length - k)*4)) rfl (by simp only[length_append,length_take,length_drop,length_cons,length_nil,dR,show Shape.size Entry=4 from rfl];omega)
 obtain ⟨T,hT⟩:=hq_
 have hfin:=aH3 (W:=_) (W':=W88) (y:=y) (k:=k) aA (hel_) aA hYe hT
 have hCe:(aL (aL Cg (0+(k+1)*4) ((Cg.drop (k*4)).take ((xs.length - k)*4))) (0+k*4) [I y.prio,I y.seq,I y.run,I y.task])=aL (aL Cg (k*4+4) ((Cg.drop (k*4)).take ((xs.length - k)*4))) (k*4) [I y.prio,I y.seq,I y.run,I y.task]:=by simp only[Nat.zero_add,Nat.add_mul,Nat.one_mul]
 have stz:St w W88 (Res.bx bg (aL (aL Cg (0+(k+1)*4) ((Cg.drop (k*4)).take ((xs.length - k)*4))) (0+k*4) [I y.prio,I y.seq,I y.run,I y.task]) 243::_):=st89
 rw[hCe] at stz
 have hl4:(aL (aL Cg (k*4+4) ((Cg.drop (k*4)).take ((xs.length - k)*4))) (k*4) [I y.prio,I y.seq,I y.run,I y.task]).length=cp*Shape.size Entry:=by rw[← hCe];simp only[length_append,length_take,length_drop,dR,show Shape.size Entry=4 from rfl];omega
 have stf:=St.rowShut (α:=Entry) (xs:=xs.take k++y::xs.drop k) (m:=xs.length+1) (cap:=cp) stz (by rw[length_append,length_cons,length_take,length_drop];omega) aA aA hl4 hfin
 exact ⟨_,rfl,stf.d1⟩
def fM (sh:Nat) (prio rid:Int):List Int→List (List Entry)→Int→List (List Entry)
 | [],xss,_=>xss
 | t::ts,xss,seq=>fM sh prio rid ts (xss.set sh (jY (xss.getD sh []) ⟨prio,seq,rid,t⟩)) (seq+1)
theorem vO (sh:Nat) (prio rid t:Int):∀ (ts:List Int) (xss:List (List Entry)) (seq:Int),fM sh prio rid (ts++[t]) xss seq=(fM sh prio rid ts xss seq).set sh (jY ((fM sh prio rid ts xss seq).getD sh []) ⟨prio,seq+ts.length,rid,t⟩)
 | [],xss,seq=>by simp[fM]
 | u::ts,xss,seq=>by
  have h:=vO sh prio rid t ts (xss.set sh (jY (xss.getD sh []) ⟨prio,seq,rid,u⟩)) (seq+1)
  simp only[cons_append,fM]
  rw[h,show seq+1+(ts.length:Int)=seq+((u::ts).length:Int) by simp;omega]
theorem lH (sh:Nat) (prio rid:Int):∀ (ts:List Int) (xss:List (List Entry)) (seq:Int),(fM sh prio rid ts xss seq).length=xss.length
 | [],xss,seq=>rfl
 | u::ts,xss,seq=>by simp only[fM];rw[lH];simp
theorem lI (sh:Nat) (prio rid:Int):∀ (ts:List Int) (xss:List (List Entry)) (seq:Int),sh<xss.length→((fM sh prio rid ts xss seq).getD sh []).length=(xss.getD sh []).length+ts.length
 | [],xss,seq,h=>rfl
 | u::ts,xss,seq,h=>by
  simp only[fM]
  rw[lI sh prio rid ts _ _ (by simpa using h)]
  rw[getD_eq_getElem?_getD,getElem?_set_self h]
  simp[aQ9]
  omega
theorem getD_some {α:Type} {xss:List (List α)} {k:Nat} (h:k<xss.length):xss[k]? = some (xss.getD k []):=by
 rw[getD_eq_getElem?_getD,getElem?_eq_getElem h];rfl

def dX (r r':Run):List Int:=(aM r'.tasks 2).filter (fun t => !decide (t∈aM r.tasks 2))
theorem mI (r r':Run):(dX r r').length≤r'.tasks.length:=Nat.le_trans (length_filter_le _ _) (fT _ _ _)
def cS (y:Yard) (k:Nat) (r r':Run):Yard:=⟨y.now,y.seq+((dX r r').length:Int),fM (aU r'.id).toNat r'.plan.prio r'.id (dX r r') y.shelf y.seq,y.runs.set k r'⟩
def jA (out:Yard) (k i:Nat):Yard:=match out.runs[k]? with
 | none=>out
 | some r=>match r.tasks[i]? with
  | none=>out
  | some t=>if t.state=3 then cS out k r (bR r i) else out
def oK (y:Yard) (k:Nat):Nat→Yard
 | 0=>y
 | i+1=>jA (oK y k i) k i
def uD (y:Yard) (k:Nat):Nat:=match y.runs[k]? with | some r=>r.tasks.length | none=>0
def kO (y:Yard):Nat→Yard
 | 0=>y
 | k+1=>oK (kO y k) k (uD y k)
noncomputable def cX (y:Yard):Yard:=if aK y then kO y y.runs.length else y
theorem uC {y:Yard} {k:Nat} {r:Run} (h:y.runs[k]? = some r):uD y k=r.tasks.length:=by unfold uD;rw[h]

structure YardIs (y:Yard):Prop where
 now:0≤y.now∧y.now≤999999980
 seq:1≤y.seq∧y.seq≤1000000000
 shelf:y.shelf.length=4
 runs:y.runs.length≤8
 each:∀ l∈y.shelf,cW l=true
 run:∀ (j:Nat) (r:Run),y.runs[j]? = some r→RunIs r∧bO y r.id=some j
theorem gU {y:Yard} (h:aK y=true):YardIs y:=by
 unfold aK at h
 rw[pB_iff] at h
 obtain ⟨h1,h2,h3,h4,h5,h6,h7,h8,h9⟩:=h
 refine ⟨h1,h2,h3,h4,h5,fun j r hj => ?_⟩
 obtain ⟨hl,rfl⟩:=gsi_.1 hj
 obtain ⟨a,b,_⟩:=h8 j hl hl
 refine ⟨runIs.1 a,?_⟩
 unfold aE at b
 cases hq:bO y y.runs[j].id with
 | none=>rw[hq] at b;simp only[ixI] at b;omega
 | some k=>rw[hq] at b;simp only[ixI] at b;congr 1;omega
theorem RunIs.small {r:Run} (h:RunIs r):r.ok∧r.tasks.length≤12∧r.plan.edges.length≤30:=by
 have h2:=(qW h.plan).1
 have hl:=h.len
 have hs:=h.state
 have hid:=h.id
 unfold bE at h2
 have hst:0≤bQ r.tasks∧bQ r.tasks≤4:=by
  unfold bQ
  split
  ·omega
  split
  ·omega
  split
  ·omega
  split <;> omega
 refine ⟨⟨by unfold I64;omega,?_,by unfold I64;omega⟩,by omega,by omega⟩
 unfold Plan.ok
 refine ⟨?_,?_,?_,?_⟩ <;> (unfold I64;omega)
theorem mB {xs:List Entry} (h:cW xs=true):xs.length≤80:=by
 unfold cW at h
 first | exact (pB_iff.1 h).1 | exact (pB_iff.1 h).2 | (simp at h;omega)
theorem aH0 {α β:Type} {p:α→Bool} {q:β→Bool}:∀ {xs:List α} {ys:List β},xs.length=ys.length→(∀ (j:Nat) (x:α) (y:β),xs[j]? = some x→ys[j]? = some y→p x=q y)→oQ p xs=oQ q ys
 | [],[],_,_=>rfl
 | x::xs,y::ys,hl,h=>by
  have h0:=h 0 x y rfl rfl
  have ih:=aH0 (xs:=xs) (ys:=ys) (by simpa using hl) (fun j a b ha hb=>h (j+1) a b (by simpa using ha) (by simpa using hb))
  unfold oQ
  rw[h0,ih]
 | [],_::_,hl,_=>by simp at hl
 | _::_,[],hl,_=>by simp at hl
structure RI (y out:Yard) (n:Nat):Prop where
 now:out.now=y.now
 seq:y.seq≤out.seq∧out.seq≤y.seq+12*(n:Int)
 shelf:out.shelf.length=y.shelf.length
 each:∀ s,s<4→(out.shelf.getD s []).length≤80+12*n
 runs:out.runs.length=y.runs.length
 run:∀ (j:Nat) (r:Run),y.runs[j]? = some r→∃ r2:Run,out.runs[j]? = some r2∧RunIs r2∧r2.id=r.id∧r2.tasks.length=r.tasks.length∧∀ (i:Nat) (t:Task),r.tasks[i]? = some t→∃ t2,r2.tasks[i]? = some t2∧t2.try_=t.try_
theorem RI.start {y:Yard} (h:YardIs y):RI y y 0:=by
 refine ⟨rfl,by omega,rfl,fun s hs => ?_,rfl,fun j r hj=>⟨r,hj,(h.run j r hj).1,rfl,rfl,fun i t ht=>⟨t,ht,rfl⟩⟩⟩
 have hl:=h.shelf
 rw[getD_eq_getElem?_getD,getElem?_eq_getElem aA]
 have:=mB (h.each y.shelf[s] (getElem_mem _))
 simpa using this
theorem RI.mono {y out:Yard} {n m:Nat} (h:RI y out n) (hm:n≤m):RI y out m:=
 ⟨h.now,by have:=h.seq;omega,h.shelf,fun s hs=>by have:=h.each s hs;omega,h.runs,h.run⟩
theorem kT (sh:Nat) (prio rid:Int) (s:Nat) (hs:s≠sh):∀ (ts:List Int) (xss:List (List Entry)) (seq:Int),(fM sh prio rid ts xss seq).getD s []=xss.getD s []
 | [],xss,seq=>rfl
 | u::ts,xss,seq=>by
  simp only[fM]
  rw[kT sh prio rid s hs ts]
  rw[getD_eq_getElem?_getD,getElem?_set_ne (fun e=>hs e.symm),getD_eq_getElem?_getD]
theorem RI.change {y out:Yard} {n k i:Nat} {r:Run} {t:Task} (hy:YardIs y) (h:RI y out n) (hr:out.runs[k]? = some r) (ht:r.tasks[i]? = some t) (h3:t.state=3) (hR:RunIs r):RI y (cS out k r (bR r i)) (n+1):=by
 obtain ⟨hk1,hk2,hk3,hk4⟩:=oA r i
 have hsm:=hR.small
 have hfl:=mI r (bR r i)
 have hsh:=hy.shelf
 have hsr:=fU (bR r i).id
 have hkl:=(gsi_.1 hr).1
 refine ⟨h.now,?_,?_,?_,?_,?_⟩
 ·show y.seq≤out.seq+_∧out.seq+_≤_
  have:=h.seq;omega
 ·show (fM _ _ _ _ _ _).length=_
  rw[lH];exact h.shelf
 ·intro s hs
  show ((fM _ _ _ _ _ _).getD s []).length≤_
  by_cases e:s=(aU (bR r i).id).toNat
  ·subst e
   rw[lI _ _ _ _ _ _ (by rw[h.shelf];omega)]
   have:=h.each _ hs
   omega
  rw[kT _ _ _ s e]
  have:=h.each s hs
  omega
 ·show (out.runs.set k _).length=_
  rw[length_set];exact h.runs
 intro j r0 hj
 obtain ⟨r2,h1,h2,h4,h5,h6⟩:=h.run j r0 hj
 show ∃ r2,(out.runs.set k _)[j]? = some r2∧_
 by_cases e:k=j
 ·subst e
  rw[hr] at h1
  have e2:=Option.some.inj h1
  subst e2
  refine ⟨bR r i,getElem?_set_self hkl,hR.fails ht h3,by rw[hk1];exact h4,by rw[hk3];exact h5,fun a u hu => ?_⟩
  obtain ⟨u2,g1,g2⟩:=h6 a u hu
  obtain ⟨u3,g3,g4⟩:=hk4 a u2 g1
  exact ⟨u3,g3,by rw[g4];exact g2⟩
 exact ⟨r2,by rw[getElem?_set_ne e];exact h1,h2,h4,h5,h6⟩
theorem RI.turn {y out:Yard} {n:Nat} (hy:YardIs y) (h:RI y out n) {k i:Nat} (hk:k<y.runs.length):RI y (jA out k i) (n+1):=by
 obtain ⟨r2,h1,h2,_⟩:=h.run k _ (getElem?_eq_getElem hk)
 unfold jA
 rw[h1]
 simp only
 cases ht:r2.tasks[i]? with
 | none=>exact h.mono aA
 | some t=>
  simp only
  split
  ·next h3=>exact h.change hy h1 ht h3 h2
  exact h.mono aA
theorem RI.inner {y out:Yard} {n:Nat} (hy:YardIs y) (h:RI y out n) {k:Nat} (hk:k<y.runs.length):∀ i,RI y (oK out k i) (n+i)
 | 0=>h
 | i+1=>(RI.inner hy h hk i).turn hy hk
theorem RI.outer {y:Yard} (hy:YardIs y):∀ k,k≤y.runs.length→RI y (kO y k) (12*k)
 | 0,_=>RI.start hy
 | k+1,hk=>by
  have ih:=RI.outer hy k aA
  have hr:y.runs[k]? = some y.runs[k]:=getElem?_eq_getElem aA
  have hs:=(hy.run k _ hr).1.small
  have:=ih.inner hy (k:=k) aA (uD y k)
  rw[uC hr] at this
  show RI y (oK (kO y k) k (uD y k)) _
  rw[uC hr]
  exact this.mono aA
theorem RI.at {y:Yard} (hy:YardIs y) {k i:Nat} (hk:k<y.runs.length):RI y (oK (kO y k) k i) (12*k+i):=(RI.outer hy k aA).inner hy hk i
theorem RI.ix {y out:Yard} {n:Nat} (hy:YardIs y) (h:RI y out n) {k:Nat} {r:Run} (hr:y.runs[k]? = some r):bO out r.id=some k:=by
 rw[← (hy.run k r hr).2]
 unfold bO
 rw[h.runs]
 congr 1
 exact aH0 h.runs (fun j a b ha hb=>by
  obtain ⟨r2,h1,_,h3,_⟩:=h.run j b hb
  rw[ha] at h1
  have:=Option.some.inj h1
  subst this
  rw[h3])
def eB (y:Yard) (id task try_:Int):Bool:=
 match bO y id with
 | none=>false
 | some k=>match y.runs[k]? with
  | none=>false
  | some r=>inB task 0 ((r.tasks.length:Int) - 1) && (match r.tasks[task.toNat]? with | some t=>decide (t.state=3) && decide (t.try_=try_) | none=>false)
theorem RI.holds {y out:Yard} {n:Nat} (hy:YardIs y) (h:RI y out n) {k i:Nat} {r:Run} {t:Task} (hr:y.runs[k]? = some r) (ht:r.tasks[i]? = some t) :
  ∃ r2 t2,out.runs[k]? = some r2∧RunIs r2∧r2.tasks[i]? = some t2∧eB out r.id (i:Int) t.try_=decide (t2.state=3):=by
 obtain ⟨r2,h1,h2,h3,h4,h5⟩:=h.run k r hr
 obtain ⟨t2,h6,h7⟩:=h5 i t ht
 refine ⟨r2,t2,h1,h2,h6,?_⟩
 have hl:=(gsi_.1 ht).1
 unfold eB
 rw[h.ix hy hr]
 simp only[h1,Int.toNat_natCast,h6,h7,decide_true,Bool.and_true]
 have:inB (i:Int) 0 ((r2.tasks.length:Int) - 1)=true:=inB_iff'.2 aA
 rw[this];rfl
theorem aY4 {out:Yard} {k i:Nat} {r:Run} {t:Task} (hr:out.runs[k]? = some r) (ht:r.tasks[i]? = some t) (h3:t.state=3):jA out k i=cS out k r (bR r i):=by unfold jA;rw[hr];simp only[ht,h3,if_true]
theorem wN {out:Yard} {k i:Nat} {r:Run} {t:Task} (hr:out.runs[k]? = some r) (ht:r.tasks[i]? = some t) (h3:¬ t.state=3):jA out k i=out:=by unfold jA;rw[hr];simp only[ht,h3,if_false]
theorem fresh_runs {y y':Yard} (h:y'.runs=y.runs) (e:Entry):fresh y' e=fresh y e:=by
 unfold fresh bO
 rw[h]
theorem fresh_at {y:Yard} {e:Entry} (h:fresh y e=true):∃ k r t,bO y e.run=some k∧y.runs[k]? = some r∧0≤e.task∧r.tasks[e.task.toNat]? = some t∧t.state=2:=by
 unfold fresh at h
 cases h1:bO y e.run with
 | none=>rw[h1] at h;cases h
 | some k=>
  rw[h1] at h
  simp only at h
  cases h2:y.runs[k]? with
  | none=>rw[h2] at h;cases h
  | some r=>
   rw[h2] at h
   simp only[Bool.and_eq_true] at h
   obtain ⟨h3,h4⟩:=h
   cases h5:r.tasks[e.task.toNat]? with
   | none=>rw[h5] at h4;cases h4
   | some t=>rw[h5] at h4;exact ⟨k,r,t,rfl,h2,(inB_iff'.1 h3).1,h5,by simpa using h4⟩
def mU (y:Yard) (s:Nat) (l:List Entry):Yard:=⟨y.now,y.seq,y.shelf.set s l,y.runs⟩
def aV (y:Yard) (s:Int):Yard:=if inB s 0 ((y.shelf.length:Int) - 1) then mU y s.toNat ((y.shelf.getD s.toNat []).filter (fresh y)) else y
def cE (xs:List Entry):Nat:=(xs.length+1) / 2
def dA (a b:List Entry):List Entry:=if 80<a.length+b.length then a else b.foldl jY a
theorem rA (b:List Entry):∀ a:List Entry,(b.foldl jY a).length=a.length+b.length:=by
 induction b with
 | nil=>intro a;rfl
 | cons e b ih=>intro a;rw[foldl_cons,ih,aQ9,length_cons];omega
theorem foldl_put_to {a b:List Entry} {k:Nat} (h:k<b.length):(b.take (k+1)).foldl jY a=jY ((b.take k).foldl jY a) b[k]:=by
 rw[take_succ_eq_append_getElem h,foldl_append];rfl
theorem merged_len {a b:List Entry} (h:a.length≤80):(dA a b).length≤80:=by
 unfold dA
 split
 ·exact h
 rw[rA];omega
theorem putE_mem {xs:List Entry} {e x:Entry} (h:x∈jY xs e):x∈xs∨x=e:=by
 unfold jY at h
 rw[mem_append,mem_cons] at h
 rcases h with h | h | h
 ·exact .inl (mem_of_mem_take h)
 ·exact .inr h
 exact .inl (mem_of_mem_drop h)
theorem foldl_put_mem (b:List Entry):∀ {a:List Entry} {x:Entry},x∈b.foldl jY a→x∈a∨x∈b:=by
 induction b with
 | nil=>intro a x h;exact .inl h
 | cons e b ih=>
  intro a x h
  rcases ih h with h | h
  ·rcases putE_mem h with h | h
   ·exact .inl h
   exact .inr (by simp[h])
  exact .inr (by simp[h])
theorem merged_mem {a b:List Entry} {x:Entry} (h:x∈dA a b):x∈a∨x∈b:=by
 unfold dA at h
 split at h
 ·exact .inl h
 exact foldl_put_mem b h
def mQ (home draw:Int) (i:Nat):Int:=(home+1+(max draw 0 % 3+(i:Int)) % 3) % 4
def bH (home draw:Int):List Int:=[mQ home draw 0,mQ home draw 1,mQ home draw 2]
theorem xK (home draw:Int) (i:Nat) (hh:0≤home∧home≤3):0≤mQ home draw i∧mQ home draw i≤3∧mQ home draw i≠home:=by unfold mQ;omega
theorem lX {home draw:Int} (hh:0≤home∧home≤3):∀ o∈bH home draw,0≤o∧o≤3∧o≠home:=by
 intro o ho
 simp only[bH,mem_cons,not_mem_nil,or_false] at ho
 rcases ho with rfl | rfl | rfl <;> exact xK _ _ _ hh
def aL6 (y:Yard) (home o:Nat):Yard:=mU (mU y home (dA (y.shelf.getD home []) ((y.shelf.getD o []).take (cE (y.shelf.getD o []))))) o ((y.shelf.getD o []).drop (cE (y.shelf.getD o [])))
theorem robY_comm {y:Yard} {home o:Nat} (h:home≠o):aL6 y home o=mU (mU y o ((y.shelf.getD o []).drop (cE (y.shelf.getD o [])))) home (dA (y.shelf.getD home []) ((y.shelf.getD o []).take (cE (y.shelf.getD o [])))):=by
 unfold aL6 mU
 simp only[Yard.mk.injEq,true_and,and_true]
 rw[set_comm _ _ h]
def vW (home:Nat) (y:Yard) (o:Int):Yard:=if y.shelf.getD home []=[] then aL6 (aV y o) home o.toNat else y
def dS (home:Nat) (y:Yard) (l:List Int):Yard:=l.foldl (vW home) y
theorem vU (home:Nat) (y:Yard) (l:List Int):dS home y (l.take 0)=y:=rfl
theorem aF4 {home:Nat} {y:Yard} {l:List Int} {k:Nat} {o:Int} (h:l[k]? = some o) (he:(dS home y (l.take k)).shelf.getD home []=[]):dS home y (l.take (k+1))=aL6 (aV (dS home y (l.take k)) o) home o.toNat:=by
 obtain ⟨hj,rfl⟩:=gsi_.1 h
 rw[take_succ_eq_append_getElem hj]
 unfold dS at he ⊢
 rw[foldl_append,foldl_cons,foldl_nil]
 have hz:∀ (z:Yard) (o:Int),z.shelf.getD home []=[]→vW home z o=aL6 (aV z o) home o.toNat:=fun z o h=>by unfold vW;rw[if_pos h]
 exact hz _ _ he
theorem vV {home:Nat} {y:Yard}:∀ {l:List Int},¬ y.shelf.getD home []=[]→dS home y l=y
 | [],_=>rfl
 | o::l,h=>by
  show dS home (vW home y o) l=y
  have:vW home y o=y:=by unfold vW;rw[if_neg h]
  rw[this];exact vV h
theorem yL {home:Nat} {y:Yard} {l:List Int} {k:Nat} (h:¬ (dS home y (l.take k)).shelf.getD home []=[]):dS home y l=dS home y (l.take k):=by
 have e:dS home y l=dS home (dS home y (l.take k)) (l.drop k):=by
  unfold dS
  rw[← foldl_append,take_append_drop]
 rw[e];exact vV h
theorem yM {home:Nat} {y:Yard} {l:List Int} {k:Nat} (h:k=l.length):dS home y (l.take k)=dS home y l:=by rw[h,take_length]
structure PI (y out:Yard) (home:Nat):Prop where
 now:out.now=y.now
 seq:out.seq=y.seq
 runs:out.runs=y.runs
 len:out.shelf.length=4
 each:∀ s,s<4→(out.shelf.getD s []).length≤80
 fresh:∀ e∈out.shelf.getD home [],fresh y e=true
theorem jR {xss:List (List Entry)} {s:Nat} (h:s<xss.length) (l:List Entry):(xss.set s l).getD s []=l:=by rw[getD_eq_getElem?_getD,getElem?_set_self h];rfl
theorem pG {xss:List (List Entry)} {s j:Nat} (h:s≠j) (l:List Entry):(xss.set s l).getD j []=xss.getD j []:=by rw[getD_eq_getElem?_getD,getElem?_set_ne h,getD_eq_getElem?_getD]
theorem uE {y:Yard} {s:Int} (h:0≤s∧s≤3) (h4:y.shelf.length=4):aV y s=mU y s.toNat ((y.shelf.getD s.toNat []).filter (Go.Proofs.YtanpcpoogkdlaaaGreat.fresh y)):=by
 unfold aV
 rw[if_pos (inB_iff'.2 aA)]
theorem jS {y:Yard} (h:YardIs y):∀ s,s<4→(y.shelf.getD s []).length≤80:=by
 intro s hs
 have hl:=h.shelf
 rw[getD_eq_getElem?_getD,getElem?_eq_getElem aA]
 have:=mB (h.each y.shelf[s] (getElem_mem _))
 simpa using this
theorem lP {xss:List (List Entry)} {n s:Nat} {l:List Entry} (h:∀ j,j<4→(xss.getD j []).length≤n) (hl:l.length≤n) (h4:xss.length=4):∀ j,j<4→((xss.set s l).getD j []).length≤n:=by
 intro j hj
 by_cases e:s=j
 ·subst e;rw[jR aA];exact hl
 rw[pG e];exact h j hj
theorem PI.start {y:Yard} (h:YardIs y) {home:Nat} (hh:home<4):PI y (aV y (home:Int)) home:=by
 have h4:=h.shelf
 rw[uE aA h4]
 simp only[Int.toNat_natCast]
 refine ⟨rfl,rfl,rfl,by show (y.shelf.set _ _).length=4;rw[length_set];exact h4,?_,?_⟩
 ·exact lP (jS h) (Nat.le_trans (length_filter_le _ _) (jS h home hh)) h4
 intro e he
 have:e∈(y.shelf.set home ((y.shelf.getD home []).filter (Go.Proofs.YtanpcpoogkdlaaaGreat.fresh y))).getD home []:=he
 rw[jR aA] at this
 exact (mem_filter.1 this).2
theorem PI.rob {y out:Yard} {home:Nat} (h:PI y out home) (hh:home<4) {o:Int} (ho:0≤o∧o≤3∧o≠(home:Int)):PI y (aL6 (aV out o) home o.toNat) home:=by
 have h4:=h.len
 have e4:(out.shelf.set o.toNat ((out.shelf.getD o.toNat []).filter (Go.Proofs.YtanpcpoogkdlaaaGreat.fresh out))).length=4:=by rw[length_set];exact h4
 have e0:(out.shelf.set o.toNat ((out.shelf.getD o.toNat []).filter (Go.Proofs.YtanpcpoogkdlaaaGreat.fresh out))).getD o.toNat []=(out.shelf.getD o.toNat []).filter (Go.Proofs.YtanpcpoogkdlaaaGreat.fresh out):=jR aA _
 have e1:(out.shelf.set o.toNat ((out.shelf.getD o.toNat []).filter (Go.Proofs.YtanpcpoogkdlaaaGreat.fresh out))).getD home []=out.shelf.getD home []:=pG aA _
 have hfl:((out.shelf.getD o.toNat []).filter (Go.Proofs.YtanpcpoogkdlaaaGreat.fresh out)).length≤80:=Nat.le_trans (length_filter_le _ _) (h.each _ aA)
 rw[uE aA h4]
 refine ⟨h.now,h.seq,h.runs,?_,?_,?_⟩
 ·unfold aL6 mU
  simp only[length_set]
  exact h4
 ·refine lP (lP (lP h.each hfl h4) ?_ e4) ?_ (by unfold mU;simp only[length_set];exact h4)
  ·exact merged_len (by show ((List.set _ _ _).getD home []).length≤80;rw[e1];exact h.each _ hh)
  show (List.drop _ ((List.set _ _ _).getD _ [])).length≤80
  rw[e0,length_drop];omega
 intro e he
 have he':e∈(((out.shelf.set o.toNat ((out.shelf.getD o.toNat []).filter (Go.Proofs.YtanpcpoogkdlaaaGreat.fresh out))).set home (dA ((out.shelf.set o.toNat ((out.shelf.getD o.toNat []).filter (Go.Proofs.YtanpcpoogkdlaaaGreat.fresh out))).getD home []) (((out.shelf.set o.toNat ((out.shelf.getD o.toNat []).filter (Go.Proofs.YtanpcpoogkdlaaaGreat.fresh out))).getD o.toNat []).take (cE ((out.shelf.set o.toNat ((out.shelf.getD o.toNat []).filter (Go.Proofs.YtanpcpoogkdlaaaGreat.fresh out))).getD o.toNat []))))).set o.toNat _).getD home []:=he
 rw[pG aA,jR aA,e0,e1] at he'
 rcases merged_mem he' with h1 | h1
 ·exact h.fresh e h1
 have:=(mem_filter.1 (mem_of_mem_take h1)).2
 rwa [fresh_runs h.runs] at this
theorem PI.all {y:Yard} (h:YardIs y) {home:Nat} (hh:home<4) {l:List Int} (hl:∀ o∈l,0≤o∧o≤3∧o≠(home:Int)):∀ {out:Yard},PI y out home→PI y (dS home out l) home:=by
 induction l with
 | nil=>intro out ho;exact ho
 | cons o l ih=>
  intro out ho
  refine ih (fun a ha=>hl a (by simp[ha])) (out:=vW home out o) ?_
  unfold vW
  split
  ·exact ho.rob hh (hl o (by simp))
  exact ho
theorem PI.take {y:Yard} (h:YardIs y) {home:Nat} (hh:home<4) {l:List Int} (hl:∀ o∈l,0≤o∧o≤3∧o≠(home:Int)) (k:Nat):PI y (dS home (aV y (home:Int)) (l.take k)) home:=PI.all h hh (fun o ho=>hl o (mem_of_mem_take ho)) (PI.start h hh)
def gW (r:Run) (i:Nat) (t:Task) (now:Int):Run:=⟨r.id,r.plan,r.state,r.tasks.set i ⟨3,t.need,t.try_+1,now+r.plan.wait⟩⟩
def pF (out:Yard) (home:Nat):Yard×Reply:=match out.shelf.getD home [] with
 | []=>(out,⟨9,0,0,0⟩)
 | e::rest=>match bO out e.run with
  | none=>(out,⟨9,0,0,0⟩)
  | some k=>match out.runs[k]? with
   | none=>(out,⟨9,0,0,0⟩)
   | some r=>match r.tasks[e.task.toNat]? with
    | none=>(out,⟨9,0,0,0⟩)
    | some t=>(⟨out.now,out.seq,out.shelf.set home rest,out.runs.set k (gW r e.task.toNat t out.now)⟩,⟨0,e.run,e.task,t.try_+1⟩)
noncomputable def eY (y:Yard) (worker draw:Int):Yard×Reply:=
 if ¬ aK y=true then (y,⟨8,0,0,0⟩) else if ¬ inB worker 0 99=true then (y,⟨5,0,0,0⟩)
 else pF (dS (worker % 4).toNat (aV y (worker % 4)) (bH (worker % 4) draw)) (worker % 4).toNat
theorem zV {out:Yard} {home:Nat} (h:out.shelf.getD home []=[]):pF out home=(out,⟨9,0,0,0⟩):=by unfold pF;rw[h]
theorem aH7 {out:Yard} {home k:Nat} {e:Entry} {rest:List Entry} {r:Run} {t:Task} (h:out.shelf.getD home []=e::rest) (hk:bO out e.run=some k) (hr:out.runs[k]? = some r) (ht:r.tasks[e.task.toNat]? = some t):pF out home=(⟨out.now,out.seq,out.shelf.set home rest,out.runs.set k (gW r e.task.toNat t out.now)⟩,⟨0,e.run,e.task,t.try_+1⟩):=by
 unfold pF
 rw[h];simp only[hk,hr,ht]
def nE (n a b:Int):Int:=if b<a then a else if n<a then a else min n b
theorem BroughtID (n a b:Int):Ct1 prog 83 [.I n,.I a,.I b] [.I (nE n a b)]:=
 .one (nE n a b) (rk:=fun x=>[.I x])<|vc func83 (fun hg => .s (b<a)
  (fun h => .rt a ⟨by unfold nE;rw[if_pos h],trivial⟩)
  (fun h => .s (n<a)
   (fun h2 => .rt a ⟨by unfold nE;rw[if_neg h,if_pos h2],trivial⟩)
   (fun h2 => .rt (min n b) ⟨by unfold nE;rw[if_neg h,if_neg h2],trivial⟩))) aC
theorem BroughtSD (n a b:Int):Ct1 prog 117 [.I n,.I a,.I b] [.I (nE n a b)]:=
 .one (nE n a b) (rk:=fun x=>[.I x])<|vc func117 (fun hg => .s (b<a)
  (fun h => .rt a ⟨by unfold nE;rw[if_pos h],trivial⟩)
  (fun h => .s (n<a)
   (fun h2 => .rt a ⟨by unfold nE;rw[if_neg h,if_pos h2],trivial⟩)
   (fun h2 => .s (b<n)
    (fun h3 => .rt b ⟨by unfold nE;rw[if_neg h,if_neg h2,Int.min_def,if_neg aA],trivial⟩)
    (fun h3 => .rt n ⟨by unfold nE;rw[if_neg h,if_neg h2,Int.min_def,if_pos aA],trivial⟩)))) aC
theorem bro_le (n:Int):0≤nE n 0 5∧nE n 0 5≤5:=by
 unfold nE
 rw[if_neg aA]
 split
 ·omega
 omega
noncomputable def aM6 (e:Engine):Nat→Engine×Bool
 | 0=>(e,true)
 | k+1=>if (aM6 e k).2=true then zB (aM6 e k).1 k else aM6 e k
theorem mrk_step {e:Engine} {k:Nat} (h:(aM6 e k).2=true):aM6 e (k+1)=zB (aM6 e k).1 k:=by
 show (if _ then _ else _)=_
 rw[if_pos h]
theorem mst_yw (e:Engine) (k:Int):(zB e k).1.yard=e.yard∧(zB e k).1.waits=e.waits:=by
 unfold zB
 split
 ·exact ⟨rfl,rfl⟩
 split
 ·exact ⟨rfl,rfl⟩
 exact ⟨rfl,rfl⟩
theorem mst_fl (e:Engine) (k:Int) (h:e.disk.files.length≤1048576):(zB e k).1.disk.files.length≤1048576:=by
 unfold zB
 split
 ·exact h
 split
 ·exact h
 show (opF e k).1.files.length≤_
 rcases op_s e k with h1 | h1
 ·rw[h1];exact h
 have:=h1.1;omega
structure MkJ (e:Engine) (n:Int) (g:Nat×Engine):Prop where
 le:(g.1:Int)≤nE n 0 5
 ok:aM6 e g.1=(g.2,true)
 yard:g.2.yard=e.yard
 waits:g.2.waits=e.waits
 files:g.2.disk.files.length≤1048576
 good:g.2.ok
theorem MkJ.start {e:Engine} (n:Int) (h:e.disk.files.length≤1048576) (hg:e.ok):MkJ e n (0,e):=⟨(bro_le n).1,rfl,rfl,rfl,h,hg⟩
theorem MkJ.next_ {e:Engine} {n:Int} {g:Nat×Engine} (h:MkJ e n g):aM6 e (g.1+1)=zB g.2 g.1:=by
 have:=mrk_step (e:=e) (k:=g.1) (by rw[h.ok])
 rw[this,h.ok]
theorem MkJ.step {e:Engine} {n:Int} {g:Nat×Engine} (h:MkJ e n g) (hk:(g.1:Int)<nE n 0 5) (ht:(zB g.2 g.1).2=true) (hg:(zB g.2 g.1).1.ok):MkJ e n (g.1+1,(zB g.2 g.1).1):=by
 have e1:=h.next_
 have h2:=mst_yw g.2 g.1
 exact ⟨by show ((g.1+1:Nat):Int)≤_;omega,by show aM6 e (g.1+1)=_;rw[e1,← ht],h2.1.trans h.yard,h2.2.trans h.waits,mst_fl _ _ h.files,hg⟩
theorem aS6 {y:Yard} {id task try_:Int} (h:¬ (0:Int)≤aE y id):false=eB y id task try_:=by
 have:bO y id=none:=by
  cases hi:bO y id with
  | none=>rfl
  | some k=>rw[cI hi] at h;omega
 unfold eB;rw[this]
theorem aS8 {y:Yard} {id task try_:Int} {k:Nat} {r:Run} (hk:bO y id=some k) (hr:y.runs[k]? = some r):eB y id task try_=(inB task 0 ((r.tasks.length:Int) - 1) && (match r.tasks[task.toNat]? with | some t=>decide (t.state=3) && decide (t.try_=try_) | none=>false)):=by
 unfold eB;rw[hk];simp only[hr] <;> rfl
theorem aH5 {y:Yard} {id task try_:Int} {k:Nat} {r:Run} (hk:bO y id=some k) (hr:y.runs[k]? = some r) (h:inB task 0 ((r.tasks.length:Int) - 1)=false):false=eB y id task try_:=by rw[aS8 hk hr,h];rfl
theorem aS9 {y:Yard} {id task try_:Int} {k:Nat} {r:Run} {t:Task} (hk:bO y id=some k) (hr:y.runs[k]? = some r) (h:inB task 0 ((r.tasks.length:Int) - 1)=true) (ht:r.tasks[task.toNat]? = some t):(decide (t.state=3) && decide (t.try_=try_))=eB y id task try_:=by rw[aS8 hk hr,h,ht];rfl
theorem bD3 {y:Yard} {id task try_:Int} {k:Nat} {r:Run} {t:Task} (hk:bO y id=some k) (hr:y.runs[k]? = some r) (h:inB task 0 ((r.tasks.length:Int) - 1)=true) (ht:r.tasks[task.toNat]? = some t) (h3:t.state=3):decide (t.try_=try_)=eB y id task try_:=by rw[← aS9 hk hr h ht,decide_eq_true h3];rfl
theorem aS7 {y:Yard} {id task try_:Int} {k:Nat} {r:Run} {t:Task} (hk:bO y id=some k) (hr:y.runs[k]? = some r) (h:inB task 0 ((r.tasks.length:Int) - 1)=true) (ht:r.tasks[task.toNat]? = some t) (h3:¬ t.state=3):false=eB y id task try_:=by rw[← aS9 hk hr h ht,decide_eq_false h3];rfl
theorem aO4 (y:Yard) (id task try_:Int) (hw:y.wt≤1048576):Ct1 prog 120 [.S y,.I id,.I task,.I try_] [.B (eB y id task try_)]:=
 .one (eB y id task try_) (rk:=fun x=>[.B x])<|vc func120 (fun (hg:gin [Par.S y,Par.I id,Par.I task,Par.I try_]) => .c func232 (iY y id hw) (hg:=⟨hg.1.1,trivial⟩) fun _ => .s (aE y id<0)
  (fun h => .rt false ⟨aS6 aA,trivial⟩)
  (fun h => .ex (sX (show (0:Int)≤aE y id by omega)) fun q hq => .ye hq.2.2 (aE y id) (he:=hq.2.1) fun gr => .m (q.2.tasks.length:Int) 1 (h:=by have:=gQ hw hq.2.2;unfold I64;omega) <| .c func92 (bN task 0 ((q.2.tasks.length:Int) - 1)) fun _=>
   .v (inB task 0 ((q.2.tasks.length:Int) - 1))
    (fun h1 => .rt false ⟨aH5 hq.1 hq.2.2 h1,trivial⟩)
    (fun h1 => .ye hq.2.2 (aE y id) (he:=hq.2.1) fun _ => .ex (rW h1) fun t ht => .ye ht task (he:=gT h1) fun _ => .s (t.state=3)
     (fun h3 => .rt (decide (t.try_=try_)) ⟨bD3 hq.1 hq.2.2 h1 ht h3,trivial⟩)
     (fun h3 => .rt false ⟨aS7 hq.1 hq.2.2 h1 ht h3,trivial⟩)))) aC
theorem Holds_s (y:Yard) (id task try_:Int) (hw:y.wt≤1048576):Ct1 prog 389 [.S y,.I id,.I task,.I try_] [.B (eB y id task try_)]:=
 .one (eB y id task try_) (rk:=fun x=>[.B x])<|vc func389 (fun (hg:gin [Par.S y,Par.I id,Par.I task,Par.I try_]) => .c func291 (jT y id hw) (hg:=⟨hg.1.1,trivial⟩) fun _ => .s ((0:Int)≤aE y id)
  (fun h => .ex (sX h) fun q hq => .ye hq.2.2 (aE y id) (he:=hq.2.1) fun gr => .m (q.2.tasks.length:Int) 1 (h:=by have:=gQ hw hq.2.2;unfold I64;omega) <| .c func138 (InV task 0 ((q.2.tasks.length:Int) - 1)) fun _=>
   .sb (inB task 0 ((q.2.tasks.length:Int) - 1))
    (fun h1 => .ye hq.2.2 (aE y id) (he:=hq.2.1) fun _ => .ex (rW h1) fun t ht => .ye ht task (he:=gT h1) fun _ => .s (t.state=3)
     (fun h3 => .ye hq.2.2 (aE y id) (he:=hq.2.1) fun _ => .ye ht task (he:=gT h1) fun _ => .rt (decide (t.try_=try_)) ⟨bD3 hq.1 hq.2.2 h1 ht h3,trivial⟩)
     (fun h3 => .rt false ⟨aS7 hq.1 hq.2.2 h1 ht h3,trivial⟩))
    (fun h1 => .rt false ⟨aH5 hq.1 hq.2.2 h1,trivial⟩))
  (fun h => .rt false ⟨aS6 h,trivial⟩)) aC
theorem bL2 {y:Yard} {p:Plan} (h:¬ (y.runs.length:Int)<8):false=gN y p:=by unfold gN;simp[h]
theorem bL1 {y:Yard} {p:Plan} (h:inB p.tasks 0 12=false):false=gN y p:=by unfold gN;simp[h]
theorem bL0 {y:Yard} {p:Plan} (h:¬ cV y+p.tasks≤40):false=gN y p:=by unfold gN;simp[h]
theorem bK9 {y:Yard} {p:Plan} (h1:(y.runs.length:Int)<8) (h2:inB p.tasks 0 12=true) (h3:cV y+p.tasks≤40):decide (y.seq≤999999000 - p.tasks)=gN y p:=by unfold gN;simp[h1,h2,h3]
theorem RoomFor_i (y:Yard) (p:Plan) (hw:y.wt≤1048576):Ct1 prog 303 [.S y,.S p] [.B (gN y p)]:=
 .one (gN y p) (rk:=fun x=>[.B x])<|vc func303 (fun (hg:gin [Par.S y,Par.S p])=>let hs:=aF0 y
  .s ((y.runs.length:Int)<8)
  (fun h1 => .c func92 (bN p.tasks 0 12) fun _ => .sb (inB p.tasks 0 12)
   (fun h2=>let hp:=inB_iff.1 h2
    .c func234 (aJ9 y hw) (hg:=⟨hg.1.1,trivial⟩) fun _ => .p (cV y) p.tasks (h:=by unfold I64;omega) <| .s (cV y+p.tasks≤40)
    (fun h3 => .m 999999000 p.tasks (h:=by unfold I64;omega) <| .rt (decide (y.seq≤999999000 - p.tasks)) ⟨bK9 h1 h2 h3,trivial⟩)
    (fun h3 => .rt false ⟨bL0 h3,trivial⟩))
   (fun h2 => .rt false ⟨bL1 h2,trivial⟩))
  (fun h1 => .rt false ⟨bL2 h1,trivial⟩)) aC
theorem RoomFor_s (y:Yard) (p:Plan) (hw:y.wt≤1048576):Ct1 prog 326 [.S y,.S p] [.B (gN y p)]:=
 .one (gN y p) (rk:=fun x=>[.B x])<|vc func326 (fun (hg:gin [Par.S y,Par.S p])=>let hs:=aF0 y
  .s ((y.runs.length:Int)<8)
  (fun h1 => .c func138 (InV p.tasks 0 12) fun _ => .sb (inB p.tasks 0 12)
   (fun h2=>let hp:=inB_iff.1 h2
    .c func294 (aJ8 y hw) (hg:=⟨hg.1.1,trivial⟩) fun _ => .p (cV y) p.tasks (h:=by unfold I64;omega) <| .s (cV y+p.tasks≤40)
    (fun h3 => .m 999999000 p.tasks (h:=by unfold I64;omega) <| .rt (decide (y.seq≤999999000 - p.tasks)) ⟨bK9 h1 h2 h3,trivial⟩)
    (fun h3 => .rt false ⟨bL0 h3,trivial⟩))
   (fun h2 => .rt false ⟨bL1 h2,trivial⟩))
  (fun h1 => .rt false ⟨bL2 h1,trivial⟩)) aC
theorem aM5 {id:Int} {p:Plan} (h:¬ (inB id 1 9999=true∧aG p=0)):(zRun,false)=(yX id p,kD id p):=by
 have:kD id p=false:=by
  unfold kD
  cases h1:inB id 1 9999 with
  | false=>rfl
  | true=>simp only[Bool.true_and,decide_eq_false_iff_not];exact fun h2=>h ⟨h1,h2⟩
 rw[newR_f this,this]
theorem bB9 {id:Int} {p:Plan} (h1:inB id 1 9999=true) (h2:aG p=0):(bK id p,true)=(yX id p,kD id p):=by
 have:kD id p=true:=by unfold kD;rw[h1,decide_eq_true h2];rfl
 rw[bN1 this,this]
theorem wM:zRun.ok:=by unfold Run.ok Plan.ok zRun I64;simp
theorem aF3 {id:Int} {p:Plan} (h1:inB id 1 9999=true) (hp:p.ok):(bK id p).ok:=⟨by have:=inB_iff.1 h1;show I64 id;unfold I64;omega,hp,by show I64 1;unfold I64;omega⟩
theorem aK7 {a b c d:Int} (ha:0≤a∧a≤100) (hb:0≤b∧b≤100) (hc:0≤c∧c≤100) (hd:0≤d∧d≤100):Task.ok ⟨a,b,c,d⟩:=⟨by show I64 a;unfold I64;omega,by show I64 b;unfold I64;omega,by show I64 c;unfold I64;omega,by show I64 d;unfold I64;omega⟩
theorem RunNew_i (id:Int) (p:Plan):Ct1 prog 304 [.I id,.S p] [.S (yX id p),.B (kD id p)]:=
 .one (yX id p,kD id p) (rk:=fun q=>[.S q.1,.B q.2])<|vc func304 (fun (hg:gin [Par.I id,Par.S p])=>let gp:p.ok:=hg.1.1
  .c func92 (bN id 1 9999) fun _ => .v (inB id 1 9999) (fun h => .rt (zRun,false) ⟨aM5 (fun z=>by rw[h] at z;cases z.1),wM,trivial⟩) (fun h1=>
  .c func302 (iB p) (hg:=⟨gp,trivial⟩) fun _ => .u (aG p=0) (fun h => .rt (zRun,false) ⟨aM5 (fun z=>h z.2),wM,trivial⟩) (fun h2=>let hp:=oM h2
  .c func347 (aD0 p aA) (hg:=⟨gp,trivial⟩) fun _ => .wt 6 <| .r0 (inferInstance:Shape Task) 158 <|
  .l (Γ:=Nat) (fun k=>k≤p.tasks.toNat) (fun k=>p.tasks.toNat - k) [3,4,6] [1,2] [0] (fun k=>[vI 7 k]) (fun k=>[oO 3 p.edges,oR 5 158 (cT p k),oB 4 [.v (I id),.v (I p.prio),.v (I p.most),.v (I p.wait),.v (I p.tasks),.r 3,.v (I 1),.r 5]]) 0 fun k hk t=>let hln:=iI p k
   .s ((k:Int)<p.tasks)
    (fun h=>let hbl:=jK p (k:Int)
     .c func379 (aD2 p k) (hg:=⟨gp,trivial⟩) fun _ => .s (((aS p (k:Int)).length:Int)=0)
     (fun h3 => .a (cT p k) (⟨2,(aS p (k:Int)).length,0,0⟩:Task) 32 (hy:=aK7 aA aA aA aA) (h63:=by unfold maxLen;omega) (hby:=by omega) <| .g 5 (xX h3).symm <| .p k 1 (h:=by unfold I64;omega) <| .n t (k+1) [])
     (fun h3 => .a (cT p k) (⟨1,(aS p (k:Int)).length,0,0⟩:Task) 32 (hy:=aK7 aA aA aA aA) (h63:=by unfold maxLen;omega) (hby:=by omega) <| .g 5 (xY h3).symm <| .p k 1 (h:=by unfold I64;omega) <| .n t (k+1) []))
    (fun h => .g 5 (show cT p k=cT p p.tasks.toNat by rw[show k=p.tasks.toNat by omega]) <| .rt (bK id p,true) ⟨bB9 h1 h2,aF3 h1 gp,trivial⟩)))) aC
theorem RunNew_s (id:Int) (p:Plan):Ct1 prog 327 [.I id,.S p] [.S (yX id p),.B (kD id p)]:=
 .one (yX id p,kD id p) (rk:=fun q=>[.S q.1,.B q.2])<|vc func327 (fun (hg:gin [Par.I id,Par.S p])=>let gp:p.ok:=hg.1.1
  .c func138 (InV id 1 9999) fun _ => .v (inB id 1 9999) (fun h => .rt (zRun,false) ⟨aM5 (fun z=>by rw[h] at z;cases z.1),wM,trivial⟩) (fun h1=>
  .c func325 (mO p) (hg:=⟨gp,trivial⟩) fun _ => .u (aG p=0) (fun h => .rt (zRun,false) ⟨aM5 (fun z=>h z.2),wM,trivial⟩) (fun h2=>let hp:=oM h2
  .c func366 (aC9 p aA) (hg:=⟨gp,trivial⟩) fun _ => .wt 6 <| .r0 (inferInstance:Shape Task) 158 <|
  .l (Γ:=Nat) (fun k=>k≤p.tasks.toNat) (fun k=>p.tasks.toNat - k) [3,4,6] [1,2] [0] (fun k=>[vI 7 k]) (fun k=>[oO 3 p.edges,oR 5 158 (cT p k),oB 4 [.v (I id),.v (I p.prio),.v (I p.most),.v (I p.wait),.v (I p.tasks),.r 3,.v (I 1),.r 5]]) 0 fun k hk t=>let hln:=iI p k
   .s ((k:Int)<p.tasks)
    (fun h=>let hbl:=jK p (k:Int)
     .c func386 (aK2 p k h2) (hg:=⟨gp,trivial⟩) fun _ => .s ((0:Int)<((aS p (k:Int)).length:Int))
     (fun h3 => .a (cT p k) (⟨1,(aS p (k:Int)).length,0,0⟩:Task) 32 (hy:=aK7 aA aA aA aA) (h63:=by unfold maxLen;omega) (hby:=by omega) <| .g 5 (xY (p:=p) (k:=k) aA).symm <| .p k 1 (h:=by unfold I64;omega) <| .n t (k+1) [])
     (fun h3 => .a (cT p k) (⟨2,(aS p (k:Int)).length,0,0⟩:Task) 32 (hy:=aK7 aA aA aA aA) (h63:=by unfold maxLen;omega) (hby:=by omega) <| .g 5 (xX (p:=p) (k:=k) aA).symm <| .p k 1 (h:=by unfold I64;omega) <| .n t (k+1) []))
    (fun h => .g 5 (show cT p k=cT p p.tasks.toNat by rw[show k=p.tasks.toNat by omega]) <| .rt (bK id p,true) ⟨bB9 h1 h2,aF3 h1 gp,trivial⟩)))) aC
def bL:List Entry→Entry×List Entry×Bool
 | []=>(zE,[],false)
 | e::r=>(e,r,true)
theorem aZ1 {xs:List Entry} (h:(xs.length:Int)=0):(zE,[],false)=bL xs:=by
 rw[eq_nil_of_length_eq_zero (show xs.length=0 by omega)];rfl
theorem aP6 {xs:List Entry} {e:Entry} (h:xs[0]? = some e):(e,xs.drop 1,true)=bL xs:=by
 cases xs with
 | nil=>cases h
 | cons a r=>cases h;rfl
theorem TakeEntry_i (xs:List Entry) (hl:xs.length≤1048576):Ct1 prog 309 [.L xs] [.S (bL xs).1,.L (bL xs).2.1,.B (bL xs).2.2]:=
 .one (bL xs) (rk:=fun q=>[.S q.1,.L q.2.1,.B q.2.2])<|vc func309 (fun hg => .s ((xs.length:Int)=0)
  (fun h => .rt (zE,[],false) ⟨aZ1 h,zE_ok,trivial⟩)
  (fun h => .x xs 0 (h:=by omega) fun e he ge => .dp inferInstance xs 1 aA 1 rfl <| .c func235 (eV (xs.drop 1) (by rw[length_drop];omega)) fun _ => .rt (e,xs.drop 1,true) ⟨aP6 he,ge,trivial⟩)) aC
theorem TakeEntry_s (xs:List Entry) (hl:xs.length≤1048576):Ct1 prog 333 [.L xs] [.S (bL xs).1,.L (bL xs).2.1,.B (bL xs).2.2]:=
 .one (bL xs) (rk:=fun q=>[.S q.1,.L q.2.1,.B q.2.2])<|vc func333 (fun hg => .s ((xs.length:Int)=0)
  (fun h => .e Entry <| .rt (zE,[],false) ⟨aZ1 h,zE_ok,trivial⟩)
  (fun h => .x xs 0 (h:=by omega) fun e he ge => .dp inferInstance xs 1 aA 1 rfl <| .e Entry <| .as (inferInstance:Shape Entry) eL [] (xs.drop 1) 32 (by rw[length_drop];simp only[length_nil];unfold maxLen;omega) (by rw[length_drop];simp only[length_nil];omega) <| .rt (e,xs.drop 1,true) ⟨aP6 he,ge,trivial⟩)) aC
theorem HalfOf_i (xs:List Entry) (hl:xs.length≤1048576):Ct1 prog 307 [.L xs] [.L (xs.take (cE xs)),.L (xs.drop (cE xs))]:=
 vc func307 (fun hg=>let hh:cE xs≤xs.length:=(by unfold cE;omega)
  let he:((xs.length:Int)+1) / 2=(cE xs:Int):=(by unfold cE;omega)
  .p (xs.length:Int) 1 (h:=by unfold I64;omega) <| .q ((xs.length:Int)+1) 2 (h:=by omega) <| .tk inferInstance xs (cE xs) hh (((xs.length:Int)+1) / 2) he <| .dp inferInstance xs (cE xs) hh (((xs.length:Int)+1) / 2) he <|
  .c func235 (eV (xs.take (cE xs)) (by rw[length_take];omega)) fun _ => .c func235 (eV (xs.drop (cE xs)) (by rw[length_drop];omega)) fun _ => .rt () ⟨trivial,trivial⟩) aC
theorem HalfOf_s (xs:List Entry) (hl:xs.length≤1048576):Ct1 prog 331 [.L xs] [.L (xs.take (cE xs)),.L (xs.drop (cE xs))]:=
 vc func331 (fun hg=>let hh:cE xs≤xs.length:=(by unfold cE;omega)
  let he:((xs.length:Int)+1) / 2=(cE xs:Int):=(by unfold cE;omega)
  .p (xs.length:Int) 1 (h:=by unfold I64;omega) <| .q ((xs.length:Int)+1) 2 (h:=by omega) <| .tk inferInstance xs (cE xs) hh (((xs.length:Int)+1) / 2) he <| .dp inferInstance xs (cE xs) hh (((xs.length:Int)+1) / 2) he <|
  let one:=fun k=>D.as (P:=prog) (A:=Unit) (R:=fun _=>True∧rgd [Rk.L (xs.take (cE xs)),Rk.L (xs.drop (cE xs))]) (inferInstance:Shape Entry) eL [] (xs.take (cE xs)) 32 (by rw[length_take];simp only[length_nil];unfold maxLen;omega) (by rw[length_take];simp only[length_nil];omega) k
  let two:=D.as (P:=prog) (A:=Unit) (R:=fun _=>True∧rgd [Rk.L (xs.take (cE xs)),Rk.L (xs.drop (cE xs))]) (inferInstance:Shape Entry) eL [] (xs.drop (cE xs)) 32 (by rw[length_drop];simp only[length_nil];unfold maxLen;omega) (by rw[length_drop];simp only[length_nil];omega) (.rt () ⟨trivial,trivial⟩)
  .pm fun i=>match i with
   | 0 => .e Entry <| .pm fun i=>match i with
    | 4=>one <| .pm fun _ => .e Entry<|two
    | _ => .e Entry<|one<|two
   | _ => .e Entry <| .e Entry<|one<|two) aC
def PxF (xs:List Entry) (e:Entry):Option Nat→Prop
 | none=>oL xs e=xs.length
 | some k=>oL xs e=k∧k<xs.length
structure PxJ (xs:List Entry) (e:Entry) (k:Nat):Prop where
 le:k≤xs.length
 no:(xs.take k).any (fun x => !dQ x e)=false
theorem PxJ.next {xs:List Entry} {e x:Entry} {k:Nat} (h:PxJ xs e k) (hx:xs[k]? = some x) (ha:dQ x e=true):PxJ xs e (k+1):=by
 obtain ⟨hk,rfl⟩:=gsi_.1 hx
 exact ⟨hk,sF hk h.no (by rw[ha];rfl)⟩
theorem PxJ.hit {xs:List Entry} {e x:Entry} {k:Nat} (h:PxJ xs e k) (hx:xs[k]? = some x) (ha:dQ x e=false):oL xs e=k∧k<xs.length:=by
 obtain ⟨hk,rfl⟩:=gsi_.1 hx
 exact ⟨aQ8 h.le h.no (.inr ⟨hk,ha⟩),hk⟩
theorem PxJ.all {xs:List Entry} {e:Entry} {k:Nat} (h:PxJ xs e k) (hn:¬ (k:Int)<xs.length):oL xs e=k∧k=xs.length:=by
 have:=h.le
 exact ⟨aQ8 h.le h.no (.inl aA),by omega⟩
noncomputable def insInc (xs:List Entry) (y:Entry) (k:Nat) (hk:k≤xs.length) (hy:y.ok) (hxl:xs.length≤1048576) (zs:List Entry) (hz:xs.take k++y::xs.drop k=zs):Inc prog 395 (fun _:Unit=>True) where
 T:=fun s us K=>match us with
  | [.on (.ce (.rf j h)),.on (.ce (.vl v1)),.on (.ce (.lt r b n))]=>match lku s.O j,lku (bZ s.O j) r with
   | some (.row i e' h' xs' fe),some (.bx b' [] cs [] t) => .e0 h h' <| .e0 e' 243 <| .e1 (⟨i,xs'⟩:Dat) ⟨instShapeEntry,xs⟩ <| .e0 v1 (I (k:Int)) <| .e0 b b' <| .e0 n 1 <| .e0 t 243 <| .e0 (cs.map Sc.val) [I y.prio,I y.seq,I y.run,I y.task] <|
     .fn fun g:Hd×List Nat=>K () (.on (.ce (.rf j g.1))) ⟨s.E,(j,.own instShapeEntry g.1 zs g.2)::bZ (bZ s.O j) r,lasting s.B,s.nx⟩
   | _,_ => .no
  | _ => .no
 ok:=by
  intro w0 W s us K h st fa
  split at h
  ·next j hd v1 r b n=>
   split at h
   ·next i e' h' xs' fe b' cs t hj hr=>
    obtain ⟨rfl,rfl,h2,rfl,rfl,rfl,rfl,h6,h7⟩:=h
    simp only[Dat.mk.injEq] at h2
    obtain ⟨rfl,h8,h9⟩:=h2
    obtain ⟨rfl,rfl⟩:=And.intro (eq_of_heq h8) (eq_of_heq h9)
    have st2:=St.take (rs:=[]) (by simpa [Or,S.rs] using st) hj
    rw[append_nil] at st2
    have st3:=(St.take (rs:=[_]) (st2.perm (perm_append_comm (l₂:=[_]))) hr).perm (perm_append_comm (l₁:=[_]) (l₂:=_::_))
    have st3:St w0 W (Res.row 243 hd.val xs' fe::Res.bx b ([]++cs.map Sc.val++[]) 243::Or (bZ (bZ s.O j) r)):=st3
    rw[nil_append,append_nil,h6] at st3
    obtain ⟨cl,_,hE⟩:=(st3.get 0 rfl).1
    obtain rfl:=tC eL hE
    refine (InsertE k st3 hk hy hxl).mono ?_
    rintro e W' ⟨v',rfl,st'⟩
    obtain ⟨fp,st'⟩:=st'.shut
    obtain ⟨hd,rfl,_⟩:=Sl.hd (cN (st'.get 0 rfl))
    exact ⟨(),.on (.ce (.rf j hd)),_,trivial,h7 (hd,fp),rfl,by rw[← hz];exact st',fa.lasting⟩
   exact h.elim
  exact h.elim
theorem aC6 (xs:List Entry) (e:Entry) (hl:xs.length≤1048576):Ct1 prog 349 [.L xs,.S e] [.L (jY xs e)]:=
 vc func349 (fun (hg:gin [Par.L xs,Par.S e])=>let ge:e.ok:=hg.2.1.1
  let fin:∀ k,oL xs e=k→k≤xs.length→D prog (fun _:Unit=>True∧rgd [Rk.L (jY xs e)]):=fun k h1 h2 => .c func235 (eV xs hl) fun _ => .iv _ func395 (insInc xs e k h2 ge hl (jY xs e) (by rw[← h1];rfl)) fun _ _ => .rt () ⟨trivial,trivial⟩
  .in_ (R':=PxF xs e) func382 (
   .la (Γ:=Nat) (PxJ xs e) (fun k=>xs.length - k) (fun k=>[vI 8 k]) (fun _=>[]) 0 (h:=⟨Nat.zero_le _,rfl⟩) fun k hJ t=>let hk:=hJ.le
    .s ((k:Int)<xs.length)
     (fun h => .x xs k (h:=by omega) fun x hx gx => .in_ (R':=fun _:Unit=>True) func394 (.c func341 (bH4 x e) (hg:=⟨gx,ge,trivial⟩) fun _ => .rt () trivial) fun _ _ => .v (dQ x e)
      (fun h1 => .rt (some k) (hJ.hit hx h1))
      (fun h1 => .p k 1 (h:=by unfold I64;omega) <| .n t (k+1) [] (hJ.next hx h1) aA))
     (fun h => .rt none ((hJ.all h).1.trans (hJ.all h).2))) fun o=>match o with
   | none=>fun ho => .kt ((-1:Int)<0) eS<|fin xs.length ho (Nat.le_refl _)
   | some k=>fun ho => .kf ((k:Int)<0) aA<|fin k ho.1 (Nat.le_of_lt ho.2)) aC
theorem aC5 (xs:List Entry) (e:Entry) (hl:xs.length≤1048576):Ct1 prog 388 [.L xs,.S e] [.L (jY xs e)]:=
 .one (jY xs e) (rk:=fun l=>[.L l])<|vc func388 (fun (hg:gin [Par.L xs,Par.S e])=>let ge:e.ok:=hg.2.1.1
  let fin:∀ k,oL xs e=k→k≤xs.length→D prog (fun l:List Entry=>l=jY xs e∧rgd [Rk.L l]):=fun k h1 h2 => .e Entry <| .tk inferInstance xs k h2 (k:Int) rfl <| .as (inferInstance:Shape Entry) eL [] (xs.take k) 32 (by rw[length_take];simp only[length_nil];unfold maxLen;omega) (by rw[length_take];simp only[length_nil];omega) <|
   .a (xs.take k) e 32 (hy:=ge) (h63:=by rw[length_take];unfold maxLen;omega) (hby:=by rw[length_take];omega) <| .dp inferInstance xs k h2 (k:Int) rfl <| .as (inferInstance:Shape Entry) eL (xs.take k++[e]) (xs.drop k) 32 (by rw[length_append,length_take,length_drop];simp only[length_cons,length_nil];unfold maxLen;omega) (by rw[length_append,length_take,length_drop];simp only[length_cons,length_nil];omega) <|
   .rt (xs.take k++[e]++xs.drop k) ⟨by rw[append_assoc,← h1];rfl,trivial⟩
  .la (Γ:=Nat) (PxJ xs e) (fun k=>xs.length - k) (fun k=>[vI 5 k]) (fun _=>[]) 0 (h:=⟨Nat.zero_le _,rfl⟩) fun k hJ t=>let hk:=hJ.le
   .s ((k:Int)<xs.length)
    (fun h => .x xs k (h:=by omega) fun x hx gx => .c func404 (bH3 x e) (hg:=⟨gx,ge,trivial⟩) fun _ => .sb (dQ x e)
     (fun h1 => .p k 1 (h:=by unfold I64;omega) <| .n t (k+1) [] (hJ.next hx h1) aA)
     (fun h1=>fin k (hJ.hit hx h1).1 hk))
    (fun h=>fin k (hJ.all h).1 hk)) aC
def zJ (a b:List Entry) (k:Nat):List Entry:=(b.take k).foldl jY a
theorem aR9 (a b:List Entry) (k:Nat):(zJ a b k).length≤a.length+b.length:=by
 unfold zJ;rw[rA,length_take];omega
theorem aG6 {a b:List Entry} {k:Nat} {e:Entry} (h:b[k]? = some e):jY (zJ a b k) e=zJ a b (k+1):=by
 obtain ⟨hk,rfl⟩:=gsi_.1 h
 unfold zJ;rw[foldl_put_to hk]
theorem aS0 {a b:List Entry} {k:Nat} (h:¬ (80:Int)<(a.length:Int)+b.length) (hk:¬ (k:Int)<b.length):zJ a b k=dA a b:=by
 unfold zJ dA;rw[if_neg aA,take_of_length_le aA]
theorem mg_no {a b:List Entry} (h:(80:Int)<(a.length:Int)+b.length):a=dA a b:=by unfold dA;rw[if_pos aA]
theorem Merged_i (a b:List Entry) (ha:a.length≤1048576) (hb:b.length≤1048576):Ct1 prog 308 [.L a,.L b] [.L (dA a b)]:=
 vc func308 (fun hg => .c func235 (eV a ha) fun _ => .p (a.length:Int) (b.length:Int) (h:=by unfold I64;omega) <| .s ((80:Int)<(a.length:Int)+b.length)
  (fun h => .g 2 (show a=dA a b from mg_no h) <| .rt () ⟨trivial,trivial⟩)
  (fun h => .wt 18 <| .sh 2 <| .l (Γ:=Nat) (fun k=>k≤b.length) (fun k=>b.length - k) [17,18] [] [0,1] (fun k=>[vR 5 2,vI 19 k]) (fun k=>[oO 2 (zJ a b k)]) 0 fun k hk t=>let hln:=aR9 a b k
   .s ((k:Int)<b.length)
    (fun h2 => .x b k (h:=by omega) fun e he ge => .c func349 (aC6 (zJ a b k) e aA) (hg:=⟨ge,trivial⟩) fun _ => .g 5 (aG6 (a:=a) he) <| .p k 1 (h:=by unfold I64;omega) <| .n t (k+1) [(2,5)])
    (fun h2 => .g 2 (aS0 (a:=a) (b:=b) (k:=k) h h2) <| .rt () ⟨trivial,trivial⟩))) aC
theorem Merged_s (a b:List Entry) (ha:a.length≤1048576) (hb:b.length≤1048576):Ct1 prog 332 [.L a,.L b] [.L (dA a b)]:=
 vc func332 (fun hg => .e Entry <| .as (inferInstance:Shape Entry) eL [] a 32 (by simp only[length_nil];unfold maxLen;omega) (by simp only[length_nil];omega) <| .p (a.length:Int) (b.length:Int) (h:=by unfold I64;omega) <| .s ((80:Int)<(a.length:Int)+b.length)
  (fun h => .g 2 (show ([]:List Entry)++a=dA a b from mg_no h) <| .rt () ⟨trivial,trivial⟩)
  (fun h => .sh 2 <| .l (Γ:=Nat) (fun k=>k≤b.length) (fun k=>b.length - k) [1] [] [0,1] (fun k=>[vR 5 2,vI 6 k]) (fun k=>[oO 2 (zJ a b k)]) 0 fun k hk t=>let hln:=aR9 a b k
   .s ((k:Int)<b.length)
    (fun h2 => .x b k (h:=by omega) fun e he ge => .c func388 (aC5 (zJ a b k) e aA) (hg:=⟨ge,trivial⟩) fun _ => .g 4 (aG6 (a:=a) he) <| .p k 1 (h:=by unfold I64;omega) <| .n t (k+1) [(2,4)])
    (fun h2 => .g 2 (aS0 (a:=a) (b:=b) (k:=k) h h2) <| .rt () ⟨trivial,trivial⟩))) aC
theorem vic_step {home draw:Int} {k:Nat} (h:k<3):(bH home draw).take k++[mQ home draw k]=(bH home draw).take (k+1):=by
 match k,h with
 | 0,_=>rfl
 | 1,_=>rfl
 | 2,_=>rfl
theorem bR0 {home:Int} (h:0≤home∧home≤3):I (nE home 0 3)=I home:=by
 unfold nE;rw[if_neg aA,if_neg aA,Int.min_def,if_pos aA]
theorem Victims_i (home draw:Int) (hh:0≤home∧home≤3) (hd:I64 draw):Ct1 prog 306 [.I home,.I draw] [.L (bH home draw)]:=
 vc func306 (fun hg=>let hm:0≤max draw 0∧max draw 0≤9223372036854775807:=(by unfold I64 at hd;omega)
  .c func83 (BroughtID home 0 3) fun _ => .rv 8 (I home) (y:=I (nE home 0 3)) (bR0 hh) <| .w Int 3 5 <| .l (Γ:=Nat) (fun k=>k≤3) (fun k=>3 - k) [0,1] [] [] (fun k=>[vR 5 0,vI 6 k]) (fun k=>[oR 0 3 ((bH home draw).take k)]) 0 fun k hk t=>
   .s ((k:Int)<3)
    (fun h => .p home 1 (h:=by unfold I64;omega) <| .q (max draw 0) 3 (h:=by omega) <| .p (max draw 0 % 3) (k:Int) (h:=by unfold I64;omega) <| .q (max draw 0 % 3+k) 3 (h:=by omega) <| .p (home+1) ((max draw 0 % 3+k) % 3) (h:=by unfold I64;omega) <| .q (home+1+(max draw 0 % 3+k) % 3) 4 (h:=by omega) <|
     .a ((bH home draw).take k) (mQ home draw k) 8 (hy:=by have:=xK home draw k hh;show I64 _;unfold I64;omega) (h63:=by rw[length_take];unfold maxLen;omega) (hby:=by rw[length_take];omega) <| .g 0 (vic_step (home:=home) (draw:=draw) (k:=k) aA) <| .p k 1 (h:=by unfold I64;omega) <| .n t (k+1) [])
    (fun h => .g 0 (show (bH home draw).take k=bH home draw by rw[show k=3 by omega];rfl) <| .rt () ⟨trivial,trivial⟩)) aC
theorem sh_0 {id:Int} (h:aY id=⟨#[]⟩):0=aU id:=by unfold aU;rw[if_pos h]
theorem sh_1 {id:Int} (h:¬ aY id=⟨#[]⟩):eJ (aY id) % 4=aU id:=by unfold aU;rw[if_neg h]
theorem ShelfOf_i (id:Int):Ct1 prog 348 [.I id] [.I (aU id)]:=
 .one (aU id) (rk:=fun a=>[.I a])<|vc func348 (fun hg=>let hv:=dJ id
  let hr:=aE5 (aY id)
  .c func202 (vC id) fun _ => .s (aY id=⟨#[]⟩)
  (fun h => .rt 0 ⟨sh_0 h,trivial⟩)
  (fun h => .c func197 (bG1 (aY id) aA) fun _ => .q (eJ (aY id)) 4 (h:=by omega) <| .rt (eJ (aY id) % 4) ⟨sh_1 h,trivial⟩)) aC
theorem ShelfOf_s (id:Int):Ct1 prog 387 [.I id] [.I (aU id)]:=
 .one (aU id) (rk:=fun a=>[.I a])<|vc func387 (fun hg=>let hv:=dJ id
  let hr:=aE5 (aY id)
  .c func214 (vB id) fun _ => .s (aY id=⟨#[]⟩)
  (fun h => .rt 0 ⟨sh_0 h,trivial⟩)
  (fun h => .c func216 (bG0 (aY id) aA) fun _ => .q (eJ (aY id)) 4 (h:=by omega) <| .rt (eJ (aY id) % 4) ⟨sh_1 h,trivial⟩)) aC
def eA (ts:List Task) (k:Nat):List Task:=ts.mapIdx (fun j t=>if j<k then dW t else t)
theorem leaveSTo_zero (ts:List Task):eA ts 0=ts:=by
 apply ext_getElem?;intro i
 simp[eA,getElem?_mapIdx]
theorem leaveSTo_len (ts:List Task) (k:Nat):(eA ts k).length=ts.length:=by simp[eA]
theorem wE {ts:List Task} {k:Nat} {t:Task} (h:ts[k]? = some t):(eA ts k)[k]? = some t:=by simp[eA,getElem?_mapIdx,h]
theorem leaveSTo_set {ts:List Task} {k:Nat} {t y:Task} (h:ts[k]? = some t) (hy:dW t=y):(eA ts k).set k y=eA ts (k+1):=by
 apply ext_getElem?;intro i
 obtain ⟨hl,rfl⟩:=gsi_.1 h
 simp only[eA,getElem?_set,getElem?_mapIdx,length_mapIdx]
 by_cases e:k=i
 ·subst e;simp[hl,hy]
 rw[if_neg e]
 cases hi:ts[i]? with
 | none=>rfl
 | some u=>
  have:(i<k)↔(i<k+1):=by omega
  simp[this]
theorem leaveSTo_all (ts:List Task):eA ts ts.length=cQ ts:=by
 apply ext_getElem?;intro i
 simp only[eA,cQ,getElem?_mapIdx,getElem?_map]
 cases hi:ts[i]? with
 | none=>rfl
 | some u=>have:=(gsi_.1 hi).1;simp[this]
theorem leaveS1_t {t:Task} (h:¬ t.state=4) (h2:¬ t.state=5):dW t=gB t:=by unfold dW;rw[if_neg (by simp[h,h2])]
theorem leaveS1_4 {t:Task} (h:t.state=4):dW t=t:=by unfold dW;rw[if_pos (.inl h)]
theorem leaveS1_5 {t:Task} (h:t.state=5):dW t=t:=by unfold dW;rw[if_pos (.inr h)]
noncomputable def fV (r:Run) (task:Int):Bool:=dL r && (inB task 0 ((r.tasks.length:Int) - 1) && (match r.tasks[task.toNat]? with | some t=>decide (t.state=3) | none=>false))
theorem yE {r:Run} {task:Int} (h:fV r task=true):RunIs r∧∃ t,0≤task∧r.tasks[task.toNat]? = some t∧t.state=3:=by
 unfold fV at h
 simp only[Bool.and_eq_true] at h
 obtain ⟨h1,h2,h3⟩:=h
 refine ⟨runIs.1 h1,?_⟩
 cases hq:r.tasks[task.toNat]? with
 | none=>rw[hq] at h3;cases h3
 | some t=>rw[hq] at h3;exact ⟨t,(inB_iff'.1 h2).1,rfl,by simpa using h3⟩
noncomputable def bP (r:Run) (task:Int):Run:=if fV r task then aA4 r task.toNat else r

def cA (r r':Run) (k:Nat):List Int:=(dK r'.tasks 2 k).filter (fun t => !decide (t∈aM r.tasks 2))
theorem freshTo_zero (r r':Run):cA r r' 0=[]:=rfl
theorem freshTo_len (r r':Run) (k:Nat):(cA r r' k).length≤k:=Nat.le_trans (length_filter_le _ _) (fT _ _ _)
theorem tin_mem {ts:List Task} {s:Int} {k:Nat}:(k:Int)∈aM ts s↔∃ h:k<ts.length,ts[k].state=s:=by
 unfold aM dK
 rw[mem_filterMap]
 constructor
 ·rintro ⟨a,ha,h⟩
  rw[mem_range] at ha
  split at h
  ·next e=>
   simp only[Option.some.injEq] at h
   have:a=k:=by omega
   subst this
   rw[getElem?_eq_getElem ha] at e
   exact ⟨ha,by simpa using e⟩
  cases h
 rintro ⟨h,e⟩
 exact ⟨k,by simpa using h,by rw[if_pos (by rw[getElem?_eq_getElem h];simpa using e)]⟩
theorem zX {r r':Run} {k:Nat} (h:k<r'.tasks.length) (hs:¬ r'.tasks[k].state=2):cA r r' (k+1)=cA r r' k:=by unfold cA;rw[uB h hs]
theorem freshTo_f2 {r r':Run} {k:Nat} (h:k<r'.tasks.length) (h2:k<r.tasks.length) (hs:r.tasks[k].state=2):cA r r' (k+1)=cA r r' k:=by
 by_cases hq:r'.tasks[k].state=2
 ·unfold cA
  rw[pS h hq,filter_append]
  have:(k:Int)∈aM r.tasks 2:=tin_mem.2 ⟨h2,hs⟩
  simp[this]
 exact zX h hq
theorem aI0 {r r':Run} {k:Nat} (h:k<r'.tasks.length) (hs:r'.tasks[k].state=2) (hn:r.tasks.length≤k∨∃ h2:k<r.tasks.length,¬ r.tasks[k].state=2):cA r r' (k+1)=cA r r' k++[(k:Int)]:=by
 unfold cA
 rw[pS h hs,filter_append]
 have:¬ (k:Int)∈aM r.tasks 2:=fun hm=>by
  obtain ⟨h2,e⟩:=tin_mem.1 hm
  rcases hn with hn | ⟨_,hn⟩
  ·omega
  exact hn e
 simp[this]
structure StJ (sh:Nat) (prio id:Int) (xss:List (List Entry)) (seq:Int) (ts:List Int) (g:Int×List (List Entry)):Prop where
 sq:g.1=seq+(ts.length:Int)
 sl:g.2=fM sh prio id ts xss seq
theorem StJ.start {sh:Nat} {prio id:Int} {xss:List (List Entry)} {seq:Int}:StJ sh prio id xss seq [] (seq,xss):=⟨by simp,rfl⟩
theorem StJ.at {sh:Nat} {prio id:Int} {xss:List (List Entry)} {seq:Int} {ts:List Int} {g:Int×List (List Entry)} (h:StJ sh prio id xss seq ts g) (hs:sh<xss.length):∃ l,g.2[sh]? = some l∧l.length=(xss.getD sh []).length+ts.length:=by
 refine ⟨g.2.getD sh [],getD_some (by rw[h.sl,lH];exact hs),by rw[h.sl];exact lI sh prio id ts xss seq hs⟩
theorem StJ.step {sh:Nat} {prio id:Int} {xss:List (List Entry)} {seq:Int} {ts:List Int} {g:Int×List (List Entry)} (h:StJ sh prio id xss seq ts g) {l:List Entry} (hl:g.2[sh]? = some l) (t:Int):StJ sh prio id xss seq (ts++[t]) (g.1+1,g.2.set sh (jY l ⟨prio,g.1,id,t⟩)):=by
 have e:g.2.getD sh []=l:=by rw[getD_eq_getElem?_getD,hl];rfl
 refine ⟨by show g.1+1=_;rw[h.sq,length_append];simp only[length_singleton];omega,?_⟩
 show g.2.set sh _=_
 rw[vO,← h.sl,← h.sq,e]
theorem bP4 {a b c d:Int} (ha:I64 a) (hb:I64 b) (hc:I64 c) (hd:I64 d):Entry.ok ⟨a,b,c,d⟩:=⟨ha,hb,hc,hd⟩
theorem fr_f1 {was r:Run} {k:Nat} {t:Task} (ht:r.tasks[k]? = some t) (h:¬ t.state=2):cA was r (k+1)=cA was r k:=by
 obtain ⟨hk,rfl⟩:=gsi_.1 ht;exact zX hk h
theorem fr_f2 {was r:Run} {k:Nat} {t u:Task} (ht:r.tasks[k]? = some t) (hu:was.tasks[k]? = some u) (h:u.state=2):cA was r (k+1)=cA was r k:=by
 obtain ⟨hk,rfl⟩:=gsi_.1 ht
 obtain ⟨hk2,rfl⟩:=gsi_.1 hu;exact freshTo_f2 hk hk2 h
theorem fr_t1 {was r:Run} {k:Nat} {t:Task} (ht:r.tasks[k]? = some t) (h:t.state=2) (hl:¬ (k:Int)<was.tasks.length):cA was r (k+1)=cA was r k++[(k:Int)]:=by
 obtain ⟨hk,rfl⟩:=gsi_.1 ht;exact aI0 hk h (.inl aA)
theorem fr_t2 {was r:Run} {k:Nat} {t u:Task} (ht:r.tasks[k]? = some t) (h:t.state=2) (hu:was.tasks[k]? = some u) (h2:¬ u.state=2):cA was r (k+1)=cA was r k++[(k:Int)]:=by
 obtain ⟨hk,rfl⟩:=gsi_.1 ht
 obtain ⟨hk2,rfl⟩:=gsi_.1 hu;exact aI0 hk h (.inr ⟨hk2,h2⟩)
abbrev sG (r:Run) (ts:List Int) (seq:Int) (xss:List (List Entry)) (q:Int×List (List Entry)):Prop:=q=(seq+(ts.length:Int),fM (aU r.id).toNat r.plan.prio r.id ts xss seq)
theorem stk_q {r:Run} {ts:List Int} {seq:Int} {xss:List (List Entry)} {k:Nat} {g:Int×List (List Entry)} (h:StJ (aU r.id).toNat r.plan.prio r.id xss seq (ts.take k) g) (hk:¬ (k:Int)<ts.length):sG r ts seq xss g:=by
 have h1:=h.sq
 have h2:=h.sl
 rw[take_of_length_le aA] at h1 h2
 exact Prod.ext h1 h2
noncomputable def bK2 (yb sn rn:Nat) (now seq:Int) (xss:List (List Entry)) (r:Run) (ts:List Int) (hs:4≤xss.length) (hln:(xss.getD (aU r.id).toNat []).length+ts.length≤1048576) (hsq:0≤seq∧seq≤4000000000) (gr:r.ok):D prog (sG r ts seq xss):=
 let hsr:=fU r.id
 .c func348 (ShelfOf_i r.id) fun _=>
  .la (Γ:=Nat×Int×List (List Entry)) (fun g=>g.1≤ts.length∧StJ (aU r.id).toNat r.plan.prio r.id xss seq (ts.take g.1) g.2) (fun g=>ts.length - g.1) (fun g=>[vI 14 g.1]) (fun g=>[oO sn g.2.2,oB yb [.v (I now),.v (I g.2.1),.r sn,.r rn]]) (0,seq,xss) (h:=⟨Nat.zero_le _,StJ.start⟩) fun g hJ tk=>
   let hq:=hJ.2.sq
   let htl:(ts.take g.1).length≤ts.length:=(by rw[length_take];omega)
   .s ((g.1:Int)<ts.length)
    (fun h => .ex (hJ.2.at aA) fun l hl => .x ts g.1 (h:=by omega) fun t ht gt => .d sn hl.1 fun _ => .ie (aU r.id).toNat (aU r.id) (he:=by omega) <|
     .c func349 (aC6 l ⟨r.plan.prio,g.2.1,r.id,t⟩ (by have:=hl.2;omega)) (hg:=⟨bP4 gr.2.1.1 (by unfold I64;omega) gr.1 gt,trivial⟩) fun _ => .ie (aU r.id).toNat (aU r.id) (he:=by omega) <| .wt 42 <| .f sn g.2.2 (jY l ⟨r.plan.prio,g.2.1,r.id,t⟩) (h:=trivial) <|
     .p g.2.1 1 (h:=by unfold I64;omega) <| .p g.1 1 (h:=by unfold I64;omega) <| .n tk (g.1+1,g.2.1+1,g.2.2.set (aU r.id).toNat (jY l ⟨r.plan.prio,g.2.1,r.id,t⟩)) [] (h1:=⟨by show g.1+1≤_;omega,by show StJ _ _ _ _ _ (ts.take (g.1+1)) _;rw[← cU ht];exact hJ.2.step hl.1 t⟩) (h2:=by show ts.length - (g.1+1)<_;omega))
    (fun h => .rt g.2 (stk_q hJ.2 h))
def pM (r r':Run) (j:Nat):List Int:=((aM r'.tasks 2).take j).filter (fun t => !decide (t∈aM r.tasks 2))
theorem chgTo_len (r r':Run) (j:Nat):(pM r r' j).length≤j:=Nat.le_trans (length_filter_le _ _) (by rw[length_take];omega)
theorem chgTo_t {r r':Run} {j:Nat} {v:Int} (h:(aM r'.tasks 2)[j]? = some v) (hn:¬ v∈aM r.tasks 2):pM r r' j++[v]=pM r r' (j+1):=by
 unfold pM
 rw[← cU h,filter_append]
 simp[hn]
theorem chgTo_f {r r':Run} {j:Nat} {v:Int} (h:(aM r'.tasks 2)[j]? = some v) (hn:v∈aM r.tasks 2):pM r r' j=pM r r' (j+1):=by
 unfold pM
 rw[← cU h,filter_append]
 simp[hn]
theorem chgTo_e {r r':Run} {j:Nat} (h:¬ (j:Int)<(aM r'.tasks 2).length):pM r r' j=dX r r':=by
 unfold pM dX
 rw[take_of_length_le aA]
noncomputable def xF (yb sn rn w:Nat) (now seq:Int) (xss:List (List Entry)) (runs:List Run) (k:Nat) (ki:Int) (hki:ki=k) (r r':Run) (hr:runs[k]? = some r) (hrl:r.tasks.length≤1000) (hrl':r'.tasks.length≤1000) (gr:r.ok) (gr':r'.ok) (hs:4≤xss.length) (hln:(xss.getD (aU r'.id).toNat []).length≤1000000) (hsq:0≤seq∧seq≤4000000000)
  (how:D prog (sG r' (dX r r') seq xss)→D prog (sG r' (dX r r') seq xss)):D prog (sG r' (dX r r') seq xss):=
 let hti:(aM r'.tasks 2).length≤r'.tasks.length:=fT r'.tasks 2 r'.tasks.length
 let hff:=mI r r'
 .d rn hr fun _ => .ie k ki (he:=hki) <| .c func30 (jL r 2 aA) (hg:=⟨gr,trivial⟩) fun _ => .ie k ki (he:=hki)<|how <| .w Int 3 7 <| .ie k ki (he:=hki) <| .c func30 (jL r' 2 aA) (hg:=⟨gr',trivial⟩) fun _=>
  .la (Γ:=Nat) (fun j=>j≤(aM r'.tasks 2).length) (fun j=>(aM r'.tasks 2).length - j) (fun j=>[vI 35 j,vR 7 w]) (fun j=>[oR w 3 (pM r r' j)]) 0 fun j hj t=>let hcl:=chgTo_len r r' j
   .s ((j:Int)<(aM r'.tasks 2).length)
    (fun h => .x (aM r'.tasks 2) j (h:=by omega) fun v hv gv => .c func230 (bH2 (aM r.tasks 2) v (by have:=fT r.tasks 2 r.tasks.length;show (dK r.tasks 2 r.tasks.length).length≤_;omega)) fun _ => .u (v∈aM r.tasks 2)
     (fun h2 => .a (pM r r' j) v 8 (h63:=by unfold maxLen;omega) (hby:=by omega) <| .g w (chgTo_t hv h2) <| .p j 1 (h:=by unfold I64;omega) <| .n t (j+1) [])
     (fun h2 => .g w (chgTo_f hv h2) <| .p j 1 (h:=by unfold I64;omega) <| .n t (j+1) []))
    (fun h => .g w (chgTo_e (r:=r) h) <| .ie k ki (he:=hki) <| .in_ func237 (bK2 yb sn rn now seq xss r' (dX r r') hs aA hsq gr') fun q hq => .wt 999 <| .f rn runs r' (h:=gr') <| .rt q hq)
theorem lay_q {was r:Run} {seq:Int} {xss:List (List Entry)} {k:Nat} {g:Int×List (List Entry)} (h:StJ (aU r.id).toNat r.plan.prio r.id xss seq (cA was r k) g) (hk:k≤r.tasks.length) (hn:¬ (k:Int)<r.tasks.length):sG r (dX was r) seq xss g:=by
 have e:cA was r k=dX was r:=by rw[show k=r.tasks.length by omega];rfl
 exact Prod.ext (by rw[← e];exact h.sq) (by rw[← e];exact h.sl)
noncomputable def layD (z:Bool) (b sn rn:Nat) (now seq:Int) (xss:List (List Entry)) (was r:Run) (hs:4≤xss.length) (hln:(xss.getD (aU r.id).toNat []).length≤1000000) (hrl:r.tasks.length≤1000) (hsq:0≤seq∧seq≤4000000000) (gr:r.ok) (hz:z=true→was.tasks=[]):D prog (sG r (dX was r) seq xss):=
 let hsr:=fU r.id
 .c func387 (ShelfOf_s r.id) fun _=>
  .la (Γ:=Nat×Int×List (List Entry)) (fun g=>g.1≤r.tasks.length∧StJ (aU r.id).toNat r.plan.prio r.id xss seq (cA was r g.1) g.2) (fun g=>r.tasks.length - g.1) (fun g=>[vI 8 g.1]) (fun g=>[oO sn g.2.2,oB b [.v (I now),.v (I g.2.1),.r sn,.r rn]]) (0,seq,xss) (h:=⟨Nat.zero_le _,by rw[freshTo_zero];exact StJ.start⟩) fun g hJ tk=>
   let hq:=hJ.2.sq
   let hfl:=freshTo_len was r g.1
   .s ((g.1:Int)<r.tasks.length)
    (fun h => .x r.tasks g.1 (h:=by omega) fun t ht gt=>
     let skip:cA was r (g.1+1)=cA was r g.1→D prog (sG r (dX was r) seq xss):=fun hf => .p g.1 1 (h:=by unfold I64;omega) <| .n tk (g.1+1,g.2) [] (h1:=⟨by show g.1+1≤_;omega,by show StJ _ _ _ _ _ (cA was r (g.1+1)) _;rw[hf];exact hJ.2⟩) (h2:=by show r.tasks.length - (g.1+1)<_;omega)
     let put:cA was r (g.1+1)=cA was r g.1++[(g.1:Int)]→D prog (sG r (dX was r) seq xss):=fun hf => .ex (hJ.2.at aA) fun l hl => .d sn hl.1 fun _ => .ie (aU r.id).toNat (aU r.id) (he:=by omega) <|
      .c func388 (aC5 l ⟨r.plan.prio,g.2.1,r.id,g.1⟩ (by have:=hl.2;omega)) (hg:=⟨bP4 gr.2.1.1 (by unfold I64;omega) gr.1 (by unfold I64;omega),trivial⟩) fun _ => .ie (aU r.id).toNat (aU r.id) (he:=by omega) <| .wt 60 <| .f sn g.2.2 (jY l ⟨r.plan.prio,g.2.1,r.id,g.1⟩) (h:=trivial) <|
      .p g.2.1 1 (h:=by unfold I64;omega) <| .p g.1 1 (h:=by unfold I64;omega) <| .n tk (g.1+1,g.2.1+1,g.2.2.set (aU r.id).toNat (jY l ⟨r.plan.prio,g.2.1,r.id,g.1⟩)) [] (h1:=⟨by show g.1+1≤_;omega,by show StJ _ _ _ _ _ (cA was r (g.1+1)) _;rw[hf];exact hJ.2.step hl.1 g.1⟩) (h2:=by show r.tasks.length - (g.1+1)<_;omega)
     .u (t.state=2)
      (fun h2=>skip (fr_f1 ht h2))
      (fun h2 => .s ((g.1:Int)<was.tasks.length)
       (fun h3=>match z,hz with
        | true,hz => .ab (by rw[hz rfl] at h3;simp at h3;omega)
        | false,_ => .x was.tasks g.1 (h:=by omega) fun u hu gu => .s (u.state=2)
         (fun h4=>skip (fr_f2 ht hu h4))
         (fun h4=>put (fr_t2 ht h2 hu h4)))
       (fun h3=>put (fr_t1 ht h2 h3))))
    (fun h => .rt g.2 (lay_q hJ.2 hJ.1 h))
theorem aK6 {y:Yard} {k:Nat} {was r:Run} {q:Int×List (List Entry)} (hq:sG r (dX was r) y.seq y.shelf q):(⟨y.now,q.1,q.2,y.runs.set k r⟩:Yard)=cS y k was r:=by
 have hq:q=_:=hq
 rw[hq];rfl
theorem aO2 (y:Yard) (e:Int) (k:Nat) (was r:Run) (he:e=k) (hk:y.runs[k]? = some was) (hss:4≤y.shelf.length) (hrl:r.tasks.length≤1000) (hln:(y.shelf.getD (aU r.id).toNat []).length≤1000000) (hsq:0≤y.seq∧y.seq≤4000000000) (gr:r.ok) (gy:(cS y k was r).ok) :
  Cw prog 336 [.ow inferInstance y,.bw (.I e),.ow inferInstance r] (fun _:Unit=>True) (fun _=>[.S (cS y k was r)]):=
 Cw.one (cS y k was r) (rk:=fun x=>[.S x])<|vcw func336 (fun hg => .d 1 hk fun gw => .ie k e (he:=he) <| .ie k e (he:=he) <| .in_ func328 (layD false 11 0 1 y.now y.seq y.shelf was r hss hln hrl hsq gr (fun z=>by cases z)) fun q hq=>
  .wt 999 <| .f 1 y.runs r (h:=gr) <| .rt ⟨y.now,q.1,q.2,y.runs.set k r⟩ ⟨aK6 hq,by rw[aK6 hq];exact gy,trivial⟩) aC
theorem as_b {P:Program} {F:FuncId} {ps:List Par} {b:Bool} {w:World} {us:List Value} (C:Ct1 P F ps [.B b]) (hp:Pars w us ps):Calls P F us.toArray w fun e w'=>e = .returned (.bool b)∧St w w' []:=(C.run w us trivial hp).mono fun e W ⟨_,vs,rs,_,he,hr,st⟩=>by
 match vs,hr with
 | [u],hr=>
  obtain ⟨r1,r2,⟨h1,h4⟩,h2,h3⟩:=hr
  have h2:r2=[]:=h2
  subst h1 h4 h2 h3
  exact ⟨he,st⟩
theorem as_s {P:Program} {F:FuncId} {ps:List Par} {x:Yard} {w:World} {us:List Value} (C:Ct1 P F ps [.S x]) (hp:Pars w us ps):Calls P F us.toArray w fun e w'=>∃ (cs':List Value) (fp':List Nat),e = .returned (.agg cs'.toArray)∧St w w' [Res.own (.agg cs'.toArray) x fp']:=(C.run w us trivial hp).mono fun e W ⟨_,vs,rs,_,he,hr,st⟩=>by
 match vs,hr with
 | [u],hr=>
  obtain ⟨r1,r2,h1,h2,h3⟩:=hr
  obtain ⟨cs,fp,hv1,hr1⟩:=h1
  have h2:r2=[]:=h2
  subst h2 h3 hr1 hv1
  have st2:St w W (Res.cs cs x fp::[]):=st
  exact ⟨cs,fp,he,st2.trade1 rfl fun h=>⟨⟨cs,rfl,h.1⟩,h.2⟩⟩
theorem CopyYardR_i (y:Yard) (hw:y.wt≤1048576):Ct1 prog 119 [.S y] [.cl [.v (I y.now),.v (I y.seq),.o (inferInstance:Shape (List Entry)) y.shelf,.r (inferInstance:Shape Run) 55 y.runs]]:=
 vc func119 (fun (hg:gin [Par.S y])=>let hb:=dV y hw
  .wt 14 <| .r0 (inferInstance:Shape (List Entry)) 217 <| .l (Γ:=Nat) (fun k=>k≤y.shelf.length) (fun k=>y.shelf.length - k) [1,2,3,14,15] [2,3] [0,1] (fun k=>[vI 16 k]) (fun k=>[oR 5 217 (y.shelf.take k),oB 4 [.v (I y.now),.v (I y.seq),.r 5,.v (.slice none 0 0)]]) 0 fun k hk t=>
   .s ((k:Int)<y.shelf.length)
    (fun h => .x y.shelf k (h:=by omega) fun l hl gl => .c func235 (eV l (jG hl hw)) fun _ => .a (y.shelf.take k) l 24 (hy:=trivial) (h63:=by rw[length_take];unfold maxLen;omega) (hby:=by rw[length_take];omega) <| .g 5 (cU hl) <| .p k 1 (h:=by unfold I64;omega) <| .n t (k+1) [])
    (fun h => .g 5 (jW h) <| .r0 (inferInstance:Shape Run) 55 <| .l (Γ:=Nat) (fun k=>k≤y.runs.length) (fun k=>y.runs.length - k) [1,2,3,29,30] [2,3] [0,1] (fun k=>[vI 31 k]) (fun k=>[oR 5 217 y.shelf,oR 6 55 (y.runs.take k),oB 4 [.v (I y.now),.v (I y.seq),.r 5,.r 6]]) 0 fun k hk t=>
     .s ((k:Int)<y.runs.length)
      (fun h2 => .x y.runs k (h:=by omega) fun r hr gr=>let hrl:=gQ hw hr
       .c func236 (vD r hrl.2.2 hrl.2.1) (hg:=⟨gr,trivial⟩) fun _ => .a (y.runs.take k) r 96 (hy:=gr) (h63:=by rw[length_take];unfold maxLen;omega) (hby:=by rw[length_take];omega) <| .g 6 (cU hr) <| .p k 1 (h:=by unfold I64;omega) <| .n t (k+1) [])
      (fun h2 => .g 6 (jW h2) <| .rt () ⟨trivial,trivial⟩))) aC
theorem YardOkT (w:World) {y:Yard} {cs:List Value} {fp:List Nat} (hc:Shape.C w cs y fp) (hw:y.wt≤1048576) :
  Calls prog 185 #[.agg cs.toArray] w fun e w'=>e = .returned (.bool (aK y))∧St w w' []:=as_b (us:=[.agg cs.toArray]) (iW y hw) ⟨⟨cs,fp,rfl,hc⟩,trivial⟩
theorem CopyYardT (w:World) {y:Yard} {cs:List Value} {fp:List Nat} (hc:Shape.C w cs y fp) (hw:y.wt≤1048576) :
  Calls prog 184 #[.agg cs.toArray] w fun e w'=>∃ (cs':List Value) (fp':List Nat),e = .returned (.agg cs'.toArray)∧St w w' [Res.own (.agg cs'.toArray) y fp']:=as_s (us:=[.agg cs.toArray]) (eG y hw) ⟨⟨cs,fp,rfl,hc⟩,trivial⟩
theorem CopyYardR_s (y:Yard) (hw:y.wt≤1048576):Ct1 prog 184 [.S y] [.cl [.v (I y.now),.v (I y.seq),.o (inferInstance:Shape (List Entry)) y.shelf,.r (inferInstance:Shape Run) 55 y.runs]]:=
 vc func184 (fun (hg:gin [Par.S y])=>let hb:=dV y hw
  .wt 4 <| .r0 (inferInstance:Shape (List Entry)) 217 <| .l (Γ:=Nat) (fun k=>k≤y.shelf.length) (fun k=>y.shelf.length - k) [1,2,3] [2,3] [0,1] (fun k=>[vI 4 k]) (fun k=>[oR 5 217 (y.shelf.take k),oB 4 [.v (I y.now),.v (I y.seq),.r 5,.v (.slice none 0 0)]]) 0 fun k hk t=>
   .s ((k:Int)<y.shelf.length)
    (fun h => .x y.shelf k (h:=by omega) fun l hl gl=>let hll:=jG hl hw
     .e Entry <| .as (inferInstance:Shape Entry) eL [] l 32 (by simp only[length_nil];unfold maxLen;omega) (by simp only[length_nil];omega) <| .a (y.shelf.take k) l 24 (hy:=trivial) (h63:=by rw[length_take];unfold maxLen;omega) (hby:=by rw[length_take];omega) <| .g 5 (cU hl) <| .p k 1 (h:=by unfold I64;omega) <| .n t (k+1) [])
    (fun h => .g 5 (jW h) <| .r0 (inferInstance:Shape Run) 55 <| .l (Γ:=Nat) (fun k=>k≤y.runs.length) (fun k=>y.runs.length - k) [1,2,3] [2,3] [0,1] (fun k=>[vI 5 k]) (fun k=>[oR 5 217 y.shelf,oR 6 55 (y.runs.take k),oB 4 [.v (I y.now),.v (I y.seq),.r 5,.r 6]]) 0 fun k hk t=>
     .s ((k:Int)<y.runs.length)
      (fun h2 => .x y.runs k (h:=by omega) fun r hr gr=>let hrl:=gQ hw hr
       .c func288 (lD r hrl.2.2 hrl.2.1) (hg:=⟨gr,trivial⟩) fun _ => .a (y.runs.take k) r 96 (hy:=gr) (h63:=by rw[length_take];unfold maxLen;omega) (hby:=by rw[length_take];omega) <| .g 6 (cU hr) <| .p k 1 (h:=by unfold I64;omega) <| .n t (k+1) [])
      (fun h2 => .g 6 (jW h2) <| .rt () ⟨trivial,trivial⟩))) aC
end Go.Proofs.YtanpcpoogkdlaaaGreat
