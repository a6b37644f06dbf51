/-
  Notes in a text of frames, those behind a mark, of both; told to the reader.
  Room for a run, of both.
  An entry put on a shelf, of both.
  What a yard gets on its shelf, of the program.
  Yards of which runs are turned: what is kept. Theory alone.
  What a worker is given, and from which shelf. Theory alone.
  A new yard, engine, world.
  A new yard, as a contract.
  Engines: right or not, copied, of both.
  An element of an owned slice is left out.
  A mark's steps, plain.
  A mark's steps, as calls; their weights.
  A mark, of both.
  Who holds what, room, new runs, shelves that are taken from, of both; told to the reader.
  Runs of which a task fails, yards that are turned, of the reference.
  What a change of a run lays on the shelves, of both: read where it is called.
  What was told to the reader, as calls (for the older walks).
  A task that is done: what becomes of a right run. Theory alone.
  Runs that are changed where they lie, of the program; told to the reader, and as calls.
  Yards that are started again, of both.
  A task that is done, of both.
  What is told of a task, of both.
  A task that failed, of both.
  A run that is left, of both.
  Runs that are done, or fail, or are left; what is told of work; starting anew; of the reference; told to the reader.
  Tasks that are late, yards whose time goes on. Theory alone.
  Late tasks of the program; told to the reader.
  Tasks that are late, time that goes on, of both.
  Runs that are done; starting anew; of the reference; told to the reader.
  Runs that are given up, of both.
  Late tasks, time that goes on, runs that are left, of the reference; told to the reader.
  Shelves that are halved, merged, taken from, of both.
  What a worker is given, of both.
  Shelves that are swept, tasks that are started, polls, of the reference; told to the reader.
  What is submitted, of both.
-/
import Derived.Test.YtanpcpoogkdlaaaGreatQ01
import Derived.Test.YtanpcpoogkdlaaaGreatQ02
import Derived.Test.YtanpcpoogkdlaaaGreatQ03
import Derived.Test.YtanpcpoogkdlaaaGreatQ04
import Derived.Test.YtanpcpoogkdlaaaGreatQ05
namespace Go.Proofs.YtanpcpoogkdlaaaGreat
set_option linter.unusedSimpArgs false
set_option linter.unusedVariables false
set_option maxRecDepth 100000
set_option maxHeartbeats 2000000
open Go.RowKit Go.Proofs.Tryz List
variable (w:World) {cs ds:List Value} {fp gp:List Nat}
theorem sO {bs:List ByteArray} {g:Nat×List Note×Int} (h:NsJ bs g) (hb:bs.length≤60000):g.2.1.length+1≤maxLen∧(g.2.1.length+1)*112≤140737488355328:=by
 have:=h.len;have:=h.le;unfold maxLen;omega
theorem bZ6 {s b:ByteArray} {k:Nat} (h:(gU s).1[k]? = some b):b.size≤400:=(vO s).1 b (mem_of_getElem? h)
theorem aG2 {a:List Note×Int} {b:ByteArray} (h:(bY b).2=true) (h0:¬ (0:Int)<a.1.length):oX a b:=⟨h,.inl (eq_nil_of_length_eq_zero aA)⟩
theorem aP8 {a:List Note×Int} {b:ByteArray} {v:Note} (h:(bY b).2=true) (hv:a.1[a.1.length - 1]? = some v) (e:(bY b).1.seq=v.seq+1):oX a b:=⟨h,.inr (by rw[bR7 hv];exact e)⟩
theorem bE7 {a:List Note×Int} {b:ByteArray} {v:Note} (h0:(0:Int)<a.1.length) (hv:a.1[a.1.length - 1]? = some v) (e:¬ (bY b).1.seq=v.seq+1):¬ oX a b:=fun hc=>hc.2.elim (fun h=>by rw[h] at h0;exact absurd h0 cH) (fun h=>e (by rw[bR7 hv] at h;exact h))
theorem bR8 {bs:List ByteArray} {g:Nat×List Note×Int} {v:Note} {k:Nat} (h:NsJ bs g) (hv:g.2.1[k]? = some v):I64 (v.seq+1):=by
 have:=h.rng v (mem_of_getElem? hv)
 unfold I64;omega
theorem NotesIn_i (s:ByteArray) (hs:s.size≤1048576):Ct1 prog 85 [.T s] [.L (hQ s).1,.I (hQ s).2]:=
 .one (hQ s) (rk:=fun q=>[.L q.1,.I q.2])<|vc func85 (fun hg=>let hbl:=(vO s).2
  .w Note 139 4 <| .c func187 (ScanOf_i s hs) fun _ => .l (Γ:=Nat×List Note×Int) (NsJ (gU s).1) (fun g=>(gU s).1.length - g.1) [5,17,18] [1] [] (fun g=>[vR 4 0,vI 7 g.2.2,vI 19 g.1]) (fun g=>[oR 0 139 g.2.1]) (0,[],0) (h:=NsJ.start _) fun g hJ t=>
   .s ((g.1:Int)<(gU s).1.length)
    (fun h => .x (gU s).1 g.1 (h:=by omega) fun b hb gb=>let hz:=bZ6 hb
     .c func188 (show Ct1 prog 188 [.T b] [.S (bY b).1,.B (bY b).2] by rw[← readN_eq];exact ReadNote_i b aA) fun gn=>
     let add:oX g.2 b→D prog (fun q:List Note×Int=>q=hQ s∧rgd [Rk.L q.1,Rk.I q.2]):=fun hn => .a g.2.1 (bY b).1 112 (hy:=gn.1.1) (h63:=(sO hJ hbl).1) (hby:=(sO hJ hbl).2) <| .c func104 (FrameOf_i b aA) fun _=>
      let hfz:=qK hz
      let hsz:=hJ.sz
      let hle:=hJ.le
      .p g.2.2 (eS b).size (h:=by unfold I64;omega) <| .p g.1 1 (h:=by unfold I64;omega) <| .n t (g.1+1,g.2.1++[(bY b).1],g.2.2+(eS b).size) [] (hJ.next hb hz hn) (by dsimp only;omega)
     .v (bY b).2
      (fun h1 => .rt g.2 ⟨hJ.stop hb (fun hc=>by rw[hc.1] at h1;cases h1),trivial⟩)
      (fun h1 => .s ((0:Int)<g.2.1.length)
       (fun h2 => .m g.2.1.length 1 (h:=by unfold I64;have:=hJ.len;have:=hJ.le;omega) <| .xe g.2.1 (g.2.1.length - 1) ((g.2.1.length:Int) - 1) (h:=by omega) (he:=by omega) fun v hv gv => .p v.seq 1 (h:=bR8 hJ hv) <| .u ((bY b).1.seq=v.seq+1)
        (fun h3 => .rt g.2 ⟨hJ.stop hb (bE7 h2 hv h3),trivial⟩)
        (fun h3=>add (aP8 h1 hv h3)))
       (fun h2=>add (aG2 h1 h2))))
    (fun h => .rt g.2 ⟨hJ.all h,trivial⟩)) aD
theorem NotesIn_s (s:ByteArray) (hs:s.size≤1048576):Ct1 prog 109 [.T s] [.L (hQ s).1,.I (hQ s).2]:=
 .one (hQ s) (rk:=fun q=>[.L q.1,.I q.2])<|vc func109 (fun hg=>let hbl:=(vO s).2
  .e Note <| .c func212 (ScanOf_s s hs) fun _ => .l (Γ:=Nat×List Note×Int) (NsJ (gU s).1) (fun g=>(gU s).1.length - g.1) [5] [1] [] (fun g=>[vR 4 0,vI 7 g.2.2,vI 8 g.1]) (fun g=>[oR 0 139 g.2.1]) (0,[],0) (h:=NsJ.start _) fun g hJ t=>let hlen:=hJ.len
   .s ((g.1:Int)<(gU s).1.length)
    (fun h => .x (gU s).1 g.1 (h:=by omega) fun b hb gb=>let hz:=bZ6 hb
     .c func213 (ReadNote_s b aA) fun gn=>
     let add:oX g.2 b→D prog (fun q:List Note×Int=>q=hQ s∧rgd [Rk.L q.1,Rk.I q.2]):=fun hn => .a g.2.1 (bY b).1 112 (hy:=gn.1.1) (h63:=(sO hJ hbl).1) (hby:=(sO hJ hbl).2) <| .y hb fun _ => .c func113 (FrameOf_s b aA) fun _=>
      let hfz:=qK hz
      let hsz:=hJ.sz
      let hle:=hJ.le
      .p g.2.2 (eS b).size (h:=by unfold I64;omega) <| .p g.1 1 (h:=by unfold I64;omega) <| .n t (g.1+1,g.2.1++[(bY b).1],g.2.2+(eS b).size) [] (hJ.next hb hz hn) (by dsimp only;omega)
     .v (bY b).2
      (fun h1 => .rt g.2 ⟨hJ.stop hb (fun hc=>by rw[hc.1] at h1;cases h1),trivial⟩)
      (fun h1 => .s ((0:Int)<(g.1:Int))
       (fun h2 => .m g.1 1 (h:=by unfold I64;have:=hJ.le;omega) <| .xe g.2.1 (g.1 - 1) ((g.1:Int) - 1) (h:=by omega) (he:=by omega) fun v hv gv => .p v.seq 1 (h:=bR8 hJ hv) <| .u ((bY b).1.seq=v.seq+1)
        (fun h3 => .rt g.2 ⟨hJ.stop hb (bE7 aA (by rw[hlen];exact hv) h3),trivial⟩)
        (fun h3=>add (aP8 h1 (by rw[hlen];exact hv) h3)))
       (fun h2=>add (aG2 h1 aA))))
    (fun h => .rt g.2 ⟨hJ.all h,trivial⟩)) aD
theorem CopyDeed_i (d:Deed) (hl:d.plan.edges.length≤1048576):Ct1 prog 284 [.S d] [.S d]:=
 vc func284 (fun (hg:gin [Par.S d]) => .c func347 (uY d.plan hl) (hg:=⟨(show d.ok from hg.1.1).2.2.1,trivial⟩) fun _ => .rt () ⟨trivial,hg.1.1,trivial⟩) aD
theorem CopyNote_i (n:Note) (hl:n.deed.plan.edges.length≤1048576):Ct1 prog 189 [.S n] [.S n]:=
 vc func189 (fun (hg:gin [Par.S n]) => .c func284 (CopyDeed_i n.deed hl) (hg:=⟨(show n.ok from hg.1.1).2,trivial⟩) fun _ => .rt () ⟨trivial,hg.1.1,trivial⟩) aD
theorem CopyNote_s (n:Note) (hl:n.deed.plan.edges.length≤1048576):Ct1 prog 273 [.S n] [.S n]:=
 vc func273 (fun (hg:gin [Par.S n]) => .c func366 (uX n.deed.plan hl) (hg:=⟨(show n.ok from hg.1.1).2.2.2.1,trivial⟩) fun _ => .rt () ⟨trivial,hg.1.1,trivial⟩) aD
theorem sL {ns:List Note} {q:Int} {g:Nat×List Note×Int} (h:SiJ ns q g) (hl:ns.length≤1048576):g.2.1.length+1≤maxLen∧(g.2.1.length+1)*112≤140737488355328:=by
 have:=h.len;have:=h.le;unfold maxLen;omega
theorem seq_m {n:Note} {q:Int} (gn:n.ok) (h:¬ n.seq≤q) (hq:I64 q):I64 (n.seq - 1):=by have:=gn.1;unfold I64 at *;omega
theorem Since_i (ns:List Note) (q:Int) (hq:I64 q) (hl:ns.length≤1048576) (he:∀ n∈ns,n.deed.plan.edges.length≤1048576):Ct1 prog 87 [.L ns,.I q] [.L (iV ([],q) ns)]:=
 .one (iV ([],q) ns) (rk:=fun l=>[.L l])<|vc func87 (fun (hg:gin [Par.L ns,Par.I q]) => .w Note 139 5 <| .l (Γ:=Nat×List Note×Int) (SiJ ns q) (fun g=>ns.length - g.1) [10,11] [] [0] (fun g=>[vR 5 1,vI 6 g.2.2,vI 12 g.1]) (fun g=>[oR 1 139 g.2.1]) (0,[],q) (h:=SiJ.start hq) fun g hJ t=>let hle:=hJ.le
   .s ((g.1:Int)<ns.length)
    (fun h => .x ns g.1 (h:=by omega) fun n hn gn=>let gn:n.ok:=gn
     .s (n.seq≤g.2.2)
      (fun h1 => .p g.1 1 (h:=by unfold I64;omega) <| .n t (g.1+1,g.2) [] (hJ.skip hn h1) (by dsimp only;omega))
      (fun h1 => .m n.seq 1 (h:=seq_m gn h1 hJ.i64) <| .u (n.seq - 1=g.2.2)
       (fun h2 => .rt g.2.1 ⟨hJ.stop hn h1 h2,trivial⟩)
       (fun h2 => .c func189 (CopyNote_i n (he n (mem_of_getElem? hn))) (hg:=⟨gn,trivial⟩) fun _ => .a g.2.1 n 112 (hy:=gn) (h63:=(sL hJ hl).1) (hby:=(sL hJ hl).2) <| .p g.1 1 (h:=by unfold I64;omega) <| .n t (g.1+1,g.2.1++[n],n.seq) [] (hJ.next hn h1 h2 gn.1) (by dsimp only;omega))))
    (fun h => .rt g.2.1 ⟨hJ.all h,trivial⟩)) aD
theorem Since_s (ns:List Note) (q:Int) (hq:I64 q) (hl:ns.length≤1048576) (he:∀ n∈ns,n.deed.plan.edges.length≤1048576):Ct1 prog 162 [.L ns,.I q] [.L (iV ([],q) ns)]:=
 .one (iV ([],q) ns) (rk:=fun l=>[.L l])<|vc func162 (fun (hg:gin [Par.L ns,Par.I q]) => .e Note <| .l (Γ:=Nat×List Note×Int) (SiJ ns q) (fun g=>ns.length - g.1) [0] [] [0] (fun g=>[vR 5 1,vI 1 g.2.2,vI 6 g.1]) (fun g=>[oR 1 139 g.2.1]) (0,[],q) (h:=SiJ.start hq) fun g hJ t=>let hle:=hJ.le
   .s ((g.1:Int)<ns.length)
    (fun h => .x ns g.1 (h:=by omega) fun n hn gn=>let gn:n.ok:=gn
     .s (n.seq≤g.2.2)
      (fun h1 => .p g.1 1 (h:=by unfold I64;omega) <| .n t (g.1+1,g.2) [] (hJ.skip hn h1) (by dsimp only;omega))
      (fun h1 => .y hn fun _ => .m n.seq 1 (h:=seq_m gn h1 hJ.i64) <| .u (n.seq - 1=g.2.2)
       (fun h2 => .rt g.2.1 ⟨hJ.stop hn h1 h2,trivial⟩)
       (fun h2 => .y hn fun _ => .y hn fun _ => .c func273 (CopyNote_s n (he n (mem_of_getElem? hn))) (hg:=⟨gn,trivial⟩) fun _ => .a g.2.1 n 112 (hy:=gn) (h63:=(sL hJ hl).1) (hby:=(sL hJ hl).2) <| .p g.1 1 (h:=by unfold I64;omega) <| .n t (g.1+1,g.2.1++[n],n.seq) [] (hJ.next hn h1 h2 gn.1) (by dsimp only;omega))))
    (fun h => .rt g.2.1 ⟨hJ.all h,trivial⟩)) aD
noncomputable def jA (y:Yard) (p:Plan):Bool:=decide ((y.runs.length:Int)<8) && inB p.tasks 0 12 && decide (dK y+p.tasks≤40) && decide (y.seq≤999999000 - p.tasks)
theorem aO3 (y:Yard):0≤dK y∧dK y≤2*(y.wt:Int):=by
 have h1:=aO4 y y.runs.length
 rw[take_length] at h1
 have h2:=Nat.le_trans (sJ y y.shelf.flatten) (aY7 y)
 unfold dK;omega
noncomputable def aV5 (p:Plan) (k:Nat):Task:=⟨if (aT p k).length=0 then 2 else 1,(aT p k).length,0,0⟩
noncomputable def dO (p:Plan) (k:Nat):List Task:=(List.range k).map (aV5 p)
noncomputable def bU (id:Int) (p:Plan):Run:=⟨id,p,1,dO p p.tasks.toNat⟩
theorem aC9 {p:Plan} {k:Nat} (h:((aT p k).length:Int)=0):dO p (k+1)=dO p k++[⟨2,(aT p k).length,0,0⟩]:=by
 unfold dO;rw[range_succ,map_append];simp only[map_cons,map_nil,aV5];rw[if_pos aA]
theorem aD0 {p:Plan} {k:Nat} (h:¬ ((aT p k).length:Int)=0):dO p (k+1)=dO p k++[⟨1,(aT p k).length,0,0⟩]:=by
 unfold dO;rw[range_succ,map_append];simp only[map_cons,map_nil,aV5];rw[if_neg aA]
theorem kB (p:Plan) (k:Nat):(dO p k).length=k:=by unfold dO;rw[length_map,length_range]
def zRun:Run:=⟨0,⟨0,0,0,0,[]⟩,0,[]⟩
noncomputable def lX (id:Int) (p:Plan):Bool:=inB id 1 9999 && decide (aK p=0)
noncomputable def aG4 (id:Int) (p:Plan):Run:=if lX id p=true then bU id p else zRun
theorem newR_f {id:Int} {p:Plan} (h:lX id p=false):aG4 id p=zRun:=by unfold aG4;rw[h];rfl
theorem cC1 {id:Int} {p:Plan} (h:lX id p=true):aG4 id p=bU id p:=by unfold aG4;rw[if_pos h]
theorem bD4 {p:Plan} (h:aK p=0):1≤p.tasks∧p.tasks≤12∧p.edges.length≤30:=by
 have:=(rJ h).1;unfold bJ at this;omega
def qW (xs:List Entry) (e:Entry):Nat:=(rA (fun x => !eP x e) xs).getD xs.length
def lT (xs:List Entry) (e:Entry):List Entry:=xs.take (qW xs e)++e::xs.drop (qW xs e)
theorem putIx_le (xs:List Entry) (e:Entry):qW xs e≤xs.length:=by
 unfold qW
 cases h:rA (fun x => !eP x e) xs with
 | none=>exact Nat.le_refl _
 | some k=>exact Nat.le_of_lt (aY4 h).1
theorem bD2 (xs:List Entry) (e:Entry):(lT xs e).length=xs.length+1:=by
 have:=putIx_le xs e
 unfold lT
 rw[length_append,length_cons,length_take,length_drop];omega
theorem bD1 {xs:List Entry} {e:Entry} {k:Nat} (hk:k≤xs.length) (ha:(xs.take k).any (fun x => !eP x e)=false) (he:k=xs.length∨∃ h:k<xs.length,eP xs[k] e=false):qW xs e=k:=by
 unfold qW
 rcases he with rfl | ⟨h,he⟩
 ·rw[take_length] at ha
  rw[pN ha];rfl
 rw[pL h ha (by simp[he])];rfl


theorem bE5 {a b c:Nat} (h:c≤a∧c≤b) (h2:c=a∨c=b):Nat.min a b=c:=by
 have:Nat.min a b=min a b:=rfl
 omega
theorem aY1 {C:List Value} {o m j:Nat} {v:Value} (h:((C.drop o).take m)[j]? = some v):C[o+j]? = some v:=by
 rw[getElem?_take] at h
 split at h
 ·rwa [getElem?_drop] at h
 cases h
theorem bR1 {W:World} {C:List Value} {xs:List Entry} {k m:Nat} (he:Elems W (C.take (xs.length*Shape.size Entry)) xs []) (hkm:k*4+m≤xs.length*4:=by omega):∀ v∈(C.drop (k*4)).take m,v.oneCell'=true:=by
 intro v hv
 refine he.one v ?_
 obtain ⟨j,hj⟩:=mem_iff_getElem?.1 hv
 have hjm:j<m:=by
  rw[getElem?_take] at hj
  split at hj
  ·assumption
  cases hj
 have:=aY1 hj
 exact mem_iff_getElem?.2 ⟨k*4+j,by rw[getElem?_take,if_pos (by show _<xs.length*4;omega)];exact this⟩
theorem overlaps_E {w0 W:World} {rs:List Res} {b b2:Nat} {C C2:List Value} {o2 n1 c1 n2 c2:Nat} {i:Nat} (hst:St w0 W (Res.bx b C 243::rs)) (hi:rs[i]? = some (Res.bx b2 C2 243)) (hC:0<C2.length) :
  (callFunc 407 #[.slice (some ⟨b,0,none⟩) n1 c1,.slice (some ⟨b2,o2,none⟩) n2 c2]).run prog W = .ok (.value (.bool false)) W:=by
 have hB:W.heap[b]? = some (.cells C.toArray 243 (0,0)):=hst.get 0 rfl
 have hB2:W.heap[b2]? = some (.cells C2.toArray 243 (0,0)):=hst.get (i+1) (by simpa using hi)
 have hne:b≠b2:=by
  have hnd:=hst.nodup
  rw[flatMap_cons,nodup_append] at hnd
  exact fun e=>hnd.2.2 b (by simp[Res.bx]) b2 (mem_flatMap.2 ⟨_,mem_of_getElem? hi,by simp[Res.bx]⟩) e
 rw[run_callFunc_extern func407 aD aD aD (e:=Extern.SlicesOverlaps.overlaps #[217,217] #[4]) aD,
  Go.Lib.run_overlaps_apart W 217 4 243 underlying217 4 (fun w=>gV sl_EntryS.size w) ⟨b,0,none⟩ ⟨b2,o2,none⟩ n1 c1 n2 c2 hne 243 243 C.length C2.length
   (by simp[World.shape?,hB]) (by simp[World.shape?,hB2]) aA (by simp[World.frozen?,hB]) (by simp[World.frozen?,hB])]
 rfl

theorem InsertE {w W0:World} {rs:List Res} {v:Value} {xs:List Entry} {lb:Nat} {y:Entry} (k:Nat) (hst:St w W0 (Res.row (α:=Entry) 243 v xs []::Res.bx lb [I y.prio,I y.seq,I y.run,I y.task] 243::rs)) (hk:k≤xs.length) (hy:y.ok) (hxl:xs.length≤1048576) :
  Calls prog 395 #[v,I (k:Int),.slice (some ⟨lb,0,none⟩) 1 1] W0 fun e w'=>∃ v',e = .returned v'∧St w w' (Res.row (α:=Entry) 243 v' (xs.take k++y::xs.drop k) []::rs):=by
 refine cE2 func395 rfl ntmps395 cH (wp_seq (aB (sg (aH (v := .slice none 0 0) rfl (aC (wp_seq (aB (sg (aF (v:=v) rfl (sg (aF (v:=I (k:Int)) rfl (sg (stp_slice_l (l:=k) sl_EntryS rfl (gH (hst.get 0 rfl)) rfl rfl aA ?_)))))))))))));intro v5 g6 h7 hm8
 refine aC (wp_seq (aB (rn hst 3 Ag.nil.put.put.put.put.put.put.put [] [(7,I 1)] [.l (.slice (some ⟨lb,0,none⟩) 1 1) 1 ⟨_,_,rfl⟩] aD fun f10 h10_=>(aC (wp_seq (wp_seq (aB (sg (aF (h10_.at 7) (sg (bO6 rfl rfl (aC (cS rfl (fun h13p => ?_) (fun h13p => ?_))))))))))))))
 ·exact absurd h13p cH
 refine wp_skip (wp_seq (aB (rn hst 3 h10_.put.put [] [(8,I (xs.length:Int))] [ql (gH (hst.get 0 rfl))] aD fun f15 h15_=>(aC (wp_seq (wp_seq (aB (rn hst 3 h15_ [] [(22,.bool (decide ((k:Int)=(xs.length:Int))))] [.o] aD fun f17 h17_=>(aC (cS (h17_.at 22) (fun h18p => ?_) (fun h18p => ?_)))))))))))
 ·refine wp_seq (aB (sg (aF (h17_.at 0) (sg (aF (h17_.at 2) ?_)))))
  have st21:=hst.f1
  refine sg (lI (ys:=[(⟨y.prio,y.seq,y.run,y.task⟩:Entry)]) iR rfl rfl rfl st21.f1 (Elems.one1 ⟨rfl,rfl,hy⟩) (by unfold maxLen;omega) aA ?_);intro v23 W24 st25
  refine sg (aH (v:=v23) rfl (aC (wr (kZ results395 rfl ?_))))
  have hke:k=xs.length:=by omega
  subst hke
  refine ⟨_,rfl,?_⟩
  rw[take_length,drop_length]
  exact st25
 refine wp_skip (wp_seq (wp_seq (aB (rn hst 4 h17_ [] [(28,I ((xs.length:Int)+1)),(29,v)] [qad (xs.length:Int) 1] aD fun f30 h30_ => ?_))))
 have hq_:=St.rowOpen hst aA
 obtain ⟨bg,cp,Cg,hvv,hcap,hmx,hCl,hel,st31⟩:=hq_
 have hCl4:Cg.length=cp*4:=hCl
 subst hvv
 refine sg (stp_xcap sl_EntryS (h30_.at 29) (sg (aV6 (h30_.at 28) rfl (aC (cS rfl (fun h34p => ?_) (fun h34p => ?_))))))
 ·refine wp_seq (aB (sg (aF (h30_.at 0) (sg (aF (h30_.at 1) (sg (xG (h:=k) sl_EntryS rfl rfl aA aA aA (lw h30_.put.put.put.put.put [(0,.slice (some ⟨bg,0,none⟩) xs.length cp),(1,I (k:Int)),(2,.slice (some ⟨lb,0,none⟩) 1 1),(7,I 1),(8,I (xs.length:Int)),(34,.slice (some ⟨bg,0,none⟩) k cp)] aD fun h39_=>(rn st31 5 h39_ [] [(39,I (((xs.length:Int)+1) - (k:Int)))] [qad (xs.length:Int) 1,qsb ((xs.length:Int)+1) (k:Int)] aD fun f38 h38_=>(sg (stp_appz (α:=Entry) (k0:=xs.length+1 - k) (n1:=xs.length+1) iR underlying3 (h38_.at 34) (h38_.at 39) aA aA st31 (by rw[hCl];exact Nat.mul_le_mul_right _ aA) aA aA (by unfold maxLen;omega) aA ?_)))))))))));intro b40 cp2 Z2 W41 hcp2 hmx2 hZl hb2 st42
  have hZl4:Z2.length=(cp2 - k)*4:=hZl
  refine sg (aH (v := .slice (some ⟨b40,0,none⟩) (xs.length+1) cp2) rfl (aC (wp_seq (aB (sg (aF (v := .slice (some ⟨b40,0,none⟩) (xs.length+1) cp2) rfl (sg (aF (h38_.at 1) (sg (pW (l:=k) sl_EntryS rfl rfl aA aA aA (sg (aF (h38_.at 2) ?_))))))))))))
  refine sg (sG (α:=Entry) (C:=(Cg.take (k*Shape.size Entry)++Z2)) (cs:=[I y.prio,I y.seq,I y.run,I y.task]) sl_EntryS rfl rfl (by rw[show Nat.min 1 ((xs.length+1) - k)=1 from Nat.min_eq_left aA];rfl) (fun j v hj=>(by rw[Addr.add_mid];exact bC (st42.get 2 rfl) j v hj)) (by intro v hv;simp only[mem_cons,not_mem_nil,or_false] at hv;rcases hv with rfl | rfl | rfl | rfl <;> rfl) st42 (by simp only[length_cons,length_nil,length_append,length_take,eT,show Shape.size Entry=4 from rfl];omega) ?_);intro _ W50 st51
  refine aC (wp_seq (oA 8 [] [(true,.is (.slice (some ⟨b40,0,none⟩) (xs.length+1) cp2)),(true,.is (I (k:Int))),(true,.is (I 1)),(true,.is (I ((k:Int)+1))),(true,.is (.slice (some ⟨b40,0+(k+1)*4,none⟩) ((xs.length+1) - (k+1)) (cp2 - (k+1)))),(true,.is (.slice (some ⟨bg,0,none⟩) xs.length cp)),(true,.is (I (k:Int))),(true,.is (.slice (some ⟨bg,0+k*4,none⟩) (xs.length - k) (cp - k)))] mix aD aD aD aD (rs0:=[]) rfl st51 (Below.refl _ _) ⟨(mq_ (show _=(.slice (some ⟨b40,0,none⟩) (xs.length+1) cp2:Value) from rfl)),(mq_ (h38_.at 1)),(mq_ (h38_.at 7)),(fun f W hst hbl hd hf=>mN (hd 1 47 rfl rfl) (hd 2 48 rfl rfl) bK4 brq),(fun f W hst hbl hd hf=>pW (l:=k+1) sl_EntryS (hd 0 46 rfl rfl) (hd 3 49 rfl rfl) aA aA aA brq),(mq_ (h38_.at 0)),(mq_ (h38_.at 1)),(fun f W hst hbl hd hf=>pW (l:=k) sl_EntryS (hd 5 51 rfl rfl) (hd 6 52 rfl rfl) aA aA aA brq),trivial⟩ ?_))
  intro f52 W53 rs_ hAL_ st56 hbl57 hv54 hf55
  have hn_:rs_=[]:=hAL_
  subst hn_
  try simp only[cap_,xN] at st56
  refine sg (sG (α:=Entry) (C:=(aP (Cg.take (k*Shape.size Entry)++Z2) (0+k*4) [I y.prio,I y.seq,I y.run,I y.task])) (cs:=((Cg.drop (k*4)).take ((xs.length - k)*4))) sl_EntryS (hv54 4 50 cH rfl) (hv54 7 53 cH rfl) (by rw[show Nat.min (xs.length - k) ((xs.length+1) - (k+1))=xs.length - k from bE5 aA aA];rw[length_take,length_drop,hCl4,show Shape.size Entry=4 from rfl];omega) (fun j v hj=>(by rw[Addr.add_mid,Nat.add_assoc];exact bC (st56.get 1 rfl) _ v (aY1 hj))) (bR1 hel) st56 (by simp only[length_append,length_take,length_drop,eT,show Shape.size Entry=4 from rfl];omega) ?_);intro _ W59 st60
  refine aC (wp_seq (aB (sg (aF (v := .slice (some ⟨b40,0,none⟩) (xs.length+1) cp2) ((hf55 9 rfl).trans (show _=(.slice (some ⟨b40,0,none⟩) (xs.length+1) cp2:Value) from rfl)) (sg (aH (v := .slice (some ⟨b40,0,none⟩) (xs.length+1) cp2) rfl (aC (wr (kZ results395 rfl ?_)))))))))
  have hel_:Elems _ (Cg.take (xs.length*4)) xs []:=hel
  have hYe:Elems W59 [I y.prio,I y.seq,I y.run,I y.task] [y] []:=Elems.one1 ⟨rfl,rfl,hy⟩
  have hq_:=ins_new (D:=Cg.take (k*4)++Z2) (a:=k*4) (Y:=[I y.prio,I y.seq,I y.run,I y.task]) (M:=(Cg.drop (k*4)).take ((xs.length - k)*4)) rfl (by simp only[length_append,length_take,length_drop,length_cons,length_nil,eT,show Shape.size Entry=4 from rfl];omega)
  obtain ⟨T,hT⟩:=hq_
  rw[take_append_of_le_length (by rw[length_take];omega),take_take,Nat.min_self] at hT
  have hfin:=aQ9 (W:=_) (W':=W59) (y:=y) (k:=k) aA (hel_) aA hYe hT
  have hCe:(aP (aP (Cg.take (k*Shape.size Entry)++Z2) (0+k*4) [I y.prio,I y.seq,I y.run,I y.task]) (0+(k+1)*4) ((Cg.drop (k*4)).take ((xs.length - k)*4)))=aP (aP (Cg.take (k*4)++Z2) (k*4) [I y.prio,I y.seq,I y.run,I y.task]) (k*4+4) ((Cg.drop (k*4)).take ((xs.length - k)*4)):=by simp only[Nat.zero_add,Nat.add_mul,Nat.one_mul,show Shape.size Entry=4 from rfl]
  have stz:St w W59 (Res.bx b40 (aP (aP (Cg.take (k*Shape.size Entry)++Z2) (0+k*4) [I y.prio,I y.seq,I y.run,I y.task]) (0+(k+1)*4) ((Cg.drop (k*4)).take ((xs.length - k)*4))) 243::_):=st60
  rw[hCe] at stz
  have hl4:(aP (aP (Cg.take (k*4)++Z2) (k*4) [I y.prio,I y.seq,I y.run,I y.task]) (k*4+4) ((Cg.drop (k*4)).take ((xs.length - k)*4))).length=cp2*Shape.size Entry:=by rw[← hCe];simp only[length_append,length_take,length_drop,eT,show Shape.size Entry=4 from rfl];omega
  have stf:=St.rowShut (α:=Entry) (xs:=xs.take k++y::xs.drop k) (m:=xs.length+1) (cap:=cp2) stz (by rw[length_append,length_cons,length_take,length_drop];omega) aA aA hl4 hfin
  exact ⟨_,rfl,stf.d1.d1⟩
 refine wp_skip (wp_seq (aB (lw h30_.put.put [(0,.slice (some ⟨bg,0,none⟩) xs.length cp),(1,I (k:Int)),(2,.slice (some ⟨lb,0,none⟩) 1 1),(7,I 1),(8,I (xs.length:Int))] aD fun h65_=>(rn st31 4 h65_ [] [(56,.slice (some ⟨bg,0,none⟩) xs.length cp),(59,I ((xs.length:Int)+1))] [qad (xs.length:Int) 1] aD fun f64 h64_=>(sg (xG (h:=(xs.length)+1) sl_EntryS (h64_.at 56) (h64_.at 59) aA aA aA (sg (aH (v := .slice (some ⟨bg,0,none⟩) ((xs.length)+1) cp) rfl (aC (wp_seq (wp_seq (aB (rn st31 5 h64_.put.put [] [(61,.slice (some ⟨lb,0,none⟩) 1 1),(62,.slice (some ⟨bg,0,none⟩) ((xs.length)+1) cp),(65,I ((k:Int)+1))] [qad (k:Int) 1] aD fun f69 h69_ => ?_)))))))))))))
 refine sg (pW (l:=k+1) sl_EntryS (h69_.at 62) (h69_.at 65) aA aA aA (sg (stp_callx (h69_.at 61) rfl (overlaps_E st31.f1 (i:=0) rfl aA) (sg (zW rfl (aC (sx_t rfl rfl (wp_seq (oA 8 [] [(true,.is (.slice (some ⟨bg,0,none⟩) ((xs.length)+1) cp)),(true,.is (I (k:Int))),(true,.is (I 1)),(true,.is (I ((k:Int)+1))),(true,.is (.slice (some ⟨bg,0+(k+1)*4,none⟩) (((xs.length)+1) - (k+1)) (cp - (k+1)))),(true,.is (.slice (some ⟨bg,0,none⟩) ((xs.length)+1) cp)),(true,.is (I (k:Int))),(true,.is (.slice (some ⟨bg,0+k*4,none⟩) (((xs.length)+1) - k) (cp - k)))] mix aD aD aD aD (rs0:=[]) rfl st31.f1 (Below.refl _ _) ⟨(mq_ (h69_.at 0)),(mq_ (h69_.at 1)),(mq_ (h69_.at 7)),(fun f W hst hbl hd hf=>mN (hd 1 70 rfl rfl) (hd 2 71 rfl rfl) bK4 brq),(fun f W hst hbl hd hf=>pW (l:=k+1) sl_EntryS (hd 0 69 rfl rfl) (hd 3 72 rfl rfl) aA aA aA brq),(mq_ (h69_.at 0)),(mq_ (h69_.at 1)),(fun f W hst hbl hd hf=>pW (l:=k) sl_EntryS (hd 5 74 rfl rfl) (hd 6 75 rfl rfl) aA aA aA brq),trivial⟩ ?_)))))))))
 intro f74 W75 rs_ hAL_ st78 hbl79 hv76 hf77
 have hn_:rs_=[]:=hAL_
 subst hn_
 try simp only[cap_,xN] at st78
 have st81:=st78.f1
 refine sg (sG (α:=Entry) (C:=Cg) (cs:=((Cg.drop (k*4)).take ((xs.length - k)*4))) sl_EntryS (hv76 4 73 cH rfl) (hv76 7 76 cH rfl) (by rw[show Nat.min (((xs.length)+1) - k) (((xs.length)+1) - (k+1))=xs.length - k from bE5 aA aA];rw[length_take,length_drop,hCl4,show Shape.size Entry=4 from rfl];omega) (fun j v hj=>(by rw[Addr.add_mid,Nat.add_assoc];exact bC (st81.get 0 rfl) _ v (aY1 hj))) (bR1 hel) st81 (by simp only[length_append,length_take,length_drop,eT,show Shape.size Entry=4 from rfl];omega) ?_);intro _ W82 st83
 refine aC (wp_seq (aB (sg (aF (v := .slice (some ⟨bg,0,none⟩) ((xs.length)+1) cp) ((hf77 0 rfl).trans (h69_.at 0)) (sg (aF (v:=I (k:Int)) ((hf77 1 rfl).trans (h69_.at 1)) (sg (pW (l:=k) sl_EntryS rfl rfl aA aA aA (sg (aF (v := .slice (some ⟨lb,0,none⟩) 1 1) ((hf77 2 rfl).trans (h69_.at 2)) ?_))))))))))
 refine sg (sG (α:=Entry) (C:=(aP Cg (0+(k+1)*4) ((Cg.drop (k*4)).take ((xs.length - k)*4)))) (cs:=[I y.prio,I y.seq,I y.run,I y.task]) sl_EntryS rfl rfl (by rw[show Nat.min 1 (((xs.length)+1) - k)=1 from Nat.min_eq_left aA];rfl) (fun j v hj=>(by rw[Addr.add_mid];exact bC (st83.get 1 rfl) j v hj)) (by intro v hv;simp only[mem_cons,not_mem_nil,or_false] at hv;rcases hv with rfl | rfl | rfl | rfl <;> rfl) st83 (by simp only[length_cons,length_nil,length_append,length_take,eT,show Shape.size Entry=4 from rfl];omega) ?_);intro _ W88 st89
 refine aC (wp_seq (aB (sg (aF (v := .slice (some ⟨bg,0,none⟩) ((xs.length)+1) cp) ((hf77 0 rfl).trans (h69_.at 0)) (sg (aH (v := .slice (some ⟨bg,0,none⟩) ((xs.length)+1) cp) rfl (aC (wr (kZ results395 rfl ?_)))))))))
 have hel_:Elems _ (Cg.take (xs.length*4)) xs []:=hel
 have hYe:Elems W88 [I y.prio,I y.seq,I y.run,I y.task] [y] []:=Elems.one1 ⟨rfl,rfl,hy⟩
 have hq_:=ins_in (D:=Cg) (a:=k*4) (Y:=[I y.prio,I y.seq,I y.run,I y.task]) (M:=(Cg.drop (k*4)).take ((xs.length - k)*4)) rfl (by simp only[length_append,length_take,length_drop,length_cons,length_nil,eT,show Shape.size Entry=4 from rfl];omega)
 obtain ⟨T,hT⟩:=hq_
 have hfin:=aQ9 (W:=_) (W':=W88) (y:=y) (k:=k) aA (hel_) aA hYe hT
 have hCe:(aP (aP Cg (0+(k+1)*4) ((Cg.drop (k*4)).take ((xs.length - k)*4))) (0+k*4) [I y.prio,I y.seq,I y.run,I y.task])=aP (aP Cg (k*4+4) ((Cg.drop (k*4)).take ((xs.length - k)*4))) (k*4) [I y.prio,I y.seq,I y.run,I y.task]:=by simp only[Nat.zero_add,Nat.add_mul,Nat.one_mul]
 have stz:St w W88 (Res.bx bg (aP (aP Cg (0+(k+1)*4) ((Cg.drop (k*4)).take ((xs.length - k)*4))) (0+k*4) [I y.prio,I y.seq,I y.run,I y.task]) 243::_):=st89
 rw[hCe] at stz
 have hl4:(aP (aP Cg (k*4+4) ((Cg.drop (k*4)).take ((xs.length - k)*4))) (k*4) [I y.prio,I y.seq,I y.run,I y.task]).length=cp*Shape.size Entry:=by rw[← hCe];simp only[length_append,length_take,length_drop,eT,show Shape.size Entry=4 from rfl];omega
 have stf:=St.rowShut (α:=Entry) (xs:=xs.take k++y::xs.drop k) (m:=xs.length+1) (cap:=cp) stz (by rw[length_append,length_cons,length_take,length_drop];omega) aA aA hl4 hfin
 exact ⟨_,rfl,stf.d1⟩
def gY (sh:Nat) (prio rid:Int):List Int→List (List Entry)→Int→List (List Entry)
 | [],xss,_=>xss
 | t::ts,xss,seq=>gY sh prio rid ts (xss.set sh (lT (xss.getD sh []) ⟨prio,seq,rid,t⟩)) (seq+1)
theorem yO (sh:Nat) (prio rid t:Int):∀ (ts:List Int) (xss:List (List Entry)) (seq:Int),gY sh prio rid (ts++[t]) xss seq=(gY sh prio rid ts xss seq).set sh (lT ((gY sh prio rid ts xss seq).getD sh []) ⟨prio,seq+ts.length,rid,t⟩)
 | [],xss,seq=>by simp[gY]
 | u::ts,xss,seq=>by
  have h:=yO sh prio rid t ts (xss.set sh (lT (xss.getD sh []) ⟨prio,seq,rid,u⟩)) (seq+1)
  simp only[cons_append,gY]
  rw[h,show seq+1+(ts.length:Int)=seq+((u::ts).length:Int) by simp;omega]
theorem nF (sh:Nat) (prio rid:Int):∀ (ts:List Int) (xss:List (List Entry)) (seq:Int),(gY sh prio rid ts xss seq).length=xss.length
 | [],xss,seq=>rfl
 | u::ts,xss,seq=>by simp only[gY];rw[nF];simp
theorem nG (sh:Nat) (prio rid:Int):∀ (ts:List Int) (xss:List (List Entry)) (seq:Int),sh<xss.length→((gY sh prio rid ts xss seq).getD sh []).length=(xss.getD sh []).length+ts.length
 | [],xss,seq,h=>rfl
 | u::ts,xss,seq,h=>by
  simp only[gY]
  rw[nG sh prio rid ts _ _ (by simpa using h)]
  rw[getD_eq_getElem?_getD,getElem?_set_self h]
  simp[bD2]
  omega
theorem getD_some {α:Type} {xss:List (List α)} {k:Nat} (h:k<xss.length):xss[k]? = some (xss.getD k []):=by
 rw[getD_eq_getElem?_getD,getElem?_eq_getElem h];rfl

def fA (r r':Run):List Int:=(aR r'.tasks 2).filter (fun t => !decide (t∈aR r.tasks 2))
theorem oI (r r':Run):(fA r r').length≤r'.tasks.length:=Nat.le_trans (length_filter_le _ _) (iC _ _ _)
def dN (y:Yard) (k:Nat) (r r':Run):Yard:=⟨y.now,y.seq+((fA r r').length:Int),gY (aX r'.id).toNat r'.plan.prio r'.id (fA r r') y.shelf y.seq,y.runs.set k r'⟩
def kS (out:Yard) (k i:Nat):Yard:=match out.runs[k]? with
 | none=>out
 | some r=>match r.tasks[i]? with
  | none=>out
  | some t=>if t.state=3 then dN out k r (cC r i) else out
def qV (y:Yard) (k:Nat):Nat→Yard
 | 0=>y
 | i+1=>kS (qV y k i) k i
def xC (y:Yard) (k:Nat):Nat:=match y.runs[k]? with | some r=>r.tasks.length | none=>0
def mG (y:Yard):Nat→Yard
 | 0=>y
 | k+1=>qV (mG y k) k (xC y k)
noncomputable def dP (y:Yard):Yard:=if aM y then mG y y.runs.length else y
theorem xB {y:Yard} {k:Nat} {r:Run} (h:y.runs[k]? = some r):xC y k=r.tasks.length:=by unfold xC;rw[h]

structure YardIs (y:Yard):Prop where
 now:0≤y.now∧y.now≤999999980
 seq:1≤y.seq∧y.seq≤1000000000
 shelf:y.shelf.length=4
 runs:y.runs.length≤8
 each:∀ l∈y.shelf,dL l=true
 run:∀ (j:Nat) (r:Run),y.runs[j]? = some r→RunIs r∧bZ y r.id=some j
theorem jN {y:Yard} (h:aM y=true):YardIs y:=by
 unfold aM at h
 rw[pB_iff] at h
 obtain ⟨h1,h2,h3,h4,h5,h6,h7,h8,h9⟩:=h
 refine ⟨h1,h2,h3,h4,h5,fun j r hj => ?_⟩
 obtain ⟨hl,rfl⟩:=gsi_.1 hj
 obtain ⟨a,b,_⟩:=h8 j hl hl
 refine ⟨runIs.1 a,?_⟩
 unfold aG at b
 cases hq:bZ y y.runs[j].id with
 | none=>rw[hq] at b;simp only[ixI] at b;omega
 | some k=>rw[hq] at b;simp only[ixI] at b;congr 1;omega
theorem RunIs.small {r:Run} (h:RunIs r):r.ok∧r.tasks.length≤12∧r.plan.edges.length≤30:=by
 have h2:=(rJ h.plan).1
 have hl:=h.len
 have hs:=h.state
 have hid:=h.id
 unfold bJ at h2
 have hst:0≤cB r.tasks∧cB r.tasks≤4:=by
  unfold cB
  split
  ·omega
  split
  ·omega
  split
  ·omega
  split <;> omega
 refine ⟨⟨by unfold I64;omega,?_,by unfold I64;omega⟩,by omega,by omega⟩
 unfold Plan.ok
 refine ⟨?_,?_,?_,?_⟩ <;> (unfold I64;omega)
theorem oE {xs:List Entry} (h:dL xs=true):xs.length≤80:=by
 unfold dL at h
 first | exact (pB_iff.1 h).1 | exact (pB_iff.1 h).2 | (simp at h;omega)
theorem aQ6 {α β:Type} {p:α→Bool} {q:β→Bool}:∀ {xs:List α} {ys:List β},xs.length=ys.length→(∀ (j:Nat) (x:α) (y:β),xs[j]? = some x→ys[j]? = some y→p x=q y)→rA p xs=rA q ys
 | [],[],_,_=>rfl
 | x::xs,y::ys,hl,h=>by
  have h0:=h 0 x y rfl rfl
  have ih:=aQ6 (xs:=xs) (ys:=ys) (by simpa using hl) (fun j a b ha hb=>h (j+1) a b (by simpa using ha) (by simpa using hb))
  unfold rA
  rw[h0,ih]
 | [],_::_,hl,_=>by simp at hl
 | _::_,[],hl,_=>by simp at hl
structure RI (y out:Yard) (n:Nat):Prop where
 now:out.now=y.now
 seq:y.seq≤out.seq∧out.seq≤y.seq+12*(n:Int)
 shelf:out.shelf.length=y.shelf.length
 each:∀ s,s<4→(out.shelf.getD s []).length≤80+12*n
 runs:out.runs.length=y.runs.length
 run:∀ (j:Nat) (r:Run),y.runs[j]? = some r→∃ r2:Run,out.runs[j]? = some r2∧RunIs r2∧r2.id=r.id∧r2.tasks.length=r.tasks.length∧∀ (i:Nat) (t:Task),r.tasks[i]? = some t→∃ t2,r2.tasks[i]? = some t2∧t2.try_=t.try_
theorem RI.start {y:Yard} (h:YardIs y):RI y y 0:=by
 refine ⟨rfl,by omega,rfl,fun s hs => ?_,rfl,fun j r hj=>⟨r,hj,(h.run j r hj).1,rfl,rfl,fun i t ht=>⟨t,ht,rfl⟩⟩⟩
 have hl:=h.shelf
 rw[getD_eq_getElem?_getD,getElem?_eq_getElem aA]
 have:=oE (h.each y.shelf[s] (getElem_mem _))
 simpa using this
theorem RI.mono {y out:Yard} {n m:Nat} (h:RI y out n) (hm:n≤m):RI y out m:=
 ⟨h.now,by have:=h.seq;omega,h.shelf,fun s hs=>by have:=h.each s hs;omega,h.runs,h.run⟩
theorem mO (sh:Nat) (prio rid:Int) (s:Nat) (hs:s≠sh):∀ (ts:List Int) (xss:List (List Entry)) (seq:Int),(gY sh prio rid ts xss seq).getD s []=xss.getD s []
 | [],xss,seq=>rfl
 | u::ts,xss,seq=>by
  simp only[gY]
  rw[mO sh prio rid s hs ts]
  rw[getD_eq_getElem?_getD,getElem?_set_ne (fun e=>hs e.symm),getD_eq_getElem?_getD]
theorem RI.change {y out:Yard} {n k i:Nat} {r:Run} {t:Task} (hy:YardIs y) (h:RI y out n) (hr:out.runs[k]? = some r) (ht:r.tasks[i]? = some t) (h3:t.state=3) (hR:RunIs r):RI y (dN out k r (cC r i)) (n+1):=by
 obtain ⟨hk1,hk2,hk3,hk4⟩:=qP r i
 have hsm:=hR.small
 have hfl:=oI r (cC r i)
 have hsh:=hy.shelf
 have hsr:=iE (cC r i).id
 have hkl:=(gsi_.1 hr).1
 refine ⟨h.now,?_,?_,?_,?_,?_⟩
 ·show y.seq≤out.seq+_∧out.seq+_≤_
  have:=h.seq;omega
 ·show (gY _ _ _ _ _ _).length=_
  rw[nF];exact h.shelf
 ·intro s hs
  show ((gY _ _ _ _ _ _).getD s []).length≤_
  by_cases e:s=(aX (cC r i).id).toNat
  ·subst e
   rw[nG _ _ _ _ _ _ (by rw[h.shelf];omega)]
   have:=h.each _ hs
   omega
  rw[mO _ _ _ s e]
  have:=h.each s hs
  omega
 ·show (out.runs.set k _).length=_
  rw[length_set];exact h.runs
 intro j r0 hj
 obtain ⟨r2,h1,h2,h4,h5,h6⟩:=h.run j r0 hj
 show ∃ r2,(out.runs.set k _)[j]? = some r2∧_
 by_cases e:k=j
 ·subst e
  rw[hr] at h1
  have e2:=Option.some.inj h1
  subst e2
  refine ⟨cC r i,getElem?_set_self hkl,hR.fails ht h3,by rw[hk1];exact h4,by rw[hk3];exact h5,fun a u hu => ?_⟩
  obtain ⟨u2,g1,g2⟩:=h6 a u hu
  obtain ⟨u3,g3,g4⟩:=hk4 a u2 g1
  exact ⟨u3,g3,by rw[g4];exact g2⟩
 exact ⟨r2,by rw[getElem?_set_ne e];exact h1,h2,h4,h5,h6⟩
theorem RI.turn {y out:Yard} {n:Nat} (hy:YardIs y) (h:RI y out n) {k i:Nat} (hk:k<y.runs.length):RI y (kS out k i) (n+1):=by
 obtain ⟨r2,h1,h2,_⟩:=h.run k _ (getElem?_eq_getElem hk)
 unfold kS
 rw[h1]
 simp only
 cases ht:r2.tasks[i]? with
 | none=>exact h.mono aA
 | some t=>
  simp only
  split
  ·next h3=>exact h.change hy h1 ht h3 h2
  exact h.mono aA
theorem RI.inner {y out:Yard} {n:Nat} (hy:YardIs y) (h:RI y out n) {k:Nat} (hk:k<y.runs.length):∀ i,RI y (qV out k i) (n+i)
 | 0=>h
 | i+1=>(RI.inner hy h hk i).turn hy hk
theorem RI.outer {y:Yard} (hy:YardIs y):∀ k,k≤y.runs.length→RI y (mG y k) (12*k)
 | 0,_=>RI.start hy
 | k+1,hk=>by
  have ih:=RI.outer hy k aA
  have hr:y.runs[k]? = some y.runs[k]:=getElem?_eq_getElem aA
  have hs:=(hy.run k _ hr).1.small
  have:=ih.inner hy (k:=k) aA (xC y k)
  rw[xB hr] at this
  show RI y (qV (mG y k) k (xC y k)) _
  rw[xB hr]
  exact this.mono aA
theorem RI.at {y:Yard} (hy:YardIs y) {k i:Nat} (hk:k<y.runs.length):RI y (qV (mG y k) k i) (12*k+i):=(RI.outer hy k aA).inner hy hk i
theorem RI.ix {y out:Yard} {n:Nat} (hy:YardIs y) (h:RI y out n) {k:Nat} {r:Run} (hr:y.runs[k]? = some r):bZ out r.id=some k:=by
 rw[← (hy.run k r hr).2]
 unfold bZ
 rw[h.runs]
 congr 1
 exact aQ6 h.runs (fun j a b ha hb=>by
  obtain ⟨r2,h1,_,h3,_⟩:=h.run j b hb
  rw[ha] at h1
  have:=Option.some.inj h1
  subst this
  rw[h3])
def fJ (y:Yard) (id task try_:Int):Bool:=
 match bZ y id with
 | none=>false
 | some k=>match y.runs[k]? with
  | none=>false
  | some r=>inB task 0 ((r.tasks.length:Int) - 1) && (match r.tasks[task.toNat]? with | some t=>decide (t.state=3) && decide (t.try_=try_) | none=>false)
theorem RI.holds {y out:Yard} {n:Nat} (hy:YardIs y) (h:RI y out n) {k i:Nat} {r:Run} {t:Task} (hr:y.runs[k]? = some r) (ht:r.tasks[i]? = some t) :
  ∃ r2 t2,out.runs[k]? = some r2∧RunIs r2∧r2.tasks[i]? = some t2∧fJ out r.id (i:Int) t.try_=decide (t2.state=3):=by
 obtain ⟨r2,h1,h2,h3,h4,h5⟩:=h.run k r hr
 obtain ⟨t2,h6,h7⟩:=h5 i t ht
 refine ⟨r2,t2,h1,h2,h6,?_⟩
 have hl:=(gsi_.1 ht).1
 unfold fJ
 rw[h.ix hy hr]
 simp only[h1,Int.toNat_natCast,h6,h7,decide_true,Bool.and_true]
 have:inB (i:Int) 0 ((r2.tasks.length:Int) - 1)=true:=inB_iff'.2 aA
 rw[this];rfl
theorem bM6 {out:Yard} {k i:Nat} {r:Run} {t:Task} (hr:out.runs[k]? = some r) (ht:r.tasks[i]? = some t) (h3:t.state=3):kS out k i=dN out k r (cC r i):=by unfold kS;rw[hr];simp only[ht,h3,if_true]
theorem zQ {out:Yard} {k i:Nat} {r:Run} {t:Task} (hr:out.runs[k]? = some r) (ht:r.tasks[i]? = some t) (h3:¬ t.state=3):kS out k i=out:=by unfold kS;rw[hr];simp only[ht,h3,if_false]
theorem fresh_runs {y y':Yard} (h:y'.runs=y.runs) (e:Entry):fresh y' e=fresh y e:=by
 unfold fresh bZ
 rw[h]
theorem fresh_at {y:Yard} {e:Entry} (h:fresh y e=true):∃ k r t,bZ y e.run=some k∧y.runs[k]? = some r∧0≤e.task∧r.tasks[e.task.toNat]? = some t∧t.state=2:=by
 unfold fresh at h
 cases h1:bZ y e.run with
 | none=>rw[h1] at h;cases h
 | some k=>
  rw[h1] at h
  simp only at h
  cases h2:y.runs[k]? with
  | none=>rw[h2] at h;cases h
  | some r=>
   rw[h2] at h
   simp only[Bool.and_eq_true] at h
   obtain ⟨h3,h4⟩:=h
   cases h5:r.tasks[e.task.toNat]? with
   | none=>rw[h5] at h4;cases h4
   | some t=>rw[h5] at h4;exact ⟨k,r,t,rfl,h2,(inB_iff'.1 h3).1,h5,by simpa using h4⟩
def oV (y:Yard) (s:Nat) (l:List Entry):Yard:=⟨y.now,y.seq,y.shelf.set s l,y.runs⟩
def aY (y:Yard) (s:Int):Yard:=if inB s 0 ((y.shelf.length:Int) - 1) then oV y s.toNat ((y.shelf.getD s.toNat []).filter (fresh y)) else y
def cP (xs:List Entry):Nat:=(xs.length+1) / 2
def dS (a b:List Entry):List Entry:=if 80<a.length+b.length then a else b.foldl lT a
theorem tO (b:List Entry):∀ a:List Entry,(b.foldl lT a).length=a.length+b.length:=by
 induction b with
 | nil=>intro a;rfl
 | cons e b ih=>intro a;rw[foldl_cons,ih,bD2,length_cons];omega
theorem foldl_put_to {a b:List Entry} {k:Nat} (h:k<b.length):(b.take (k+1)).foldl lT a=lT ((b.take k).foldl lT a) b[k]:=by
 rw[take_succ_eq_append_getElem h,foldl_append];rfl
theorem merged_len {a b:List Entry} (h:a.length≤80):(dS a b).length≤80:=by
 unfold dS
 split
 ·exact h
 rw[tO];omega
theorem putE_mem {xs:List Entry} {e x:Entry} (h:x∈lT xs e):x∈xs∨x=e:=by
 unfold lT at h
 rw[mem_append,mem_cons] at h
 rcases h with h | h | h
 ·exact .inl (mem_of_mem_take h)
 ·exact .inr h
 exact .inl (mem_of_mem_drop h)
theorem foldl_put_mem (b:List Entry):∀ {a:List Entry} {x:Entry},x∈b.foldl lT a→x∈a∨x∈b:=by
 induction b with
 | nil=>intro a x h;exact .inl h
 | cons e b ih=>
  intro a x h
  rcases ih h with h | h
  ·rcases putE_mem h with h | h
   ·exact .inl h
   exact .inr (by simp[h])
  exact .inr (by simp[h])
theorem merged_mem {a b:List Entry} {x:Entry} (h:x∈dS a b):x∈a∨x∈b:=by
 unfold dS at h
 split at h
 ·exact .inl h
 exact foldl_put_mem b h
def oT (home draw:Int) (i:Nat):Int:=(home+1+(max draw 0 % 3+(i:Int)) % 3) % 4
def bQ (home draw:Int):List Int:=[oT home draw 0,oT home draw 1,oT home draw 2]
theorem aC0 (home draw:Int) (i:Nat) (hh:0≤home∧home≤3):0≤oT home draw i∧oT home draw i≤3∧oT home draw i≠home:=by unfold oT;omega
theorem nX {home draw:Int} (hh:0≤home∧home≤3):∀ o∈bQ home draw,0≤o∧o≤3∧o≠home:=by
 intro o ho
 simp only[bQ,mem_cons,not_mem_nil,or_false] at ho
 rcases ho with rfl | rfl | rfl <;> exact aC0 _ _ _ hh
def aW3 (y:Yard) (home o:Nat):Yard:=oV (oV y home (dS (y.shelf.getD home []) ((y.shelf.getD o []).take (cP (y.shelf.getD o []))))) o ((y.shelf.getD o []).drop (cP (y.shelf.getD o [])))
theorem robY_comm {y:Yard} {home o:Nat} (h:home≠o):aW3 y home o=oV (oV y o ((y.shelf.getD o []).drop (cP (y.shelf.getD o [])))) home (dS (y.shelf.getD home []) ((y.shelf.getD o []).take (cP (y.shelf.getD o [])))):=by
 unfold aW3 oV
 simp only[Yard.mk.injEq,true_and,and_true]
 rw[set_comm _ _ h]
def yT (home:Nat) (y:Yard) (o:Int):Yard:=if y.shelf.getD home []=[] then aW3 (aY y o) home o.toNat else y
def eU (home:Nat) (y:Yard) (l:List Int):Yard:=l.foldl (yT home) y
theorem yR (home:Nat) (y:Yard) (l:List Int):eU home y (l.take 0)=y:=rfl
theorem aO7 {home:Nat} {y:Yard} {l:List Int} {k:Nat} {o:Int} (h:l[k]? = some o) (he:(eU home y (l.take k)).shelf.getD home []=[]):eU home y (l.take (k+1))=aW3 (aY (eU home y (l.take k)) o) home o.toNat:=by
 obtain ⟨hj,rfl⟩:=gsi_.1 h
 rw[take_succ_eq_append_getElem hj]
 unfold eU at he ⊢
 rw[foldl_append,foldl_cons,foldl_nil]
 have hz:∀ (z:Yard) (o:Int),z.shelf.getD home []=[]→yT home z o=aW3 (aY z o) home o.toNat:=fun z o h=>by unfold yT;rw[if_pos h]
 exact hz _ _ he
theorem yS {home:Nat} {y:Yard}:∀ {l:List Int},¬ y.shelf.getD home []=[]→eU home y l=y
 | [],_=>rfl
 | o::l,h=>by
  show eU home (yT home y o) l=y
  have:yT home y o=y:=by unfold yT;rw[if_neg h]
  rw[this];exact yS h
theorem aE4 {home:Nat} {y:Yard} {l:List Int} {k:Nat} (h:¬ (eU home y (l.take k)).shelf.getD home []=[]):eU home y l=eU home y (l.take k):=by
 have e:eU home y l=eU home (eU home y (l.take k)) (l.drop k):=by
  unfold eU
  rw[← foldl_append,take_append_drop]
 rw[e];exact yS h
theorem aE5 {home:Nat} {y:Yard} {l:List Int} {k:Nat} (h:k=l.length):eU home y (l.take k)=eU home y l:=by rw[h,take_length]
structure PI (y out:Yard) (home:Nat):Prop where
 now:out.now=y.now
 seq:out.seq=y.seq
 runs:out.runs=y.runs
 len:out.shelf.length=4
 each:∀ s,s<4→(out.shelf.getD s []).length≤80
 fresh:∀ e∈out.shelf.getD home [],fresh y e=true
theorem lK {xss:List (List Entry)} {s:Nat} (h:s<xss.length) (l:List Entry):(xss.set s l).getD s []=l:=by rw[getD_eq_getElem?_getD,getElem?_set_self h];rfl
theorem rT {xss:List (List Entry)} {s j:Nat} (h:s≠j) (l:List Entry):(xss.set s l).getD j []=xss.getD j []:=by rw[getD_eq_getElem?_getD,getElem?_set_ne h,getD_eq_getElem?_getD]
theorem xD {y:Yard} {s:Int} (h:0≤s∧s≤3) (h4:y.shelf.length=4):aY y s=oV y s.toNat ((y.shelf.getD s.toNat []).filter (Go.Proofs.YtanpcpoogkdlaaaGreat.fresh y)):=by
 unfold aY
 rw[if_pos (inB_iff'.2 aA)]
theorem lL {y:Yard} (h:YardIs y):∀ s,s<4→(y.shelf.getD s []).length≤80:=by
 intro s hs
 have hl:=h.shelf
 rw[getD_eq_getElem?_getD,getElem?_eq_getElem aA]
 have:=oE (h.each y.shelf[s] (getElem_mem _))
 simpa using this
theorem nR {xss:List (List Entry)} {n s:Nat} {l:List Entry} (h:∀ j,j<4→(xss.getD j []).length≤n) (hl:l.length≤n) (h4:xss.length=4):∀ j,j<4→((xss.set s l).getD j []).length≤n:=by
 intro j hj
 by_cases e:s=j
 ·subst e;rw[lK aA];exact hl
 rw[rT e];exact h j hj
theorem PI.start {y:Yard} (h:YardIs y) {home:Nat} (hh:home<4):PI y (aY y (home:Int)) home:=by
 have h4:=h.shelf
 rw[xD aA h4]
 simp only[Int.toNat_natCast]
 refine ⟨rfl,rfl,rfl,by show (y.shelf.set _ _).length=4;rw[length_set];exact h4,?_,?_⟩
 ·exact nR (lL h) (Nat.le_trans (length_filter_le _ _) (lL h home hh)) h4
 intro e he
 have:e∈(y.shelf.set home ((y.shelf.getD home []).filter (Go.Proofs.YtanpcpoogkdlaaaGreat.fresh y))).getD home []:=he
 rw[lK aA] at this
 exact (mem_filter.1 this).2
theorem PI.rob {y out:Yard} {home:Nat} (h:PI y out home) (hh:home<4) {o:Int} (ho:0≤o∧o≤3∧o≠(home:Int)):PI y (aW3 (aY out o) home o.toNat) home:=by
 have h4:=h.len
 have e4:(out.shelf.set o.toNat ((out.shelf.getD o.toNat []).filter (Go.Proofs.YtanpcpoogkdlaaaGreat.fresh out))).length=4:=by rw[length_set];exact h4
 have e0:(out.shelf.set o.toNat ((out.shelf.getD o.toNat []).filter (Go.Proofs.YtanpcpoogkdlaaaGreat.fresh out))).getD o.toNat []=(out.shelf.getD o.toNat []).filter (Go.Proofs.YtanpcpoogkdlaaaGreat.fresh out):=lK aA _
 have e1:(out.shelf.set o.toNat ((out.shelf.getD o.toNat []).filter (Go.Proofs.YtanpcpoogkdlaaaGreat.fresh out))).getD home []=out.shelf.getD home []:=rT aA _
 have hfl:((out.shelf.getD o.toNat []).filter (Go.Proofs.YtanpcpoogkdlaaaGreat.fresh out)).length≤80:=Nat.le_trans (length_filter_le _ _) (h.each _ aA)
 rw[xD aA h4]
 refine ⟨h.now,h.seq,h.runs,?_,?_,?_⟩
 ·unfold aW3 oV
  simp only[length_set]
  exact h4
 ·refine nR (nR (nR h.each hfl h4) ?_ e4) ?_ (by unfold oV;simp only[length_set];exact h4)
  ·exact merged_len (by show ((List.set _ _ _).getD home []).length≤80;rw[e1];exact h.each _ hh)
  show (List.drop _ ((List.set _ _ _).getD _ [])).length≤80
  rw[e0,length_drop];omega
 intro e he
 have he':e∈(((out.shelf.set o.toNat ((out.shelf.getD o.toNat []).filter (Go.Proofs.YtanpcpoogkdlaaaGreat.fresh out))).set home (dS ((out.shelf.set o.toNat ((out.shelf.getD o.toNat []).filter (Go.Proofs.YtanpcpoogkdlaaaGreat.fresh out))).getD home []) (((out.shelf.set o.toNat ((out.shelf.getD o.toNat []).filter (Go.Proofs.YtanpcpoogkdlaaaGreat.fresh out))).getD o.toNat []).take (cP ((out.shelf.set o.toNat ((out.shelf.getD o.toNat []).filter (Go.Proofs.YtanpcpoogkdlaaaGreat.fresh out))).getD o.toNat []))))).set o.toNat _).getD home []:=he
 rw[rT aA,lK aA,e0,e1] at he'
 rcases merged_mem he' with h1 | h1
 ·exact h.fresh e h1
 have:=(mem_filter.1 (mem_of_mem_take h1)).2
 rwa [fresh_runs h.runs] at this
theorem PI.all {y:Yard} (h:YardIs y) {home:Nat} (hh:home<4) {l:List Int} (hl:∀ o∈l,0≤o∧o≤3∧o≠(home:Int)):∀ {out:Yard},PI y out home→PI y (eU home out l) home:=by
 induction l with
 | nil=>intro out ho;exact ho
 | cons o l ih=>
  intro out ho
  refine ih (fun a ha=>hl a (by simp[ha])) (out:=yT home out o) ?_
  unfold yT
  split
  ·exact ho.rob hh (hl o (by simp))
  exact ho
theorem PI.take {y:Yard} (h:YardIs y) {home:Nat} (hh:home<4) {l:List Int} (hl:∀ o∈l,0≤o∧o≤3∧o≠(home:Int)) (k:Nat):PI y (eU home (aY y (home:Int)) (l.take k)) home:=PI.all h hh (fun o ho=>hl o (mem_of_mem_take ho)) (PI.start h hh)
def jO (r:Run) (i:Nat) (t:Task) (now:Int):Run:=⟨r.id,r.plan,r.state,r.tasks.set i ⟨3,t.need,t.try_+1,now+r.plan.wait⟩⟩
def rS (out:Yard) (home:Nat):Yard×Reply:=match out.shelf.getD home [] with
 | []=>(out,⟨9,0,0,0⟩)
 | e::rest=>match bZ out e.run with
  | none=>(out,⟨9,0,0,0⟩)
  | some k=>match out.runs[k]? with
   | none=>(out,⟨9,0,0,0⟩)
   | some r=>match r.tasks[e.task.toNat]? with
    | none=>(out,⟨9,0,0,0⟩)
    | some t=>(⟨out.now,out.seq,out.shelf.set home rest,out.runs.set k (jO r e.task.toNat t out.now)⟩,⟨0,e.run,e.task,t.try_+1⟩)
noncomputable def gI (y:Yard) (worker draw:Int):Yard×Reply:=
 if ¬ aM y=true then (y,⟨8,0,0,0⟩) else if ¬ inB worker 0 99=true then (y,⟨5,0,0,0⟩)
 else rS (eU (worker % 4).toNat (aY y (worker % 4)) (bQ (worker % 4) draw)) (worker % 4).toNat
theorem aI2 {out:Yard} {home:Nat} (h:out.shelf.getD home []=[]):rS out home=(out,⟨9,0,0,0⟩):=by unfold rS;rw[h]
theorem aR3 {out:Yard} {home k:Nat} {e:Entry} {rest:List Entry} {r:Run} {t:Task} (h:out.shelf.getD home []=e::rest) (hk:bZ out e.run=some k) (hr:out.runs[k]? = some r) (ht:r.tasks[e.task.toNat]? = some t):rS out home=(⟨out.now,out.seq,out.shelf.set home rest,out.runs.set k (jO r e.task.toNat t out.now)⟩,⟨0,e.run,e.task,t.try_+1⟩):=by
 unfold rS
 rw[h];simp only[hk,hr,ht]
def yardNew:Yard:=⟨0,1,List.replicate 4 [],[]⟩
def aS7:Engine:=⟨yardNew,⟨[]⟩,1,0,[],1,false⟩
def worldNew:WorldD:=⟨aS7,[],[],0,0⟩

theorem YardNewI :
  Calls prog 102 #[] w (rO_ yardNew w):=by
 refine cE3 func102 rfl ntmps102 cH (wp_seq (aB (sg (gF nW (St.start w) ?_))));intro b1 W2 hb3 st4
 refine aC (wp_seq (aB (sg (aN8 (α:=(List Entry)) (N:=4) (v := .slice none 0 0) (z:=([]:List Entry)) uS aD rfl rfl aA aA st4 (fun W=>⟨_,rfl,nil_Sl⟩) ?_))));intro b6 fp10 W7 hb8 st9
 refine sg (aN9 (vs:=[(1,I 1),(2,(.slice (some ⟨b6,0,none⟩) 4 4))]) (cs:=[I 0,I 1,(.slice (some ⟨b6,0,none⟩) 4 4),.slice none 0 0]) (aF7 (v:=I 1) rfl (aF7 (v:=(.slice (some ⟨b6,0,none⟩) 4 4)) rfl aF4)) aD ?_)
 have st12:=st9.f1
 refine sg (fZ aD rfl rfl (dF rfl (dF rfl (dF (Sl.one (bP (st12.get 1 rfl))) (dF rfl wD)))) st12 kJ rfl ?_);intro W13 st14
 refine aC (wp_ret ?_);repeat first|refine aC8 ?_|refine aZ6 ?_
 refine retc1 dM rfl results102 rfl (st14.get 0 rfl) rfl ?_
 have st15:=St.own_nil (α:=Run) st14
 have st17:=st15.f2
 have st18:=pH (x:=yardNew) st17 (by simp[worldNew,aS7,yardNew,WorldD.ok,Engine.ok,Yard.ok,Disk.ok,I64])
 exact ⟨_,_,rfl,st18.only 0 rfl⟩
theorem YardNewS :
  Calls prog 125 #[] w (rO_ yardNew w):=by
 refine cE3 func125 rfl ntmps125 cH (wp_seq (aB (sg (gF nW (St.start w) ?_))));intro b1 W2 hb3 st4
 refine aC (wp_seq (aB (sg (aN9 (vs:=[(1,I 1)]) (cs:=[I 0,I 1,.slice none 0 0,.slice none 0 0]) (aF7 (v:=I 1) rfl aF4) aD (sg (gF nW st4 ?_))))));intro b6 W7 hb8 st9
 refine sg (fZ aD rfl rfl (dF rfl (dF rfl (dF rfl (dF rfl wD)))) st9 kJ rfl ?_);intro W11 st12
 refine aC (wp_seq (wp_seq (aB ?_)))
 have st13:=st12.row_nil (α:=List Entry) 217
 skip
 refine sg (aV (aC (wp_block (dX (fun (m:Nat) (f:Nat→Value) (W:World)=>∃ (k:Nat) (v15:Value),k≤4∧m=4 - k∧f 0=pt_ b1∧f 1=pt_ b6∧f 2=I (k:Int)∧St w W ([Res.row (α:=(List Entry)) 217 v15 (List.replicate k ([]:List Entry)) [],Res.bx b6 [I 0,I 1,v15,.slice none 0 0] 27,Res.bx b1 [I 0,I 0,.slice none 0 0,.slice none 0 0] 27])) (4 - 0) ?_ ?_))))
 ·exact ⟨0,(.slice none 0 0),aA,rfl,rfl,rfl,rfl,st13⟩
 intro m16 f17 W18 hJ19
 obtain ⟨k,v15,hcd21_0,rfl,hs21_0,hs21_1,hs21_2,st20⟩:=hJ19
 refine wp_seq (wp_seq (aB (sg (aF (v:=I (k:Int)) hs21_2 (sg (jG rfl rfl (aC (tI rfl (fun h22 => ?_) (fun h22 => ?_)))))))))
 ·have h22p:=of_decide_eq_true h22
  refine wp_skip (wp_seq (wp_block (aB (sg (cR aS2 hs21_1 (sg (fT ld_EntrySS rfl rfl (st20.get 1 rfl) (i:=2) rfl rfl (sg (bX (cs:=[]) (e:=243) aF4 (gW iR _) st20 ?_)))))))));intro b23 W24 hb25 st26
  have st26:=st26.row_empty (α:=Entry)
  refine sg (bX (cs:=[(.slice (some ⟨b23,0,none⟩) 0 0)]) (e:=217) (aF7 (v:=(.slice (some ⟨b23,0,none⟩) 0 0)) rfl aF4) (jI uS _ _ rfl rfl cH) st26 ?_);intro b28 W29 hb30 st31
  have st33:=st31.f2
  refine sg (lI (ys:=[[]]) uS rfl rfl rfl st33 (Elems.one1 ⟨_,rfl,row_Sl0 (st33.get 2 rfl)⟩) (by rw[length_replicate];unfold maxLen;omega) (by rw[length_replicate];omega) ?_);intro v34 W35 st36
  refine sg (cR aS2 hs21_1 ?_)
  have st37:=st36.f2
  refine sg (lG (v:=v34) aD rfl rfl (Sl.cells (gH (st37.get 1 rfl))) (Sl.one (gH (st37.get 1 rfl))) st37 kJ rfl ?_);intro W38 st39
  refine aC (aB (sg (aF (v:=I (k:Int)) hs21_2 (sg (mN rfl rfl bK4 ?_)))))
  have st40:=st39.row_nil (α:=List Entry) 217
  skip
  refine sg (aH (v:=I ((k:Int)+1)) rfl (aC ?_))
  have st42:=st40.f4
  have st43:=st42.f2
  have st44:=st43.f3
  have st45:=st44.d3
  have st46:=st45.d3
  exact ⟨_,4 - (k+1),aA,rfl,k+1,v34,aA,rfl,hs21_0,hs21_1,rfl,(by rw[replicate_succ'];exact st46)⟩
 have h22p:=of_decide_eq_false h22
 refine wp_exit (wp_seq (aB (sg (mM (cs:=[I 0,I 1,v15,.slice none 0 0]) dM rfl hs21_1 (st20.get 1 rfl) rfl rfl ?_))))
 have st47:=st20.f2
 refine sg (fZ aD hs21_0 rfl (dF rfl (dF rfl (dF (Sl.one (gH (st47.get 1 rfl))) (dF rfl wD)))) st47 kJ rfl ?_);intro W48 st49
 refine aC (wp_ret ?_);repeat first|refine aC8 ?_|refine aZ6 ?_
 refine retc1 dM rfl results125 hs21_0 (st49.get 0 rfl) rfl ?_
 obtain rfl:k=4:=by omega
 have st50:=st49.f1
 obtain ⟨fp52,st51⟩:=st50.shut
 have st53:=St.own_nil (α:=Run) st51
 have st55:=st53.f1
 have st56:=pH (x:=yardNew) st55 (by simp[yardNew,Yard.ok,I64])
 exact ⟨_,_,rfl,st56.only 0 rfl⟩
theorem cB0 {w W:World} {e:Ending} {x:Yard} (h:∃ (cs':List Value) (fp':List Nat),e = .returned (.agg cs'.toArray)∧St w W [Res.own (.agg cs'.toArray) x fp']):∃ (a:Unit) (vs:List Value) (rs:List Res),True∧e = .returned (vP vs)∧Rks vs [Rk.S x] rs∧St w W rs:=by
 obtain ⟨cs,fp,he,st⟩:=h
 exact ⟨(),[.agg cs.toArray],[Res.cs cs x fp],trivial,he,⟨[Res.cs cs x fp],[],⟨cs,fp,rfl,rfl⟩,rfl,rfl⟩,st.cs rfl⟩
theorem YardNewD:Ct1 prog 102 [] [.S yardNew]:=⟨fun w us _ hp=>by
 match us,hp with
 | [],_=>exact (YardNewI w).mono fun e w' h=>cB0 h⟩
theorem YardNewSD:Ct1 prog 125 [] [.S yardNew]:=⟨fun w us _ hp=>by
 match us,hp with
 | [],_=>exact (YardNewS w).mono fun e w' h=>cB0 h⟩
structure waitP (e:Engine) (k:Nat) (w:Wait):Prop where
 rng:inB w.call 1 e.calls=true
 up:∀ j v,k=j+1→e.waits[j]? = some v→v.call<w.call
structure engH (e:Engine):Prop where
 yard:aM e.yard=true
 disk:fB e.disk=true
 next:inB e.next 1 999999999=true
 calls:inB e.calls 0 999999999=true
 waits:¬ (60:Int)<e.waits.length
 state:inB e.state 1 3=true
structure engP (e:Engine):Prop extends engH e where
 ok:∀ k w,e.waits[k]? = some w→waitP e k w
noncomputable def engOk (e:Engine):Bool:=pB (engP e)
structure EgJ (e:Engine) (k:Nat):Prop extends engH e where
 le:k≤e.waits.length
 ok:∀ j w,j<k→e.waits[j]? = some w→waitP e j w
theorem EgJ.start {e:Engine} (h:engH e):EgJ e 0:=⟨h,Nat.zero_le _,fun j w h=>by omega⟩
theorem EgJ.step {e:Engine} {k:Nat} {w:Wait} (h:EgJ e k) (hw:e.waits[k]? = some w) (hok:waitP e k w):EgJ e (k+1):=by
 refine ⟨h.toengH,(gsi_.1 hw).1,fun j g hj hg => ?_⟩
 rcases Nat.lt_succ_iff_lt_or_eq.1 hj with h1 | rfl
 ·exact h.ok j g h1 hg
 rw[hw] at hg;cases hg;exact hok
def brk (e:Engine):Engine:=⟨e.yard,e.disk,e.next,e.calls,e.waits,2,false⟩
theorem DeleteRun {w W0:World} {rs:List Res} {v:Value} {xs:List Run} {fp:List Nat} {k:Nat} (hst:St w W0 (Res.own v xs fp::rs)) (hk:k<xs.length) (hxl:xs.length≤1048576:=by omega) :
  Calls prog 317 #[v,I (k:Int),I ((k:Int)+1)] W0 fun e w'=>∃ (v':Value) (fp':List Nat),e = .returned v'∧St w w' (Res.own v' (xs.eraseIdx k) fp'::rs):=by
 refine cE2 func317 rfl ntmps317 cH (wp_seq ?_)
 have hq_:=St.ownOpen' hst cH aA
 obtain ⟨bD,oD,cD,CD,eD,feD,hvD,hcD,hmD,hlD,st1⟩:=hq_
 subst hvD
 refine aB (sg (aH (v := .slice none 0 0) rfl (aC (wp_seq (aB (rn st1 5 Ag.nil.put.put.put.put [] [(8,.slice (some ⟨bD,oD,none⟩) xs.length cD),(9,I (k:Int)),(10,I ((k:Int)+1)),(12,I ((xs.length:Nat):Int))] [.l (.slice (some ⟨bD,oD,none⟩) xs.length cD) xs.length ⟨_,_,rfl⟩] aD fun f5 h5_=>(sg (stp_x3 (l:=k) (h:=k+1) (mx:=xs.length) hX (h5_.at 8) (h5_.at 9) (h5_.at 10) (h5_.at 12) aA aA aA aA aA aA ?_))))))));intro v3_
 refine aC (wp_seq (wp_seq (aB (rn st1 3 h5_.put [] [(16,.bool (decide ((k:Int)=((k:Int)+1))))] [.o] aD fun f7 h7_=>(aC (cS (h7_.at 16) (fun h8p => ?_) (fun h8p => ?_)))))))
 ·omega
 refine wp_skip (wp_seq (aB (rn st1 3 h7_ [] [(7,I ((xs.length:Nat):Int))] [.l (.slice (some ⟨bD,oD,none⟩) xs.length cD) xs.length ⟨_,_,rfl⟩] aD fun f10 h10_=>(aC (wp_seq ?_)))))
 rcases nem (k+1<cD) with h11p | h11p
 ·refine oA 6 [] [(true,.is (.slice (some ⟨bD,oD,none⟩) xs.length cD)),(true,.is (I (k:Int))),(true,.is (.slice (some ⟨bD,oD,none⟩) k cD)),(true,.is (.slice (some ⟨bD,oD,none⟩) xs.length cD)),(true,.is (I ((k:Int)+1))),(true,.is (.slice (some ⟨bD,oD,none⟩) 0 0))] mix aD aD aD aD (rs0:=[]) rfl st1 (Below.refl _ _) ⟨(mq_ (h10_.at 0)),(mq_ (h10_.at 1)),(fun f W hst hbl hd hf=>xG (h:=k) hX (hd 0 20 rfl rfl) (hd 1 21 rfl rfl) aA aA aA brq),(mq_ (h10_.at 0)),(mq_ (h10_.at 2)),(fun f W hst hbl hd hf=>bY6 (l:=k+1) hX (hd 3 23 rfl rfl) (hd 4 24 rfl rfl) aA aA aA brq),trivial⟩ ?_
  intro f12 W13 rs_ hAL_ st16 hbl17 hv14 hf15
  have hn_:rs_=[]:=hAL_
  subst hn_
  try simp only[cap_,xN] at st16
  have h1_:∀ v∈(CD.drop (oD+(k+1)*8)).take ((xs.length - (k+1))*8),v.oneCell'=true:=fun v hv=>(st16.get 1 rfl).1.one v (bN8 hv (by show (k+1)*8+(xs.length - (k+1))*8≤xs.length*8;omega))
  have h0_:xs.length - (k+1)=0:=by omega
  refine sg (aO0 (α:=Run) (i:=k) (m:=xs.length - (k+1)) (oy:=oD+(k+1)*8) (q:=xs.length - 1) hX (hv14 2 22 cH rfl) (Eq.trans (hv14 5 25 cH rfl) (by rw[h0_])) (fun hz=>by omega) aA aA (by show oD+(k+1)*8+(xs.length - (k+1))*8≤CD.length;have hl_:oD+xs.length*8≤CD.length:=hlD;omega) (by show oD+k*8+(xs.length - (k+1))*8≤CD.length;have hl_:oD+xs.length*8≤CD.length:=hlD;omega) h1_ st16 ?_);intro W19 st20
  refine sg (aH (v := .slice (some ⟨bD,oD,none⟩) (xs.length - 1) cD) rfl (aC (wp_seq (aB (rn st20 4 (Ag.cons (show f12 7=I ((xs.length:Nat):Int) from ((hf15 7 rfl).trans (h10_.at 7))) Ag.nil).put.put [] [(27,.slice (some ⟨bD,oD,none⟩) (xs.length - 1) cD),(29,I (((xs.length - 1):Nat):Int)),(30,I ((xs.length:Nat):Int))] [.l (.slice (some ⟨bD,oD,none⟩) (xs.length - 1) cD) (xs.length - 1) ⟨_,_,rfl⟩] aD fun f24 h24_=>(sg (bY7 (l:=xs.length - 1) (h:=xs.length) hX (h24_.at 27) (h24_.at 29) (h24_.at 30) aA aA aA aA aA ?_)))))))
  refine sgn (tY (s:=8) (zs:=[I 0,I 0,I 0,I 0,I 0,.slice none 0 0,I 0,.slice none 0 0]) underlying25 aD rfl aA (by intro v hv;simp only[mem_cons,not_mem_nil,or_false] at hv;rcases hv with rfl | rfl | rfl | rfl | rfl | rfl | rfl | rfl <;> rfl) rfl aA st20 (by rw[eT];have hl_:oD+xs.length*8≤CD.length:=hlD;show oD+(xs.length - 1)*8+(xs.length - (xs.length - 1))*8≤_;omega) ?_);intro ZD W25 hZD st26
  refine aC (wp_seq (aB (sg (aF (h24_.at 0) (sg (aH (v := .slice (some ⟨bD,oD,none⟩) (xs.length - 1) cD) rfl (aC (wr (kZ results317 rfl ?_)))))))))
  have hE_:=(st26.get 1 rfl).1.erase hk
  obtain ⟨f1,f2,f3,hfe_,hE3⟩:=hE_
  have hs_:=st26.f1.es_sub (fe':=f1++f3) (by rw[hfe_];exact (List.Sublist.refl _).append (sublist_append_right _ _)) hE3
  have hq_:=St.ownShut' (off:=oD) (cap:=cD) (m:=xs.length - 1) hs_.f1 (aS8 hk hlD (by rw[hZD,show xs.length - (xs.length - 1)=1 by omega];rfl)).symm (by rw[length_eraseIdx_of_lt hk]) aA hmD
  obtain ⟨fpz,stz⟩:=hq_
  exact ⟨_,fpz,rfl,stz⟩
 refine oA 6 [] [(true,.is (.slice (some ⟨bD,oD,none⟩) xs.length cD)),(true,.is (I (k:Int))),(true,.is (.slice (some ⟨bD,oD,none⟩) k cD)),(true,.is (.slice (some ⟨bD,oD,none⟩) xs.length cD)),(true,.is (I ((k:Int)+1))),(true,.is (.slice (some ⟨bD,oD+(k+1)*8,none⟩) (xs.length - (k+1)) (cD - (k+1))))] mix aD aD aD aD (rs0:=[]) rfl st1 (Below.refl _ _) ⟨(mq_ (h10_.at 0)),(mq_ (h10_.at 1)),(fun f W hst hbl hd hf=>xG (h:=k) hX (hd 0 20 rfl rfl) (hd 1 21 rfl rfl) aA aA aA brq),(mq_ (h10_.at 0)),(mq_ (h10_.at 2)),(fun f W hst hbl hd hf=>pW (l:=k+1) hX (hd 3 23 rfl rfl) (hd 4 24 rfl rfl) aA aA aA brq),trivial⟩ ?_
 intro f29 W30 rs_ hAL_ st33 hbl34 hv31 hf32
 have hn_:rs_=[]:=hAL_
 subst hn_
 try simp only[cap_,xN] at st33
 have h1_:∀ v∈(CD.drop (oD+(k+1)*8)).take ((xs.length - (k+1))*8),v.oneCell'=true:=fun v hv=>(st33.get 1 rfl).1.one v (bN8 hv (by show (k+1)*8+(xs.length - (k+1))*8≤xs.length*8;omega))
 refine sg (aO0 (α:=Run) (i:=k) (m:=xs.length - (k+1)) (oy:=oD+(k+1)*8) (q:=xs.length - 1) hX (hv31 2 22 cH rfl) (hv31 5 25 cH rfl) (fun _=>rfl) aA aA (by show oD+(k+1)*8+(xs.length - (k+1))*8≤CD.length;have hl_:oD+xs.length*8≤CD.length:=hlD;omega) (by show oD+k*8+(xs.length - (k+1))*8≤CD.length;have hl_:oD+xs.length*8≤CD.length:=hlD;omega) h1_ st33 ?_);intro W36 st37
 refine sg (aH (v := .slice (some ⟨bD,oD,none⟩) (xs.length - 1) cD) rfl (aC (wp_seq (aB (rn st37 4 (Ag.cons (show f29 7=I ((xs.length:Nat):Int) from ((hf32 7 rfl).trans (h10_.at 7))) Ag.nil).put.put [] [(27,.slice (some ⟨bD,oD,none⟩) (xs.length - 1) cD),(29,I (((xs.length - 1):Nat):Int)),(30,I ((xs.length:Nat):Int))] [.l (.slice (some ⟨bD,oD,none⟩) (xs.length - 1) cD) (xs.length - 1) ⟨_,_,rfl⟩] aD fun f41 h41_=>(sg (bY7 (l:=xs.length - 1) (h:=xs.length) hX (h41_.at 27) (h41_.at 29) (h41_.at 30) aA aA aA aA aA ?_)))))))
 refine sgn (tY (s:=8) (zs:=[I 0,I 0,I 0,I 0,I 0,.slice none 0 0,I 0,.slice none 0 0]) underlying25 aD rfl aA (by intro v hv;simp only[mem_cons,not_mem_nil,or_false] at hv;rcases hv with rfl | rfl | rfl | rfl | rfl | rfl | rfl | rfl <;> rfl) rfl aA st37 (by rw[eT];have hl_:oD+xs.length*8≤CD.length:=hlD;show oD+(xs.length - 1)*8+(xs.length - (xs.length - 1))*8≤_;omega) ?_);intro ZD W42 hZD st43
 refine aC (wp_seq (aB (sg (aF (h41_.at 0) (sg (aH (v := .slice (some ⟨bD,oD,none⟩) (xs.length - 1) cD) rfl (aC (wr (kZ results317 rfl ?_)))))))))
 have hE_:=(st43.get 1 rfl).1.erase hk
 obtain ⟨f1,f2,f3,hfe_,hE3⟩:=hE_
 have hs_:=st43.f1.es_sub (fe':=f1++f3) (by rw[hfe_];exact (List.Sublist.refl _).append (sublist_append_right _ _)) hE3
 have hq_:=St.ownShut' (off:=oD) (cap:=cD) (m:=xs.length - 1) hs_.f1 (aS8 hk hlD (by rw[hZD,show xs.length - (xs.length - 1)=1 by omega];rfl)).symm (by rw[length_eraseIdx_of_lt hk]) aA hmD
 obtain ⟨fpz,stz⟩:=hq_
 exact ⟨_,fpz,rfl,stz⟩
abbrev bQ4:ByteArray:=⟨#[110,101,120,116]⟩
abbrev tD:ByteArray:=⟨#[108,111,103]⟩
abbrev markN:ByteArray:=⟨#[109,97,114,107]⟩
def withD (e:Engine) (d:Disk):Engine:=⟨e.yard,d,e.next,e.calls,e.waits,e.state,e.broken⟩
noncomputable def bH9 (d:Disk) (nm:ByteArray):Disk×Bool:=if 0≤fAt d.files nm then aB3 d nm 0 else (d,true)
noncomputable def opF (e:Engine) (k:Int):Disk×Bool:=
 if k=0 then bH9 e.disk bQ4 else if k=4 then bH9 e.disk tD else if k=1 then aV0 e.disk bQ4 (rO (e.next - 1) (iS e.yard)) else if k=2 then bN5 e.disk bQ4 else bR0 e.disk bQ4 markN
noncomputable def aG7 (e:Engine) (k:Int):Engine×Bool:=
 if ¬ (engOk e=true∧e.state=1∧inB k 0 4=true) then (e,false) else if e.broken=true then (brk e,false) else (withD e (opF e k).1,(opF e k).2)
def small (d:Disk):Prop:=d.files.length≤4∧∀ f∈d.files,f.wt≤60010
theorem pX {d:Disk} (h:fB d=true) {f:File} (hf:f∈d.files):f.name.size≤10∧f.data.size≤60000:=by
 obtain ⟨k,hk⟩:=mem_iff_getElem?.1 hf
 have h1:=((diskOk_iff.1 h).ok k f hk)
 have h2:=h1.name
 have h3:=h1.data
 unfold rM inB at h2
 simp only[Bool.and_eq_true,decide_eq_true_eq] at h2
 omega
theorem bE1 {d:Disk} (h:fB d=true):small d:=⟨xY h,fun f hf=>by have:=pX h hf;unfold File.wt;omega⟩
theorem aO2 {d:Disk} (h:fB d=true) {k:Nat} {y:File} (hy:y.wt≤60010):small ⟨d.files.set k y⟩:=⟨by show (d.files.set k y).length≤4;rw[length_set];exact xY h,fun f hf=>by
 rcases mem_or_eq_of_mem_set hf with h1 | rfl
 ·exact (bE1 h).2 f h1
 ·exact hy⟩
theorem bQ8 {d:Disk} (h:fB d=true) {k:Nat} {to:ByteArray} (ht:to.size≤10):∀ i,∀ f∈mvG d.files k to i,f.wt≤60010
 | 0,f,hf=>by cases hf
 | i+1,f,hf=>by
  have ih:=bQ8 h (k:=k) ht i
  have hf:f∈(match d.files[i]? with | some g=>if g.name=to then mvG d.files k to i else mvG d.files k to i++[if i=k then mvF g to else g] | none=>mvG d.files k to i):=hf
  split at hf
  ·rename_i g hg
   have hs:=pX h (mem_of_getElem? hg)
   split at hf
   ·exact ih f hf
   ·rcases mem_append.1 hf with h1 | h1
    ·exact ih f h1
    ·rw[mem_singleton] at h1
     subst h1
     split
     ·show to.size+g.data.size≤60010;omega
     ·unfold File.wt;omega
  ·exact ih f hf
theorem write_s (d:Disk) (nm more:ByteArray):(aV0 d nm more).1=d∨small (aV0 d nm more).1:=by
 unfold aV0
 split
 ·rename_i h;exact .inr (bE1 h.2)
 exact .inl rfl
theorem sync_s (d:Disk) (nm:ByteArray):(bN5 d nm).1=d∨small (bN5 d nm).1:=by
 unfold bN5
 split
 ·rename_i h
  unfold synD
  simp only
  split
  ·rename_i f hf
   have:=pX h.2 (mem_of_getElem? hf)
   exact .inr (aO2 h.2 (by show f.name.size+f.data.size≤_;omega))
  exact .inl rfl
 exact .inl rfl
theorem cut_s (d:Disk) (nm:ByteArray) (n:Int):(aB3 d nm n).1=d∨small (aB3 d nm n).1:=by
 unfold aB3
 split
 ·rename_i h
  unfold cutD
  simp only
  split
  ·rename_i f hf
   have:=pX h.2.1 (mem_of_getElem? hf)
   exact .inr (aO2 h.2.1 (by show f.name.size+(f.data.extract 0 n.toNat).size≤_;rw[ByteArray.size_extract];omega))
  exact .inl rfl
 exact .inl rfl
theorem move_s (d:Disk) (fr to:ByteArray):(bR0 d fr to).1=d∨small (bR0 d fr to).1:=by
 unfold bR0
 split
 ·rename_i h
  have h3:=h.2.2.2.1
  unfold rM inB at h3
  simp only[Bool.and_eq_true,decide_eq_true_eq] at h3
  refine .inr ⟨?_,fun f hf=>bQ8 h.2.1 aA _ f hf⟩
  have:=bQ9 d.files (fAt d.files fr).toNat to d.files.length
  have:=xY h.2.1
  simp only
  omega
 exact .inl rfl
theorem bT9 (d:Disk) (nm:ByteArray):(bH9 d nm).1=d∨small (bH9 d nm).1:=by
 unfold bH9
 split
 ·exact cut_s d nm 0
 exact .inl rfl
theorem op_s (e:Engine) (k:Int):(opF e k).1=e.disk∨small (opF e k).1:=by
 unfold opF
 split
 ·exact bT9 _ _
 split
 ·exact bT9 _ _
 split
 ·exact write_s _ _ _
 split
 ·exact sync_s _ _
 exact move_s _ _ _
def pQ (n a b:Int):Int:=if b<a then a else if n<a then a else min n b
theorem BroughtID (n a b:Int):Ct1 prog 83 [.I n,.I a,.I b] [.I (pQ n a b)]:=
 .one (pQ n a b) (rk:=fun x=>[.I x])<|vc func83 (fun hg => .s (b<a)
  (fun h => .rt a ⟨by unfold pQ;rw[if_pos h],trivial⟩)
  (fun h => .s (n<a)
   (fun h2 => .rt a ⟨by unfold pQ;rw[if_neg h,if_pos h2],trivial⟩)
   (fun h2 => .rt (min n b) ⟨by unfold pQ;rw[if_neg h,if_neg h2],trivial⟩))) aD
theorem BroughtSD (n a b:Int):Ct1 prog 117 [.I n,.I a,.I b] [.I (pQ n a b)]:=
 .one (pQ n a b) (rk:=fun x=>[.I x])<|vc func117 (fun hg => .s (b<a)
  (fun h => .rt a ⟨by unfold pQ;rw[if_pos h],trivial⟩)
  (fun h => .s (n<a)
   (fun h2 => .rt a ⟨by unfold pQ;rw[if_neg h,if_pos h2],trivial⟩)
   (fun h2 => .s (b<n)
    (fun h3 => .rt b ⟨by unfold pQ;rw[if_neg h,if_neg h2,Int.min_def,if_neg aA],trivial⟩)
    (fun h3 => .rt n ⟨by unfold pQ;rw[if_neg h,if_neg h2,Int.min_def,if_pos aA],trivial⟩)))) aD
theorem bro_le (n:Int):0≤pQ n 0 5∧pQ n 0 5≤5:=by
 unfold pQ
 rw[if_neg aA]
 split
 ·omega
 omega
noncomputable def aY0 (e:Engine):Nat→Engine×Bool
 | 0=>(e,true)
 | k+1=>if (aY0 e k).2=true then aG7 (aY0 e k).1 k else aY0 e k
theorem mrk_step {e:Engine} {k:Nat} (h:(aY0 e k).2=true):aY0 e (k+1)=aG7 (aY0 e k).1 k:=by
 show (if _ then _ else _)=_
 rw[if_pos h]
theorem mst_yw (e:Engine) (k:Int):(aG7 e k).1.yard=e.yard∧(aG7 e k).1.waits=e.waits:=by
 unfold aG7
 split
 ·exact ⟨rfl,rfl⟩
 split
 ·exact ⟨rfl,rfl⟩
 exact ⟨rfl,rfl⟩
theorem mst_fl (e:Engine) (k:Int) (h:e.disk.files.length≤1048576):(aG7 e k).1.disk.files.length≤1048576:=by
 unfold aG7
 split
 ·exact h
 split
 ·exact h
 show (opF e k).1.files.length≤_
 rcases op_s e k with h1 | h1
 ·rw[h1];exact h
 have:=h1.1;omega
structure MkJ (e:Engine) (n:Int) (g:Nat×Engine):Prop where
 le:(g.1:Int)≤pQ n 0 5
 ok:aY0 e g.1=(g.2,true)
 yard:g.2.yard=e.yard
 waits:g.2.waits=e.waits
 files:g.2.disk.files.length≤1048576
 good:g.2.ok
theorem MkJ.start {e:Engine} (n:Int) (h:e.disk.files.length≤1048576) (hg:e.ok):MkJ e n (0,e):=⟨(bro_le n).1,rfl,rfl,rfl,h,hg⟩
theorem MkJ.next_ {e:Engine} {n:Int} {g:Nat×Engine} (h:MkJ e n g):aY0 e (g.1+1)=aG7 g.2 g.1:=by
 have:=mrk_step (e:=e) (k:=g.1) (by rw[h.ok])
 rw[this,h.ok]
theorem MkJ.step {e:Engine} {n:Int} {g:Nat×Engine} (h:MkJ e n g) (hk:(g.1:Int)<pQ n 0 5) (ht:(aG7 g.2 g.1).2=true) (hg:(aG7 g.2 g.1).1.ok):MkJ e n (g.1+1,(aG7 g.2 g.1).1):=by
 have e1:=h.next_
 have h2:=mst_yw g.2 g.1
 exact ⟨by show ((g.1+1:Nat):Int)≤_;omega,by show aY0 e (g.1+1)=_;rw[e1,← ht],h2.1.trans h.yard,h2.2.trans h.waits,mst_fl _ _ h.files,hg⟩
theorem bF8 {y:Yard} {id task try_:Int} (h:¬ (0:Int)≤aG y id):false=fJ y id task try_:=by
 have:bZ y id=none:=by
  cases hi:bZ y id with
  | none=>rfl
  | some k=>rw[cV hi] at h;omega
 unfold fJ;rw[this]
theorem bG0 {y:Yard} {id task try_:Int} {k:Nat} {r:Run} (hk:bZ y id=some k) (hr:y.runs[k]? = some r):fJ y id task try_=(inB task 0 ((r.tasks.length:Int) - 1) && (match r.tasks[task.toNat]? with | some t=>decide (t.state=3) && decide (t.try_=try_) | none=>false)):=by
 unfold fJ;rw[hk];simp only[hr] <;> rfl
theorem aR1 {y:Yard} {id task try_:Int} {k:Nat} {r:Run} (hk:bZ y id=some k) (hr:y.runs[k]? = some r) (h:inB task 0 ((r.tasks.length:Int) - 1)=false):false=fJ y id task try_:=by rw[bG0 hk hr,h];rfl
theorem bG1 {y:Yard} {id task try_:Int} {k:Nat} {r:Run} {t:Task} (hk:bZ y id=some k) (hr:y.runs[k]? = some r) (h:inB task 0 ((r.tasks.length:Int) - 1)=true) (ht:r.tasks[task.toNat]? = some t):(decide (t.state=3) && decide (t.try_=try_))=fJ y id task try_:=by rw[bG0 hk hr,h,ht];rfl
theorem bS1 {y:Yard} {id task try_:Int} {k:Nat} {r:Run} {t:Task} (hk:bZ y id=some k) (hr:y.runs[k]? = some r) (h:inB task 0 ((r.tasks.length:Int) - 1)=true) (ht:r.tasks[task.toNat]? = some t) (h3:t.state=3):decide (t.try_=try_)=fJ y id task try_:=by rw[← bG1 hk hr h ht,decide_eq_true h3];rfl
theorem bF9 {y:Yard} {id task try_:Int} {k:Nat} {r:Run} {t:Task} (hk:bZ y id=some k) (hr:y.runs[k]? = some r) (h:inB task 0 ((r.tasks.length:Int) - 1)=true) (ht:r.tasks[task.toNat]? = some t) (h3:¬ t.state=3):false=fJ y id task try_:=by rw[← bG1 hk hr h ht,decide_eq_false h3];rfl
theorem bA2 (y:Yard) (id task try_:Int) (hw:y.wt≤1048576):Ct1 prog 120 [.S y,.I id,.I task,.I try_] [.B (fJ y id task try_)]:=
 .one (fJ y id task try_) (rk:=fun x=>[.B x])<|vc func120 (fun (hg:gin [Par.S y,Par.I id,Par.I task,Par.I try_]) => .c func232 (kP y id hw) (hg:=⟨hg.1.1,trivial⟩) fun _ => .s (aG y id<0)
  (fun h => .rt false ⟨bF8 aA,trivial⟩)
  (fun h => .ex (vS (show (0:Int)≤aG y id by omega)) fun q hq => .ye hq.2.2 (aG y id) (he:=hq.2.1) fun gr => .m (q.2.tasks.length:Int) 1 (h:=by have:=jH hw hq.2.2;unfold I64;omega) <| .c func92 (bW task 0 ((q.2.tasks.length:Int) - 1)) fun _=>
   .v (inB task 0 ((q.2.tasks.length:Int) - 1))
    (fun h1 => .rt false ⟨aR1 hq.1 hq.2.2 h1,trivial⟩)
    (fun h1 => .ye hq.2.2 (aG y id) (he:=hq.2.1) fun _ => .ex (uL h1) fun t ht => .ye ht task (he:=jK h1) fun _ => .s (t.state=3)
     (fun h3 => .rt (decide (t.try_=try_)) ⟨bS1 hq.1 hq.2.2 h1 ht h3,trivial⟩)
     (fun h3 => .rt false ⟨bF9 hq.1 hq.2.2 h1 ht h3,trivial⟩)))) aD
theorem Holds_s (y:Yard) (id task try_:Int) (hw:y.wt≤1048576):Ct1 prog 389 [.S y,.I id,.I task,.I try_] [.B (fJ y id task try_)]:=
 .one (fJ y id task try_) (rk:=fun x=>[.B x])<|vc func389 (fun (hg:gin [Par.S y,Par.I id,Par.I task,Par.I try_]) => .c func291 (lN y id hw) (hg:=⟨hg.1.1,trivial⟩) fun _ => .s ((0:Int)≤aG y id)
  (fun h => .ex (vS h) fun q hq => .ye hq.2.2 (aG y id) (he:=hq.2.1) fun gr => .m (q.2.tasks.length:Int) 1 (h:=by have:=jH hw hq.2.2;unfold I64;omega) <| .c func138 (InV task 0 ((q.2.tasks.length:Int) - 1)) fun _=>
   .sb (inB task 0 ((q.2.tasks.length:Int) - 1))
    (fun h1 => .ye hq.2.2 (aG y id) (he:=hq.2.1) fun _ => .ex (uL h1) fun t ht => .ye ht task (he:=jK h1) fun _ => .s (t.state=3)
     (fun h3 => .ye hq.2.2 (aG y id) (he:=hq.2.1) fun _ => .ye ht task (he:=jK h1) fun _ => .rt (decide (t.try_=try_)) ⟨bS1 hq.1 hq.2.2 h1 ht h3,trivial⟩)
     (fun h3 => .rt false ⟨bF9 hq.1 hq.2.2 h1 ht h3,trivial⟩))
    (fun h1 => .rt false ⟨aR1 hq.1 hq.2.2 h1,trivial⟩))
  (fun h => .rt false ⟨bF8 h,trivial⟩)) aD
theorem cA2 {y:Yard} {p:Plan} (h:¬ (y.runs.length:Int)<8):false=jA y p:=by unfold jA;simp[h]
theorem cA1 {y:Yard} {p:Plan} (h:inB p.tasks 0 12=false):false=jA y p:=by unfold jA;simp[h]
theorem cA0 {y:Yard} {p:Plan} (h:¬ dK y+p.tasks≤40):false=jA y p:=by unfold jA;simp[h]
theorem bZ9 {y:Yard} {p:Plan} (h1:(y.runs.length:Int)<8) (h2:inB p.tasks 0 12=true) (h3:dK y+p.tasks≤40):decide (y.seq≤999999000 - p.tasks)=jA y p:=by unfold jA;simp[h1,h2,h3]
theorem RoomFor_i (y:Yard) (p:Plan) (hw:y.wt≤1048576):Ct1 prog 303 [.S y,.S p] [.B (jA y p)]:=
 .one (jA y p) (rk:=fun x=>[.B x])<|vc func303 (fun (hg:gin [Par.S y,Par.S p])=>let hs:=aO3 y
  .s ((y.runs.length:Int)<8)
  (fun h1 => .c func92 (bW p.tasks 0 12) fun _ => .sb (inB p.tasks 0 12)
   (fun h2=>let hp:=inB_iff.1 h2
    .c func234 (aU2 y hw) (hg:=⟨hg.1.1,trivial⟩) fun _ => .p (dK y) p.tasks (h:=by unfold I64;omega) <| .s (dK y+p.tasks≤40)
    (fun h3 => .m 999999000 p.tasks (h:=by unfold I64;omega) <| .rt (decide (y.seq≤999999000 - p.tasks)) ⟨bZ9 h1 h2 h3,trivial⟩)
    (fun h3 => .rt false ⟨cA0 h3,trivial⟩))
   (fun h2 => .rt false ⟨cA1 h2,trivial⟩))
  (fun h1 => .rt false ⟨cA2 h1,trivial⟩)) aD
theorem RoomFor_s (y:Yard) (p:Plan) (hw:y.wt≤1048576):Ct1 prog 326 [.S y,.S p] [.B (jA y p)]:=
 .one (jA y p) (rk:=fun x=>[.B x])<|vc func326 (fun (hg:gin [Par.S y,Par.S p])=>let hs:=aO3 y
  .s ((y.runs.length:Int)<8)
  (fun h1 => .c func138 (InV p.tasks 0 12) fun _ => .sb (inB p.tasks 0 12)
   (fun h2=>let hp:=inB_iff.1 h2
    .c func294 (aU1 y hw) (hg:=⟨hg.1.1,trivial⟩) fun _ => .p (dK y) p.tasks (h:=by unfold I64;omega) <| .s (dK y+p.tasks≤40)
    (fun h3 => .m 999999000 p.tasks (h:=by unfold I64;omega) <| .rt (decide (y.seq≤999999000 - p.tasks)) ⟨bZ9 h1 h2 h3,trivial⟩)
    (fun h3 => .rt false ⟨cA0 h3,trivial⟩))
   (fun h2 => .rt false ⟨cA1 h2,trivial⟩))
  (fun h1 => .rt false ⟨cA2 h1,trivial⟩)) aD
theorem aX9 {id:Int} {p:Plan} (h:¬ (inB id 1 9999=true∧aK p=0)):(zRun,false)=(aG4 id p,lX id p):=by
 have:lX id p=false:=by
  unfold lX
  cases h1:inB id 1 9999 with
  | false=>rfl
  | true=>simp only[Bool.true_and,decide_eq_false_iff_not];exact fun h2=>h ⟨h1,h2⟩
 rw[newR_f this,this]
theorem bQ5 {id:Int} {p:Plan} (h1:inB id 1 9999=true) (h2:aK p=0):(bU id p,true)=(aG4 id p,lX id p):=by
 have:lX id p=true:=by unfold lX;rw[h1,decide_eq_true h2];rfl
 rw[cC1 this,this]
theorem zO:zRun.ok:=by unfold Run.ok Plan.ok zRun I64;simp
theorem aO6 {id:Int} {p:Plan} (h1:inB id 1 9999=true) (hp:p.ok):(bU id p).ok:=⟨by have:=inB_iff.1 h1;show I64 id;unfold I64;omega,hp,by show I64 1;unfold I64;omega⟩
theorem aV4 {a b c d:Int} (ha:0≤a∧a≤100) (hb:0≤b∧b≤100) (hc:0≤c∧c≤100) (hd:0≤d∧d≤100):Task.ok ⟨a,b,c,d⟩:=⟨by show I64 a;unfold I64;omega,by show I64 b;unfold I64;omega,by show I64 c;unfold I64;omega,by show I64 d;unfold I64;omega⟩
theorem RunNew_i (id:Int) (p:Plan):Ct1 prog 304 [.I id,.S p] [.S (aG4 id p),.B (lX id p)]:=
 .one (aG4 id p,lX id p) (rk:=fun q=>[.S q.1,.B q.2])<|vc func304 (fun (hg:gin [Par.I id,Par.S p])=>let gp:p.ok:=hg.1.1
  .c func92 (bW id 1 9999) fun _ => .v (inB id 1 9999) (fun h => .rt (zRun,false) ⟨aX9 (fun z=>by rw[h] at z;cases z.1),zO,trivial⟩) (fun h1=>
  .c func302 (jX p) (hg:=⟨gp,trivial⟩) fun _ => .u (aK p=0) (fun h => .rt (zRun,false) ⟨aX9 (fun z=>h z.2),zO,trivial⟩) (fun h2=>let hp:=qX h2
  .c func347 (uY p aA) (hg:=⟨gp,trivial⟩) fun _ => .wt 6 <| .r0 (inferInstance:Shape Task) 158 <|
  .l (Γ:=Nat) (fun k=>k≤p.tasks.toNat) (fun k=>p.tasks.toNat - k) [3,4,6] [1,2] [0] (fun k=>[vI 7 k]) (fun k=>[oO 3 p.edges,oR 5 158 (dO p k),oB 4 [.v (I id),.v (I p.prio),.v (I p.most),.v (I p.wait),.v (I p.tasks),.r 3,.v (I 1),.r 5]]) 0 fun k hk t=>let hln:=kB p k
   .s ((k:Int)<p.tasks)
    (fun h=>let hbl:=lE p (k:Int)
     .c func379 (aL8 p k) (hg:=⟨gp,trivial⟩) fun _ => .s (((aT p (k:Int)).length:Int)=0)
     (fun h3 => .a (dO p k) (⟨2,(aT p (k:Int)).length,0,0⟩:Task) 32 (hy:=aV4 aA aA aA aA) (h63:=by unfold maxLen;omega) (hby:=by omega) <| .g 5 (aC9 h3).symm <| .p k 1 (h:=by unfold I64;omega) <| .n t (k+1) [])
     (fun h3 => .a (dO p k) (⟨1,(aT p (k:Int)).length,0,0⟩:Task) 32 (hy:=aV4 aA aA aA aA) (h63:=by unfold maxLen;omega) (hby:=by omega) <| .g 5 (aD0 h3).symm <| .p k 1 (h:=by unfold I64;omega) <| .n t (k+1) []))
    (fun h => .g 5 (show dO p k=dO p p.tasks.toNat by rw[show k=p.tasks.toNat by omega]) <| .rt (bU id p,true) ⟨bQ5 h1 h2,aO6 h1 gp,trivial⟩)))) aD
theorem RunNew_s (id:Int) (p:Plan):Ct1 prog 327 [.I id,.S p] [.S (aG4 id p),.B (lX id p)]:=
 .one (aG4 id p,lX id p) (rk:=fun q=>[.S q.1,.B q.2])<|vc func327 (fun (hg:gin [Par.I id,Par.S p])=>let gp:p.ok:=hg.1.1
  .c func138 (InV id 1 9999) fun _ => .v (inB id 1 9999) (fun h => .rt (zRun,false) ⟨aX9 (fun z=>by rw[h] at z;cases z.1),zO,trivial⟩) (fun h1=>
  .c func325 (oQ p) (hg:=⟨gp,trivial⟩) fun _ => .u (aK p=0) (fun h => .rt (zRun,false) ⟨aX9 (fun z=>h z.2),zO,trivial⟩) (fun h2=>let hp:=qX h2
  .c func366 (uX p aA) (hg:=⟨gp,trivial⟩) fun _ => .wt 6 <| .r0 (inferInstance:Shape Task) 158 <|
  .l (Γ:=Nat) (fun k=>k≤p.tasks.toNat) (fun k=>p.tasks.toNat - k) [3,4,6] [1,2] [0] (fun k=>[vI 7 k]) (fun k=>[oO 3 p.edges,oR 5 158 (dO p k),oB 4 [.v (I id),.v (I p.prio),.v (I p.most),.v (I p.wait),.v (I p.tasks),.r 3,.v (I 1),.r 5]]) 0 fun k hk t=>let hln:=kB p k
   .s ((k:Int)<p.tasks)
    (fun h=>let hbl:=lE p (k:Int)
     .c func386 (aU8 p k h2) (hg:=⟨gp,trivial⟩) fun _ => .s ((0:Int)<((aT p (k:Int)).length:Int))
     (fun h3 => .a (dO p k) (⟨1,(aT p (k:Int)).length,0,0⟩:Task) 32 (hy:=aV4 aA aA aA aA) (h63:=by unfold maxLen;omega) (hby:=by omega) <| .g 5 (aD0 (p:=p) (k:=k) aA).symm <| .p k 1 (h:=by unfold I64;omega) <| .n t (k+1) [])
     (fun h3 => .a (dO p k) (⟨2,(aT p (k:Int)).length,0,0⟩:Task) 32 (hy:=aV4 aA aA aA aA) (h63:=by unfold maxLen;omega) (hby:=by omega) <| .g 5 (aC9 (p:=p) (k:=k) aA).symm <| .p k 1 (h:=by unfold I64;omega) <| .n t (k+1) []))
    (fun h => .g 5 (show dO p k=dO p p.tasks.toNat by rw[show k=p.tasks.toNat by omega]) <| .rt (bU id p,true) ⟨bQ5 h1 h2,aO6 h1 gp,trivial⟩)))) aD
def bV:List Entry→Entry×List Entry×Bool
 | []=>(zE,[],false)
 | e::r=>(e,r,true)
theorem bN4 {xs:List Entry} (h:(xs.length:Int)=0):(zE,[],false)=bV xs:=by
 rw[eq_nil_of_length_eq_zero (show xs.length=0 by omega)];rfl
theorem bB7 {xs:List Entry} {e:Entry} (h:xs[0]? = some e):(e,xs.drop 1,true)=bV xs:=by
 cases xs with
 | nil=>cases h
 | cons a r=>cases h;rfl
theorem TakeEntry_i (xs:List Entry) (hl:xs.length≤1048576):Ct1 prog 309 [.L xs] [.S (bV xs).1,.L (bV xs).2.1,.B (bV xs).2.2]:=
 .one (bV xs) (rk:=fun q=>[.S q.1,.L q.2.1,.B q.2.2])<|vc func309 (fun hg => .s ((xs.length:Int)=0)
  (fun h => .rt (zE,[],false) ⟨bN4 h,zE_ok,trivial⟩)
  (fun h => .x xs 0 (h:=by omega) fun e he ge => .dp inferInstance xs 1 aA 1 rfl <| .c func235 (gB (xs.drop 1) (by rw[length_drop];omega)) fun _ => .rt (e,xs.drop 1,true) ⟨bB7 he,ge,trivial⟩)) aD
theorem TakeEntry_s (xs:List Entry) (hl:xs.length≤1048576):Ct1 prog 333 [.L xs] [.S (bV xs).1,.L (bV xs).2.1,.B (bV xs).2.2]:=
 .one (bV xs) (rk:=fun q=>[.S q.1,.L q.2.1,.B q.2.2])<|vc func333 (fun hg => .s ((xs.length:Int)=0)
  (fun h => .e Entry <| .rt (zE,[],false) ⟨bN4 h,zE_ok,trivial⟩)
  (fun h => .x xs 0 (h:=by omega) fun e he ge => .dp inferInstance xs 1 aA 1 rfl <| .e Entry <| .as (inferInstance:Shape Entry) fR [] (xs.drop 1) 32 (by rw[length_drop];simp only[length_nil];unfold maxLen;omega) (by rw[length_drop];simp only[length_nil];omega) <| .rt (e,xs.drop 1,true) ⟨bB7 he,ge,trivial⟩)) aD
theorem HalfOf_i (xs:List Entry) (hl:xs.length≤1048576):Ct1 prog 307 [.L xs] [.L (xs.take (cP xs)),.L (xs.drop (cP xs))]:=
 vc func307 (fun hg=>let hh:cP xs≤xs.length:=(by unfold cP;omega)
  let he:((xs.length:Int)+1) / 2=(cP xs:Int):=(by unfold cP;omega)
  .p (xs.length:Int) 1 (h:=by unfold I64;omega) <| .q ((xs.length:Int)+1) 2 (h:=by omega) <| .tk inferInstance xs (cP xs) hh (((xs.length:Int)+1) / 2) he <| .dp inferInstance xs (cP xs) hh (((xs.length:Int)+1) / 2) he <|
  .c func235 (gB (xs.take (cP xs)) (by rw[length_take];omega)) fun _ => .c func235 (gB (xs.drop (cP xs)) (by rw[length_drop];omega)) fun _ => .rt () ⟨trivial,trivial⟩) aD
theorem HalfOf_s (xs:List Entry) (hl:xs.length≤1048576):Ct1 prog 331 [.L xs] [.L (xs.take (cP xs)),.L (xs.drop (cP xs))]:=
 vc func331 (fun hg=>let hh:cP xs≤xs.length:=(by unfold cP;omega)
  let he:((xs.length:Int)+1) / 2=(cP xs:Int):=(by unfold cP;omega)
  .p (xs.length:Int) 1 (h:=by unfold I64;omega) <| .q ((xs.length:Int)+1) 2 (h:=by omega) <| .tk inferInstance xs (cP xs) hh (((xs.length:Int)+1) / 2) he <| .dp inferInstance xs (cP xs) hh (((xs.length:Int)+1) / 2) he <|
  let one:=fun k=>D.as (P:=prog) (A:=Unit) (R:=fun _=>True∧rgd [Rk.L (xs.take (cP xs)),Rk.L (xs.drop (cP xs))]) (inferInstance:Shape Entry) fR [] (xs.take (cP xs)) 32 (by rw[length_take];simp only[length_nil];unfold maxLen;omega) (by rw[length_take];simp only[length_nil];omega) k
  let two:=D.as (P:=prog) (A:=Unit) (R:=fun _=>True∧rgd [Rk.L (xs.take (cP xs)),Rk.L (xs.drop (cP xs))]) (inferInstance:Shape Entry) fR [] (xs.drop (cP xs)) 32 (by rw[length_drop];simp only[length_nil];unfold maxLen;omega) (by rw[length_drop];simp only[length_nil];omega) (.rt () ⟨trivial,trivial⟩)
  .pm fun i=>match i with
   | 0 => .e Entry <| .pm fun i=>match i with
    | 4=>one <| .pm fun _ => .e Entry<|two
    | _ => .e Entry<|one<|two
   | _ => .e Entry <| .e Entry<|one<|two) aD
def PxF (xs:List Entry) (e:Entry):Option Nat→Prop
 | none=>qW xs e=xs.length
 | some k=>qW xs e=k∧k<xs.length
structure PxJ (xs:List Entry) (e:Entry) (k:Nat):Prop where
 le:k≤xs.length
 no:(xs.take k).any (fun x => !eP x e)=false
theorem PxJ.next {xs:List Entry} {e x:Entry} {k:Nat} (h:PxJ xs e k) (hx:xs[k]? = some x) (ha:eP x e=true):PxJ xs e (k+1):=by
 obtain ⟨hk,rfl⟩:=gsi_.1 hx
 exact ⟨hk,uT hk h.no (by rw[ha];rfl)⟩
theorem PxJ.hit {xs:List Entry} {e x:Entry} {k:Nat} (h:PxJ xs e k) (hx:xs[k]? = some x) (ha:eP x e=false):qW xs e=k∧k<xs.length:=by
 obtain ⟨hk,rfl⟩:=gsi_.1 hx
 exact ⟨bD1 h.le h.no (.inr ⟨hk,ha⟩),hk⟩
theorem PxJ.all {xs:List Entry} {e:Entry} {k:Nat} (h:PxJ xs e k) (hn:¬ (k:Int)<xs.length):qW xs e=k∧k=xs.length:=by
 have:=h.le
 exact ⟨bD1 h.le h.no (.inl aA),by omega⟩
noncomputable def insInc (xs:List Entry) (y:Entry) (k:Nat) (hk:k≤xs.length) (hy:y.ok) (hxl:xs.length≤1048576) (zs:List Entry) (hz:xs.take k++y::xs.drop k=zs):Inc prog 395 (fun _:Unit=>True) where
 T:=fun s us K=>match us with
  | [.on (.ce (.rf j h)),.on (.ce (.vl v1)),.on (.ce (.lt r b n))]=>match lku s.O j,lku (cN s.O j) r with
   | some (.row i e' h' xs' fe),some (.bx b' [] cs [] t) => .e0 h h' <| .e0 e' 243 <| .e1 (⟨i,xs'⟩:Dat) ⟨instShapeEntry,xs⟩ <| .e0 v1 (I (k:Int)) <| .e0 b b' <| .e0 n 1 <| .e0 t 243 <| .e0 (cs.map Sc.val) [I y.prio,I y.seq,I y.run,I y.task] <|
     .fn fun g:Hd×List Nat=>K () (.on (.ce (.rf j g.1))) ⟨s.E,(j,.own instShapeEntry g.1 zs g.2)::cN (cN s.O j) r,lasting s.B,s.nx⟩
   | _,_ => .no
  | _ => .no
 ok:=by
  intro w0 W s us K h st fa
  split at h
  ·next j hd v1 r b n=>
   split at h
   ·next i e' h' xs' fe b' cs t hj hr=>
    obtain ⟨rfl,rfl,h2,rfl,rfl,rfl,rfl,h6,h7⟩:=h
    simp only[Dat.mk.injEq] at h2
    obtain ⟨rfl,h8,h9⟩:=h2
    obtain ⟨rfl,rfl⟩:=And.intro (eq_of_heq h8) (eq_of_heq h9)
    have st2:=St.take (rs:=[]) (by simpa [Or,S.rs] using st) hj
    rw[append_nil] at st2
    have st3:=(St.take (rs:=[_]) (st2.perm (perm_append_comm (l₂:=[_]))) hr).perm (perm_append_comm (l₁:=[_]) (l₂:=_::_))
    have st3:St w0 W (Res.row 243 hd.val xs' fe::Res.bx b ([]++cs.map Sc.val++[]) 243::Or (cN (cN s.O j) r)):=st3
    rw[nil_append,append_nil,h6] at st3
    obtain ⟨cl,_,hE⟩:=(st3.get 0 rfl).1
    obtain rfl:=wA fR hE
    refine (InsertE k st3 hk hy hxl).mono ?_
    rintro e W' ⟨v',rfl,st'⟩
    obtain ⟨fp,st'⟩:=st'.shut
    obtain ⟨hd,rfl,_⟩:=Sl.hd (bP (st'.get 0 rfl))
    exact ⟨(),.on (.ce (.rf j hd)),_,trivial,h7 (hd,fp),rfl,by rw[← hz];exact st',fa.lasting⟩
   exact h.elim
  exact h.elim
theorem aL5 (xs:List Entry) (e:Entry) (hl:xs.length≤1048576):Ct1 prog 349 [.L xs,.S e] [.L (lT xs e)]:=
 vc func349 (fun (hg:gin [Par.L xs,Par.S e])=>let ge:e.ok:=hg.2.1.1
  let fin:∀ k,qW xs e=k→k≤xs.length→D prog (fun _:Unit=>True∧rgd [Rk.L (lT xs e)]):=fun k h1 h2 => .c func235 (gB xs hl) fun _ => .iv _ func395 (insInc xs e k h2 ge hl (lT xs e) (by rw[← h1];rfl)) fun _ _ => .rt () ⟨trivial,trivial⟩
  .in_ (R':=PxF xs e) func382 (
   .la (Γ:=Nat) (PxJ xs e) (fun k=>xs.length - k) (fun k=>[vI 8 k]) (fun _=>[]) 0 (h:=⟨Nat.zero_le _,rfl⟩) fun k hJ t=>let hk:=hJ.le
    .s ((k:Int)<xs.length)
     (fun h => .x xs k (h:=by omega) fun x hx gx => .in_ (R':=fun _:Unit=>True) func394 (.c func341 (bW1 x e) (hg:=⟨gx,ge,trivial⟩) fun _ => .rt () trivial) fun _ _ => .v (eP x e)
      (fun h1 => .rt (some k) (hJ.hit hx h1))
      (fun h1 => .p k 1 (h:=by unfold I64;omega) <| .n t (k+1) [] (hJ.next hx h1) aA))
     (fun h => .rt none ((hJ.all h).1.trans (hJ.all h).2))) fun o=>match o with
   | none=>fun ho => .kt ((-1:Int)<0) cH<|fin xs.length ho (Nat.le_refl _)
   | some k=>fun ho => .kf ((k:Int)<0) aA<|fin k ho.1 (Nat.le_of_lt ho.2)) aD
theorem aL4 (xs:List Entry) (e:Entry) (hl:xs.length≤1048576):Ct1 prog 388 [.L xs,.S e] [.L (lT xs e)]:=
 .one (lT xs e) (rk:=fun l=>[.L l])<|vc func388 (fun (hg:gin [Par.L xs,Par.S e])=>let ge:e.ok:=hg.2.1.1
  let fin:∀ k,qW xs e=k→k≤xs.length→D prog (fun l:List Entry=>l=lT xs e∧rgd [Rk.L l]):=fun k h1 h2 => .e Entry <| .tk inferInstance xs k h2 (k:Int) rfl <| .as (inferInstance:Shape Entry) fR [] (xs.take k) 32 (by rw[length_take];simp only[length_nil];unfold maxLen;omega) (by rw[length_take];simp only[length_nil];omega) <|
   .a (xs.take k) e 32 (hy:=ge) (h63:=by rw[length_take];unfold maxLen;omega) (hby:=by rw[length_take];omega) <| .dp inferInstance xs k h2 (k:Int) rfl <| .as (inferInstance:Shape Entry) fR (xs.take k++[e]) (xs.drop k) 32 (by rw[length_append,length_take,length_drop];simp only[length_cons,length_nil];unfold maxLen;omega) (by rw[length_append,length_take,length_drop];simp only[length_cons,length_nil];omega) <|
   .rt (xs.take k++[e]++xs.drop k) ⟨by rw[append_assoc,← h1];rfl,trivial⟩
  .la (Γ:=Nat) (PxJ xs e) (fun k=>xs.length - k) (fun k=>[vI 5 k]) (fun _=>[]) 0 (h:=⟨Nat.zero_le _,rfl⟩) fun k hJ t=>let hk:=hJ.le
   .s ((k:Int)<xs.length)
    (fun h => .x xs k (h:=by omega) fun x hx gx => .c func404 (bW0 x e) (hg:=⟨gx,ge,trivial⟩) fun _ => .sb (eP x e)
     (fun h1 => .p k 1 (h:=by unfold I64;omega) <| .n t (k+1) [] (hJ.next hx h1) aA)
     (fun h1=>fin k (hJ.hit hx h1).1 hk))
    (fun h=>fin k (hJ.all h).1 hk)) aD
def aH0 (a b:List Entry) (k:Nat):List Entry:=(b.take k).foldl lT a
theorem bF1 (a b:List Entry) (k:Nat):(aH0 a b k).length≤a.length+b.length:=by
 unfold aH0;rw[tO,length_take];omega
theorem aQ0 {a b:List Entry} {k:Nat} {e:Entry} (h:b[k]? = some e):lT (aH0 a b k) e=aH0 a b (k+1):=by
 obtain ⟨hk,rfl⟩:=gsi_.1 h
 unfold aH0;rw[foldl_put_to hk]
theorem bF2 {a b:List Entry} {k:Nat} (h:¬ (80:Int)<(a.length:Int)+b.length) (hk:¬ (k:Int)<b.length):aH0 a b k=dS a b:=by
 unfold aH0 dS;rw[if_neg aA,take_of_length_le aA]
theorem mg_no {a b:List Entry} (h:(80:Int)<(a.length:Int)+b.length):a=dS a b:=by unfold dS;rw[if_pos aA]
theorem Merged_i (a b:List Entry) (ha:a.length≤1048576) (hb:b.length≤1048576):Ct1 prog 308 [.L a,.L b] [.L (dS a b)]:=
 vc func308 (fun hg => .c func235 (gB a ha) fun _ => .p (a.length:Int) (b.length:Int) (h:=by unfold I64;omega) <| .s ((80:Int)<(a.length:Int)+b.length)
  (fun h => .g 2 (show a=dS a b from mg_no h) <| .rt () ⟨trivial,trivial⟩)
  (fun h => .wt 18 <| .sh 2 <| .l (Γ:=Nat) (fun k=>k≤b.length) (fun k=>b.length - k) [17,18] [] [0,1] (fun k=>[vR 5 2,vI 19 k]) (fun k=>[oO 2 (aH0 a b k)]) 0 fun k hk t=>let hln:=bF1 a b k
   .s ((k:Int)<b.length)
    (fun h2 => .x b k (h:=by omega) fun e he ge => .c func349 (aL5 (aH0 a b k) e aA) (hg:=⟨ge,trivial⟩) fun _ => .g 5 (aQ0 (a:=a) he) <| .p k 1 (h:=by unfold I64;omega) <| .n t (k+1) [(2,5)])
    (fun h2 => .g 2 (bF2 (a:=a) (b:=b) (k:=k) h h2) <| .rt () ⟨trivial,trivial⟩))) aD
theorem Merged_s (a b:List Entry) (ha:a.length≤1048576) (hb:b.length≤1048576):Ct1 prog 332 [.L a,.L b] [.L (dS a b)]:=
 vc func332 (fun hg => .e Entry <| .as (inferInstance:Shape Entry) fR [] a 32 (by simp only[length_nil];unfold maxLen;omega) (by simp only[length_nil];omega) <| .p (a.length:Int) (b.length:Int) (h:=by unfold I64;omega) <| .s ((80:Int)<(a.length:Int)+b.length)
  (fun h => .g 2 (show ([]:List Entry)++a=dS a b from mg_no h) <| .rt () ⟨trivial,trivial⟩)
  (fun h => .sh 2 <| .l (Γ:=Nat) (fun k=>k≤b.length) (fun k=>b.length - k) [1] [] [0,1] (fun k=>[vR 5 2,vI 6 k]) (fun k=>[oO 2 (aH0 a b k)]) 0 fun k hk t=>let hln:=bF1 a b k
   .s ((k:Int)<b.length)
    (fun h2 => .x b k (h:=by omega) fun e he ge => .c func388 (aL4 (aH0 a b k) e aA) (hg:=⟨ge,trivial⟩) fun _ => .g 4 (aQ0 (a:=a) he) <| .p k 1 (h:=by unfold I64;omega) <| .n t (k+1) [(2,4)])
    (fun h2 => .g 2 (bF2 (a:=a) (b:=b) (k:=k) h h2) <| .rt () ⟨trivial,trivial⟩))) aD
theorem vic_step {home draw:Int} {k:Nat} (h:k<3):(bQ home draw).take k++[oT home draw k]=(bQ home draw).take (k+1):=by
 match k,h with
 | 0,_=>rfl
 | 1,_=>rfl
 | 2,_=>rfl
theorem cF6 {home:Int} (h:0≤home∧home≤3):I (pQ home 0 3)=I home:=by
 unfold pQ;rw[if_neg aA,if_neg aA,Int.min_def,if_pos aA]
theorem Victims_i (home draw:Int) (hh:0≤home∧home≤3) (hd:I64 draw):Ct1 prog 306 [.I home,.I draw] [.L (bQ home draw)]:=
 vc func306 (fun hg=>let hm:0≤max draw 0∧max draw 0≤9223372036854775807:=(by unfold I64 at hd;omega)
  .c func83 (BroughtID home 0 3) fun _ => .rv 8 (I home) (y:=I (pQ home 0 3)) (cF6 hh) <| .w Int 3 5 <| .l (Γ:=Nat) (fun k=>k≤3) (fun k=>3 - k) [0,1] [] [] (fun k=>[vR 5 0,vI 6 k]) (fun k=>[oR 0 3 ((bQ home draw).take k)]) 0 fun k hk t=>
   .s ((k:Int)<3)
    (fun h => .p home 1 (h:=by unfold I64;omega) <| .q (max draw 0) 3 (h:=by omega) <| .p (max draw 0 % 3) (k:Int) (h:=by unfold I64;omega) <| .q (max draw 0 % 3+k) 3 (h:=by omega) <| .p (home+1) ((max draw 0 % 3+k) % 3) (h:=by unfold I64;omega) <| .q (home+1+(max draw 0 % 3+k) % 3) 4 (h:=by omega) <|
     .a ((bQ home draw).take k) (oT home draw k) 8 (hy:=by have:=aC0 home draw k hh;show I64 _;unfold I64;omega) (h63:=by rw[length_take];unfold maxLen;omega) (hby:=by rw[length_take];omega) <| .g 0 (vic_step (home:=home) (draw:=draw) (k:=k) aA) <| .p k 1 (h:=by unfold I64;omega) <| .n t (k+1) [])
    (fun h => .g 0 (show (bQ home draw).take k=bQ home draw by rw[show k=3 by omega];rfl) <| .rt () ⟨trivial,trivial⟩)) aD
def fH (ts:List Task) (k:Nat):List Task:=ts.mapIdx (fun j t=>if j<k then eZ t else t)
theorem leaveSTo_zero (ts:List Task):fH ts 0=ts:=by
 apply ext_getElem?;intro i
 simp[fH,getElem?_mapIdx]
theorem leaveSTo_len (ts:List Task) (k:Nat):(fH ts k).length=ts.length:=by simp[fH]
theorem zB {ts:List Task} {k:Nat} {t:Task} (h:ts[k]? = some t):(fH ts k)[k]? = some t:=by simp[fH,getElem?_mapIdx,h]
theorem leaveSTo_set {ts:List Task} {k:Nat} {t y:Task} (h:ts[k]? = some t) (hy:eZ t=y):(fH ts k).set k y=fH ts (k+1):=by
 apply ext_getElem?;intro i
 obtain ⟨hl,rfl⟩:=gsi_.1 h
 simp only[fH,getElem?_set,getElem?_mapIdx,length_mapIdx]
 by_cases e:k=i
 ·subst e;simp[hl,hy]
 rw[if_neg e]
 cases hi:ts[i]? with
 | none=>rfl
 | some u=>
  have:(i<k)↔(i<k+1):=by omega
  simp[this]
theorem leaveSTo_all (ts:List Task):fH ts ts.length=dD ts:=by
 apply ext_getElem?;intro i
 simp only[fH,dD,getElem?_mapIdx,getElem?_map]
 cases hi:ts[i]? with
 | none=>rfl
 | some u=>have:=(gsi_.1 hi).1;simp[this]
theorem leaveS1_t {t:Task} (h:¬ t.state=4) (h2:¬ t.state=5):eZ t=iK t:=by unfold eZ;rw[if_neg (by simp[h,h2])]
theorem leaveS1_4 {t:Task} (h:t.state=4):eZ t=t:=by unfold eZ;rw[if_pos (.inl h)]
theorem leaveS1_5 {t:Task} (h:t.state=5):eZ t=t:=by unfold eZ;rw[if_pos (.inr h)]
noncomputable def iF (r:Run) (task:Int):Bool:=eM r && (inB task 0 ((r.tasks.length:Int) - 1) && (match r.tasks[task.toNat]? with | some t=>decide (t.state=3) | none=>false))
theorem aD7 {r:Run} {task:Int} (h:iF r task=true):RunIs r∧∃ t,0≤task∧r.tasks[task.toNat]? = some t∧t.state=3:=by
 unfold iF at h
 simp only[Bool.and_eq_true] at h
 obtain ⟨h1,h2,h3⟩:=h
 refine ⟨runIs.1 h1,?_⟩
 cases hq:r.tasks[task.toNat]? with
 | none=>rw[hq] at h3;cases h3
 | some t=>rw[hq] at h3;exact ⟨t,(inB_iff'.1 h2).1,rfl,by simpa using h3⟩
noncomputable def cA (r:Run) (task:Int):Run:=if iF r task then aJ3 r task.toNat else r

def cO (r r':Run) (k:Nat):List Int:=(eI r'.tasks 2 k).filter (fun t => !decide (t∈aR r.tasks 2))
theorem freshTo_zero (r r':Run):cO r r' 0=[]:=rfl
theorem freshTo_len (r r':Run) (k:Nat):(cO r r' k).length≤k:=Nat.le_trans (length_filter_le _ _) (iC _ _ _)
theorem tin_mem {ts:List Task} {s:Int} {k:Nat}:(k:Int)∈aR ts s↔∃ h:k<ts.length,ts[k].state=s:=by
 unfold aR eI
 rw[mem_filterMap]
 constructor
 ·rintro ⟨a,ha,h⟩
  rw[mem_range] at ha
  split at h
  ·next e=>
   simp only[Option.some.injEq] at h
   have:a=k:=by omega
   subst this
   rw[getElem?_eq_getElem ha] at e
   exact ⟨ha,by simpa using e⟩
  cases h
 rintro ⟨h,e⟩
 exact ⟨k,by simpa using h,by rw[if_pos (by rw[getElem?_eq_getElem h];simpa using e)]⟩
theorem aI4 {r r':Run} {k:Nat} (h:k<r'.tasks.length) (hs:¬ r'.tasks[k].state=2):cO r r' (k+1)=cO r r' k:=by unfold cO;rw[xA h hs]
theorem freshTo_f2 {r r':Run} {k:Nat} (h:k<r'.tasks.length) (h2:k<r.tasks.length) (hs:r.tasks[k].state=2):cO r r' (k+1)=cO r r' k:=by
 by_cases hq:r'.tasks[k].state=2
 ·unfold cO
  rw[sF h hq,filter_append]
  have:(k:Int)∈aR r.tasks 2:=tin_mem.2 ⟨h2,hs⟩
  simp[this]
 exact aI4 h hq
theorem aR6 {r r':Run} {k:Nat} (h:k<r'.tasks.length) (hs:r'.tasks[k].state=2) (hn:r.tasks.length≤k∨∃ h2:k<r.tasks.length,¬ r.tasks[k].state=2):cO r r' (k+1)=cO r r' k++[(k:Int)]:=by
 unfold cO
 rw[sF h hs,filter_append]
 have:¬ (k:Int)∈aR r.tasks 2:=fun hm=>by
  obtain ⟨h2,e⟩:=tin_mem.1 hm
  rcases hn with hn | ⟨_,hn⟩
  ·omega
  exact hn e
 simp[this]
structure StJ (sh:Nat) (prio id:Int) (xss:List (List Entry)) (seq:Int) (ts:List Int) (g:Int×List (List Entry)):Prop where
 sq:g.1=seq+(ts.length:Int)
 sl:g.2=gY sh prio id ts xss seq
theorem StJ.start {sh:Nat} {prio id:Int} {xss:List (List Entry)} {seq:Int}:StJ sh prio id xss seq [] (seq,xss):=⟨by simp,rfl⟩
theorem StJ.at {sh:Nat} {prio id:Int} {xss:List (List Entry)} {seq:Int} {ts:List Int} {g:Int×List (List Entry)} (h:StJ sh prio id xss seq ts g) (hs:sh<xss.length):∃ l,g.2[sh]? = some l∧l.length=(xss.getD sh []).length+ts.length:=by
 refine ⟨g.2.getD sh [],getD_some (by rw[h.sl,nF];exact hs),by rw[h.sl];exact nG sh prio id ts xss seq hs⟩
theorem StJ.step {sh:Nat} {prio id:Int} {xss:List (List Entry)} {seq:Int} {ts:List Int} {g:Int×List (List Entry)} (h:StJ sh prio id xss seq ts g) {l:List Entry} (hl:g.2[sh]? = some l) (t:Int):StJ sh prio id xss seq (ts++[t]) (g.1+1,g.2.set sh (lT l ⟨prio,g.1,id,t⟩)):=by
 have e:g.2.getD sh []=l:=by rw[getD_eq_getElem?_getD,hl];rfl
 refine ⟨by show g.1+1=_;rw[h.sq,length_append];simp only[length_singleton];omega,?_⟩
 show g.2.set sh _=_
 rw[yO,← h.sl,← h.sq,e]
theorem cE4 {a b c d:Int} (ha:I64 a) (hb:I64 b) (hc:I64 c) (hd:I64 d):Entry.ok ⟨a,b,c,d⟩:=⟨ha,hb,hc,hd⟩
theorem fr_f1 {was r:Run} {k:Nat} {t:Task} (ht:r.tasks[k]? = some t) (h:¬ t.state=2):cO was r (k+1)=cO was r k:=by
 obtain ⟨hk,rfl⟩:=gsi_.1 ht;exact aI4 hk h
theorem fr_f2 {was r:Run} {k:Nat} {t u:Task} (ht:r.tasks[k]? = some t) (hu:was.tasks[k]? = some u) (h:u.state=2):cO was r (k+1)=cO was r k:=by
 obtain ⟨hk,rfl⟩:=gsi_.1 ht
 obtain ⟨hk2,rfl⟩:=gsi_.1 hu;exact freshTo_f2 hk hk2 h
theorem fr_t1 {was r:Run} {k:Nat} {t:Task} (ht:r.tasks[k]? = some t) (h:t.state=2) (hl:¬ (k:Int)<was.tasks.length):cO was r (k+1)=cO was r k++[(k:Int)]:=by
 obtain ⟨hk,rfl⟩:=gsi_.1 ht;exact aR6 hk h (.inl aA)
theorem fr_t2 {was r:Run} {k:Nat} {t u:Task} (ht:r.tasks[k]? = some t) (h:t.state=2) (hu:was.tasks[k]? = some u) (h2:¬ u.state=2):cO was r (k+1)=cO was r k++[(k:Int)]:=by
 obtain ⟨hk,rfl⟩:=gsi_.1 ht
 obtain ⟨hk2,rfl⟩:=gsi_.1 hu;exact aR6 hk h (.inr ⟨hk2,h2⟩)
abbrev uU (r:Run) (ts:List Int) (seq:Int) (xss:List (List Entry)) (q:Int×List (List Entry)):Prop:=q=(seq+(ts.length:Int),gY (aX r.id).toNat r.plan.prio r.id ts xss seq)
theorem stk_q {r:Run} {ts:List Int} {seq:Int} {xss:List (List Entry)} {k:Nat} {g:Int×List (List Entry)} (h:StJ (aX r.id).toNat r.plan.prio r.id xss seq (ts.take k) g) (hk:¬ (k:Int)<ts.length):uU r ts seq xss g:=by
 have h1:=h.sq
 have h2:=h.sl
 rw[take_of_length_le aA] at h1 h2
 exact Prod.ext h1 h2
noncomputable def bY8 (yb sn rn:Nat) (now seq:Int) (xss:List (List Entry)) (r:Run) (ts:List Int) (hs:4≤xss.length) (hln:(xss.getD (aX r.id).toNat []).length+ts.length≤1048576) (hsq:0≤seq∧seq≤4000000000) (gr:r.ok):D prog (uU r ts seq xss):=
 let hsr:=iE r.id
 .c func348 (ShelfOf_i r.id) fun _=>
  .la (Γ:=Nat×Int×List (List Entry)) (fun g=>g.1≤ts.length∧StJ (aX r.id).toNat r.plan.prio r.id xss seq (ts.take g.1) g.2) (fun g=>ts.length - g.1) (fun g=>[vI 14 g.1]) (fun g=>[oO sn g.2.2,oB yb [.v (I now),.v (I g.2.1),.r sn,.r rn]]) (0,seq,xss) (h:=⟨Nat.zero_le _,StJ.start⟩) fun g hJ tk=>
   let hq:=hJ.2.sq
   let htl:(ts.take g.1).length≤ts.length:=(by rw[length_take];omega)
   .s ((g.1:Int)<ts.length)
    (fun h => .ex (hJ.2.at aA) fun l hl => .x ts g.1 (h:=by omega) fun t ht gt => .d sn hl.1 fun _ => .ie (aX r.id).toNat (aX r.id) (he:=by omega) <|
     .c func349 (aL5 l ⟨r.plan.prio,g.2.1,r.id,t⟩ (by have:=hl.2;omega)) (hg:=⟨cE4 gr.2.1.1 (by unfold I64;omega) gr.1 gt,trivial⟩) fun _ => .ie (aX r.id).toNat (aX r.id) (he:=by omega) <| .wt 42 <| .f sn g.2.2 (lT l ⟨r.plan.prio,g.2.1,r.id,t⟩) (h:=trivial) <|
     .p g.2.1 1 (h:=by unfold I64;omega) <| .p g.1 1 (h:=by unfold I64;omega) <| .n tk (g.1+1,g.2.1+1,g.2.2.set (aX r.id).toNat (lT l ⟨r.plan.prio,g.2.1,r.id,t⟩)) [] (h1:=⟨by show g.1+1≤_;omega,by show StJ _ _ _ _ _ (ts.take (g.1+1)) _;rw[← dJ ht];exact hJ.2.step hl.1 t⟩) (h2:=by show ts.length - (g.1+1)<_;omega))
    (fun h => .rt g.2 (stk_q hJ.2 h))
def sA (r r':Run) (j:Nat):List Int:=((aR r'.tasks 2).take j).filter (fun t => !decide (t∈aR r.tasks 2))
theorem chgTo_len (r r':Run) (j:Nat):(sA r r' j).length≤j:=Nat.le_trans (length_filter_le _ _) (by rw[length_take];omega)
theorem chgTo_t {r r':Run} {j:Nat} {v:Int} (h:(aR r'.tasks 2)[j]? = some v) (hn:¬ v∈aR r.tasks 2):sA r r' j++[v]=sA r r' (j+1):=by
 unfold sA
 rw[← dJ h,filter_append]
 simp[hn]
theorem chgTo_f {r r':Run} {j:Nat} {v:Int} (h:(aR r'.tasks 2)[j]? = some v) (hn:v∈aR r.tasks 2):sA r r' j=sA r r' (j+1):=by
 unfold sA
 rw[← dJ h,filter_append]
 simp[hn]
theorem chgTo_e {r r':Run} {j:Nat} (h:¬ (j:Int)<(aR r'.tasks 2).length):sA r r' j=fA r r':=by
 unfold sA fA
 rw[take_of_length_le aA]
noncomputable def aB5 (yb sn rn w:Nat) (now seq:Int) (xss:List (List Entry)) (runs:List Run) (k:Nat) (ki:Int) (hki:ki=k) (r r':Run) (hr:runs[k]? = some r) (hrl:r.tasks.length≤1000) (hrl':r'.tasks.length≤1000) (gr:r.ok) (gr':r'.ok) (hs:4≤xss.length) (hln:(xss.getD (aX r'.id).toNat []).length≤1000000) (hsq:0≤seq∧seq≤4000000000)
  (how:D prog (uU r' (fA r r') seq xss)→D prog (uU r' (fA r r') seq xss)):D prog (uU r' (fA r r') seq xss):=
 let hti:(aR r'.tasks 2).length≤r'.tasks.length:=iC r'.tasks 2 r'.tasks.length
 let hff:=oI r r'
 .d rn hr fun _ => .ie k ki (he:=hki) <| .c func30 (lF r 2 aA) (hg:=⟨gr,trivial⟩) fun _ => .ie k ki (he:=hki)<|how <| .w Int 3 7 <| .ie k ki (he:=hki) <| .c func30 (lF r' 2 aA) (hg:=⟨gr',trivial⟩) fun _=>
  .la (Γ:=Nat) (fun j=>j≤(aR r'.tasks 2).length) (fun j=>(aR r'.tasks 2).length - j) (fun j=>[vI 35 j,vR 7 w]) (fun j=>[oR w 3 (sA r r' j)]) 0 fun j hj t=>let hcl:=chgTo_len r r' j
   .s ((j:Int)<(aR r'.tasks 2).length)
    (fun h => .x (aR r'.tasks 2) j (h:=by omega) fun v hv gv => .c func230 (bV9 (aR r.tasks 2) v (by have:=iC r.tasks 2 r.tasks.length;show (eI r.tasks 2 r.tasks.length).length≤_;omega)) fun _ => .u (v∈aR r.tasks 2)
     (fun h2 => .a (sA r r' j) v 8 (h63:=by unfold maxLen;omega) (hby:=by omega) <| .g w (chgTo_t hv h2) <| .p j 1 (h:=by unfold I64;omega) <| .n t (j+1) [])
     (fun h2 => .g w (chgTo_f hv h2) <| .p j 1 (h:=by unfold I64;omega) <| .n t (j+1) []))
    (fun h => .g w (chgTo_e (r:=r) h) <| .ie k ki (he:=hki) <| .in_ func237 (bY8 yb sn rn now seq xss r' (fA r r') hs aA hsq gr') fun q hq => .wt 999 <| .f rn runs r' (h:=gr') <| .rt q hq)
theorem lay_q {was r:Run} {seq:Int} {xss:List (List Entry)} {k:Nat} {g:Int×List (List Entry)} (h:StJ (aX r.id).toNat r.plan.prio r.id xss seq (cO was r k) g) (hk:k≤r.tasks.length) (hn:¬ (k:Int)<r.tasks.length):uU r (fA was r) seq xss g:=by
 have e:cO was r k=fA was r:=by rw[show k=r.tasks.length by omega];rfl
 exact Prod.ext (by rw[← e];exact h.sq) (by rw[← e];exact h.sl)
noncomputable def layD (z:Bool) (b sn rn:Nat) (now seq:Int) (xss:List (List Entry)) (was r:Run) (hs:4≤xss.length) (hln:(xss.getD (aX r.id).toNat []).length≤1000000) (hrl:r.tasks.length≤1000) (hsq:0≤seq∧seq≤4000000000) (gr:r.ok) (hz:z=true→was.tasks=[]):D prog (uU r (fA was r) seq xss):=
 let hsr:=iE r.id
 .c func387 (ShelfOf_s r.id) fun _=>
  .la (Γ:=Nat×Int×List (List Entry)) (fun g=>g.1≤r.tasks.length∧StJ (aX r.id).toNat r.plan.prio r.id xss seq (cO was r g.1) g.2) (fun g=>r.tasks.length - g.1) (fun g=>[vI 8 g.1]) (fun g=>[oO sn g.2.2,oB b [.v (I now),.v (I g.2.1),.r sn,.r rn]]) (0,seq,xss) (h:=⟨Nat.zero_le _,by rw[freshTo_zero];exact StJ.start⟩) fun g hJ tk=>
   let hq:=hJ.2.sq
   let hfl:=freshTo_len was r g.1
   .s ((g.1:Int)<r.tasks.length)
    (fun h => .x r.tasks g.1 (h:=by omega) fun t ht gt=>
     let skip:cO was r (g.1+1)=cO was r g.1→D prog (uU r (fA was r) seq xss):=fun hf => .p g.1 1 (h:=by unfold I64;omega) <| .n tk (g.1+1,g.2) [] (h1:=⟨by show g.1+1≤_;omega,by show StJ _ _ _ _ _ (cO was r (g.1+1)) _;rw[hf];exact hJ.2⟩) (h2:=by show r.tasks.length - (g.1+1)<_;omega)
     let put:cO was r (g.1+1)=cO was r g.1++[(g.1:Int)]→D prog (uU r (fA was r) seq xss):=fun hf => .ex (hJ.2.at aA) fun l hl => .d sn hl.1 fun _ => .ie (aX r.id).toNat (aX r.id) (he:=by omega) <|
      .c func388 (aL4 l ⟨r.plan.prio,g.2.1,r.id,g.1⟩ (by have:=hl.2;omega)) (hg:=⟨cE4 gr.2.1.1 (by unfold I64;omega) gr.1 (by unfold I64;omega),trivial⟩) fun _ => .ie (aX r.id).toNat (aX r.id) (he:=by omega) <| .wt 60 <| .f sn g.2.2 (lT l ⟨r.plan.prio,g.2.1,r.id,g.1⟩) (h:=trivial) <|
      .p g.2.1 1 (h:=by unfold I64;omega) <| .p g.1 1 (h:=by unfold I64;omega) <| .n tk (g.1+1,g.2.1+1,g.2.2.set (aX r.id).toNat (lT l ⟨r.plan.prio,g.2.1,r.id,g.1⟩)) [] (h1:=⟨by show g.1+1≤_;omega,by show StJ _ _ _ _ _ (cO was r (g.1+1)) _;rw[hf];exact hJ.2.step hl.1 g.1⟩) (h2:=by show r.tasks.length - (g.1+1)<_;omega)
     .u (t.state=2)
      (fun h2=>skip (fr_f1 ht h2))
      (fun h2 => .s ((g.1:Int)<was.tasks.length)
       (fun h3=>match z,hz with
        | true,hz => .ab (by rw[hz rfl] at h3;simp at h3;omega)
        | false,_ => .x was.tasks g.1 (h:=by omega) fun u hu gu => .s (u.state=2)
         (fun h4=>skip (fr_f2 ht hu h4))
         (fun h4=>put (fr_t2 ht h2 hu h4)))
       (fun h3=>put (fr_t1 ht h2 h3))))
    (fun h => .rt g.2 (lay_q hJ.2 hJ.1 h))
theorem aV3 {y:Yard} {k:Nat} {was r:Run} {q:Int×List (List Entry)} (hq:uU r (fA was r) y.seq y.shelf q):(⟨y.now,q.1,q.2,y.runs.set k r⟩:Yard)=dN y k was r:=by
 have hq:q=_:=hq
 rw[hq];rfl
theorem bA0 (y:Yard) (e:Int) (k:Nat) (was r:Run) (he:e=k) (hk:y.runs[k]? = some was) (hss:4≤y.shelf.length) (hrl:r.tasks.length≤1000) (hln:(y.shelf.getD (aX r.id).toNat []).length≤1000000) (hsq:0≤y.seq∧y.seq≤4000000000) (gr:r.ok) (gy:(dN y k was r).ok) :
  Cw prog 336 [.ow inferInstance y,.bw (.I e),.ow inferInstance r] (fun _:Unit=>True) (fun _=>[.S (dN y k was r)]):=
 Cw.one (dN y k was r) (rk:=fun x=>[.S x])<|vcw func336 (fun hg => .d 1 hk fun gw => .ie k e (he:=he) <| .ie k e (he:=he) <| .in_ func328 (layD false 11 0 1 y.now y.seq y.shelf was r hss hln hrl hsq gr (fun z=>by cases z)) fun q hq=>
  .wt 999 <| .f 1 y.runs r (h:=gr) <| .rt ⟨y.now,q.1,q.2,y.runs.set k r⟩ ⟨aV3 hq,by rw[aV3 hq];exact gy,trivial⟩) aD
theorem as_b {P:Program} {F:FuncId} {ps:List Par} {b:Bool} {w:World} {us:List Value} (C:Ct1 P F ps [.B b]) (hp:Pars w us ps):Calls P F us.toArray w fun e w'=>e = .returned (.bool b)∧St w w' []:=(C.run w us trivial hp).mono fun e W ⟨_,vs,rs,_,he,hr,st⟩=>by
 match vs,hr with
 | [u],hr=>
  obtain ⟨r1,r2,⟨h1,h4⟩,h2,h3⟩:=hr
  have h2:r2=[]:=h2
  subst h1 h4 h2 h3
  exact ⟨he,st⟩
theorem as_s {P:Program} {F:FuncId} {ps:List Par} {x:Yard} {w:World} {us:List Value} (C:Ct1 P F ps [.S x]) (hp:Pars w us ps):Calls P F us.toArray w fun e w'=>∃ (cs':List Value) (fp':List Nat),e = .returned (.agg cs'.toArray)∧St w w' [Res.own (.agg cs'.toArray) x fp']:=(C.run w us trivial hp).mono fun e W ⟨_,vs,rs,_,he,hr,st⟩=>by
 match vs,hr with
 | [u],hr=>
  obtain ⟨r1,r2,h1,h2,h3⟩:=hr
  obtain ⟨cs,fp,hv1,hr1⟩:=h1
  have h2:r2=[]:=h2
  subst h2 h3 hr1 hv1
  have st2:St w W (Res.cs cs x fp::[]):=st
  exact ⟨cs,fp,he,st2.trade1 rfl fun h=>⟨⟨cs,rfl,h.1⟩,h.2⟩⟩
theorem CopyYardR_i (y:Yard) (hw:y.wt≤1048576):Ct1 prog 119 [.S y] [.cl [.v (I y.now),.v (I y.seq),.o (inferInstance:Shape (List Entry)) y.shelf,.r (inferInstance:Shape Run) 55 y.runs]]:=
 vc func119 (fun (hg:gin [Par.S y])=>let hb:=eW y hw
  .wt 14 <| .r0 (inferInstance:Shape (List Entry)) 217 <| .l (Γ:=Nat) (fun k=>k≤y.shelf.length) (fun k=>y.shelf.length - k) [1,2,3,14,15] [2,3] [0,1] (fun k=>[vI 16 k]) (fun k=>[oR 5 217 (y.shelf.take k),oB 4 [.v (I y.now),.v (I y.seq),.r 5,.v (.slice none 0 0)]]) 0 fun k hk t=>
   .s ((k:Int)<y.shelf.length)
    (fun h => .x y.shelf k (h:=by omega) fun l hl gl => .c func235 (gB l (kY hl hw)) fun _ => .a (y.shelf.take k) l 24 (hy:=trivial) (h63:=by rw[length_take];unfold maxLen;omega) (hby:=by rw[length_take];omega) <| .g 5 (dJ hl) <| .p k 1 (h:=by unfold I64;omega) <| .n t (k+1) [])
    (fun h => .g 5 (lQ h) <| .r0 (inferInstance:Shape Run) 55 <| .l (Γ:=Nat) (fun k=>k≤y.runs.length) (fun k=>y.runs.length - k) [1,2,3,29,30] [2,3] [0,1] (fun k=>[vI 31 k]) (fun k=>[oR 5 217 y.shelf,oR 6 55 (y.runs.take k),oB 4 [.v (I y.now),.v (I y.seq),.r 5,.r 6]]) 0 fun k hk t=>
     .s ((k:Int)<y.runs.length)
      (fun h2 => .x y.runs k (h:=by omega) fun r hr gr=>let hrl:=jH hw hr
       .c func236 (yH r hrl.2.2 hrl.2.1) (hg:=⟨gr,trivial⟩) fun _ => .a (y.runs.take k) r 96 (hy:=gr) (h63:=by rw[length_take];unfold maxLen;omega) (hby:=by rw[length_take];omega) <| .g 6 (dJ hr) <| .p k 1 (h:=by unfold I64;omega) <| .n t (k+1) [])
      (fun h2 => .g 6 (lQ h2) <| .rt () ⟨trivial,trivial⟩))) aD
theorem YardOkT {y:Yard} (hc:Shape.C w cs y fp) (hw:y.wt≤1048576) :
  Calls prog 185 #[.agg cs.toArray] w fun e w'=>e = .returned (.bool (aM y))∧St w w' []:=as_b (us:=[.agg cs.toArray]) (kN y hw) ⟨⟨cs,fp,rfl,hc⟩,trivial⟩
theorem CopyYardT {y:Yard} (hc:Shape.C w cs y fp) (hw:y.wt≤1048576) :
  Calls prog 184 #[.agg cs.toArray] w fun e w'=>∃ (cs':List Value) (fp':List Nat),e = .returned (.agg cs'.toArray)∧St w w' [Res.own (.agg cs'.toArray) y fp']:=as_s (us:=[.agg cs.toArray]) (fN y hw) ⟨⟨cs,fp,rfl,hc⟩,trivial⟩
theorem CopyYardR_s (y:Yard) (hw:y.wt≤1048576):Ct1 prog 184 [.S y] [.cl [.v (I y.now),.v (I y.seq),.o (inferInstance:Shape (List Entry)) y.shelf,.r (inferInstance:Shape Run) 55 y.runs]]:=
 vc func184 (fun (hg:gin [Par.S y])=>let hb:=eW y hw
  .wt 4 <| .r0 (inferInstance:Shape (List Entry)) 217 <| .l (Γ:=Nat) (fun k=>k≤y.shelf.length) (fun k=>y.shelf.length - k) [1,2,3] [2,3] [0,1] (fun k=>[vI 4 k]) (fun k=>[oR 5 217 (y.shelf.take k),oB 4 [.v (I y.now),.v (I y.seq),.r 5,.v (.slice none 0 0)]]) 0 fun k hk t=>
   .s ((k:Int)<y.shelf.length)
    (fun h => .x y.shelf k (h:=by omega) fun l hl gl=>let hll:=kY hl hw
     .e Entry <| .as (inferInstance:Shape Entry) fR [] l 32 (by simp only[length_nil];unfold maxLen;omega) (by simp only[length_nil];omega) <| .a (y.shelf.take k) l 24 (hy:=trivial) (h63:=by rw[length_take];unfold maxLen;omega) (hby:=by rw[length_take];omega) <| .g 5 (dJ hl) <| .p k 1 (h:=by unfold I64;omega) <| .n t (k+1) [])
    (fun h => .g 5 (lQ h) <| .r0 (inferInstance:Shape Run) 55 <| .l (Γ:=Nat) (fun k=>k≤y.runs.length) (fun k=>y.runs.length - k) [1,2,3] [2,3] [0,1] (fun k=>[vI 5 k]) (fun k=>[oR 5 217 y.shelf,oR 6 55 (y.runs.take k),oB 4 [.v (I y.now),.v (I y.seq),.r 5,.r 6]]) 0 fun k hk t=>
     .s ((k:Int)<y.runs.length)
      (fun h2 => .x y.runs k (h:=by omega) fun r hr gr=>let hrl:=jH hw hr
       .c func288 (nB r hrl.2.2 hrl.2.1) (hg:=⟨gr,trivial⟩) fun _ => .a (y.runs.take k) r 96 (hy:=gr) (h63:=by rw[length_take];unfold maxLen;omega) (hby:=by rw[length_take];omega) <| .g 6 (dJ hr) <| .p k 1 (h:=by unfold I64;omega) <| .n t (k+1) [])
      (fun h2 => .g 6 (lQ h2) <| .rt () ⟨trivial,trivial⟩))) aD
def oG (t:Task):Task:=⟨if t.need - 1=0 then 2 else t.state,t.need - 1,t.try_,t.until_⟩
def tS (ts:List Task) (k:Int):List Task:=match ts[k.toNat]? with | some t=>ts.set k.toNat (oG t) | none=>ts
def rB (ts:List Task) (l:List Int):List Task:=l.foldl tS ts
theorem aT7 (ts:List Task) (l:List Int):rB ts (l.take 0)=ts:=rfl
theorem behSt_at {ts:List Task} {k:Int} {t:Task} (h:ts[k.toNat]? = some t):tS ts k=ts.set k.toNat (oG t):=by unfold tS;rw[h]
theorem bU3 {ts:List Task} {l:List Int} {j:Nat} {k:Int} {t u:Task} (hl:l[j]? = some k) (h:(rB ts (l.take j))[k.toNat]? = some t) (hu:oG t=u):rB ts (l.take (j+1))=(rB ts (l.take j)).set k.toNat u:=by
 obtain ⟨hj,rfl⟩:=gsi_.1 hl
 rw[take_succ_eq_append_getElem hj]
 unfold rB at h ⊢
 rw[foldl_append,foldl_cons,foldl_nil,behSt_at h,hu]
theorem bR3 {t:Task} (h:t.need - 1=0):oG t=⟨2,t.need - 1,t.try_,t.until_⟩:=by unfold oG;rw[if_pos h]
theorem bR2 {t:Task} (h:¬ t.need - 1=0):oG t=⟨t.state,t.need - 1,t.try_,t.until_⟩:=by unfold oG;rw[if_neg h]
theorem behSt_len (ts:List Task) (k:Int):(tS ts k).length=ts.length:=by unfold tS;split <;> simp
theorem aL0 (ts:List Task):∀ l:List Int,(rB ts l).length=ts.length
 | []=>rfl
 | k::l=>by
  show (rB (tS ts k) l).length=_
  rw[aL0 _ l,behSt_len]
theorem behSt_all {P:Task→Prop} {ts:List Task} (h:∀ t∈ts,P t) (hs:∀ t,P t→P (oG t)) (k:Int):∀ t∈tS ts k,P t:=by
 intro t ht
 unfold tS at ht
 split at ht
 ·next u hu=>
  rcases mem_or_eq_of_mem_set ht with h1 | rfl
  ·exact h t h1
  exact hs u (h u (mem_of_getElem? hu))
 exact h t ht
theorem aL1 {P:Task→Prop} (hs:∀ t,P t→P (oG t)):∀ (l:List Int) {ts:List Task},(∀ t∈ts,P t)→∀ t∈rB ts l,P t
 | [],ts,h=>h
 | k::l,ts,h=>aL1 hs l (behSt_all h hs k)
theorem behSt_need {ts:List Task} {a b:Int} (h:∀ t∈ts,a≤t.need∧t.need≤b) (k:Int):∀ t∈tS ts k,a - 1≤t.need∧t.need≤b:=by
 intro t ht
 unfold tS at ht
 split at ht
 ·next u hu=>
  rcases mem_or_eq_of_mem_set ht with h1 | rfl
  ·have:=h t h1;omega
  have:=h u (mem_of_getElem? hu)
  simp only[oG];omega
 have:=h t ht;omega
theorem aT8:∀ (l:List Int) {ts:List Task} {a b:Int},(∀ t∈ts,a≤t.need∧t.need≤b)→∀ t∈rB ts l,a - l.length≤t.need∧t.need≤b
 | [],ts,a,b,h=>fun t ht=>by have:=h t ht;simp;omega
 | k::l,ts,a,b,h=>fun t ht=>by
  have:=aT8 l (behSt_need h k) t ht
  simp only[length_cons];omega
noncomputable def cT (r:Run) (i:Nat) (t:Task):List Task:=rB (r.tasks.set i ⟨4,t.need,t.try_,0⟩) (bK r.plan (i:Int))
noncomputable def bH5 (r:Run) (i:Nat) (t:Task):Run:=⟨r.id,r.plan,if aS (cT r i t) 4=((cT r i t).length:Int) then 2 else r.state,cT r i t⟩
noncomputable def jE (r:Run) (i:Nat):Run:=match r.tasks[i]? with | some t=>bH5 r i t | none=>r
theorem aJ8 {r:Run} {i:Nat} {t:Task} (h:r.tasks[i]? = some t):jE r i=bH5 r i t:=by unfold jE;rw[h]
theorem uO (r:Run) (i:Nat) (t:Task):(cT r i t).length=r.tasks.length:=by unfold cT;rw[aL0,length_set]
theorem oM (r:Run) (i:Nat):(jE r i).id=r.id∧(jE r i).plan=r.plan∧(jE r i).tasks.length=r.tasks.length∧((jE r i).state=r.state∨(jE r i).state=2):=by
 unfold jE
 split
 ·next t h=>
  refine ⟨rfl,rfl,uO r i t,?_⟩
  show (if _ then (2:Int) else r.state)=_∨(if _ then (2:Int) else r.state)=_
  split
  ·exact .inr rfl
  exact .inl rfl
 exact ⟨rfl,rfl,rfl,.inl rfl⟩
theorem doneR_ok {r:Run} (h:r.ok) (i:Nat):(jE r i).ok:=by
 obtain ⟨h1,h2,h3,h4⟩:=oM r i
 unfold Run.ok at h ⊢
 rw[h1,h2]
 refine ⟨h.1,h.2.1,?_⟩
 rcases h4 with h4 | h4
 ·rw[h4];exact h.2.2
 rw[h4];unfold I64;omega
theorem doneT_state {r:Run} (h:RunIs r) {i:Nat} {t:Task} (ht:r.tasks[i]? = some t) (h3:t.state=3):cB (cT r i t)=(if aS (cT r i t) 4=((cT r i t).length:Int) then 2 else r.state):=by
 have hm:=mem_of_getElem? ht
 have hl:=h.live hm h3
 have h56:∀ u∈cT r i t,¬ u.state=5∧¬ u.state=6:=by
  unfold cT
  refine aL1 (P:=fun u=>¬ u.state=5∧¬ u.state=6) (fun u hu => ?_) _ (fun u hu => ?_)
  ·unfold oG;simp only;split
   ·omega
   exact hu
  rcases mem_or_eq_of_mem_set hu with h1 | rfl
  ·exact h.none5 hm h3 u h1
  exact ⟨by show ¬ (4:Int)=5;omega,by show ¬ (4:Int)=6;omega⟩
 have c5:=yA (s:=5) (fun u hu=>(h56 u hu).1)
 have c6:=yA (s:=6) (fun u hu=>(h56 u hu).2)
 unfold cB
 by_cases c4:aS (cT r i t) 4=((cT r i t).length:Int)
 ·rw[if_pos c4,if_pos c4]
 rw[if_neg c4,if_neg c4,if_neg aA,if_neg aA,if_pos ⟨c5,c6⟩,hl.1]
theorem doneTs_st {r:Run} (h:RunIs r) {i:Nat} {t:Task} (ht:r.tasks[i]? = some t):∀ u∈cT r i t,1≤u.state∧u.state≤6:=by
 unfold cT
 refine aL1 (P:=fun u=>1≤u.state∧u.state≤6) (fun u hu => ?_) _ (fun u hu => ?_)
 ·unfold oG;simp only;split
  ·omega
  exact hu
 rcases mem_or_eq_of_mem_set hu with h1 | rfl
 ·obtain ⟨k,hk,rfl⟩:=getElem_of_mem h1
  exact (h.task k hk hk).1
 exact ⟨by show (1:Int)≤4;omega,by show (4:Int)≤6;omega⟩
theorem RunIs.need {r:Run} (h:RunIs r):∀ t∈r.tasks,0≤t.need∧t.need≤30:=by
 intro t ht
 obtain ⟨k,hk,rfl⟩:=getElem_of_mem ht
 have h2:=(h.task k hk hk).2.1
 have h3:=aG5 r (aT r.plan (k:Int))
 have h4:=lE r.plan (k:Int)
 rw[h2];unfold iI;omega
theorem done_need {r:Run} (h:RunIs r) {i:Nat} {t:Task} (ht:r.tasks[i]? = some t) (l:List Int) (hl:l.length≤30):∀ u∈rB (r.tasks.set i ⟨4,t.need,t.try_,0⟩) l,-30≤u.need∧u.need≤30:=by
 intro u hu
 have:=aT8 l (a:=0) (b:=30) (fun u hu=>by
  rcases mem_or_eq_of_mem_set hu with h1 | rfl
  ·exact h.need u h1
  exact h.need t (mem_of_getElem? ht)) u hu
 omega
theorem bN1 {i:Int} (h:0≤i):((i.toNat:Nat):Int)=i:=Int.toNat_of_nonneg h
theorem aN5 {t:Task} {a:Int} (g:t.ok) (ha:0≤a∧a≤100):Task.ok ⟨a,t.need,t.try_,0⟩:=⟨by show I64 a;unfold I64;omega,g.2.1,g.2.2.1,by show I64 0;unfold I64;omega⟩
theorem aH3 {r:Run} (h:RunIs r):r.plan.edges.length≤1048576∧r.tasks.length≤1048576:=by have:=h.small;omega
theorem rd_ts {r:Run} {task:Int} {t:Task} {k:Nat} (h0:0≤task) (hk:k=(bK r.plan task).length):rB (r.tasks.set task.toNat ⟨4,t.need,t.try_,0⟩) ((bK r.plan task).take k)=cT r task.toNat t:=by
 unfold cT;rw[bN1 h0,hk,take_length]
theorem rd_in {r:Run} {task:Int} {t:Task} (hR:RunIs r) (ht:r.tasks[task.toNat]? = some t) (k:Nat) (hk:k<(bK r.plan task).length):∃ q:Int×Task,(bK r.plan task)[k]? = some q.1∧(rB (r.tasks.set task.toNat ⟨4,t.need,t.try_,0⟩) ((bK r.plan task).take k))[q.1.toNat]? = some q.2∧0≤q.1∧(-30≤q.2.need∧q.2.need≤30):=by
 have hb:=behind_rng r.plan task _ (getElem_mem hk)
 have hl:=aL0 (r.tasks.set task.toNat ⟨4,t.need,t.try_,0⟩) ((bK r.plan task).take k)
 rw[length_set] at hl
 have hil:=hR.len
 have hx:(bK r.plan task)[k].toNat<(rB (r.tasks.set task.toNat ⟨4,t.need,t.try_,0⟩) ((bK r.plan task).take k)).length:=by omega
 exact ⟨((bK r.plan task)[k],_),getElem?_eq_getElem hk,getElem?_eq_getElem hx,hb.1,done_need hR ht _ (by rw[length_take];have:=uR r.plan task;omega) _ (getElem_mem hx)⟩
theorem zS {u:Task} (g:u.ok) (h : -30≤u.need∧u.need≤30) (s:Int) (hs:I64 s):Task.ok ⟨s,u.need - 1,u.try_,u.until_⟩:=⟨hs,by show I64 (u.need - 1);unfold I64;omega,g.2.2.1,g.2.2.2⟩
abbrev runB (r:Run) (ts:List Task) (b e t:Nat):List (Nat×To):=[oB b [.v (I r.id),.v (I r.plan.prio),.v (I r.plan.most),.v (I r.plan.wait),.v (I r.plan.tasks),.r e,.v (I r.state),.r t],oO t ts]
theorem leaveTo_end {ts:List Task} {b:Int} {k:Nat} (hk:k≤ts.length) (h:¬ (k:Int)<ts.length):jJ ts b k=gQ ts b:=by rw[show k=ts.length by omega,leaveTo_all]
theorem leaveOne_ok {u:Task} (g:u.ok):(iK u).ok:=⟨by show I64 6;unfold I64;omega,g.2.1,g.2.2.1,by show I64 0;unfold I64;omega⟩
theorem bV5 (r:Run) (b:Int) (hl:r.tasks.length≤1048576):Cm prog 238 [.I b] inferInstance r (fun _:Unit=>True) (fun _=>leaveR r b) (fun _=>[]):=
 vcm func238 (fun hg hn => .wt 11 <| .g 2 (leaveTo_zero r.tasks b).symm <| .l (Γ:=Nat) (fun k=>k≤r.tasks.length) (fun k=>r.tasks.length - k) [0,1,10] [1,1000000] [] (fun k=>[vI 11 k]) (fun k=>runB r (jJ r.tasks b k) 0 1 2) 0 fun k hk t=>
  .s ((k:Int)<r.tasks.length)
   (fun h => .ex (p:=fun u=>r.tasks[k]? = some u) ⟨_,getElem?_eq_getElem (show k<r.tasks.length by omega)⟩ fun u hu => .d 2 (leaveTo_at (but:=b) hu) fun gu=>
    let fin:∀ v:Task,gR b k u=v→Task.ok v→D prog (fun _:Unit=>True∧rgd []):=fun v hv gv => .p k 1 (h:=by unfold I64;omega) <| .wt 36 <| .f 2 (jJ r.tasks b k) v (h:=gv) <| .g 2 (leaveTo_set hu hv) <| .n t (k+1) []
    .i k <| .u ((k:Int)=b)
     (fun h1 => .u (u.state=4) (fun h2=>fin (iK u) (leaveIf_t h1 h2) (leaveOne_ok gu)) (fun h2=>fin u (leaveIf_d h2) gu))
     (fun h1=>fin u (leaveIf_b h1) gu))
   (fun h => .g 2 (leaveTo_end (b:=b) hk h) <| .rt () ⟨trivial,trivial⟩)) aD
theorem fl_a {r:Run} {i:Int} {t:Task} (ht:r.tasks[i.toNat]? = some t) (h:t.try_<r.plan.most):(⟨r.id,r.plan,r.state,r.tasks.set i.toNat ⟨2,t.need,t.try_,0⟩⟩:Run)=cC r i.toNat:=by rw[xV ht];unfold qO;rw[if_pos h]
theorem fl_b {r:Run} {i:Int} {t:Task} (h0:0≤i) (ht:r.tasks[i.toNat]? = some t) (h:¬ t.try_<r.plan.most):(⟨r.id,r.plan,3,gQ (r.tasks.set i.toNat ⟨5,t.need,t.try_,0⟩) i⟩:Run)=cC r i.toNat:=by rw[xV ht];unfold qO;rw[if_neg h,bN1 h0]
theorem bA7 (r:Run) (i:Int) (t:Task) (h0:0≤i) (ht:r.tasks[i.toNat]? = some t) (hl:r.tasks.length≤1048576):Cm prog 123 [.I i] inferInstance r (fun _:Unit=>True) (fun _=>cC r i.toNat) (fun _=>[]):=
 Cm.one (cC r i.toNat) (y:=fun a=>a) (rk:=fun _=>[])<|vcm func123 (fun hg hn => .d 2 ht fun gt => .ie i.toNat i (he:=by omega) <| .s (t.try_<r.plan.most)
  (fun h => .wt 999 <| .f 2 r.tasks ⟨2,t.need,t.try_,0⟩ (h:=aN5 gt aA) <| .rt ⟨r.id,r.plan,r.state,r.tasks.set i.toNat ⟨2,t.need,t.try_,0⟩⟩ ⟨fl_a ht h,trivial⟩)
  (fun h => .wt 30 <| .f 2 r.tasks ⟨5,t.need,t.try_,0⟩ (h:=aN5 gt aA) <| .cm _ func238 (bV5 ⟨r.id,r.plan,r.state,r.tasks.set i.toNat ⟨5,t.need,t.try_,0⟩⟩ i (by show (r.tasks.set _ _).length≤_;rw[length_set];exact hl)) trivial fun _ _ _ _=>
   .rt ⟨r.id,r.plan,3,gQ (r.tasks.set i.toNat ⟨5,t.need,t.try_,0⟩) i⟩ ⟨fl_b h0 ht h,trivial⟩)) aD
theorem dn_a {r:Run} {i:Int} {t:Task} (ht:r.tasks[i.toNat]? = some t) (h:((aR (cT r i.toNat t) 4).length:Int)=((cT r i.toNat t).length:Int)):(⟨r.id,r.plan,2,cT r i.toNat t⟩:Run)=jE r i.toNat:=by
 rw[aJ8 ht];unfold bH5;rw[if_pos (by rw[← lP];exact h)]
theorem dn_b {r:Run} {i:Int} {t:Task} (ht:r.tasks[i.toNat]? = some t) (h:¬ ((aR (cT r i.toNat t) 4).length:Int)=((cT r i.toNat t).length:Int)):(⟨r.id,r.plan,r.state,cT r i.toNat t⟩:Run)=jE r i.toNat:=by
 rw[aJ8 ht];unfold bH5;rw[if_neg (by rw[← lP];exact h)]
theorem Done_p (r:Run) (i:Int) (t:Task) (h0:0≤i) (ht:r.tasks[i.toNat]? = some t) (hR:RunIs r):Cm prog 312 [.I i] inferInstance r (fun _:Unit=>True) (fun _=>jE r i.toNat) (fun _=>[]):=
 Cm.one (jE r i.toNat) (y:=fun a=>a) (rk:=fun _=>[])<|vcm func312 (fun hg hn=>let gr:=hR.small.1
  let hl:=(aH3 hR).2
  .d 2 ht fun gt => .ie i.toNat i (he:=by omega) <| .ie i.toNat i (he:=by omega) <| .wt 21 <| .f 2 r.tasks ⟨4,t.need,t.try_,0⟩ (h:=aN5 gt aA) <|
  .c func381 (BehindOf_i r.plan i) (hg:=⟨gr.2.1,trivial⟩) fun _ => .g 2 (aT7 (r.tasks.set i.toNat ⟨4,t.need,t.try_,0⟩) (bK r.plan i)).symm <|
  .l (Γ:=Nat) (fun k=>k≤(bK r.plan i).length) (fun k=>(bK r.plan i).length - k) [0,26,27] [1,4,1000000] [] (fun k=>[vI 28 k]) (fun k=>runB r (rB (r.tasks.set i.toNat ⟨4,t.need,t.try_,0⟩) ((bK r.plan i).take k)) 0 1 2) 0 fun k hk tk=>
   .s ((k:Int)<(bK r.plan i).length)
    (fun hlt => .ex (rd_in hR ht k aA) fun q hq=>
     .y hq.1 fun _ => .d 2 hq.2.1 fun gu=>
     let fin:∀ v:Task,oG q.2=v→Task.ok v→D prog (fun x:Run=>x=jE r i.toNat∧rgd []):=fun v hv gv => .p k 1 (h:=by have:=uR r.plan i;unfold I64;omega) <| .wt 53 <| .f 2 (rB (r.tasks.set i.toNat ⟨4,t.need,t.try_,0⟩) ((bK r.plan i).take k)) v (h:=gv) <| .g 2 (bU3 hq.1 hq.2.1 hv).symm <| .n tk (k+1) []
     .ie q.1.toNat q.1 (he:=by omega) <| .m q.2.need 1 (h:=by unfold I64;omega) <| .s (q.2.need - 1=0)
      (fun h2=>fin ⟨2,q.2.need - 1,q.2.try_,q.2.until_⟩ (bR3 h2) (zS gu hq.2.2.2 2 (by unfold I64;omega)))
      (fun h2=>fin ⟨q.2.state,q.2.need - 1,q.2.try_,q.2.until_⟩ (bR2 h2) (zS gu hq.2.2.2 _ gu.1)))
    (fun hge => .g 2 (rd_ts (t:=t) h0 (show k=(bK r.plan i).length by omega)) <| .c func30 (lF ⟨r.id,r.plan,r.state,cT r i.toNat t⟩ 4 (by show (cT r i.toNat t).length≤_;rw[uO];exact hl)) (hg:=⟨gr,trivial⟩) fun _=>
     .s (((aR (cT r i.toNat t) 4).length:Int)=((cT r i.toNat t).length:Int))
      (fun h2 => .rt ⟨r.id,r.plan,2,cT r i.toNat t⟩ ⟨dn_a ht h2,trivial⟩)
      (fun h2 => .rt ⟨r.id,r.plan,r.state,cT r i.toNat t⟩ ⟨dn_b ht h2,trivial⟩))) aD
theorem yQ {r:Run} (h:RunIs r) {i:Nat} {t:Task} (ht:r.tasks[i]? = some t) (h3:t.state=3):cA r (i:Int)=cC r i:=by
 have hl:=(gsi_.1 ht).1
 have hb:iF r (i:Int)=true:=by
  unfold iF
  rw[runIs.2 h,inB_iff'.2 (show 0≤(i:Int)∧(i:Int)≤(r.tasks.length:Int) - 1 by omega),Int.toNat_natCast,ht]
  simp[h3]
 unfold cA
 rw[if_pos hb,Int.toNat_natCast,failsS_eq h ht h3]
theorem bC8 {y:Yard} {k i:Nat} {r:Run} (hr:y.runs[k]? = some r) (hi:i=r.tasks.length):qV (mG y k) k i=mG y (k+1):=by
 show _=qV (mG y k) k (xC y k)
 rw[xB hr,hi]
theorem RI.ok {y out:Yard} {n:Nat} (hy:YardIs y) (h:RI y out n) (hn:n≤1000):out.ok:=by
 have h1:=h.now;have h2:=h.seq;have h3:=hy.now;have h4:=hy.seq
 exact ⟨by unfold I64;omega,by unfold I64;omega⟩
theorem bI9 {α:Type} (f:α→Nat) (m:Nat):∀ xs:List α,(∀ x∈xs,f x≤m)→(xs.map f).sum≤xs.length*m
 | [],_=>by simp
 | x::xs,h=>by
  have h1:=h x (by simp)
  have h2:=bI9 f m xs (fun z hz=>h z (by simp[hz]))
  simp only[map_cons,sum_cons,length_cons,Nat.succ_mul]
  omega
theorem RunIs.wt {r:Run} (h:RunIs r):r.wt≤42:=by
 have:=h.small
 unfold Run.wt Plan.wt
 omega
theorem RI.wt {y out:Yard} {n:Nat} (hy:YardIs y) (h:RI y out n) (hn:n≤1000):out.wt≤100000:=by
 have h1:=h.shelf
 have h2:=hy.shelf
 have h3:=h.runs
 have h4:=hy.runs
 have hs:=bI9 (fun z:List Entry=>z.length) 20000 out.shelf (fun z hz=>by
  obtain ⟨s,hs,rfl⟩:=getElem_of_mem hz
  have:=h.each s aA
  rw[getD_eq_getElem?_getD,getElem?_eq_getElem hs] at this
  simp only[Option.getD_some] at this
  omega)
 have hr:=bI9 (fun z:Run=>z.wt) 42 out.runs (fun z hz=>by
  obtain ⟨s,hs,rfl⟩:=getElem_of_mem hz
  obtain ⟨r2,e,hR,_⟩:=h.run s _ (getElem?_eq_getElem (show s<y.runs.length by omega))
  rw[getElem?_eq_getElem hs] at e
  rw[Option.some.inj e]
  exact hR.wt)
 rw[h1,h2] at hs
 have hr2:out.runs.length*42≤8*42:=Nat.mul_le_mul_right _ aA
 unfold Yard.wt wtL
 omega
theorem RI.chg {y out:Yard} {n:Nat} (hy:YardIs y) (h:RI y out n) (hn:n≤1000) (id:Int):4≤out.shelf.length∧(out.shelf.getD (aX id).toNat []).length≤1000000∧(0≤out.seq∧out.seq≤4000000000):=by
 have h1:=h.shelf;have h2:=hy.shelf;have h3:=iE id;have h4:=h.each (aX id).toNat aA;have h5:=h.seq;have h6:=hy.seq
 refine ⟨by omega,by omega,by omega⟩

theorem toNat_cast {i:Int} (h:0≤i):((i.toNat:Nat):Int)=i:=by omega
noncomputable def iA (r:Run) (task:Int):Run:=if iF r task then jE r task.toNat else r
theorem aE2 {r:Run} (h:RunIs r) {task:Int} {t:Task} (h0:0≤task) (ht:r.tasks[task.toNat]? = some t) (h3:t.state=3):iA r task=jE r task.toNat:=by
 have hl:=(gsi_.1 ht).1
 have hb:iF r task=true:=by
  unfold iF
  rw[runIs.2 h,inB_iff'.2 (show 0≤task∧task≤(r.tasks.length:Int) - 1 by omega),ht]
  simp[h3]
 unfold iA
 rw[if_pos hb]

noncomputable def dU (y:Yard) (id task try_:Int):Int:=if aM y=false then 8 else if aG y id<0 then 10 else if fJ y id task try_=false then 11 else 0
noncomputable def yI (g:Run→Nat→Run) (y:Yard) (id task try_:Int):Yard:=if dU y id task try_=0 then (match bZ y id with | some k=>(match y.runs[k]? with | some r=>dN y k r (g r task.toNat) | none=>y) | none=>y) else y
noncomputable def fE (y:Yard) (id task try_:Int):Yard:=yI jE y id task try_
theorem askF_rng (y:Yard) (id task try_:Int):0≤dU y id task try_∧dU y id task try_≤11:=by
 unfold dU
 split
 ·omega
 split
 ·omega
 split <;> omega
theorem aL2 {y:Yard} {id task try_:Int} (h:dU y id task try_=0):YardIs y∧∃ k r t,bZ y id=some k∧y.runs[k]? = some r∧RunIs r∧0≤task∧r.tasks[task.toNat]? = some t∧t.state=3:=by
 unfold dU at h
 split at h
 ·omega
 next h1=>
 have hY:=jN (by simpa using h1)
 split at h
 ·omega
 split at h
 ·omega
 next h3=>
 refine ⟨hY,?_⟩
 have h4:fJ y id task try_=true:=by simpa using h3
 unfold fJ at h4
 cases hk:bZ y id with
 | none=>rw[hk] at h4;cases h4
 | some k=>
  rw[hk] at h4
  simp only at h4
  cases hr:y.runs[k]? with
  | none=>rw[hr] at h4;cases h4
  | some r=>
   rw[hr] at h4
   simp only[Bool.and_eq_true] at h4
   obtain ⟨h5,h6⟩:=h4
   cases ht:r.tasks[task.toNat]? with
   | none=>rw[ht] at h6;cases h6
   | some t=>rw[ht] at h6;simp only[Bool.and_eq_true,decide_eq_true_eq] at h6;exact ⟨k,r,t,rfl,hr,(hY.run k r hr).1,(inB_iff'.1 h5).1,ht,h6.1⟩
theorem pF {g:Run→Nat→Run} {y:Yard} {id task try_:Int} {k:Nat} {r:Run} (h:dU y id task try_=0) (hk:bZ y id=some k) (hr:y.runs[k]? = some r):yI g y id task try_=dN y k r (g r task.toNat):=by unfold yI;rw[if_pos h,hk];simp only[hr]
theorem pE {g:Run→Nat→Run} {y:Yard} {id task try_:Int} (h:¬ dU y id task try_=0):yI g y id task try_=y:=by unfold yI;rw[if_neg h]
theorem uP {y:Yard} (hY:YardIs y) {k:Nat} {r r':Run} (hl:r'.tasks.length≤1000):(dN y k r r').ok:=by
 have h1:=hY.now;have h2:=hY.seq;have h3:=oI r r'
 unfold dN
 exact ⟨by simp only[I64];omega,by simp only[I64];omega⟩

noncomputable def oL (y:Yard) (id task try_:Int):Yard:=yI cC y id task try_
theorem yP {r:Run} (h:RunIs r) {task:Int} {t:Task} (h0:0≤task) (ht:r.tasks[task.toNat]? = some t) (h3:t.state=3):cA r task=cC r task.toNat:=by
 have:=yQ h ht h3
 rwa [toNat_cast h0] at this
theorem failsR_ok {r:Run} (h:r.ok) (i:Nat):(cC r i).ok:=by
 unfold cC
 cases r.tasks[i]? with
 | none=>exact h
 | some t=>
  show (qO r i t).ok
  unfold qO
  split
  ·exact h
  exact ⟨h.1,h.2.1,by show I64 3;unfold I64;omega⟩
noncomputable def aR2 (r:Run):Bool:=eM r && decide (r.state=1)
noncomputable def kV (r:Run):Run:=if aR2 r=true then ⟨r.id,r.plan,4,gQ r.tasks (-1)⟩ else r
theorem bS4 {r:Run} (h:aR2 r=true):kV r=⟨r.id,r.plan,4,gQ r.tasks (-1)⟩:=by unfold kV;rw[if_pos h]
theorem RunIs.no5 {r:Run} (h:RunIs r) (h1:r.state=1):∀ u∈r.tasks,¬ u.state=5:=by
 intro u hu h5
 have c5:=aK1 hu h5
 have hs:=h.state
 rw[h1] at hs
 unfold cB at hs
 have p6:=fD r.tasks 6
 repeat' split at hs
 all_goals omega
theorem leave_all {ts:List Task} (h:∀ u∈ts,¬ u.state=5):dD ts=gQ ts (-1):=by
 apply ext_getElem?
 intro k
 unfold gQ dD
 rw[getElem?_mapIdx,getElem?_map]
 cases hk:ts[k]? with
 | none=>rfl
 | some u=>
  have h5:=h u (mem_of_getElem? hk)
  have e':¬ (k:Int) = -1:=by omega
  simp[gR,eZ,h5,e']

theorem runs_no {r:Run} {task:Int} (h:eM r=false):false=iF r task:=by unfold iF;rw[h];rfl
theorem runs_out {r:Run} {task:Int} (h:inB task 0 ((r.tasks.length:Int) - 1)=false):false=iF r task:=by unfold iF;rw[h];simp
theorem runs_in {r:Run} {task:Int} {t:Task} (h0:eM r=true) (h:inB task 0 ((r.tasks.length:Int) - 1)=true) (ht:r.tasks[task.toNat]? = some t):decide (t.state=3)=iF r task:=by unfold iF;rw[h0,h,ht];rfl
theorem cG6 (r:Run) (task:Int):Ct1 prog 390 [.S r,.I task] [.B (iF r task)]:=
 .one (iF r task) (rk:=fun x=>[.B x])<|vc func390 (fun (hg:gin [Par.S r,Par.I task])=>let hrl:=hg.1.2.2.1
  .c func290 (bA1 r) (hg:=⟨hg.1.1,trivial⟩) fun _ => .sb (eM r)
  (fun h0 => .m (r.tasks.length:Int) 1 (h:=by unfold I64;omega) <| .c func138 (InV task 0 ((r.tasks.length:Int) - 1)) fun _ => .sb (inB task 0 ((r.tasks.length:Int) - 1))
   (fun h1 => .ex (uL h1) fun t ht => .ye ht task (he:=jK h1) fun _ => .rt (decide (t.state=3)) ⟨runs_in h0 h1 ht,trivial⟩)
   (fun h1 => .rt false ⟨runs_out h1,trivial⟩))
  (fun h0 => .rt false ⟨runs_no h0,trivial⟩)) aD
abbrev ownRun (r:Run):List Lr:=[.v (I r.id),.v (I r.plan.prio),.v (I r.plan.most),.v (I r.plan.wait),.v (I r.plan.tasks),.o (inferInstance:Shape Edge) r.plan.edges,.v (I r.state),.o (inferInstance:Shape Task) r.tasks]
theorem bV4 (r:Run) (st:Int) (hs:I64 st) (hl:r.tasks.length≤1048576) (gr:r.ok):Co prog 392 (ownRun r) true [.I st] (fun _:Unit=>True) (fun _=>[.S (⟨r.id,r.plan,st,dD r.tasks⟩:Run)]):=
 vco func392 (fun hg ho => .wt 4 <| .g 1 (leaveSTo_zero r.tasks).symm <| .l (Γ:=Nat) (fun k=>k≤r.tasks.length) (fun k=>r.tasks.length - k) [1,2,4] [3,1000000] [] (fun k=>[vI 5 k]) (fun k=>[oO 0 r.plan.edges,oO 1 (fH r.tasks k),oB 2 [.v (I r.id),.v (I r.plan.prio),.v (I r.plan.most),.v (I r.plan.wait),.v (I r.plan.tasks),.r 0,.v (I r.state),.r 1]]) 0 fun k hk t=>let hln:=leaveSTo_len r.tasks k
   .s ((k:Int)<(fH r.tasks k).length)
    (fun h => .ex (p:=fun u=>r.tasks[k]? = some u) ⟨_,getElem?_eq_getElem (show k<r.tasks.length by omega)⟩ fun u hu => .y (zB hu) fun gu=>
     let fin:∀ y:Task,eZ u=y→Task.ok y→D prog (fun _:Unit=>True∧rgd [Rk.S (⟨r.id,r.plan,st,dD r.tasks⟩:Run)]):=fun y hy gy => .d 1 (zB hu) fun _ => .i k <| .wt 12 <| .f 1 (fH r.tasks k) y (h:=gy) <| .g 1 (leaveSTo_set hu hy) <| .p k 1 (h:=by unfold I64;omega) <| .n t (k+1) []
     .u (u.state=4)
      (fun h4 => .u (u.state=5)
       (fun h5=>fin ⟨6,u.need,u.try_,0⟩ (leaveS1_t h4 h5) ⟨by show I64 6;unfold I64;omega,(show Task.ok u from gu).2.1,(show Task.ok u from gu).2.2.1,by show I64 0;unfold I64;omega⟩)
       (fun h5=>fin u (leaveS1_5 h5) gu))
      (fun h4=>fin u (leaveS1_4 h4) gu))
    (fun h => .g 1 (show fH r.tasks k=dD r.tasks by rw[show k=r.tasks.length by omega];exact leaveSTo_all _) <| .rt () ⟨trivial,⟨gr.1,gr.2.1,hs⟩,trivial⟩)) aD
theorem rf_no {r:Run} {task:Int} (h:iF r task=false):r=cA r task:=by unfold cA;rw[if_neg (by rw[h];simp)]
theorem rf_a {r:Run} {task:Int} {t:Task} (h:iF r task=true) (ht:r.tasks[task.toNat]? = some t) (hl:t.try_<r.plan.most):(⟨r.id,r.plan,r.state,r.tasks.set task.toNat ⟨2,t.need,t.try_,0⟩⟩:Run)=cA r task:=by
 unfold cA aJ3;rw[if_pos h,ht];simp only;rw[if_pos hl]
theorem rf_b {r:Run} {task:Int} {t:Task} (h:iF r task=true) (ht:r.tasks[task.toNat]? = some t) (hl:¬ t.try_<r.plan.most):(⟨r.id,r.plan,3,dD (r.tasks.set task.toNat ⟨5,t.need,t.try_,0⟩)⟩:Run)=cA r task:=by
 unfold cA aJ3;rw[if_pos h,ht];simp only;rw[if_neg hl]
theorem uV (r:Run) (task:Int) (hl:r.plan.edges.length≤1048576) (htl:r.tasks.length≤1048576):Ct1 prog 338 [.S r,.I task] [.S (cA r task)]:=
 .one (cA r task) (rk:=fun x=>[.S x])<|vc func338 (fun (hg:gin [Par.S r,Par.I task])=>let gr:=hg.1.1
  .c func288 (nB r hl htl) (hg:=⟨gr,trivial⟩) fun _ => .c func390 (cG6 r task) (hg:=⟨gr,trivial⟩) fun _ => .v (iF r task)
   (fun h => .rt r ⟨rf_no h,gr,trivial⟩)
   (fun h => .ex (aD7 h).2 fun t ht => .d 5 ht.2.1 fun gt => .ie task.toNat task (he:=by omega) <| .ie task.toNat task (he:=by omega) <| .ie task.toNat task (he:=by omega) <| .s (t.try_<r.plan.most)
    (fun h2 => .f 5 r.tasks ⟨2,t.need,t.try_,0⟩ (h:=aN5 gt aA) <| .rt ⟨r.id,r.plan,r.state,r.tasks.set task.toNat ⟨2,t.need,t.try_,0⟩⟩ ⟨rf_a h ht.2.1 h2,gr,trivial⟩)
    (fun h2 => .ie task.toNat task (he:=by omega) <| .wt 39 <| .f 5 r.tasks ⟨5,t.need,t.try_,0⟩ (h:=aN5 gt aA) <|
     .co _ func392 (bV4 ⟨r.id,r.plan,r.state,r.tasks.set task.toNat ⟨5,t.need,t.try_,0⟩⟩ 3 (by unfold I64;omega) (by rw[length_set];exact htl) gr) trivial fun _ _ hq => .rt ⟨r.id,r.plan,3,dD (r.tasks.set task.toNat ⟨5,t.need,t.try_,0⟩)⟩ ⟨rf_b h ht.2.1 h2,hq.1.1,trivial⟩))) aD
theorem cG4 (y:Yard) (id task try_:Int) (hw:y.wt≤1048576):Ct1 prog 310 [.S y,.I id,.I task,.I try_] [.I (dU y id task try_)]:=
 .one (dU y id task try_) (rk:=fun x=>[.I x])<|vc func310 (fun (hg:gin [Par.S y,Par.I id,Par.I task,Par.I try_]) => .c func118 (kO y hw) (hg:=⟨hg.1.1,trivial⟩) fun _ => .v (aM y)
  (fun h => .rt 8 ⟨by unfold dU;rw[if_pos h],trivial⟩)
  (fun h => .c func232 (kP y id hw) (hg:=⟨hg.1.1,trivial⟩) fun _ => .s (aG y id<0)
   (fun h2 => .rt 10 ⟨by unfold dU;rw[if_neg (by rw[h];simp),if_pos h2],trivial⟩)
   (fun h2 => .c func120 (bA2 y id task try_ hw) (hg:=⟨hg.1.1,trivial⟩) fun _ => .v (fJ y id task try_)
    (fun h3 => .rt 11 ⟨by unfold dU;rw[if_neg (by rw[h];simp),if_neg h2,if_pos h3],trivial⟩)
    (fun h3 => .rt 0 ⟨by unfold dU;rw[if_neg (by rw[h];simp),if_neg h2,if_neg (by rw[h3];simp)],trivial⟩)))) aD
theorem Ask_s (y:Yard) (id task try_:Int) (hw:y.wt≤1048576):Ct1 prog 335 [.S y,.I id,.I task,.I try_] [.I (dU y id task try_)]:=
 .one (dU y id task try_) (rk:=fun x=>[.I x])<|vc func335 (fun (hg:gin [Par.S y,Par.I id,Par.I task,Par.I try_]) => .c func185 (kN y hw) (hg:=⟨hg.1.1,trivial⟩) fun _ => .v (aM y)
  (fun h => .rt 8 ⟨by unfold dU;rw[if_pos h],trivial⟩)
  (fun h => .c func291 (lN y id hw) (hg:=⟨hg.1.1,trivial⟩) fun _ => .s (aG y id<0)
   (fun h2 => .rt 10 ⟨by unfold dU;rw[if_neg (by rw[h];simp),if_pos h2],trivial⟩)
   (fun h2 => .c func389 (Holds_s y id task try_ hw) (hg:=⟨hg.1.1,trivial⟩) fun _ => .v (fJ y id task try_)
    (fun h3 => .rt 11 ⟨by unfold dU;rw[if_neg (by rw[h];simp),if_neg h2,if_pos h3],trivial⟩)
    (fun h3 => .rt 0 ⟨by unfold dU;rw[if_neg (by rw[h];simp),if_neg h2,if_neg (by rw[h3];simp)],trivial⟩)))) aD
theorem fail_at {y:Yard} {id task try_:Int} {k:Nat} {r:Run} {t:Task} (h:dU y id task try_=0) (hk:bZ y id=some k) (hr:y.runs[k]? = some r) (hR:RunIs r) (h0:0≤task) (ht:r.tasks[task.toNat]? = some t) (h3:t.state=3):dN y k r (cA r task)=oL y id task try_:=by
 unfold oL;rw[pF h hk hr,yP hR h0 ht h3]
theorem bB4 {y:Yard} (hY:YardIs y) (id:Int):4≤y.shelf.length∧(y.shelf.getD (aX id).toNat []).length≤1000000∧(0≤y.seq∧y.seq≤4000000000):=by
 refine ⟨by rw[hY.shelf];exact Nat.le_refl _,?_,by have:=hY.seq;omega⟩
 have h:=lL hY (aX id).toNat (by have:=iE id;omega)
 omega
theorem Fail_s (y:Yard) (id task try_:Int) (hw:y.wt≤1048576):Ct1 prog 222 [.S y,.I id,.I task,.I try_] [.S (oL y id task try_),.I (dU y id task try_)]:=
 .one (oL y id task try_,dU y id task try_) (rk:=fun q=>[.S q.1,.I q.2])<|vc func222 (fun (hg:gin [Par.S y,Par.I id,Par.I task,Par.I try_])=>let gy:=hg.1.1
  .c func184 (fN y hw) (hg:=⟨gy,trivial⟩) fun _ => .c func335 (Ask_s y id task try_ hw) (hg:=⟨gy,trivial⟩) fun _ => .u (dU y id task try_=0)
   (fun h => .rt (y,dU y id task try_) ⟨by rw[oL,pE h],gy,trivial⟩)
   (fun h=>let ha:=aL2 h
    .ex (p:=fun q:Nat×Run×Task=>bZ y id=some q.1∧y.runs[q.1]? = some q.2.1∧RunIs q.2.1∧0≤task∧q.2.1.tasks[task.toNat]? = some q.2.2∧q.2.2.state=3) (ha.2.elim fun k hk=>hk.elim fun r hr=>hr.elim fun t ht=>⟨(k,r,t),ht⟩) fun q hq=>
    let hrf:=yP hq.2.2.1 hq.2.2.2.1 hq.2.2.2.2.1 hq.2.2.2.2.2
    let hpre:=bB4 ha.1 (cA q.2.1 task).id
    let hlen:(cA q.2.1 task).tasks.length≤1000:=(by rw[hrf,(qP _ _).2.2.1];have:=hq.2.2.1.small;omega)
    .c func291 (lN y id hw) (hg:=⟨gy,trivial⟩) fun _ => .ye hq.2.1 (aG y id) (he:=cV hq.1) fun gr => .c func338 (uV q.2.1 task (aH3 hq.2.2.1).1 (aH3 hq.2.2.1).2) (hg:=⟨gr,trivial⟩) fun hf=>
     .cw _ func336 (bA0 y (aG y id) q.1 q.2.1 (cA q.2.1 task) (cV hq.1) hq.2.1 hpre.1 hlen hpre.2.1 hpre.2.2 hf.1.1 (uP ha.1 hlen)) ⟨trivial,trivial⟩ fun _ _ hz => .rt (dN y q.1 q.2.1 (cA q.2.1 task),0) ⟨by rw[fail_at h hq.1 hq.2.1 hq.2.2.1 hq.2.2.2.1 hq.2.2.2.2.1 hq.2.2.2.2.2,h],hz.1.1,trivial⟩)) aD
def rQ (n:Int) (t:Task):Bool:=decide (t.state=3) && decide (t.until_≤n+1)
def zC (n:Int) (r:Run) (m:Nat):List Nat:=(List.range m).filter (fun i=>match r.tasks[i]? with | some t=>rQ n t | none=>false)
def kU (y:Yard):Nat→List (Nat×Nat)
 | 0=>[]
 | k+1=>kU y k++(match y.runs[k]? with | some r=>(zC y.now r r.tasks.length).map (fun i=>(k,i)) | none=>[])
def gC (y:Yard) (p:Nat×Nat):List Int:=match y.runs[p.1]? with | some r=>(match r.tasks[p.2]? with | some t=>[r.id,p.2,t.try_] | none=>[]) | none=>[]
def iX (y:Yard) (k:Nat) (r:Run) (i:Nat):List (List Int):=(kU y k++(zC y.now r i).map (fun j=>(k,j))).map (gC y)
def cK (y:Yard):List (Nat×Nat):=kU y y.runs.length
theorem zD (y:Yard) (k:Nat) (r:Run):iX y k r 0=(kU y k).map (gC y):=by simp[iX,zC]
theorem bF4 {y:Yard} {k:Nat} {r:Run} {i:Nat} {t:Task} (hr:y.runs[k]? = some r) (ht:r.tasks[i]? = some t) (h:rQ y.now t=true):iX y k r (i+1)=iX y k r i++[[r.id,(i:Int),t.try_]]:=by
 unfold iX zC
 rw[range_succ,filter_append]
 simp[ht,h,gC,hr]
theorem bF5 {y:Yard} {k:Nat} {r:Run} {i:Nat} {t:Task} (ht:r.tasks[i]? = some t) (h:rQ y.now t=false):iX y k r (i+1)=iX y k r i:=by
 unfold iX zC
 rw[range_succ,filter_append]
 simp[ht,h]
theorem aH9 {y:Yard} {k:Nat} {r:Run} (hr:y.runs[k]? = some r) {i:Nat} (hi:i=r.tasks.length):iX y k r i=(kU y (k+1)).map (gC y):=by
 subst hi
 unfold iX
 simp[kU,hr]
theorem aQ2 (n:Int) (r:Run) (m:Nat):(zC n r m).length≤m:=by
 unfold zC
 exact Nat.le_trans (length_filter_le _ _) (by simp)
theorem sQ {y:Yard} (hy:YardIs y):∀ k,(kU y k).length≤12*k
 | 0=>by simp[kU]
 | k+1=>by
  have ih:=sQ hy k
  simp only[kU,length_append]
  cases hr:y.runs[k]? with
  | none=>simp;omega
  | some r=>
   have h1:=aQ2 y.now r r.tasks.length
   have h2:=(hy.run k r hr).1.small
   simp only[length_map];omega
theorem aH8 {y:Yard} (hy:YardIs y) (k:Nat) (r:Run) (i:Nat):(iX y k r i).length≤12*k+i:=by
 have h1:=sQ hy k
 have h2:=aQ2 y.now r i
 unfold iX
 simp only[length_map,length_append];omega
theorem xR {y:Yard} {p:Nat×Nat}:∀ {k},p∈kU y k→∃ r t,y.runs[p.1]? = some r∧r.tasks[p.2]? = some t∧gC y p=[r.id,(p.2:Int),t.try_]
 | 0,h=>by simp[kU] at h
 | k+1,h=>by
  simp only[kU,mem_append] at h
  rcases h with h | h
  ·exact xR h
  ·cases hr:y.runs[k]? with
   | none=>rw[hr] at h;simp at h
   | some r=>
    rw[hr] at h
    simp only[mem_map] at h
    obtain ⟨i,hi,rfl⟩:=h
    unfold zC at hi
    rw[mem_filter] at hi
    cases ht:r.tasks[i]? with
    | none=>rw[ht] at hi;simp at hi
    | some t=>exact ⟨r,t,hr,ht,by simp[gC,hr,ht]⟩
def oP (n:Int) (y:Yard):Yard:=⟨n,y.seq,y.shelf,y.runs⟩
def nD (y:Yard) (l:List (Nat×Nat)):Yard:=l.foldl (fun o p=>kS o p.1 p.2) y
theorem turnF_now (n:Int) (y:Yard) (k i:Nat):kS (oP n y) k i=oP n (kS y k i):=by
 unfold kS
 show (match y.runs[k]? with | none=>_ | some r=>_)=_
 cases y.runs[k]? with
 | none=>rfl
 | some r=>
  simp only
  cases r.tasks[i]? with
  | none=>rfl
  | some t=>simp only;split <;> rfl
theorem aN4 (n:Int):∀ (l:List (Nat×Nat)) (y:Yard),nD (oP n y) l=oP n (nD y l)
 | [],y=>rfl
 | p::l,y=>by
  show nD (kS (oP n y) p.1 p.2) l=oP n (nD (kS y p.1 p.2) l)
  rw[turnF_now,aN4 n l]
theorem nC {y:Yard} {l:List (Nat×Nat)} {j:Nat} {p:Nat×Nat} (h:l[j]? = some p):nD y (l.take (j+1))=kS (nD y (l.take j)) p.1 p.2:=by
 unfold nD
 rw[take_add_one,h]
 simp[foldl_append]
theorem tV (y:Yard) (l:List (Nat×Nat)):nD y (l.take 0)=y:=by simp[nD]
theorem YardIs.at {y:Yard} (hy:YardIs y) {n:Int} (h:0≤n∧n≤999999980):YardIs (oP n y):=⟨h,hy.seq,hy.shelf,hy.runs,hy.each,hy.run⟩
theorem RI.list {y:Yard} (hy:YardIs y) {l:List (Nat×Nat)} (hl:∀ p∈l,p.1<y.runs.length):∀ j,RI y (nD y (l.take j)) j
 | 0=>by rw[tV];exact RI.start hy
 | j+1=>by
  have ih:=RI.list hy hl j
  cases hp:l[j]? with
  | none=>
   have h1:=List.getElem?_eq_none_iff.1 hp
   rw[take_of_length_le (show l.length≤j+1 by omega)]
   rw[take_of_length_le h1] at ih
   exact ih.mono aA
  | some p=>rw[nC hp];exact ih.turn hy (hl p (mem_of_getElem? hp))
theorem aA7 {y:Yard}:∀ p∈cK y,p.1<y.runs.length:=fun p hp=>by
 obtain ⟨r,t,h1,_⟩:=xR hp
 exact (gsi_.1 h1).1
noncomputable def bY0 (y:Yard):Yard:=nD (oP (y.now+1) y) (cK y)
noncomputable def eF (y:Yard):Yard×Int:=if aM y=false then (y,8) else if 999999980<y.now+1 then (y,7) else (bY0 y,0)
theorem bF3 {y:Yard} {j:Nat} (hj:j<(cK y).length):∃ k i r t,(cK y)[j]? = some (k,i)∧y.runs[k]? = some r∧r.tasks[i]? = some t∧((cK y).map (gC y))[j]? = some [r.id,(i:Int),t.try_]:=by
 obtain ⟨⟨k,i⟩,hp⟩:∃ p,(cK y)[j]? = some p:=⟨_,getElem?_eq_getElem hj⟩
 obtain ⟨r,t,h1,h2,h3⟩:=xR (mem_of_getElem? hp)
 exact ⟨k,i,r,t,hp,h1,h2,by rw[getElem?_map,hp,Option.map_some,h3]⟩
theorem RunIs.tk {r:Run} (h:RunIs r) {i:Nat} {t:Task} (ht:r.tasks[i]? = some t):(0≤t.try_∧t.try_≤1000000)∧(0≤t.until_∧t.until_≤1000000000):=by
 obtain ⟨hl,rfl⟩:=gsi_.1 ht
 obtain ⟨_,_,h3,h4,h5,_⟩:=h.task i hl hl
 have hp:=(rJ h.plan).1
 unfold bJ at hp
 by_cases e:r.tasks[i].state=3
 ·have:=h4 e;omega
 have:=h5 e;omega
theorem aA8 {n:Int} {t:Task} (h3:t.state=3) (h:t.until_≤n+1):rQ n t=true:=by unfold rQ;simp[h3,h]
theorem aA9 {n:Int} {t:Task} (h:¬ (t.state=3∧t.until_≤n+1)):rQ n t=false:=by
 unfold rQ
 cases h1:decide (t.state=3) with
 | false=>rfl
 | true=>cases h2:decide (t.until_≤n+1) with
  | false=>rfl
  | true=>exact absurd ⟨of_decide_eq_true h1,of_decide_eq_true h2⟩ h

theorem bP3 {r:Run} {i:Nat} {t:Task} (g:r.ok) (hi:i≤1000) (gt:t.ok):∀ z∈[r.id,(i:Int),t.try_],Dsh.good z:=by
 intro z hz
 simp only[mem_cons,not_mem_nil,or_false] at hz
 rcases hz with rfl | rfl | rfl
 ·exact g.1
 ·show I64 _;unfold I64;omega
 exact gt.2.2.1
theorem bC3 {y:Yard} (hY:YardIs y) {k:Nat} {r:Run} (hr:y.runs[k]? = some r):r.tasks.length≤12∧r.ok:=⟨(hY.run k r hr).1.small.2.1,(hY.run k r hr).1.small.1⟩
theorem LateOf_i (y:Yard) (hY:YardIs y):Ct1 prog 314 [.S y] [.L ((cK y).map (gC y))]:=
 vc func314 (fun (hg:gin [Par.S y])=>let h8:=hY.runs
  .w (List Int) 34 3 <| .l (Γ:=Nat) (fun k=>k≤y.runs.length) (fun k=>y.runs.length - k) [1,9,10] [2] [0,1] (fun k=>[vR 3 3,vI 11 k]) (fun k=>[oR 3 34 ((kU y k).map (gC y))]) 0 fun k hk tk=>
   .s ((k:Int)<y.runs.length)
    (fun h => .x y.runs k (h:=by omega) fun r hr gr=>let hlk:=bC3 hY hr
     .g 3 (zD y k r).symm <| .l (Γ:=Nat) (fun i=>i≤r.tasks.length) (fun i=>r.tasks.length - i) [1,5,9,10,11,16,17] [2,7] [0,1,5,6] (fun i=>[vR 3 3,vI 18 i]) (fun i=>[oR 3 34 (iX y k r i)]) 0 fun i hi ti=>let hln:=aH8 hY k r i
      .s ((i:Int)<r.tasks.length)
       (fun h2 => .x r.tasks i (h:=by omega) fun t ht gt=>let htk:=(hY.run k r hr).1.tk ht
        let no:rQ y.now t=false→D prog (fun _:Unit=>True∧rgd [Rk.L ((cK y).map (gC y))]):=fun hb => .g 3 (bF5 (y:=y) (k:=k) ht hb).symm <| .p i 1 (h:=by unfold I64;omega) <| .n ti (i+1) []
        let yes:rQ y.now t=true→D prog (fun _:Unit=>True∧rgd [Rk.L ((cK y).map (gC y))]):=fun hb => .li inferInstance 47 [r.id,(i:Int),t.try_] (by simp) (by simp) (bP3 gr aA gt) <| .a (iX y k r i) [r.id,(i:Int),t.try_] 24 (hy:=trivial) (h63:=by unfold maxLen;omega) (hby:=by omega) <| .g 3 (bF4 hr ht hb).symm <| .p i 1 (h:=by unfold I64;omega) <| .n ti (i+1) []
        .s (t.state=3)
         (fun h3 => .s (t.until_≤y.now)
          (fun h4=>yes (aA8 h3 aA))
          (fun h4 => .m t.until_ 1 (h:=by unfold I64;omega) <| .s (t.until_ - 1=y.now)
           (fun h5=>yes (aA8 h3 aA))
           (fun h5=>no (aA9 aA))))
         (fun h3=>no (aA9 aA)))
       (fun h2 => .g 3 (aH9 hr (show i=r.tasks.length by omega)) <| .p k 1 (h:=by unfold I64;omega) <| .n tk (k+1) []))
    (fun h => .g 3 (show (kU y k).map (gC y)=(cK y).map (gC y) by rw[show k=y.runs.length by omega];rfl) <| .rt () ⟨trivial,trivial⟩)) aD
theorem LateOf_s (y:Yard) (hY:YardIs y):Ct1 prog 339 [.S y] [.L ((cK y).map (gC y))]:=
 vc func339 (fun (hg:gin [Par.S y])=>let h8:=hY.runs
  .e (List Int) <| .l (Γ:=Nat) (fun k=>k≤y.runs.length) (fun k=>y.runs.length - k) [777777,7] [777777] [777777] (fun k=>[vR 3 3,vI 4 k]) (fun k=>[oR 3 34 ((kU y k).map (gC y))]) 0 fun k hk tk=>
   .s ((k:Int)<y.runs.length)
    (fun h => .ex (p:=fun r=>y.runs[k]? = some r) ⟨y.runs[k]'(by omega),getElem?_eq_getElem _⟩ fun r hr=>let hlk:=bC3 hY hr
     let gr:=hlk.2
     .g 3 (zD y k r).symm <| .l (Γ:=Nat) (fun i=>i≤r.tasks.length) (fun i=>r.tasks.length - i) [777777] [777777] [777777] (fun i=>[vR 3 3,vI 5 i]) (fun i=>[oR 3 34 (iX y k r i)]) 0 fun i hi ti=>let hln:=aH8 hY k r i
      .y hr fun _ => .s ((i:Int)<r.tasks.length)
       (fun h2 => .y hr fun _ => .x r.tasks i (h:=by omega) fun t ht gt=>let htk:=(hY.run k r hr).1.tk ht
        let no:rQ y.now t=false→D prog (fun _:Unit=>True∧rgd [Rk.L ((cK y).map (gC y))]):=fun hb => .g 3 (bF5 (y:=y) (k:=k) ht hb).symm <| .p i 1 (h:=by unfold I64;omega) <| .n ti (i+1) []
        let yes:rQ y.now t=true→D prog (fun _:Unit=>True∧rgd [Rk.L ((cK y).map (gC y))]):=fun hb => .y hr fun _ => .lo inferInstance [r.id,(i:Int),t.try_] (by simp) (by simp) (bP3 gr aA gt) <| .a (iX y k r i) [r.id,(i:Int),t.try_] 24 (hy:=trivial) (h63:=by unfold maxLen;omega) (hby:=by omega) <| .g 3 (bF4 hr ht hb).symm <| .p i 1 (h:=by unfold I64;omega) <| .n ti (i+1) []
        .s (t.state=3)
         (fun h3 => .s (t.until_≤y.now)
          (fun h4=>yes (aA8 h3 aA))
          (fun h4 => .m t.until_ 1 (h:=by unfold I64;omega) <| .s (t.until_ - 1≤y.now)
           (fun h5=>yes (aA8 h3 aA))
           (fun h5=>no (aA9 aA))))
         (fun h3=>no (aA9 aA)))
       (fun h2 => .g 3 (aH9 hr (show i=r.tasks.length by omega)) <| .p k 1 (h:=by unfold I64;omega) <| .n tk (k+1) []))
    (fun h => .g 3 (show (kU y k).map (gC y)=(cK y).map (gC y) by rw[show k=y.runs.length by omega];rfl) <| .rt () ⟨trivial,trivial⟩)) aD
theorem vL {α:Type} {xs:List α} {k:Nat} {x:α} (h:xs[k]? = some x):xs.set k x=xs:=by
 obtain ⟨hl,rfl⟩:=gsi_.1 h
 exact set_getElem_self hl
theorem rd_no {r:Run} {task:Int} (h:iF r task=false):r=iA r task:=by unfold iA;rw[if_neg (by rw[h];simp)]
theorem rd_val {r:Run} {task:Int} {t:Task} (hB:iF r task=true) (hR:RunIs r) (h0:0≤task) (ht:r.tasks[task.toNat]? = some t) (h3:t.state=3):(⟨r.id,r.plan,cB (cT r task.toNat t),cT r task.toNat t⟩:Run)=iA r task:=by
 unfold iA;rw[if_pos hB,aJ8 ht];unfold bH5;rw[← doneT_state hR ht h3]
theorem st_i64 (ts:List Task):I64 (cB ts):=by unfold cB I64;(repeat' split) <;> omega
theorem RunDone_s (r:Run) (task:Int) (hl:r.plan.edges.length≤1048576) (htl:r.tasks.length≤1048576):Ct1 prog 337 [.S r,.I task] [.S (iA r task)]:=
 .one (iA r task) (rk:=fun x=>[.S x])<|vc func337 (fun (hg:gin [Par.S r,Par.I task])=>let gr:=hg.1.1
  .c func288 (nB r hl htl) (hg:=⟨gr,trivial⟩) fun _ => .c func390 (cG6 r task) (hg:=⟨gr,trivial⟩) fun _ => .v (iF r task)
   (fun h => .rt r ⟨rd_no h,gr,trivial⟩)
   (fun h => .ex (p:=fun t=>r.tasks[task.toNat]? = some t∧t.state=3∧0≤task∧RunIs r) ((aD7 h).2.elim fun t ht=>⟨t,ht.2.1,ht.2.2,ht.1,(aD7 h).1⟩) fun t ht=>
    let hR:=ht.2.2.2
    .d 5 ht.1 fun gt => .ie task.toNat task (he:=by omega) <| .ie task.toNat task (he:=by omega) <| .wt 26 <| .f 5 r.tasks ⟨4,t.need,t.try_,0⟩ (h:=aN5 gt aA) <|
    .c func391 (BehindP_s r.plan task hR.plan) (hg:=⟨gr.2.1,trivial⟩) fun _ => .g 5 (aT7 (r.tasks.set task.toNat ⟨4,t.need,t.try_,0⟩) (bK r.plan task)).symm <|
    .l (Γ:=Nat) (fun k=>k≤(bK r.plan task).length) (fun k=>(bK r.plan task).length - k) [4,5,6] [3,4,8] [] (fun k=>[vI 7 k]) (fun k=>[oO 5 (rB (r.tasks.set task.toNat ⟨4,t.need,t.try_,0⟩) ((bK r.plan task).take k)),oB 6 [.v (I r.id),.v (I r.plan.prio),.v (I r.plan.most),.v (I r.plan.wait),.v (I r.plan.tasks),.r 4,.v (I r.state),.r 5]]) 0 fun k hk tk=>
     .s ((k:Int)<(bK r.plan task).length)
      (fun hlt => .ex (rd_in hR ht.1 k aA) fun q hq=>
       let fin:∀ y:Task,oG q.2=y→Task.ok y→D prog (fun x:Run=>x=iA r task∧rgd [Rk.S x]):=fun y hy gy => .d 5 hq.2.1 fun _ => .y hq.1 fun _ => .ie q.1.toNat q.1 (he:=by omega) <| .wt 34 <| .f 5 (rB (r.tasks.set task.toNat ⟨4,t.need,t.try_,0⟩) ((bK r.plan task).take k)) y (h:=gy) <| .g 5 (bU3 hq.1 hq.2.1 hy).symm <| .p k 1 (h:=by have:=uR r.plan task;unfold I64;omega) <| .n tk (k+1) []
       .y hq.1 fun _ => .ye hq.2.1 q.1 (he:=by omega) fun gu => .m q.2.need 1 (h:=by unfold I64;omega) <| .s (q.2.need - 1=0)
        (fun h0=>fin ⟨2,q.2.need - 1,q.2.try_,q.2.until_⟩ (bR3 h0) (zS gu hq.2.2.2 2 (by unfold I64;omega)))
        (fun h0=>fin ⟨q.2.state,q.2.need - 1,q.2.try_,q.2.until_⟩ (bR2 h0) (zS gu hq.2.2.2 _ gu.1)))
      (fun hge => .g 5 (rd_ts (t:=t) ht.2.2.1 (show k=(bK r.plan task).length by omega)) <| .c func373 (bV1 ⟨r.id,r.plan,r.state,cT r task.toNat t⟩ (doneTs_st hR ht.1) (by show (cT r task.toNat t).length≤_;rw[uO];exact htl)) (hg:=⟨gr,trivial⟩) fun _=>
       .rt ⟨r.id,r.plan,cB (cT r task.toNat t),cT r task.toNat t⟩ ⟨rd_val h hR ht.2.2.1 ht.1 ht.2.1,⟨gr.1,gr.2.1,st_i64 _⟩,trivial⟩))) aD
theorem done_at {y:Yard} {id task try_:Int} {k:Nat} {r:Run} {t:Task} (h:dU y id task try_=0) (hk:bZ y id=some k) (hr:y.runs[k]? = some r) (hR:RunIs r) (h0:0≤task) (ht:r.tasks[task.toNat]? = some t) (h3:t.state=3):dN y k r (iA r task)=fE y id task try_:=by
 unfold fE;rw[pF h hk hr,aE2 hR h0 ht h3]
theorem Complete_s (y:Yard) (id task try_:Int) (hw:y.wt≤1048576):Ct1 prog 221 [.S y,.I id,.I task,.I try_] [.S (fE y id task try_),.I (dU y id task try_)]:=
 .one (fE y id task try_,dU y id task try_) (rk:=fun q=>[.S q.1,.I q.2])<|vc func221 (fun (hg:gin [Par.S y,Par.I id,Par.I task,Par.I try_])=>let gy:=hg.1.1
  .c func184 (fN y hw) (hg:=⟨gy,trivial⟩) fun _ => .c func335 (Ask_s y id task try_ hw) (hg:=⟨gy,trivial⟩) fun _ => .u (dU y id task try_=0)
   (fun h => .rt (y,dU y id task try_) ⟨by rw[fE,pE h],gy,trivial⟩)
   (fun h=>let ha:=aL2 h
    .ex (p:=fun q:Nat×Run×Task=>bZ y id=some q.1∧y.runs[q.1]? = some q.2.1∧RunIs q.2.1∧0≤task∧q.2.1.tasks[task.toNat]? = some q.2.2∧q.2.2.state=3) (ha.2.elim fun k hk=>hk.elim fun r hr=>hr.elim fun t ht=>⟨(k,r,t),ht⟩) fun q hq=>
    let hrf:=aE2 hq.2.2.1 hq.2.2.2.1 hq.2.2.2.2.1 hq.2.2.2.2.2
    let hpre:=bB4 ha.1 (iA q.2.1 task).id
    let hlen:(iA q.2.1 task).tasks.length≤1000:=(by rw[hrf,(oM _ _).2.2.1];have:=hq.2.2.1.small;omega)
    .c func291 (lN y id hw) (hg:=⟨gy,trivial⟩) fun _ => .ye hq.2.1 (aG y id) (he:=cV hq.1) fun gr => .c func337 (RunDone_s q.2.1 task (aH3 hq.2.2.1).1 (aH3 hq.2.2.1).2) (hg:=⟨gr,trivial⟩) fun hf=>
     .cw _ func336 (bA0 y (aG y id) q.1 q.2.1 (iA q.2.1 task) (cV hq.1) hq.2.1 hpre.1 hlen hpre.2.1 hpre.2.2 hf.1.1 (uP ha.1 hlen)) ⟨trivial,trivial⟩ fun _ _ hz => .rt (dN y q.1 q.2.1 (iA q.2.1 task),0) ⟨by rw[done_at h hq.1 hq.2.1 hq.2.2.1 hq.2.2.2.1 hq.2.2.2.2.1 hq.2.2.2.2.2,h],hz.1.1,trivial⟩)) aD
theorem rest_run {y out:Yard} {n k:Nat} {r1:Run} (h:RI y out n) (hr:y.runs[k]? = some r1):∃ r2,out.runs[k]? = some r2∧RunIs r2∧r2.tasks.length=r1.tasks.length:=by
 obtain ⟨r2,h1,h2,h3,h4,h5⟩:=h.run k r1 hr
 exact ⟨r2,h1,h2,h4⟩
theorem aO9 {y out:Yard} {n k i:Nat} {r:Run} {t:Task} (hY:YardIs y) (h:RI y out n) (hn:n≤900) (hr:out.runs[k]? = some r) (ht:r.tasks[i]? = some t) (h3:t.state=3) (hR:RunIs r):(4≤out.shelf.length∧(out.shelf.getD (aX (cA r (i:Int)).id).toNat []).length≤1000000∧(0≤out.seq∧out.seq≤4000000000))∧(cA r (i:Int)).tasks.length≤1000∧(dN out k r (cA r (i:Int))).ok∧dN out k r (cA r (i:Int))=kS out k i:=by
 have he:=yQ hR ht h3
 refine ⟨h.chg hY aA _,by rw[he];have:=(hR.fails ht h3).small;omega,by rw[he];exact (h.change hY hr ht h3 hR).ok hY aA,by rw[he];exact (bM6 hr ht h3).symm⟩
theorem bC7 {y:Yard} (hY:YardIs y) {k:Nat} (hk:k≤y.runs.length):RI y (mG y k) 96:=(RI.outer hY k hk).mono (by have:=hY.runs;omega)
theorem bP5 {y:Yard} (hY:YardIs y) {k i:Nat} {r:Run} (hr:y.runs[k]? = some r) (hi:i≤r.tasks.length):RI y (qV (mG y k) k i) 200:=(RI.at hY (gsi_.1 hr).1).mono (by have:=hY.runs;have:=(gsi_.1 hr).1;have:=(hY.run k r hr).1.small;omega)
abbrev ryS (y:Yard) (b s r:Nat):List (Nat×To):=[oB b [.v (I y.now),.v (I y.seq),.r s,.r r],oO s y.shelf,oO r y.runs]
theorem Restart_s (y:Yard) (hw:y.wt≤1048576):Ct1 prog 226 [.S y] [.S (dP y)]:=
 .one (dP y) (rk:=fun x=>[.S x])<|vc func226 (fun (hg:gin [Par.S y])=>let gy:=hg.1.1
  .c func184 (fN y hw) (hg:=⟨gy,trivial⟩) fun _ => .c func185 (kN y hw) (hg:=⟨gy,trivial⟩) fun _ => .v (aM y)
   (fun h => .rt y ⟨by unfold dP;rw[if_neg (by rw[h];simp)],gy,trivial⟩)
   (fun h=>let hY:=jN h
    .l (Γ:=Nat×Yard) (fun g=>g.1≤y.runs.length∧g.2=mG y g.1) (fun g=>y.runs.length - g.1) [2,3] [3] [] (fun g=>[vI 4 g.1]) (fun g=>ryS g.2 6 4 5) (0,y) (h:=⟨Nat.zero_le _,rfl⟩) fun g hJ tk=>
     let hRK:RI y g.2 96:=(by rw[hJ.2];exact bC7 hY hJ.1)
     .s ((g.1:Int)<g.2.runs.length)
      (fun hlt => .ex (p:=fun r1=>y.runs[g.1]? = some r1) ⟨_,getElem?_eq_getElem (show g.1<y.runs.length by have:=hRK.runs;omega)⟩ fun r1 hr1=>
       .l (Γ:=Nat×Yard) (fun q=>q.1≤r1.tasks.length∧q.2=qV (mG y g.1) g.1 q.1) (fun q=>r1.tasks.length - q.1) [2,3,4] [3] [] (fun q=>[vI 5 q.1]) (fun q=>ryS q.2 6 4 5) (0,g.2) (h:=⟨Nat.zero_le _,hJ.2⟩) fun q hq tq=>
        let hRI:RI y q.2 200:=(by rw[hq.2];exact bP5 hY hr1 hq.1)
        .ex (rest_run hRI hr1) fun r2 h2 => .y h2.1 fun gr => .s ((q.1:Int)<r2.tasks.length)
         (fun hl2 => .ex (p:=fun t=>r2.tasks[q.1]? = some t) ⟨_,getElem?_eq_getElem (show q.1<r2.tasks.length by omega)⟩ fun t2 ht2 => .y h2.1 fun _ => .y ht2 fun _ => .s (t2.state=3)
          (fun h3=>let hT:=aO9 hY hRI aA h2.1 ht2 h3 h2.2.1
           .y h2.1 fun _ => .c func338 (uV r2 (q.1:Int) (aH3 h2.2.1).1 (aH3 h2.2.1).2) (hg:=⟨gr,trivial⟩) fun hf=>
           .cw _ func336 (bA0 q.2 (g.1:Int) g.1 r2 (cA r2 (q.1:Int)) rfl h2.1 hT.1.1 hT.2.1 hT.1.2.1 hT.1.2.2 hf.1.1 hT.2.2.1) ⟨trivial,trivial⟩ fun _ _ hz=>
           .p q.1 1 (h:=by have:=h2.2.1.small;unfold I64;omega) <| .n tq (q.1+1,dN q.2 g.1 r2 (cA r2 (q.1:Int))) [(4,19),(5,20)] (h1:=⟨by show q.1+1≤_;omega,by show dN q.2 g.1 r2 (cA r2 (q.1:Int))=_;rw[hT.2.2.2,hq.2];rfl⟩) (h2:=by show r1.tasks.length - (q.1+1)<_;omega))
          (fun h3 => .p q.1 1 (h:=by have:=h2.2.1.small;unfold I64;omega) <| .n tq (q.1+1,q.2) [] (h1:=⟨by show q.1+1≤_;omega,by show q.2=kS (qV (mG y g.1) g.1 q.1) g.1 q.1;rw[← hq.2];exact (zQ h2.1 ht2 h3).symm⟩) (h2:=by show r1.tasks.length - (q.1+1)<_;omega)))
         (fun hl2 => .p g.1 1 (h:=by have:=hY.runs;unfold I64;omega) <| .n tk (g.1+1,q.2) [] (h1:=⟨by show g.1+1≤_;have:=hRK.runs;omega,by show q.2=_;rw[hq.2];exact bC8 hr1 aA⟩) (h2:=by show y.runs.length - (g.1+1)<_;have:=hRK.runs;omega)))
      (fun hge => .rt g.2 ⟨by unfold dP;rw[if_pos h,hJ.2];congr 1;have:=hRK.runs;omega,hRK.ok hY aA,trivial⟩))) aD
theorem vU {y:Yard} {id:Int} (h:¬ aG y id<0):∃ r,y.runs[(aG y id).toNat]? = some r:=by
 unfold aG at h ⊢
 cases hk:bZ y id with
 | none=>rw[hk] at h;simp[ixI] at h
 | some k=>
  have:=aE1 hk
  exact ⟨_,by simp only[ixI,Int.toNat_natCast];exact getElem?_eq_getElem this⟩
theorem bG3 {r:Run} (h:r.ok):(kV r).ok:=by
 unfold kV
 split
 ·exact ⟨h.1,h.2.1,by show I64 4;unfold I64;omega⟩
 exact h
noncomputable def bU1 (y:Yard) (k:Nat) (r:Run):Yard:=⟨y.now,y.seq,y.shelf,y.runs.set k (kV r)⟩
noncomputable def bS (y:Yard) (id:Int):Yard×Int:=
 if aM y=false then (y,8) else match y.runs[(aG y id).toNat]? with
  | some r=>if aG y id<0 then (y,10) else if r.state≠1 then (y,12) else (bU1 y (aG y id).toNat r,0)
  | none=>(y,10)
theorem wT {y:Yard} {id:Int} (h0:aM y=true) (h:aG y id<0):bS y id=(y,10):=by
 unfold bS
 rw[if_neg (by rw[h0];decide)]
 cases y.runs[(aG y id).toNat]? with
 | none=>rfl
 | some r=>simp only;rw[if_pos h]
theorem mW {y:Yard} {id:Int} {r:Run} (h0:aM y=true) (h:¬ aG y id<0) (hr:y.runs[(aG y id).toNat]? = some r):bS y id=if r.state≠1 then (y,12) else (bU1 y (aG y id).toNat r,0):=by
 unfold bS
 rw[if_neg (by rw[h0];decide),hr]
 simp only
 rw[if_neg h]

structure LtA (y out:Yard) (j k i:Nat) (id tr:Int) (r:Run) (t:Task):Prop where
 p:(cK y)[j]? = some (k,i)
 row:((cK y).map (gC y))[j]? = some [id,(i:Int),tr]
 ix:aG out id=(k:Int)
 hr:out.runs[k]? = some r
 is:RunIs r
 ht:r.tasks[i]? = some t
theorem lt_at {y out:Yard} {n j:Nat} (hY:YardIs y) (h:RI y out n) (hj:j<(cK y).length):∃ q:(Nat×Nat)×(Int×Int)×Run×Task,LtA y out j q.1.1 q.1.2 q.2.1.1 q.2.1.2 q.2.2.1 q.2.2.2:=by
 obtain ⟨k,i,r,t,hp,hr,ht,hrow⟩:=bF3 hj
 obtain ⟨r2,t2,h1,h2,h3,h4⟩:=h.holds hY hr ht
 exact ⟨((k,i),(r.id,t.try_),r2,t2),⟨hp,hrow,cV (h.ix hY hr),h1,h2,h3⟩⟩
theorem cC6 {y:Yard} (hY:YardIs y):(cK y).length≤96:=by have:=sQ hY y.runs.length;have:=hY.runs;show (kU y y.runs.length).length≤96;omega
theorem bB5 {y:Yard} (h:aM y=false):(y,(8:Int))=eF y:=by unfold eF;rw[if_pos h]
theorem bB6 {y:Yard} (h0:aM y=true) (h:999999980<y.now+1):(y,(7:Int))=eF y:=by unfold eF;rw[if_neg (by rw[h0];simp),if_pos h]
theorem ticked_0 {y out:Yard} {j:Nat} (h0:aM y=true) (h:¬ 999999980<y.now+1) (hY:YardIs y) (ho:out=nD y ((cK y).take j)) (hj:¬ j<(cK y).length):((⟨out.now+1,out.seq,out.shelf,out.runs⟩:Yard),(0:Int))=eF y:=by
 unfold eF;rw[if_neg (by rw[h0];simp),if_neg h]
 unfold bY0
 rw[aN4,← (RI.list hY aA7 j).now,← ho,ho,take_of_length_le aA]
 rfl
theorem Tick_s (y:Yard) (hw:y.wt≤1048576):Ct1 prog 223 [.S y] [.S (eF y).1,.I (eF y).2]:=
 .one (eF y) (rk:=fun q=>[.S q.1,.I q.2])<|vc func223 (fun (hg:gin [Par.S y])=>let gy:=hg.1.1
  .c func184 (fN y hw) (hg:=⟨gy,trivial⟩) fun _ => .c func185 (kN y hw) (hg:=⟨gy,trivial⟩) fun _ => .v (aM y)
   (fun h => .rt (y,8) ⟨bB5 h,gy,trivial⟩)
   (fun h=>let hY:=jN h
    let hn:=hY.now
    .p y.now 1 (h:=by unfold I64;omega) <| .s (999999980<y.now+1)
     (fun h7 => .rt (y,7) ⟨bB6 h h7,gy,trivial⟩)
     (fun h7=>let hln:=cC6 hY
      let hml:((cK y).map (gC y)).length=(cK y).length:=length_map _
      .c func339 (LateOf_s y hY) (hg:=⟨gy,trivial⟩) fun _=>
      .l (Γ:=Nat×Yard) (fun g=>g.1≤(cK y).length∧g.2=nD y ((cK y).take g.1)) (fun g=>(cK y).length - g.1) [2,4,5] [3,7] [] (fun g=>[vI 6 g.1]) (fun g=>ryS g.2 6 4 5) (0,y) (h:=⟨Nat.zero_le _,(tV y _).symm⟩) fun g hJ tk=>
       let hRI:RI y g.2 200:=(by rw[hJ.2];exact (RI.list hY aA7 g.1).mono aA)
       .s ((g.1:Int)<((cK y).map (gC y)).length)
        (fun hlt => .ex (lt_at hY hRI (show g.1<(cK y).length by omega)) fun q hq=>
         let r2:=q.2.2.1
         .y hq.row fun _ => .y (show [q.2.1.1,(q.1.2:Int),q.2.1.2][0]? = some q.2.1.1 from rfl) fun gi => .c func291 (lN g.2 q.2.1.1 (Nat.le_trans (hRI.wt hY aA) aA)) (hg:=⟨hRI.ok hY aA,trivial⟩) fun _=>
         .ye hq.hr (aG g.2 q.2.1.1) (he:=hq.ix) fun gr => .y hq.row fun _ => .y (show [q.2.1.1,(q.1.2:Int),q.2.1.2][1]? = some (q.1.2:Int) from rfl) fun _ => .y hq.ht fun _ => .s (q.2.2.2.state=3)
          (fun h3=>let hT:=aO9 hY hRI aA hq.hr hq.ht h3 hq.is
           .ye hq.hr (aG g.2 q.2.1.1) (he:=hq.ix) fun gr => .y hq.row fun _ => .y (show [q.2.1.1,(q.1.2:Int),q.2.1.2][1]? = some (q.1.2:Int) from rfl) fun _=>
           .c func338 (uV q.2.2.1 (q.1.2:Int) (aH3 hq.is).1 (aH3 hq.is).2) (hg:=⟨gr,trivial⟩) fun hf=>
           .cw _ func336 (bA0 g.2 (aG g.2 q.2.1.1) q.1.1 q.2.2.1 (cA q.2.2.1 (q.1.2:Int)) hq.ix hq.hr hT.1.1 hT.2.1 hT.1.2.1 hT.1.2.2 hf.1.1 hT.2.2.1) ⟨trivial,trivial⟩ fun _ _ hz=>
           .p g.1 1 (h:=by unfold I64;omega) <| .n tk (g.1+1,dN g.2 q.1.1 q.2.2.1 (cA q.2.2.1 (q.1.2:Int))) [(4,26),(5,27)] (h1:=⟨by show g.1+1≤_;omega,by show dN g.2 q.1.1 q.2.2.1 (cA q.2.2.1 (q.1.2:Int))=_;rw[hT.2.2.2,nC hq.p,hJ.2]⟩) (h2:=by show (cK y).length - (g.1+1)<_;omega))
          (fun h3 => .p g.1 1 (h:=by unfold I64;omega) <| .n tk (g.1+1,g.2) [] (h1:=⟨by show g.1+1≤_;omega,by show g.2=_;rw[nC hq.p,← hJ.2];exact (zQ hq.hr hq.ht h3).symm⟩) (h2:=by show (cK y).length - (g.1+1)<_;omega)))
        (fun hge=>let hnow:=hRI.now
         .p g.2.now 1 (h:=by unfold I64;omega) <| .rt (⟨g.2.now+1,g.2.seq,g.2.shelf,g.2.runs⟩,0) ⟨ticked_0 h h7 hY hJ.2 aA,⟨by show I64 (g.2.now+1);unfold I64;omega,(show Yard.ok g.2 from hRI.ok hY aA).2⟩,trivial⟩)))) aD
theorem bS2 {r:Run} (h:eM r=false):r=kV r:=by unfold kV aR2;rw[h];rfl
theorem bS3 {r:Run} (h:¬ r.state=1):r=kV r:=by unfold kV aR2;rw[decide_eq_false h,Bool.and_false];rfl
theorem gone_1 {r:Run} (h0:eM r=true) (h:r.state=1):(⟨r.id,r.plan,4,dD r.tasks⟩:Run)=kV r:=by
 rw[bS4 (by unfold aR2;rw[h0,decide_eq_true h];rfl),leave_all ((runIs.1 h0).no5 h)]
theorem RunLeft_s (r:Run) (hl:r.plan.edges.length≤1048576) (htl:r.tasks.length≤1048576):Ct1 prog 340 [.S r] [.S (kV r)]:=
 .one (kV r) (rk:=fun x=>[.S x])<|vc func340 (fun (hg:gin [Par.S r])=>let gr:=hg.1.1
  .c func288 (nB r hl htl) (hg:=⟨gr,trivial⟩) fun _ => .c func290 (bA1 r) (hg:=⟨gr,trivial⟩) fun _ => .v (eM r)
   (fun h => .rt r ⟨bS2 h,gr,trivial⟩)
   (fun h => .u (r.state=1)
    (fun h1 => .rt r ⟨bS3 h1,gr,trivial⟩)
    (fun h1 => .co _ func392 (bV4 r 4 (by unfold I64;omega) htl gr) trivial fun _ _ hq => .rt ⟨r.id,r.plan,4,dD r.tasks⟩ ⟨gone_1 h h1,hq.1.1,trivial⟩))) aD
theorem cF5 {y:Yard} {id:Int} (h:aM y=false):(y,(8:Int))=bS y id:=by unfold bS;rw[if_pos h]
theorem rH {y:Yard} {id:Int} (h:¬ aG y id<0):aG y id=((aG y id).toNat:Int):=by omega
theorem Cancel_s (y:Yard) (id:Int) (hw:y.wt≤1048576):Ct1 prog 224 [.S y,.I id] [.S (bS y id).1,.I (bS y id).2]:=
 .one (bS y id) (rk:=fun q=>[.S q.1,.I q.2])<|vc func224 (fun (hg:gin [Par.S y,Par.I id])=>let gy:=hg.1.1
  .c func184 (fN y hw) (hg:=⟨gy,trivial⟩) fun _ => .c func291 (lN y id hw) (hg:=⟨gy,trivial⟩) fun _ => .c func185 (kN y hw) (hg:=⟨gy,trivial⟩) fun _ => .v (aM y)
   (fun h => .rt (y,8) ⟨cF5 h,gy,trivial⟩)
   (fun h => .s (aG y id<0)
    (fun h2 => .rt (y,10) ⟨(wT h h2).symm,gy,trivial⟩)
    (fun h2 => .ex (vU h2) fun r hr => .ye hr (aG y id) (he:=rH h2) fun gr=>let hrl:=jH hw hr
     .u (r.state=1)
      (fun h3 => .rt (y,12) ⟨by rw[mW h h2 hr,if_pos h3],gy,trivial⟩)
      (fun h3 => .d 5 hr fun _ => .ie (aG y id).toNat (aG y id) (he:=rH h2) <| .c func340 (RunLeft_s r hrl.2.2 hrl.2.1) (hg:=⟨gr,trivial⟩) fun _ => .ie (aG y id).toNat (aG y id) (he:=rH h2) <| .wt 41 <| .f 5 y.runs (kV r) (h:=bG3 gr) <|
       .rt (bU1 y (aG y id).toNat r,0) ⟨by rw[mW h h2 hr,if_neg (by simp[h3])],gy,trivial⟩)))) aD
def lJ (home:Int) (k:Nat):List Int:=[(home+1) % 4,(home+2) % 4,(home+3) % 4].take (k - 1)
theorem oth_to {home:Int} {k:Nat} (h:1≤k) (h2:k<4):lJ home (k+1)=lJ home k++[(home+(k:Int)) % 4]:=by
 rcases k with _ | _ | _ | _ | k
 ·omega
 ·rfl
 ·rfl
 ·rfl
 omega
theorem oth_4 (home:Int):lJ home 4=[(home+1) % 4,(home+2) % 4,(home+3) % 4]:=rfl
theorem oth_vict {home draw d:Int} (hd:d=max draw 0 % 3):([]++(lJ home 4).drop d.toNat)++(lJ home 4).take d.toNat=bQ home draw:=by
 rw[oth_4]
 have h3:d=0∨d=1∨d=2:=by omega
 unfold bQ oT
 rw[← hd]
 rcases h3 with rfl | rfl | rfl
 ·simp only[Int.toNat_zero,drop_zero,take_zero,append_nil,nil_append,List.cons.injEq,and_true]
  omega
 ·show [(home+2) % 4,(home+3) % 4,(home+1) % 4]=_
  simp only[List.cons.injEq,and_true]
  omega
 show [(home+3) % 4,(home+1) % 4,(home+2) % 4]=_
 simp only[List.cons.injEq,and_true]
 omega

theorem vE {α:Type} (f:α→Nat) (m:Nat):∀ xs:List α,(∀ x∈xs,f x≤m)→(xs.map f).sum≤xs.length*m
 | [],_=>by simp
 | x::xs,h=>by
  have h1:=h x (by simp)
  have h2:=vE f m xs (fun z hz=>h z (by simp[hz]))
  simp only[map_cons,sum_cons,length_cons,Nat.succ_mul]
  omega
theorem aU9 {y:Yard} {s:List (List Entry)} {rr:List Run} {a b:Int} (h4:s.length=4) (he:∀ j,j<4→(s.getD j []).length≤80) (h8:rr.length≤8) (hr:∀ r∈rr,r.wt≤42):(⟨a,b,s,rr⟩:Yard).wt≤100000:=by
 have hs:=vE (fun z:List Entry=>z.length) 80 s (fun z hz=>by
  obtain ⟨j,hj,rfl⟩:=getElem_of_mem hz
  have:=he j aA
  rw[getD_eq_getElem?_getD,getElem?_eq_getElem hj] at this
  simpa using this)
 have hq:=vE (fun z:Run=>z.wt) 42 rr hr
 rw[h4] at hs
 have:rr.length*42≤8*42:=Nat.mul_le_mul_right _ h8
 unfold Yard.wt wtL
 simp only
 omega
theorem vQ {y:Yard} (h:YardIs y):∀ r∈y.runs,r.wt≤42:=by
 intro r hr
 obtain ⟨j,hj,rfl⟩:=getElem_of_mem hr
 exact ((h.run j _ (getElem?_eq_getElem hj)).1).wt
theorem PI.wt {y out:Yard} {home:Nat} (hy:YardIs y) (h:PI y out home):out.wt≤100000:=
 aU9 (y:=y) h.len h.each (by rw[h.runs];exact hy.runs) (by rw[h.runs];exact vQ hy)
theorem PI.wtS {y out:Yard} {home:Nat} (hy:YardIs y) (h:PI y out home) {l:List Entry} (hl:l.length≤80):(oV out home l).wt≤100000:=
 aU9 (y:=y) (by show (out.shelf.set _ _).length=4;rw[length_set];exact h.len) (nR h.each hl h.len) (by rw[h.runs];exact hy.runs) (by rw[h.runs];exact vQ hy)
theorem PI.ok {y out:Yard} {home:Nat} (hy:YardIs y) (h:PI y out home):out.ok:=by
 have h1:=hy.now;have h2:=hy.seq
 unfold Yard.ok I64
 rw[h.now,h.seq];omega
theorem PI.sw {y out:Yard} {home:Nat} (h:PI y out home) {o:Int} (ho:0≤o∧o≤3):(aY out o).shelf.length=4∧∀ s,s<4→((aY out o).shelf.getD s []).length≤80:=by
 rw[xD ho h.len]
 exact ⟨by show (out.shelf.set _ _).length=4;rw[length_set];exact h.len,nR h.each (Nat.le_trans (length_filter_le _ _) (h.each _ aA)) h.len⟩
theorem RunIs.tries {r:Run} (h:RunIs r) {i:Nat} {t:Task} (ht:r.tasks[i]? = some t):(0≤t.try_∧t.try_≤5)∧1≤r.plan.wait∧r.plan.wait≤20:=by
 obtain ⟨hi,rfl⟩:=gsi_.1 ht
 have h1:=(h.task i hi hi).2.2.1
 have h2:=(rJ h.plan).1
 unfold bJ at h2
 omega
theorem runIx_runs {y y':Yard} (h:y'.runs=y.runs) (id:Int):bZ y' id=bZ y id:=by unfold bZ;rw[h]
theorem bQ7 {xs:List Entry} (h:¬ (xs.length:Int)=0):¬ xs=[]:=fun e=>h (by rw[e];rfl)
theorem nil0 {xs:List Entry} (h:(xs.length:Int)=0):xs=[]:=eq_nil_of_length_eq_zero aA
theorem flt_t {α:Type} {p:α→Bool} {l:List α} {k:Nat} {e:α} (h:l[k]? = some e) (hp:p e=true):(l.take k).filter p++[e]=(l.take (k+1)).filter p:=by
 rw[← dJ h,filter_append,filter_cons_of_pos hp];rfl
theorem flt_f {α:Type} {p:α→Bool} {l:List α} {k:Nat} {e:α} (h:l[k]? = some e) (hp:p e=false):(l.take k).filter p=(l.take (k+1)).filter p:=by
 rw[← dJ h,filter_append,filter_cons_of_neg (by rw[hp];simp)];simp
theorem flt_all {α:Type} {p:α→Bool} {l:List α} {k:Nat} (h:¬ (k:Int)<l.length):(l.take k).filter p=l.filter p:=by rw[take_of_length_le aA]
theorem flt_len {α:Type} {p:α→Bool} {l:List α} {k:Nat}:((l.take k).filter p).length≤l.length:=Nat.le_trans (length_filter_le _ _) (by rw[length_take];omega)
theorem sw_no {y:Yard} {sh:Int} (h:inB sh 0 ((y.shelf.length:Int) - 1)=false):y=aY y sh:=by unfold aY;rw[if_neg (by rw[h];simp)]
theorem sw_in {y:Yard} {sh:Int} {l:List Entry} (h:inB sh 0 ((y.shelf.length:Int) - 1)=true) (hl:y.shelf[sh.toNat]? = some l):(⟨y.now,y.seq,y.shelf.set sh.toNat (l.filter (fresh y)),y.runs⟩:Yard)=aY y sh:=by
 unfold aY;rw[if_pos h,getD_eq_getElem?_getD,hl];rfl
theorem bU9 (y:Yard) (sh:Int) (hw:y.wt≤1048576):Ct1 prog 329 [.S y,.I sh] [.S (aY y sh)]:=
 .one (aY y sh) (rk:=fun x=>[.S x])<|vc func329 (fun (hg:gin [Par.S y,Par.I sh])=>let gy:=hg.1.1
  let hsl:=eW y hw
  .c func184 (fN y hw) (hg:=⟨gy,trivial⟩) fun _ => .m (y.shelf.length:Int) 1 (h:=by unfold I64;omega) <| .c func138 (InV sh 0 ((y.shelf.length:Int) - 1)) fun _ => .v (inB sh 0 ((y.shelf.length:Int) - 1))
   (fun h => .rt y ⟨sw_no h,gy,trivial⟩)
   (fun h => .ex (uL h) fun l hl=>let hll:=kY hl hw
    .e Entry <| .l (Γ:=Nat) (fun k=>k≤l.length) (fun k=>l.length - k) [1,2,4,5] [2,3,4,5,6] [0,1] (fun k=>[vR 6 7,vI 7 k]) (fun k=>[oR 7 243 ((l.take k).filter (fresh y))]) 0 fun k hk tk=>
     let hfl:((l.take k).filter (fresh y)).length≤l.length:=flt_len
     .ye hl sh (he:=jK h) fun _ => .s ((k:Int)<l.length)
      (fun h2 => .ye hl sh (he:=jK h) fun _ => .x l k (h:=by omega) fun e he ge => .c func374 (bV6 y e hw) (hg:=⟨gy,ge,trivial⟩) fun _ => .sb (fresh y e)
       (fun h3 => .ye hl sh (he:=jK h) fun _ => .y he fun _ => .a ((l.take k).filter (fresh y)) e 32 (hy:=ge) (h63:=by unfold maxLen;omega) (hby:=by omega) <| .g 7 (flt_t he h3) <| .p k 1 (h:=by unfold I64;omega) <| .n tk (k+1) [])
       (fun h3 => .g 7 (flt_f he h3) <| .p k 1 (h:=by unfold I64;omega) <| .n tk (k+1) []))
      (fun h2 => .g 7 (flt_all (p:=fresh y) h2) <| .sh 7 <| .d 4 hl fun _ => .ie sh.toNat sh (he:=jK h) <| .wt 55 <| .f 4 y.shelf (l.filter (fresh y)) (h:=trivial) <|
       .rt ⟨y.now,y.seq,y.shelf.set sh.toNat (l.filter (fresh y)),y.runs⟩ ⟨sw_in h hl,gy,trivial⟩))) aD
theorem st_ok {r:Run} {t:Task} {now:Int} (g:t.ok) (h:I64 (t.try_+1)) (h2:I64 (now+r.plan.wait)):Task.ok ⟨3,t.need,t.try_+1,now+r.plan.wait⟩:=⟨by show I64 3;unfold I64;omega,g.2.1,h,h2⟩
theorem Started_s (r:Run) (task now:Int) (t:Task) (h0:0≤task) (ht:r.tasks[task.toNat]? = some t) (hn:0≤now∧now≤999999980) (hR:RunIs r):Ct1 prog 334 [.S r,.I task,.I now] [.S (jO r task.toNat t now)]:=
 vc func334 (fun (hg:gin [Par.S r,Par.I task,Par.I now])=>let gr:=hg.1.1
  let htr:=hR.tries ht
  let h1:I64 (t.try_+1):=(by unfold I64;omega)
  let h2:I64 (now+r.plan.wait):=(by unfold I64;omega)
  .c func288 (nB r (aH3 hR).1 (aH3 hR).2) (hg:=⟨gr,trivial⟩) fun _ => .ye ht task (he:=by omega) fun gt => .p t.try_ 1 (h:=h1) <| .p now r.plan.wait (h:=h2) <|
   .d 5 ht fun _ => .ie task.toNat task (he:=by omega) <| .wt 32 <| .f 5 r.tasks ⟨3,t.need,t.try_+1,now+r.plan.wait⟩ (h:=st_ok gt h1 h2) <| .rt () ⟨trivial,gr,trivial⟩) aD
def zM (home:Int):List Int:=[(home+1) % 4,(home+2) % 4,(home+3) % 4]
theorem oth_sp {home draw d:Int} (hd:d=max draw 0 % 3):(zM home).drop d.toNat++(zM home).take d.toNat=bQ home draw:=oth_vict hd
theorem Victims_s (home draw:Int) (hh:0≤home∧home≤3) (hd:I64 draw):Ct1 prog 330 [.I home,.I draw] [.L (bQ home draw)]:=
 .one (bQ home draw) (rk:=fun l=>[.L l])<|vc func330 (fun hg=>
  let fin:∀ d:Int,d=max draw 0→D prog (fun l:List Int=>l=bQ home draw∧rgd [Rk.L l]):=fun d he=>
   let h0:0≤d∧d≤9223372036854775807:=(by unfold I64 at hd;omega)
   let hl3:(zM home).length=3:=rfl
   .e Int <| .l (Γ:=Nat) (fun k=>1≤k∧k≤4) (fun k=>4 - k) [777777,12] [777777] [777777] (fun k=>[vI 6 k,vR 5 0]) (fun k=>[oR 0 3 (lJ home k)]) 1 (h:=⟨Nat.le_refl _,by omega⟩) fun k hk t=>
    let hol:(lJ home k).length≤3:=(by unfold lJ;rw[length_take];simp only[length_cons,length_nil];omega)
    .s ((k:Int)<4)
    (fun h => .p home (k:Int) (h:=by unfold I64;omega) <| .q (home+k) 4 (h:=by omega) <| .a (lJ home k) ((home+k) % 4) 8 (hy:=by show I64 _;unfold I64;omega) (h63:=by unfold maxLen;omega) (hby:=by omega) <| .g 0 (oth_to (home:=home) hk.1 aA).symm <| .p k 1 (h:=by unfold I64;omega) <| .n t (k+1) [] (h1:=⟨by omega,by omega⟩))
    (fun h => .sh 0 <| .g 0 (show lJ home k=zM home by rw[show k=4 by omega];rfl) <| .q d 3 (h:=by omega) <|
     .dp inferInstance (zM home) (d % 3).toNat aA (d % 3) aA <| .tk inferInstance (zM home) (d % 3).toNat aA (d % 3) aA <| .e Int <| .as (inferInstance:Shape Int) fQ [] ((zM home).drop (d % 3).toNat) 8 (by rw[length_drop,hl3];simp only[length_nil];unfold maxLen;omega) (by rw[length_drop,hl3];simp only[length_nil];omega) <| .re inferInstance 2 0 (zM home) (d % 3).toNat aA <| .as (inferInstance:Shape Int) fQ ((zM home).drop (d % 3).toNat) ((zM home).take (d % 3).toNat) 8 (by rw[length_drop,length_take,hl3];unfold maxLen;omega) (by rw[length_drop,length_take,hl3];omega) <|
     .rt ((zM home).drop (d % 3).toNat++(zM home).take (d % 3).toNat) ⟨oth_sp (by rw[he]),trivial⟩)
  .c func117 (BroughtSD home 0 3) fun _ => .rv 9 (I home) (y:=I (pQ home 0 3)) (cF6 hh) <| .s (draw<0)
   (fun h=>fin 0 aA)
   (fun h=>fin draw aA)) aD
theorem bN2 {xs:List Entry} (h:(bV xs).2.2=true):xs=(bV xs).1::(bV xs).2.1:=by
 cases xs with
 | nil=>cases h
 | cons e l=>rfl
theorem bX9 {xs:List Entry} (h:(bV xs).2.2=false):xs=[]:=by
 cases xs with
 | nil=>rfl
 | cons e l=>cases h
theorem nO (worker:Int):worker % 4=(((worker % 4).toNat:Nat):Int):=by omega
theorem bQ0 {y:Yard} (hY:YardIs y) (w draw:Int) (k:Nat):PI y (eU (w % 4).toNat (aY y (w % 4)) ((bQ (w % 4) draw).take k)) (w % 4).toNat:=by
 have h:=PI.take hY (home:=(w % 4).toNat) aA (l:=bQ (w % 4) draw) (fun o ho=>by have:=nX (home:=w % 4) aA o ho;omega) k
 rwa [← nO] at h
theorem aA4 {y out:Yard} {h:Nat} (hP:PI y out h) (hh:h<4):out.shelf[h]? = some (out.shelf.getD h []):=getD_some (by have:=hP.len;omega)
theorem pl_rob {y out:Yard} {h:Nat} {o:Int} (hP:PI y out h) (hh:h<4) (ho:0≤o∧o≤3∧o≠(h:Int)):∃ q:List Entry×List Entry,(aY out o).shelf[o.toNat]? = some q.1∧((aY out o).shelf.set o.toNat (q.1.drop (cP q.1)))[h]? = some q.2∧q.1.length≤80∧q.2.length≤80 ∧
  (⟨(aY out o).now,(aY out o).seq,((aY out o).shelf.set o.toNat (q.1.drop (cP q.1))).set h (dS q.2 (q.1.take (cP q.1))),(aY out o).runs⟩:Yard)=aW3 (aY out o) h o.toNat:=by
 have hs:=hP.sw (o:=o) aA
 have hne:h≠o.toNat:=by omega
 refine ⟨((aY out o).shelf.getD o.toNat [],(aY out o).shelf.getD h []),getD_some aA,?_,hs.2 _ aA,hs.2 _ hh,?_⟩
 ·rw[getElem?_set_ne (fun e=>hne e.symm)];exact getD_some aA
 rw[robY_comm hne];rfl
theorem pl_8 {y:Yard} {w d:Int} (h:aM y=false):(y,(⟨8,0,0,0⟩:Reply))=gI y w d:=by unfold gI;rw[if_pos (by rw[h];simp)]
theorem pl_5 {y:Yard} {w d:Int} (h0:aM y=true) (h:inB w 0 99=false):(y,(⟨5,0,0,0⟩:Reply))=gI y w d:=by unfold gI;rw[if_neg (by rw[h0];simp),if_pos (by rw[h];simp)]
theorem pl_0 {y out:Yard} {w d:Int} (h0:aM y=true) (h:inB w 0 99=true) (ho:out=eU (w % 4).toNat (aY y (w % 4)) (bQ (w % 4) d)):rS out (w % 4).toNat=gI y w d:=by unfold gI;rw[if_neg (by rw[h0];simp),if_neg (by rw[h];simp),← ho]
structure PlA (y out:Yard) (home:Nat) (e:Entry) (k:Nat) (r:Run) (t:Task):Prop where
 ix:bZ out e.run=some k
 hr:out.runs[k]? = some r
 h0:0≤e.task
 ht:r.tasks[e.task.toNat]? = some t
 is:RunIs r
theorem pl_at {y out:Yard} {h:Nat} {e:Entry} (hY:YardIs y) (hP:PI y out h) (he:e∈out.shelf.getD h []):∃ q:Nat×Run×Task,PlA y out h e q.1 q.2.1 q.2.2:=by
 obtain ⟨k,r,t,hix,hry,h0,hti,h2⟩:=fresh_at (hP.fresh e he)
 exact ⟨(k,r,t),⟨(runIx_runs hP.runs _).trans hix,by rw[hP.runs];exact hry,h0,hti,(hY.run k r hry).1⟩⟩
theorem bJ5 {a b c d:Int} (ha:I64 a) (hb:I64 b) (hc:I64 c) (hd:I64 d):Reply.ok ⟨a,b,c,d⟩:=⟨ha,hb,hc,hd⟩
theorem aP0 (a:Int) (h:0≤a∧a≤100):Reply.ok ⟨a,0,0,0⟩:=bJ5 (by unfold I64;omega) (by unfold I64;omega) (by unfold I64;omega) (by unfold I64;omega)
theorem Poll_s (y:Yard) (w d:Int) (hw:y.wt≤1048576) (hd:I64 d):Ct1 prog 220 [.S y,.I w,.I d] [.S (gI y w d).1,.S (gI y w d).2]:=
 .one (gI y w d) (rk:=fun q=>[.S q.1,.S q.2])<|vc func220 (fun (hg:gin [Par.S y,Par.I w,Par.I d])=>let gy:=hg.1.1
  .c func185 (kN y hw) (hg:=⟨gy,trivial⟩) fun _ => .v (aM y)
   (fun h => .c func184 (fN y hw) (hg:=⟨gy,trivial⟩) fun _ => .rt (y,⟨8,0,0,0⟩) ⟨pl_8 h,gy,aP0 8 aA,trivial⟩)
   (fun hy=>let hY:=jN hy
    .c func138 (InV w 0 99) fun _ => .v (inB w 0 99)
    (fun h => .c func184 (fN y hw) (hg:=⟨gy,trivial⟩) fun _ => .rt (y,⟨5,0,0,0⟩) ⟨pl_5 hy h,gy,aP0 5 aA,trivial⟩)
    (fun hin=>let hwk:=inB_iff.1 hin
     .q w 4 (h:=by omega) <| .c func329 (bU9 y (w % 4) hw) (hg:=⟨gy,trivial⟩) fun _ => .c func330 (Victims_s (w % 4) d aA hd) fun _=>
     let fin:∀ (m:Nat) (out:Yard),out=eU (w % 4).toNat (aY y (w % 4)) (bQ (w % 4) d)→PI y out (w % 4).toNat→out.ok→D prog (fun q:Yard×Reply=>q=gI y w d∧rgd [Rk.S q.1,Rk.S q.2]):=fun m out ho hP go=>
      let hl:=aA4 hP (show (w % 4).toNat<4 by omega)
      let h80:=hP.each (w % 4).toNat aA
      .ye hl (w % 4) (he:=nO w) fun _ => .c func333 (TakeEntry_s (out.shelf.getD (w % 4).toNat []) aA) fun gt => .v (bV (out.shelf.getD (w % 4).toNat [])).2.2
       (fun hn => .rt (out,⟨9,0,0,0⟩) ⟨by rw[← pl_0 hy hin ho];exact (aI2 (bX9 hn)).symm,go,aP0 9 aA,trivial⟩)
       (fun hn=>let hcs:=bN2 hn
        .ex (pl_at hY hP (show (bV (out.shelf.getD (w % 4).toNat [])).1∈out.shelf.getD (w % 4).toNat [] by rw[hcs];exact mem_cons_self)) fun q hq=>
        let hnow:0≤out.now∧out.now≤999999980:=(by rw[hP.now];exact hY.now)
        let hrl:(bV (out.shelf.getD (w % 4).toNat [])).2.1.length≤80:=(by have h_:=h80;rw[hcs] at h_;simp only[length_cons] at h_;omega)
        .d 5 hl fun _ => .ie (w % 4).toNat (w % 4) (he:=nO w) <| .wt 109 <| .f 5 out.shelf (bV (out.shelf.getD (w % 4).toNat [])).2.1 (h:=trivial) <|
        .c func291 (lN ⟨out.now,out.seq,out.shelf.set (w % 4).toNat (bV (out.shelf.getD (w % 4).toNat [])).2.1,out.runs⟩ (bV (out.shelf.getD (w % 4).toNat [])).1.run (Nat.le_trans (hP.wtS hY hrl) aA)) (hg:=⟨go,trivial⟩) fun _=>
        .d 6 hq.hr fun gr => .ie q.1 (aG ⟨out.now,out.seq,out.shelf.set (w % 4).toNat (bV (out.shelf.getD (w % 4).toNat [])).2.1,out.runs⟩ (bV (out.shelf.getD (w % 4).toNat [])).1.run) (he:=cV hq.ix) <|
        .c func334 (Started_s q.2.1 (bV (out.shelf.getD (w % 4).toNat [])).1.task out.now q.2.2 hq.h0 hq.ht hnow hq.is) (hg:=⟨gr,trivial⟩) fun gs=>
        .ie q.1 (aG ⟨out.now,out.seq,out.shelf.set (w % 4).toNat (bV (out.shelf.getD (w % 4).toNat [])).2.1,out.runs⟩ (bV (out.shelf.getD (w % 4).toNat [])).1.run) (he:=cV hq.ix) <| .wt 126 <| .f 6 out.runs (jO q.2.1 (bV (out.shelf.getD (w % 4).toNat [])).1.task.toNat q.2.2 out.now) (h:=gs.1.1) <|
        let hr2:(out.runs.set q.1 (jO q.2.1 (bV (out.shelf.getD (w % 4).toNat [])).1.task.toNat q.2.2 out.now))[q.1]? = some (jO q.2.1 (bV (out.shelf.getD (w % 4).toNat [])).1.task.toNat q.2.2 out.now):=getElem?_set_self (gsi_.1 hq.hr).1
        let ht2:(jO q.2.1 (bV (out.shelf.getD (w % 4).toNat [])).1.task.toNat q.2.2 out.now).tasks[(bV (out.shelf.getD (w % 4).toNat [])).1.task.toNat]? = some ⟨3,q.2.2.need,q.2.2.try_+1,out.now+q.2.1.plan.wait⟩:=getElem?_set_self (gsi_.1 hq.ht).1
        .d 6 hr2 fun _ => .d m ht2 fun gu => .ie q.1 (aG ⟨out.now,out.seq,out.shelf.set (w % 4).toNat (bV (out.shelf.getD (w % 4).toNat [])).2.1,out.runs⟩ (bV (out.shelf.getD (w % 4).toNat [])).1.run) (he:=cV hq.ix) <| .ie (bV (out.shelf.getD (w % 4).toNat [])).1.task.toNat (bV (out.shelf.getD (w % 4).toNat [])).1.task (he:=by have:=hq.h0;omega) <|
        .f m (jO q.2.1 (bV (out.shelf.getD (w % 4).toNat [])).1.task.toNat q.2.2 out.now).tasks ⟨3,q.2.2.need,q.2.2.try_+1,out.now+q.2.1.plan.wait⟩ (h:=gu) <| .g m (vL ht2) <| .f 6 (out.runs.set q.1 (jO q.2.1 (bV (out.shelf.getD (w % 4).toNat [])).1.task.toNat q.2.2 out.now)) (jO q.2.1 (bV (out.shelf.getD (w % 4).toNat [])).1.task.toNat q.2.2 out.now) (h:=gs.1.1) <| .g 6 (vL hr2) <|
        .rt (⟨out.now,out.seq,out.shelf.set (w % 4).toNat (bV (out.shelf.getD (w % 4).toNat [])).2.1,out.runs.set q.1 (jO q.2.1 (bV (out.shelf.getD (w % 4).toNat [])).1.task.toNat q.2.2 out.now)⟩,⟨0,(bV (out.shelf.getD (w % 4).toNat [])).1.run,(bV (out.shelf.getD (w % 4).toNat [])).1.task,q.2.2.try_+1⟩)
         ⟨by rw[← pl_0 hy hin ho];exact (aR3 hcs hq.ix hq.hr hq.ht).symm,go,bJ5 (by unfold I64;omega) gt.1.1.2.2.1 gt.1.1.2.2.2 (show Task.ok _ from gu).2.2.1,trivial⟩)
     .l (Γ:=Nat×Yard) (fun g=>g.1≤3∧g.2=eU (w % 4).toNat (aY y (w % 4)) ((bQ (w % 4) d).take g.1)) (fun g=>3 - g.1) [6,7,8,9,10] [3,4,8] [] (fun g=>[vI 11 g.1]) (fun g=>ryS g.2 7 5 6) (0,aY y (w % 4)) (h:=⟨Nat.zero_le _,(yR _ _ _).symm⟩) fun g hJ tk=>
      let hP:PI y g.2 (w % 4).toNat:=(by rw[hJ.2];exact bQ0 hY w d g.1)
      let hl:=aA4 hP (show (w % 4).toNat<4 by omega)
      let go:g.2.ok:=hP.ok hY
      .s ((g.1:Int)<(bQ (w % 4) d).length)
       (fun hlt => .ye hl (w % 4) (he:=nO w) fun _ => .s (((g.2.shelf.getD (w % 4).toNat []).length:Int)=0)
        (fun hem => .ex (p:=fun o=>(bQ (w % 4) d)[g.1]? = some o) ⟨_,getElem?_eq_getElem (show g.1<(bQ (w % 4) d).length by omega)⟩ fun o hk=>
         let hor:=nX (home:=w % 4) (draw:=d) aA o (mem_of_getElem? hk)
         .ex (pl_rob hP (show (w % 4).toNat<4 by omega) (show 0≤o∧o≤3∧o≠(((w % 4).toNat:Nat):Int) by omega)) fun q hq=>
         .y hk fun _ => .c func329 (bU9 g.2 o (Nat.le_trans (hP.wt hY) aA)) (hg:=⟨go,trivial⟩) fun gs=>
         .y hk fun _ => .ye hq.1 o (he:=by omega) fun _ => .c func331 (HalfOf_s q.1 (by have:=hq.2.2.1;omega)) fun _=>
         .d 12 hq.1 fun _ => .y hk fun _ => .ie o.toNat o (he:=by omega) <| .wt 78 <| .f 12 (aY g.2 o).shelf (q.1.drop (cP q.1)) (h:=trivial) <|
         .d 12 hq.2.1 fun _ => .ie (w % 4).toNat (w % 4) (he:=nO w) <| .c func332 (Merged_s q.2 (q.1.take (cP q.1)) (by have:=hq.2.2.2.1;omega) (by have:=hq.2.2.1;rw[length_take];omega)) fun _ => .ie (w % 4).toNat (w % 4) (he:=nO w) <| .wt 51 <| .f 12 ((aY g.2 o).shelf.set o.toNat (q.1.drop (cP q.1))) (dS q.2 (q.1.take (cP q.1))) (h:=trivial) <|
         .p g.1 1 (h:=by unfold I64;omega) <| .n tk (g.1+1,⟨(aY g.2 o).now,(aY g.2 o).seq,((aY g.2 o).shelf.set o.toNat (q.1.drop (cP q.1))).set (w % 4).toNat (dS q.2 (q.1.take (cP q.1))),(aY g.2 o).runs⟩) [(5,12),(6,13)]
          (h1:=⟨by show g.1+1≤3;have:(bQ (w % 4) d).length=3:=rfl;omega,by rw[aO7 hk (by rw[← hJ.2];exact nil0 hem),← hJ.2];exact hq.2.2.2.2⟩) (h2:=by show 3 - (g.1+1)<_;have:(bQ (w % 4) d).length=3:=rfl;omega))
        (fun hem=>fin 24 g.2 (by rw[hJ.2];exact (aE4 (by rw[← hJ.2];exact bQ7 hem)).symm) hP go))
       (fun hlt=>fin 22 g.2 (by rw[hJ.2];exact aE5 (by have:(bQ (w % 4) d).length=3:=rfl;omega)) hP go)))) aD
noncomputable def bY5 (y:Yard) (id:Int) (p:Plan):Yard:=⟨y.now,y.seq+((aR (bU id p).tasks 2).length:Int),gY (aX id).toNat p.prio id (aR (bU id p).tasks 2) y.shelf y.seq,y.runs++[bU id p]⟩
noncomputable def bI (y:Yard) (id:Int) (p:Plan):Yard×Int:=
 if aM y=false then (y,8) else if inB id 1 9999=false then (y,5) else if 0≤aG y id then (y,6) else if aK p≠0 then (y,aK p) else if jA y p=false then (y,7) else (bY5 y id p,0)


theorem fresh_zero (r:Run):fA zRun r=aR r.tasks 2:=by
 unfold fA;rw[filter_eq_self];intro a _;simp[zRun,aR,eI]

end Go.Proofs.YtanpcpoogkdlaaaGreat
