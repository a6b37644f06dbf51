/-
  What deeds are well made, of both; told to the reader.
  A number's text, the shelf of an id, of both; told to the reader.
  Frames of the log, of both; told to the reader.
  Notes as texts, and read out of texts; notes in a text of frames. Plain theory.
  Frames of a text, and notes as texts, of both; told to the reader.
  Plans and runs read out of a text, of the reference.
  A yard read out of a text, of the program.
  Notes read out of texts, of both; told to the reader.
  Notes in a text of frames, those behind a mark, of both; told to the reader.
  What a change of a run lays on the shelves, of both: read where it is called.
  Runs that are done, or fail, or are left; what is told of work; starting anew; of the reference; told to the reader.
  Runs that are done; starting anew; of the reference; told to the reader.
  Late tasks, time that goes on, runs that are left, of the reference; told to the reader.
  Shelves that are swept, tasks that are started, polls, of the reference; told to the reader.
  Runs that are forgotten, of the reference; told to the reader, one region by hand.
  A deed that is done, of the reference; told to the reader.
  slices.DeleteFunc, told as a reader; shelves that are swept, of the program.
  Runs that are forgotten, of the program; told to the reader.
  Runs that are changed where they lie, of the program; told to the reader.
  A deed that is done, of the program; told to the reader.
  A new crew, of both.
  What a crew's turn makes of it, and many turns; how heavy it becomes. Theory alone.
  Orders of spans: what is asked of them; the weight of a yard behind a deed. Theory alone.
  All deeds of a list, and what stays, of both; told to the reader.
  The mark of a disk, of both, given how it is read.
-/
import Derived.Test.YtjihdmlkpkkpbaaGreatQ01
import Derived.Test.YtjihdmlkpkkpbaaGreatQ02
import Derived.Test.YtjihdmlkpkkpbaaGreatQ03
import Derived.Test.YtjihdmlkpkkpbaaGreatQ04
import Derived.Test.YtjihdmlkpkkpbaaGreatQ05
import Derived.Test.YtjihdmlkpkkpbaaGreatQ06
set_option linter.unusedSimpArgs false
set_option linter.unusedVariables false
namespace Go.Proofs.YtjihdmlkpkkpbaaGreat
set_option maxRecDepth 100000
set_option maxHeartbeats 2000000
open Go.RowKit Go.Proofs.Tryz List
theorem eqS_len {α:Type}[DecidableEq α] {xs ys:List α}(h:¬(xs.length:Int)=ys.length):false=eqB xs ys:=(aB1 fun e=>h (by rw[e])).symm
theorem eqS_at {α:Type}[DecidableEq α] {xs ys:List α}{k:Nat}{x y:α}(hx:xs[k]? = some x) (hy:ys[k]? = some y) (h:eqB x y=false):false=eqB xs ys:=(aB1 fun e=>by rw[e,hy]at hx;cases hx;rw[jX rfl]at h;cases h).symm
theorem eqS_to {α:Type}[DecidableEq α] {xs ys:List α}{k:Nat}{x y:α}(h:xs.take k=ys.take k) (hx:xs[k]? = some x) (hy:ys[k]? = some y) (he:eqB x y=true):xs.take (k+1)=ys.take (k+1):=by
 rw[<- dJ hx,<- dJ hy,h,eqB_iff.1 he]
theorem eqS_all {α:Type}[DecidableEq α] {xs ys:List α}{k:Nat}(hl:(xs.length:Int)=ys.length) (h:xs.take k=ys.take k) (hk:¬(k:Int)<xs.length):xs=ys:=by
 rw[take_of_length_le aA,take_of_length_le aA]at h;exact h
theorem eqS_yes {α:Type}[DecidableEq α] {xs ys:List α}{k:Nat}(hl:(xs.length:Int)=ys.length) (h:xs.take k=ys.take k) (hk:¬(k:Int)<xs.length):true=eqB xs ys:=(jX (eqS_all hl h hk)).symm
theorem EqualEdge_i (xs ys:List Edge):Ct1 prog 285 [.L xs,.L ys] [.B (eqB xs ys)]:=
 .one (eqB xs ys) (rk:=fun b=>[.B b])<|vc func285 (fun (hg:gin [Par.L xs,Par.L ys])=>let h1:=hg.1
  .u ((xs.length:Int)=ys.length)
   (fun h=>.rt false ⟨eqS_len h,trivial⟩)
   (fun h=>.l (Γ:=Nat) (fun k=>k<=xs.length/\xs.take k=ys.take k) (fun k=>xs.length-k) [0,1,12] [] [0,1] (fun k=>[vI 13 k]) (fun k=>[]) 0 (h:=⟨Nat.zero_le _,rfl⟩) fun k hk t=>.s ((k:Int)<xs.length)
    (fun h2=>.x xs k (h:=by omega) fun e he ge=>.x ys k (h:=by omega) fun f hf gf=>.qe (bL4 e f) aB<|.v (eqB e f)
     (fun h3=>.rt false ⟨eqS_at he hf h3,trivial⟩)
     (fun h3=>.p k 1<|.n t (k+1) [] (h1:=⟨by omega,eqS_to hk.2 he hf h3⟩)))
    (fun h2=>.rt true ⟨eqS_yes h hk.2 h2,trivial⟩))) aB
theorem bV6 {α:Type}[DecidableEq α] {x y:α}{p:Prop}(h:¬p) (k:x=y->p):false=eqB x y:=(aB1 fun e=>h (k e)).symm
theorem eq_of {α β:Type}[DecidableEq α] [DecidableEq β] {x y:α}{a b:β}(f:a=b->x=y) (g:x=y->a=b):eqB a b=eqB x y:=by unfold eqB;exact decide_eq_decide.2 ⟨f,g⟩
theorem SamePlan_i (x y:Plan):Ct1 prog 233 [.S x,.S y] [.B (eqB x y)]:=
 .one (eqB x y) (rk:=fun b=>[.B b])<|vc func233 (fun (hg:gin [Par.S x,Par.S y])=>
  .s (x.prio=y.prio) (fun h0=>.s (x.most=y.most) (fun h1=>.s (x.wait=y.wait) (fun h2=>.s (x.tasks=y.tasks)
   (fun h3=>.c func285 (EqualEdge_i x.edges y.edges) fun _=>.rt (eqB x.edges y.edges) ⟨eq_of (cB3 h0 h1 h2 h3) (fun e=>by rw[e]),trivial⟩)
   (fun h=>.rt false ⟨bV6 h (fun e=>by rw[e]),trivial⟩)) (fun h=>.rt false ⟨bV6 h (fun e=>by rw[e]),trivial⟩)) (fun h=>.rt false ⟨bV6 h (fun e=>by rw[e]),trivial⟩)) (fun h=>.rt false ⟨bV6 h (fun e=>by rw[e]),trivial⟩)) aB
theorem usedOf_1 (d:Deed) (h:d.kind=1):Cb prog 166 [.S d] inferInstance (⟨d.kind,d.run,d.plan,0,0,0,0⟩:Deed):=
 vcb func166 (fun (hg:gin [Par.S d])=>.kt (d.kind=1) h<|.rt () (show Deed.ok _ from by have g:d.ok:=hg.1.1;unfold Deed.ok Plan.ok I64 at *;simp only;omega)) aB
theorem usedOf_2 (d:Deed) (h:d.kind=2):Cb prog 166 [.S d] inferInstance (⟨d.kind,0,⟨0,0,0,0,[]⟩,0,0,d.worker,d.draw⟩:Deed):=
 vcb func166 (fun (hg:gin [Par.S d])=>.kf (d.kind=1) aA<|.kt (d.kind=2) h<|.rt () (show Deed.ok _ from by have g:d.ok:=hg.1.1;unfold Deed.ok Plan.ok I64 at *;simp only;omega)) aB
theorem usedOf_3 (d:Deed) (h:d.kind=3):Cb prog 166 [.S d] inferInstance (⟨d.kind,d.run,⟨0,0,0,0,[]⟩,d.task,d.try_,0,0⟩:Deed):=
 vcb func166 (fun (hg:gin [Par.S d])=>.kf (d.kind=1) aA<|.kf (d.kind=2) aA<|.kt (d.kind=3) h<|.rt () (show Deed.ok _ from by have g:d.ok:=hg.1.1;unfold Deed.ok Plan.ok I64 at *;simp only;omega)) aB
theorem usedOf_4 (d:Deed) (h:d.kind=4):Cb prog 166 [.S d] inferInstance (⟨d.kind,d.run,⟨0,0,0,0,[]⟩,d.task,d.try_,0,0⟩:Deed):=
 vcb func166 (fun (hg:gin [Par.S d])=>.kf (d.kind=1) aA<|.kf (d.kind=2) aA<|.kf (d.kind=3) aA<|.kt (d.kind=4) h<|.rt () (show Deed.ok _ from by have g:d.ok:=hg.1.1;unfold Deed.ok Plan.ok I64 at *;simp only;omega)) aB
theorem usedOf_6 (d:Deed) (h:d.kind=6):Cb prog 166 [.S d] inferInstance (⟨d.kind,d.run,⟨0,0,0,0,[]⟩,0,0,0,0⟩:Deed):=
 vcb func166 (fun (hg:gin [Par.S d])=>.kf (d.kind=1) aA<|.kf (d.kind=2) aA<|.kf (d.kind=3) aA<|.kf (d.kind=4) aA<|.kt (d.kind=6) h<|.rt () (show Deed.ok _ from by have g:d.ok:=hg.1.1;unfold Deed.ok Plan.ok I64 at *;simp only;omega)) aB
theorem usedOf_7 (d:Deed) (h:d.kind=7):Cb prog 166 [.S d] inferInstance (⟨d.kind,d.run,⟨0,0,0,0,[]⟩,0,0,0,0⟩:Deed):=
 vcb func166 (fun (hg:gin [Par.S d])=>.kf (d.kind=1) aA<|.kf (d.kind=2) aA<|.kf (d.kind=3) aA<|.kf (d.kind=4) aA<|.kf (d.kind=6) aA<|.kt (d.kind=7) h<|.rt () (show Deed.ok _ from by have g:d.ok:=hg.1.1;unfold Deed.ok Plan.ok I64 at *;simp only;omega)) aB
theorem usedOf_0 (d:Deed) (h:¬(d.kind=1∨d.kind=2∨d.kind=3∨d.kind=4∨d.kind=6∨d.kind=7)):Cb prog 166 [.S d] inferInstance (⟨d.kind,0,⟨0,0,0,0,[]⟩,0,0,0,0⟩:Deed):=
 vcb func166 (fun (hg:gin [Par.S d])=>.kf (d.kind=1) aA<|.kf (d.kind=2) aA<|.kf (d.kind=3) aA<|.kf (d.kind=4) aA<|.kf (d.kind=6) aA<|.kf (d.kind=7) aA<|.rt () (show Deed.ok _ from by have g:d.ok:=hg.1.1;unfold Deed.ok Plan.ok I64 at *;simp only;omega)) aB
theorem UsedOf_i (d:Deed):Cb prog 166 [.S d] inferInstance (nM d):=by
 unfold nM;split
 ·next h=>exact usedOf_1 d h
 split
 ·next h=>exact usedOf_2 d h
 split
 ·next h=>
  rcases h with h | h
  ·exact usedOf_3 d h
  exact usedOf_4 d h
 split
 ·next h=>
  rcases h with h | h
  ·exact usedOf_6 d h
  exact usedOf_7 d h
 next h1 h2 h3 h4=>exact usedOf_0 d aA
theorem SameDeed_i (x y:Deed):Ct1 prog 165 [.S x,.S y] [.B (eqB x y)]:=
 .one (eqB x y) (rk:=fun b=>[.B b])<|vc func165 (fun (hg:gin [Par.S x,Par.S y])=>
  let no:∀{p:Prop},¬p->(x=y->p)->D prog (fun b:Bool=>b=eqB x y/\rgd [Rk.B b]):=fun h k=>.rt false ⟨bV6 h k,trivial⟩
  .s (x.kind=y.kind) (fun h0=>.s (x.run=y.run) (fun h1=>.c func233 (SamePlan_i x.plan y.plan) (hg:=⟨(show x.ok from hg.1.1).2.2.1,(show y.ok from hg.2.1.1).2.2.1,trivial⟩) fun _=>.sb (eqB x.plan y.plan) (fun h2=>.s (x.task=y.task) (fun h3=>.s (x.try_=y.try_) (fun h4=>.s (x.worker=y.worker)
   (fun h5=>.rt (decide (x.draw=y.draw)) ⟨by unfold eqB;exact decide_eq_decide.2 ⟨fun h6=>cB4 h0 h1 (eqB_iff.1 h2) h3 h4 h5 h6,fun e=>by rw[e]⟩,trivial⟩)
   (fun h=>no h (fun e=>by rw[e]))) (fun h=>no h (fun e=>by rw[e]))) (fun h=>no h (fun e=>by rw[e]))) (fun h=>no (p:=eqB x.plan y.plan=true) (by rw[h];simp) (fun e=>by rw[e];exact jX rfl))) (fun h=>no h (fun e=>by rw[e]))) (fun h=>no h (fun e=>by rw[e]))) aB
theorem cN5 {es:List Edge}{k:Nat}{e:Edge}(h:es[k]? = some e):dF (es.take k)++[e.from_,e.to_]=dF (es.take (k+1)):=by
 obtain⟨hk,rfl⟩:=gsi_.1 h;exact(edgeNums_s hk).symm
abbrev lI (d:Deed):List Int:=[d.run,d.plan.prio,d.plan.most,d.plan.wait,d.plan.tasks,(d.plan.edges.length:Int)]
theorem good6 {d:Deed}(g:d.ok) (hl:d.plan.edges.length<=1048576):∀z∈lI d,Dsh.good z:=by
 intro z hz;have g1:d.ok:=g;unfold Deed.ok Plan.ok at g1;simp only[lI,mem_cons,not_mem_nil,or_false]at hz;rcases hz with rfl | rfl | rfl | rfl | rfl | rfl
 ·exact g1.2.1
 ·exact g1.2.2.1.1
 ·exact g1.2.2.1.2.1
 ·exact g1.2.2.1.2.2.1
 ·exact g1.2.2.1.2.2.2
 show I64 _;unfold I64;omega
theorem cW2 {d:Deed}(h1:¬d.kind=1) (h2:¬d.kind=2) (h3:¬(d.kind=3∨d.kind=4)) (h4:¬(d.kind=6∨d.kind=7)):[]=bC d:=by unfold bC;rw[if_neg h1,if_neg h2,if_neg h3,if_neg h4]
theorem cW3 {d:Deed}(h:d.kind=6∨d.kind=7):[d.run]=bC d:=by unfold bC;rw[if_neg aA,if_neg aA,if_neg aA,if_pos h]
theorem cW4 {d:Deed}(h:d.kind=3∨d.kind=4):[d.run,d.task,d.try_]=bC d:=by unfold bC;rw[if_neg aA,if_neg aA,if_pos h]
theorem cW5 {d:Deed}(h:d.kind=2):[d.worker,d.draw]=bC d:=by unfold bC;rw[if_neg aA,if_pos h]
theorem cW6 {d:Deed}(h:d.kind=1) {k:Nat}(hk:¬(k:Int)<d.plan.edges.length):lI d++dF (d.plan.edges.take k)=bC d:=by unfold bC;rw[if_pos h,take_of_length_le aA]
theorem yL (d:Deed) (hl:d.plan.edges.length<=1048576):Ct1 prog 164 [.S d] [.L (bC d)]:=
 .one (bC d) (rk:=fun l=>[.L l])<|vc func164 (fun (hg:gin [Par.S d])=>let g:d.ok:=hg.1.1
  let gi:Dsh Int:=inferInstance
  .s (d.kind=1)
   (fun h=>.lr gi fS 28 (lI d) (by simp) (good6 g hl)<|.l (Γ:=Nat) (fun k=>k<=d.plan.edges.length) (fun k=>d.plan.edges.length-k) [777777,28] [777777] [777777] (fun k=>[vI 33 k,vR 3 2]) (fun k=>[oR 2 3 (lI d++dF (d.plan.edges.take k))]) 0 fun k hk t=>
    let hln:(lI d++dF (d.plan.edges.take k)).length<=2097158:=(by rw[length_append,oA,length_take];simp only[length_cons,length_nil];omega)
    .s ((k:Int)<d.plan.edges.length)
    (fun h2=>.x d.plan.edges k (h:=by omega) fun e he ge=>.ap gi (lI d++dF (d.plan.edges.take k)) [e.from_,e.to_] (bA3 (show e.ok from ge).1 (show e.ok from ge).2) 8 (by simp only[length_cons,length_nil];unfold maxLen;omega) (by simp only[length_cons,length_nil];omega)<|.g 2 (show lI d++dF (d.plan.edges.take k)++[e.from_,e.to_]=lI d++dF (d.plan.edges.take (k+1)) by rw[append_assoc,cN5 he])<|.p k 1<|.n t (k+1) [])
    (fun h2=>.rt (lI d++dF (d.plan.edges.take k)) ⟨cW6 h h2,trivial⟩))
   (fun h1=>.s (d.kind=2)
    (fun h=>.li gi 52 [d.worker,d.draw] (by simp) (by simp) (bA3 g.2.2.2.2.2.1 g.2.2.2.2.2.2)<|.rt [d.worker,d.draw] ⟨cW5 h,trivial⟩)
    (fun h2=>let three:d.kind=3∨d.kind=4->D prog (fun l:List Int=>l=bC d/\rgd [Rk.L l]):=fun h=>.li gi 62 [d.run,d.task,d.try_] (by simp) (by simp) (fun z hz=>(mem_cons.1 hz).elim (fun e=>by rw[e];exact g.2.1) (bA3 g.2.2.2.1 g.2.2.2.2.1 z))<|.rt [d.run,d.task,d.try_] ⟨cW4 h,trivial⟩
     let one:d.kind=6∨d.kind=7->D prog (fun l:List Int=>l=bC d/\rgd [Rk.L l]):=fun h=>.li gi 68 [d.run] (by simp) (by simp) (aY3 g.2.1)<|.rt [d.run] ⟨cW3 h,trivial⟩
     .s (d.kind=3) (fun h=>three (.inl h)) (fun h3=>.s (d.kind=4) (fun h=>three (.inr h)) (fun h4=>.s (d.kind=6) (fun h=>one (.inl h)) (fun h6=>.s (d.kind=7) (fun h=>one (.inr h)) (fun h7=>.rt [] ⟨cW2 h1 h2 aA aA,trivial⟩))))))) aB
theorem any_to {xs:List Int}{p:Int->Bool}{k:Nat}{n:Int}(h:xs[k]? = some n) (h0:(xs.take k).any p=false) (hn:p n=false):(xs.take (k+1)).any p=false:=by
 rw[<- dJ h,any_append,h0];simp[hn]
theorem any_hit {xs:List Int}{p:Int->Bool}{k:Nat}{n:Int}(h:xs[k]? = some n) (hn:p n=true):xs.any p=true:=any_eq_true.2 ⟨n,mem_of_getElem? h,hn⟩
theorem dok_a {d:Deed}(h:inB d.kind 1 8=false):false=aV d:=(deedOk_0 h).symm
theorem dok_b {d:Deed}(h:(31:Int)<d.plan.edges.length):false=aV d:=by unfold aV;rw[decide_eq_false (show ¬d.plan.edges.length<=31 by omega)];simp
theorem dok_c {d:Deed}(h:eqB d (nM d)=false):false=aV d:=by unfold aV;rw[h];simp
theorem dok_d {d:Deed}(h:(bC d).any (fun n=> !num n)=true):false=aV d:=by unfold aV;rw[h];simp
theorem dok_e {d:Deed}(h1:inB d.kind 1 8=true) (h2:¬(31:Int)<d.plan.edges.length) (h3:eqB d (nM d)=true) {k:Nat}(h4:((bC d).take k).any (fun n=> !num n)=false) (hk:¬(k:Int)<(bC d).length):true=aV d:=by
 rw[take_of_length_le aA]at h4;unfold aV;rw[h1,h3,h4,decide_eq_true (show d.plan.edges.length<=31 by omega)];rfl
theorem aY7 (d:Deed):Ct1 prog 95 [.S d] [.B (aV d)]:=
 .one (aV d) (rk:=fun b=>[.B b])<|vc func95 (fun (hg:gin [Par.S d])=>let g:d.ok:=hg.1.1
  .c func50 (bL d.kind 1 8) fun _=>.v (inB d.kind 1 8) (fun h1=>.rt false ⟨dok_a h1,trivial⟩) (fun h1=>.s ((31:Int)<d.plan.edges.length) (fun h2=>.rt false ⟨dok_b h2,trivial⟩) (fun h2=>
   .cb inferInstance (nM d) _ func166 (UsedOf_i d) ⟨g,trivial⟩ fun gu=>.c func165 (SameDeed_i d (nM d)) (hg:=⟨g,gu,trivial⟩) fun _=>.v (eqB d (nM d)) (fun h3=>.rt false ⟨dok_c h3,trivial⟩) (fun h3=>
   let hnl:=sW d
   .c func164 (yL d aA) (hg:=⟨g,trivial⟩) fun _=>.la (Γ:=Nat) (fun k=>k<=(bC d).length/\((bC d).take k).any (fun n=> !num n)=false) (fun k=>(bC d).length-k) (fun k=>[vI 26 k]) (fun k=>[]) 0 (h:=⟨Nat.zero_le _,rfl⟩) fun k hk t=>.s ((k:Int)<(bC d).length)
    (fun h4=>.x (bC d) k (h:=by omega) fun n hn gn=>.c func50 (bL n 0 1000000000) fun _=>.v (inB n 0 1000000000)
     (fun h5=>.rt false ⟨dok_d (any_hit hn (by show (!inB n 0 1000000000)=true;rw[h5];rfl)),trivial⟩)
     (fun h5=>.p k 1<|.n t (k+1) [] (h1:=⟨by omega,any_to hn hk.2 (by show (!inB n 0 1000000000)=false;rw[h5];rfl)⟩)))
    (fun h4=>.rt true ⟨dok_e h1 h2 h3 hk.2 h4,trivial⟩))))) aB
theorem aC4 (n:Int):Ct1 prog 197 [.I n] [.B (num n)]:=
 vc func197 (fun hg=>.c func37 (InV n 0 1000000000) fun _=>.rt () ⟨trivial,trivial⟩) aB
theorem NoPlan_s (p:Plan):Ct1 prog 199 [.S p] [.B (kI p)]:=
 .one (kI p) (rk:=fun b=>[.B b])<|vc func199 (fun hg=>.s (p.prio=0) (fun h0=>.s (p.most=0) (fun h1=>.s (p.wait=0) (fun h2=>.s (p.tasks=0)
  (fun h3=>.rt (decide ((p.edges.length:Int)=0)) ⟨by unfold kI;simp[h0,h1,h2,h3],trivial⟩)
  (fun h=>.rt false ⟨by unfold kI;simp[h],trivial⟩)) (fun h=>.rt false ⟨by unfold kI;simp[h],trivial⟩)) (fun h=>.rt false ⟨by unfold kI;simp[h],trivial⟩)) (fun h=>.rt false ⟨by unfold kI;simp[h],trivial⟩)) aB
theorem anyE_to {xs:List Edge}{p:Edge->Bool}{k:Nat}{n:Edge}(h:xs[k]? = some n) (h0:(xs.take k).any p=false) (hn:p n=false):(xs.take (k+1)).any p=false:=by
 rw[<- dJ h,any_append,h0];simp[hn]
theorem PlanNum_s (p:Plan):Ct1 prog 198 [.S p] [.B (gU p)]:=
 .one (gU p) (rk:=fun b=>[.B b])<|vc func198 (fun (hg:gin [Par.S p])=>let bad:gU p=false->D prog (fun b:Bool=>b=gU p/\rgd [Rk.B b]):=fun h=>.rt false ⟨h.symm,trivial⟩
  .c func197 (aC4 p.prio) fun _=>.v (num p.prio) (fun h0=>bad (by unfold gU;simp[h0])) (fun h0=>
  .c func197 (aC4 p.most) fun _=>.v (num p.most) (fun h1=>bad (by unfold gU;simp[h1])) (fun h1=>
  .c func197 (aC4 p.wait) fun _=>.v (num p.wait) (fun h2=>bad (by unfold gU;simp[h2])) (fun h2=>
  .c func197 (aC4 p.tasks) fun _=>.v (num p.tasks) (fun h3=>bad (by unfold gU;simp[h3])) (fun h3=>.s ((31:Int)<p.edges.length) (fun h4=>bad (by unfold gU;rw[decide_eq_false (show ¬p.edges.length<=31 by omega)];simp)) (fun h4=>
   .la (Γ:=Nat) (fun k=>k<=p.edges.length/\(p.edges.take k).any (fun e:Edge=> !(num e.from_ && num e.to_))=false) (fun k=>p.edges.length-k) (fun k=>[vI 3 k]) (fun k=>[]) 0 (h:=⟨Nat.zero_le _,rfl⟩) fun k hk t=>.s ((k:Int)<p.edges.length)
    (fun h5=>.x p.edges k (h:=by omega) fun e he ge=>.c func197 (aC4 e.from_) fun _=>.v (num e.from_) (fun h6=>bad (by unfold gU;rw[any_eq_true.2 ⟨e,mem_of_getElem? he,by simp[h6]⟩];simp)) (fun h6=>.y he fun _=>.c func197 (aC4 e.to_) fun _=>.v (num e.to_) (fun h7=>bad (by unfold gU;rw[any_eq_true.2 ⟨e,mem_of_getElem? he,by simp[h7]⟩];simp)) (fun h7=>
     .p k 1<|.n t (k+1) [] (h1:=⟨by omega,anyE_to he hk.2 (by simp[h6,h7])⟩))))
    (fun h5=>.rt true ⟨by have h9:=hk.2;rw[take_of_length_le aA]at h9;unfold gU;rw[h9,h0,h1,h2,h3,decide_eq_true (show p.edges.length<=31 by omega)];rfl,trivial⟩))))))) aB
theorem cI7 {d:Deed}{b3 b4 b5:Bool}(h3:decide (d.kind=2)=b3) (h4:(decide (d.kind=3) || decide (d.kind=4))=b4) (h5:(((!decide (d.kind=2)) && (!decide (d.kind=5))) && (!decide (d.kind=8)))=b5) :
  sV d=((((((b5 && (!(num d.run))) || ((!b5) && (!decide (d.run=0)))) || (b4 && ((!(num d.task)) || (!(num d.try_))))) || ((!b4) && ((!decide (d.task=0)) || (!decide (d.try_=0))))) || (b3 && ((!(num d.worker)) || (!(num d.draw))))) || ((!b3) && ((!decide (d.worker=0)) || (!decide (d.draw=0))))):=by
 unfold sV;rw[h5,h4,h3]
noncomputable def twoD {R:Bool->Prop}(b:Bool) (x y:Int) (bad:(b=true/\(num x=false∨num y=false)∨b=false/\(¬x=0∨¬y=0))->D prog R) (k:(b=true->num x=true/\num y=true)->(b=false->x=0/\y=0)->D prog R):D prog R:=
 match b,bad,k with
 | true,bad,k=>.c func197 (aC4 x) fun _=>.v (num x) (fun h=>bad (.inl ⟨rfl,.inl h⟩)) (fun h=>.c func197 (aC4 y) fun _=>.v (num y) (fun h2=>bad (.inl ⟨rfl,.inr h2⟩)) (fun h2=>k (fun _=>⟨h,h2⟩) (fun z=>by cases z)))
 | false,bad,k=>.u (x=0) (fun h=>bad (.inr ⟨rfl,.inl h⟩)) (fun h=>.u (y=0) (fun h2=>bad (.inr ⟨rfl,.inr h2⟩)) (fun h2=>k (fun z=>by cases z) (fun _=>⟨h,h2⟩)))
noncomputable def oneD {R:Bool->Prop}(b:Bool) (x:Int) (bad:(b=true/\num x=false∨b=false/\¬x=0)->D prog R) (k:(b=true->num x=true)->(b=false->x=0)->D prog R):D prog R:=
 match b,bad,k with
 | true,bad,k=>.c func197 (aC4 x) fun _=>.v (num x) (fun h=>bad (.inl ⟨rfl,h⟩)) (fun h=>k (fun _=>h) (fun z=>by cases z))
 | false,bad,k=>.u (x=0) (fun h=>bad (.inr ⟨rfl,h⟩)) (fun h=>k (fun z=>by cases z) (fun _=>h))
theorem one_se {b:Bool}{x:Int}(h1:b=true->num x=true) (h2:b=false->x=0):(b && (!(num x)) || (!b) && (!decide (x=0)))=false:=by
 cases b with
 | true=>simp[h1 rfl]
 | false=>simp[h2 rfl]
theorem bK3 {b:Bool}{x y:Int}(h1:b=true->num x=true/\num y=true) (h2:b=false->x=0/\y=0):(b && ((!(num x)) || (!(num y))))=false/\((!b) && ((!decide (x=0)) || (!decide (y=0))))=false:=by
 cases b with
 | true=>simp[h1 rfl]
 | false=>simp[h2 rfl]
theorem one_bad {b:Bool}{x:Int}(h:b=true/\num x=false∨b=false/\¬x=0):(b && (!(num x)) || (!b) && (!decide (x=0)))=true:=by
 rcases h with⟨rfl,h⟩ | ⟨rfl,h⟩<;>simp[h]
theorem cF8 {b:Bool}{x y:Int}(h:b=true/\(num x=false∨num y=false)∨b=false/\(¬x=0∨¬y=0)):(b && ((!(num x)) || (!(num y))))=true∨((!b) && ((!decide (x=0)) || (!decide (y=0))))=true:=by
 rcases h with⟨rfl,h | h⟩ | ⟨rfl,h | h⟩<;>simp[h]
noncomputable def dkD (d:Deed) (g:d.ok) (hi:1<=d.kind/\d.kind<=8) (b3 b4 b5:Bool) (h3:decide (d.kind=2)=b3) (h4:(decide (d.kind=3) || decide (d.kind=4))=b4) (h5:(((!decide (d.kind=2)) && (!decide (d.kind=5))) && (!decide (d.kind=8)))=b5):D prog (fun b:Bool=>b=aV d/\rgd [Rk.B b]):=
 let bad:sV d=true->D prog (fun b:Bool=>b=aV d/\rgd [Rk.B b]):=fun h=>.rt false ⟨(deedS_f hi h).symm,trivial⟩
 oneD b5 d.run (fun h=>bad (by rw[cI7 h3 h4 h5,one_bad h];simp)) fun r1 r2=>
 twoD b4 d.task d.try_ (fun h=>bad (by rw[cI7 h3 h4 h5];rcases cF8 h with e | e<;>rw[e]<;>simp)) fun t1 t2=>
 twoD b3 d.worker d.draw (fun h=>bad (by rw[cI7 h3 h4 h5];rcases cF8 h with e | e<;>rw[e]<;>simp)) fun w1 w2=>
 let he:sV d=false:=(by rw[cI7 h3 h4 h5,one_se r1 r2,(bK3 t1 t2).1,(bK3 t1 t2).2,(bK3 w1 w2).1,(bK3 w1 w2).2];rfl)
 .s (d.kind=1)
  (fun h=>.c func198 (PlanNum_s d.plan) (hg:=⟨g.2.2.1,trivial⟩) fun _=>.rt (gU d.plan) ⟨(deedS_1 hi he h).symm,trivial⟩)
  (fun h=>.c func199 (NoPlan_s d.plan) (hg:=⟨g.2.2.1,trivial⟩) fun _=>.rt (kI d.plan) ⟨(deedS_n hi he h).symm,trivial⟩)
theorem kind_8 {d:Deed}(h:1<=d.kind/\d.kind<=8):d.kind=1∨d.kind=2∨d.kind=3∨d.kind=4∨d.kind=5∨d.kind=6∨d.kind=7∨d.kind=8:=by omega
theorem cB5 (d:Deed):Ct1 prog 130 [.S d] [.B (aV d)]:=
 .one (aV d) (rk:=fun b=>[.B b])<|vc func130 (fun (hg:gin [Par.S d])=>let g:d.ok:=hg.1.1
  .c func37 (InV d.kind 1 8) fun _=>.v (inB d.kind 1 8) (fun h1=>.rt false ⟨dok_a h1,trivial⟩) (fun h1=>let hi:=inB_iff.1 h1
   (fun hk=>.oc hk (fun h=>.wt 3<|.rv 3 (.bool false) (y := .bool (decide (d.kind=2))) (by rw[h];rfl)<|.kf (d.kind=3) aA<|.wt 4<|.rv 4 (.bool false) (y := .bool (decide (d.kind=4))) (by rw[h];rfl)<|.ut (d.kind=5) aA<|.wt 5<|.rv 5 (.bool true) (y := .bool (!decide (d.kind=8))) (by rw[h];rfl)<|dkD d g hi false false true (by rw[h];rfl) (by rw[h];rfl) (by rw[h];rfl)) (fun hk=>.oc hk (fun h=>.wt 3<|.rv 3 (.bool true) (y := .bool (decide (d.kind=2))) (by rw[h];rfl)<|.kf (d.kind=3) aA<|.wt 4<|.rv 4 (.bool false) (y := .bool (decide (d.kind=4))) (by rw[h];rfl)<|dkD d g hi true false false (by rw[h];rfl) (by rw[h];rfl) (by rw[h];rfl)) (fun hk=>.oc hk (fun h=>.wt 3<|.rv 3 (.bool false) (y := .bool (decide (d.kind=2))) (by rw[h];rfl)<|.kt (d.kind=3) h<|.ut (d.kind=5) aA<|.wt 5<|.rv 5 (.bool true) (y := .bool (!decide (d.kind=8))) (by rw[h];rfl)<|dkD d g hi false true true (by rw[h];rfl) (by rw[h];rfl) (by rw[h];rfl)) (fun hk=>.oc hk (fun h=>.wt 3<|.rv 3 (.bool false) (y := .bool (decide (d.kind=2))) (by rw[h];rfl)<|.kf (d.kind=3) aA<|.wt 4<|.rv 4 (.bool true) (y := .bool (decide (d.kind=4))) (by rw[h];rfl)<|.ut (d.kind=5) aA<|.wt 5<|.rv 5 (.bool true) (y := .bool (!decide (d.kind=8))) (by rw[h];rfl)<|dkD d g hi false true true (by rw[h];rfl) (by rw[h];rfl) (by rw[h];rfl)) (fun hk=>.oc hk (fun h=>.wt 3<|.rv 3 (.bool false) (y := .bool (decide (d.kind=2))) (by rw[h];rfl)<|.kf (d.kind=3) aA<|.wt 4<|.rv 4 (.bool false) (y := .bool (decide (d.kind=4))) (by rw[h];rfl)<|.uf (d.kind=5) h<|dkD d g hi false false false (by rw[h];rfl) (by rw[h];rfl) (by rw[h];rfl)) (fun hk=>.oc hk (fun h=>.wt 3<|.rv 3 (.bool false) (y := .bool (decide (d.kind=2))) (by rw[h];rfl)<|.kf (d.kind=3) aA<|.wt 4<|.rv 4 (.bool false) (y := .bool (decide (d.kind=4))) (by rw[h];rfl)<|.ut (d.kind=5) aA<|.wt 5<|.rv 5 (.bool true) (y := .bool (!decide (d.kind=8))) (by rw[h];rfl)<|dkD d g hi false false true (by rw[h];rfl) (by rw[h];rfl) (by rw[h];rfl)) (fun hk=>.oc hk (fun h=>.wt 3<|.rv 3 (.bool false) (y := .bool (decide (d.kind=2))) (by rw[h];rfl)<|.kf (d.kind=3) aA<|.wt 4<|.rv 4 (.bool false) (y := .bool (decide (d.kind=4))) (by rw[h];rfl)<|.ut (d.kind=5) aA<|.wt 5<|.rv 5 (.bool true) (y := .bool (!decide (d.kind=8))) (by rw[h];rfl)<|dkD d g hi false false true (by rw[h];rfl) (by rw[h];rfl) (by rw[h];rfl)) (fun h=>.wt 3<|.rv 3 (.bool false) (y := .bool (decide (d.kind=2))) (by rw[h];rfl)<|.kf (d.kind=3) aA<|.wt 4<|.rv 4 (.bool false) (y := .bool (decide (d.kind=4))) (by rw[h];rfl)<|.ut (d.kind=5) aA<|.wt 5<|.rv 5 (.bool false) (y := .bool (!decide (d.kind=8))) (by rw[h];rfl)<|dkD d g hi false false false (by rw[h];rfl) (by rw[h];rfl) (by rw[h];rfl))))))))) (kind_8 hi))) aB
theorem sh_0 {id:Int}(h:aU id=⟨#[]⟩):0=aX id:=by unfold aX;rw[if_pos h]
theorem sh_1 {id:Int}(h:¬aU id=⟨#[]⟩):cA (aU id) % 4=aX id:=by unfold aX;rw[if_neg h]
theorem ShelfOf_i (id:Int):Ct1 prog 287 [.I id] [.I (aX id)]:=
 .one (aX id) (rk:=fun a=>[.I a])<|vc func287 (fun hg=>let hv:=eW id
  let hr:=aD1 (aU id)
  .c func160 (aH2 id) fun _=>.s (aU id=⟨#[]⟩)
  (fun h=>.rt 0 ⟨sh_0 h,trivial⟩)
  (fun h=>.c func162 (aO6 (aU id) aA) fun _=>.q (cA (aU id)) 4 (h:=by omega)<|.rt (cA (aU id) % 4) ⟨sh_1 h,trivial⟩)) aB
theorem ShelfOf_s (id:Int):Ct1 prog 270 [.I id] [.I (aX id)]:=
 .one (aX id) (rk:=fun a=>[.I a])<|vc func270 (fun hg=>let hv:=eW id
  let hr:=aD1 (aU id)
  .c func127 (aH1 id) fun _=>.s (aU id=⟨#[]⟩)
  (fun h=>.rt 0 ⟨sh_0 h,trivial⟩)
  (fun h=>.c func129 (aO5 (aU id) aA) fun _=>.q (cA (aU id)) 4 (h:=by omega)<|.rt (cA (aU id) % 4) ⟨sh_1 h,trivial⟩)) aB
noncomputable def bX (s:ByteArray) (a:Nat):ByteArray×Int:=
 if (vAt s a).2<0∨¬(1<=(vAt s a).1/\(vAt s a).1<=400)∨(s.size:Int)-(vAt s a).2-4<(vAt s a).1 then (⟨#[]⟩,-1)
 else if cA (s.extract ((vAt s a).2+4).toNat ((vAt s a).2+4+(vAt s a).1).toNat)=(bR s (vAt s a).2.toNat).1 then (s.extract ((vAt s a).2+4).toNat ((vAt s a).2+4+(vAt s a).1).toNat,(vAt s a).2+4+(vAt s a).1) else (⟨#[]⟩,-1)
def dG (t:ByteArray):ByteArray:=if inB t.size 1 400 then aU t.size++bV (cA t)++t else ⟨#[]⟩
theorem vJ (n:Int):(bV n).size<=4:=by unfold bV;split<;>simp[ByteArray.size,kT]
theorem cZ3 {t:ByteArray}(h:inB (t.size:Int) 1 400=false):(⟨#[]⟩:ByteArray)=dG t:=by unfold dG;rw[h];rfl
theorem cZ2 {t:ByteArray}(h:inB (t.size:Int) 1 400=true):aU t.size++bV (cA t)++t=dG t:=by unfold dG;rw[h];rfl
theorem aH6 (t:ByteArray) (ht:t.size<=1048576):Ct1 prog 93 [.T t] [.T (dG t)]:=
 .one (dG t) (rk:=fun a=>[.T a])<|vc func93 (fun hg=>.c func50 (bL (t.size:Int) 1 400) fun _=>.v (inB (t.size:Int) 1 400)
  (fun h=>.rt ⟨#[]⟩ ⟨cZ3 h,trivial⟩)
  (fun h=>let hv:=eW (t.size:Int)
   let hf:=vJ (cA t)
   .c func160 (aH2 (t.size:Int)) fun _=>.c func162 (aO6 t ht) fun _=>.c func161 (bQ4 (cA t)) fun _=>.pb .add (iD (aU t.size) (bV (cA t)) aA)<|.pb .add (iD (aU t.size++bV (cA t)) t (by rw[ByteArray.size_append];omega)) <|
   .rt (aU t.size++bV (cA t)++t) ⟨cZ2 h,trivial⟩)) aB
theorem fo_e {t:ByteArray}(h:t=⟨#[]⟩):(⟨#[]⟩:ByteArray)=dG t:=cZ3 (by subst h;rfl)
theorem fo_l {t:ByteArray}(h:(400:Int)<t.size):(⟨#[]⟩:ByteArray)=dG t:=cZ3 (by unfold inB;simp;omega)
theorem fo_in {t:ByteArray}(h:¬t=⟨#[]⟩) (h2:¬(400:Int)<t.size):inB (t.size:Int) 1 400=true:=by
 refine inB_iff'.2 ⟨?_,by omega⟩;have:t.size≠0:=fun e=>h (by
  cases t with
  | mk a=>congr 1;exact Array.eq_empty_of_size_eq_zero e)
 omega
theorem aH5 (t:ByteArray) (ht:t.size<=1048576):Ct1 prog 76 [.T t] [.T (dG t)]:=
 .one (dG t) (rk:=fun a=>[.T a])<|vc func76 (fun hg=>.s (t=⟨#[]⟩)
  (fun h=>.rt ⟨#[]⟩ ⟨fo_e h,trivial⟩)
  (fun h=>.s ((400:Int)<t.size)
   (fun h2=>.rt ⟨#[]⟩ ⟨fo_l h2,trivial⟩)
   (fun h2=>let hv:=eW (t.size:Int)
    let hf:=vJ (cA t)
    .c func127 (aH1 (t.size:Int)) fun _=>.c func129 (aO5 t ht) fun _=>.c func128 (bQ3 (cA t)) fun _=>.pb .add (iD (aU t.size) (bV (cA t)) aA)<|.pb .add (iD (aU t.size++bV (cA t)) t (by rw[ByteArray.size_append];omega)) <|
    .rt (aU t.size++bV (cA t)++t) ⟨cZ2 (fo_in h h2),trivial⟩))) aB
theorem cF5 {s:ByteArray}{a:Nat}(ha:a<=s.size) (h:¬(vAt s a).2<0):∃n j:Nat,vAt s a=((n:Int),(j:Int))/\a<=j/\j<=s.size:=by
 cases hv:fM (s.data.toList.drop a) with
 | none=>rw[<- iG hv]at h;exact absurd fL h
 | some q=>
  obtain⟨n,k⟩:=q;obtain⟨_,hp,hk⟩:=jG hv;have hl:=hp.length_le;rw[jY,<- hk]at hl;exact⟨n,a+k,by rw[<- qP hv];simp,by omega,by omega⟩
theorem aL0 {s:ByteArray}{a:Nat}(h:(vAt s a).2<0∨¬(1<=(vAt s a).1/\(vAt s a).1<=400)∨(s.size:Int)-(vAt s a).2-4<(vAt s a).1):((⟨#[]⟩:ByteArray),(-1:Int))=bX s a:=by unfold bX;rw[if_pos h]
theorem fa_at {s:ByteArray}{a n j:Nat}(e:vAt s a=((n:Int),(j:Int))) (h1:1<=(n:Int)/\(n:Int)<=400) (h2:¬(s.size:Int)-j-4<n):bX s a=if cA (s.extract (j+4) (j+4+n))=(bR s j).1 then (s.extract (j+4) (j+4+n),(j:Int)+4+n) else (⟨#[]⟩,-1):=by
 unfold bX;rw[e,if_neg (by simp only;omega)];simp only;rw[show ((j:Int)+4).toNat=j+4 by omega,show ((j:Int)+4+n).toNat=j+4+n by omega,show (j:Int).toNat=j by omega]
theorem fa_t {s:ByteArray}{a n j:Nat}(e:vAt s a=((n:Int),(j:Int))) (h1:1<=(n:Int)/\(n:Int)<=400) (h2:¬(s.size:Int)-j-4<n) (h3:cA (s.extract (j+4) (j+4+n))=(bR s j).1):(s.extract (j+4) (j+4+n),(j:Int)+4+n)=bX s a:=by rw[fa_at e h1 h2,if_pos h3]
theorem fa_f {s:ByteArray}{a n j:Nat}(e:vAt s a=((n:Int),(j:Int))) (h1:1<=(n:Int)/\(n:Int)<=400) (h2:¬(s.size:Int)-j-4<n) (h3:¬cA (s.extract (j+4) (j+4+n))=(bR s j).1):((⟨#[]⟩:ByteArray),(-1:Int))=bX s a:=by rw[fa_at e h1 h2,if_neg h3]
theorem cS3 {s:ByteArray}{a:Nat}(ha:a<=s.size):(vAt s a).2<0∨∃n j:Nat,vAt s a=((n:Int),(j:Int))/\a<=j/\j<=s.size:=(Classical.em _).imp id (cF5 ha)
theorem fourR_ok {s:ByteArray}{a:Nat}:(bR s a).2=true↔a+4<=s.size:=by
 unfold bR;split
 ·next h=>simp[h]
 next h=>simp[h]
theorem FrameAt_i (s:ByteArray) (a:Nat) (hs:s.size<=1048576) (ha:a<=s.size):Ct1 prog 296 [.T s,.I a] [.T (bX s a).1,.I (bX s a).2]:=
 .one (bX s a) (rk:=fun q=>[.T q.1,.I q.2])<|vc func296 (fun hg=>.oc (cS3 ha)
  (fun h=>.c func310 (cF0 s a hs aA) fun _=>.kt ((vAt s a).2<0) h<|.rt (⟨#[]⟩,-1) ⟨aL0 (.inl h),trivial⟩)
  (fun h=>.ex h fun n h=>.ex h fun j hj=>
   .c func310 (show Ct1 prog 310 [.T s,.I a] [.I (n:Int),.I (j:Int)] by have:=cF0 s a hs aA;rw[hj.1]at this;exact this) fun _=>.kf ((j:Int)<0) aA <|
   .c func50 (bL (n:Int) 1 400) fun _=>.v (inB (n:Int) 1 400)
    (fun h1=>.rt (⟨#[]⟩,-1) ⟨aL0 (.inr (.inl (by rw[hj.1];intro h;rw[inB_iff'.2 h]at h1;cases h1))),trivial⟩)
    (fun h1=>let h1:=inB_iff'.1 h1
     .m s.size j<|.m ((s.size:Int)-j) 4 (h:=by unfold I64;omega)<|.s ((s.size:Int)-j-4<n)
     (fun h2=>.rt (⟨#[]⟩,-1) ⟨aL0 (.inr (.inr (by rw[hj.1];exact h2))),trivial⟩)
     (fun h2=>.c func308 (cQ2 s j hs aA) fun _=>.p j 4<|.p j 4<|.p ((j:Int)+4) n (h:=by unfold I64;omega)<|.pl (bO6 (t:=9) (s:=s) (a:=j+4) (b:=j+4+n) underlying9 aA aA) <|
      .c func162 (aO6 (s.extract (j+4) (j+4+n)) (by rw[ByteArray.size_extract];omega)) fun _=>.u (cA (s.extract (j+4) (j+4+n))=(bR s j).1)
       (fun h3=>.rt (⟨#[]⟩,-1) ⟨fa_f hj.1 h1 h2 h3,trivial⟩)
       (fun h3=>.p j 4<|.p ((j:Int)+4) n (h:=by unfold I64;omega)<|.rt (s.extract (j+4) (j+4+n),(j:Int)+4+n) ⟨fa_t hj.1 h1 h2 h3,trivial⟩))))) aB
theorem FrameAt_s (s:ByteArray) (a:Nat) (hs:s.size<=1048576) (ha:a<=s.size):Ct1 prog 277 [.T s,.I a] [.T (bX s a).1,.I (bX s a).2]:=
 .one (bX s a) (rk:=fun q=>[.T q.1,.I q.2])<|vc func277 (fun hg=>.oc (cS3 ha)
  (fun h=>.c func301 (cE9 s a hs aA) fun _=>.kt ((vAt s a).2<0) h<|.rt (⟨#[]⟩,-1) ⟨aL0 (.inl h),trivial⟩)
  (fun h=>.ex h fun n h=>.ex h fun j hj=>
   .c func301 (show Ct1 prog 301 [.T s,.I a] [.I (n:Int),.I (j:Int)] by have:=cE9 s a hs aA;rw[hj.1]at this;exact this) fun _=>.kf ((j:Int)<0) aA <|
   .s ((n:Int)<1)
    (fun h1=>.rt (⟨#[]⟩,-1) ⟨aL0 (.inr (.inl (by rw[hj.1];simp only;omega))),trivial⟩)
    (fun h1=>.s ((400:Int)<n)
     (fun h4=>.rt (⟨#[]⟩,-1) ⟨aL0 (.inr (.inl (by rw[hj.1];simp only;omega))),trivial⟩)
     (fun h4=>let h1:1<=(n:Int)/\(n:Int)<=400:=by omega
      .c func280 (bQ5 s j hs aA) fun _=>.v (bR s j).2
      (fun h2=>.rt (⟨#[]⟩,-1) ⟨aL0 (.inr (.inr (by rw[hj.1];simp only;have:¬(bR s j).2=true:=(by rw[h2];simp);rw[fourR_ok]at this;omega))),trivial⟩)
      (fun h5=>.m s.size j<|.m ((s.size:Int)-j) 4 (h:=by unfold I64;omega)<|.s ((s.size:Int)-j-4<n)
       (fun h2=>.rt (⟨#[]⟩,-1) ⟨aL0 (.inr (.inr (by rw[hj.1];exact h2))),trivial⟩)
       (fun h2=>.p j 4<|.p j 4<|.p ((j:Int)+4) n (h:=by unfold I64;omega)<|.pl (bO6 (t:=9) (s:=s) (a:=j+4) (b:=j+4+n) underlying9 aA aA) <|
        .c func129 (aO5 (s.extract (j+4) (j+4+n)) (by rw[ByteArray.size_extract];omega)) fun _=>.u (cA (s.extract (j+4) (j+4+n))=(bR s j).1)
         (fun h3=>.rt (⟨#[]⟩,-1) ⟨fa_f hj.1 h1 h2 h3,trivial⟩)
         (fun h3=>.p j 4<|.p ((j:Int)+4) n (h:=by unfold I64;omega)<|.rt (s.extract (j+4) (j+4+n),(j:Int)+4+n) ⟨fa_t hj.1 h1 h2 h3,trivial⟩))))))) aB
def dY (n:Note):List Int:=n.seq::n.deed.kind::bC n.deed
def aZ9 (l:List Int):ByteArray:=⟨(gI l).toArray⟩
noncomputable def gQ (n:Note):ByteArray:=if aV n.deed=true/\inB n.seq 1 1000000000=true/\(aZ9 (dY n)).size<=400 then aZ9 (dY n) else ⟨#[]⟩
theorem nA {n:Note}(h:¬(aV n.deed=true/\inB n.seq 1 1000000000=true/\(aZ9 (dY n)).size<=400)):(⟨#[]⟩:ByteArray)=gQ n:=by unfold gQ;rw[if_neg h]
theorem aE0 {n:Note}(h:aV n.deed=true/\inB n.seq 1 1000000000=true/\(aZ9 (dY n)).size<=400):aZ9 (dY n)=gQ n:=by unfold gQ;rw[if_pos h]
theorem sI (n:Note):(gQ n).size<=400:=by
 unfold gQ;split
 ·next h=>exact h.2.2
 exact Nat.zero_le _
def note0:Note:=⟨0,⟨0,0,zP,0,0,0,0⟩⟩
theorem z64:I64 0:=by unfold I64;omega
theorem pJ:zP.ok:=⟨z64,z64,z64,z64⟩
theorem lM:note0.ok:=⟨z64,z64,z64,pJ,z64,z64,z64,z64⟩
def nP {σ:Type}(r:Rdr σ) (x:σ):σ×Note:=
 let a:=r.next x
 let k:=r.next a.1
 let u:=r.next k.1
 let v:=r.next u.1
 let w:=r.next v.1
 if k.2=1 then ((fA r u.1).1,⟨a.2,⟨k.2,u.2,(fA r u.1).2,0,0,0,0⟩⟩)
 else if k.2=2 then (v.1,⟨a.2,⟨k.2,0,zP,0,0,u.2,v.2⟩⟩)
 else if k.2=3∨k.2=4 then (w.1,⟨a.2,⟨k.2,u.2,zP,v.2,w.2,0,0⟩⟩)
 else if k.2=6∨k.2=7 then (u.1,⟨a.2,⟨k.2,u.2,zP,0,0,0,0⟩⟩)
 else (k.1,⟨a.2,⟨k.2,0,zP,0,0,0,0⟩⟩)
section
variable {σ:Type}{r:Rdr σ}{x:σ}
theorem bN3 (h:(r.next (r.next x).1).2=1):nP r x=((fA r (r.next (r.next (r.next x).1).1).1).1,⟨(r.next x).2,⟨(r.next (r.next x).1).2,(r.next (r.next (r.next x).1).1).2,(fA r (r.next (r.next (r.next x).1).1).1).2,0,0,0,0⟩⟩):=by unfold nP;simp only;rw[if_pos h]
theorem bN2 (h:(r.next (r.next x).1).2=2):nP r x=((r.next (r.next (r.next (r.next x).1).1).1).1,⟨(r.next x).2,⟨(r.next (r.next x).1).2,0,zP,0,0,(r.next (r.next (r.next x).1).1).2,(r.next (r.next (r.next (r.next x).1).1).1).2⟩⟩):=by unfold nP;simp only;rw[if_neg aA,if_pos h]
theorem bN1 (h:(r.next (r.next x).1).2=3∨(r.next (r.next x).1).2=4):nP r x=((r.next (r.next (r.next (r.next (r.next x).1).1).1).1).1,⟨(r.next x).2,⟨(r.next (r.next x).1).2,(r.next (r.next (r.next x).1).1).2,zP,(r.next (r.next (r.next (r.next x).1).1).1).2,(r.next (r.next (r.next (r.next (r.next x).1).1).1).1).2,0,0⟩⟩):=by unfold nP;simp only;rw[if_neg aA,if_neg aA,if_pos h]
theorem bN0 (h:(r.next (r.next x).1).2=6∨(r.next (r.next x).1).2=7):nP r x=((r.next (r.next (r.next x).1).1).1,⟨(r.next x).2,⟨(r.next (r.next x).1).2,(r.next (r.next (r.next x).1).1).2,zP,0,0,0,0⟩⟩):=by unfold nP;simp only;rw[if_neg aA,if_neg aA,if_neg aA,if_pos h]
theorem bN4 (h1:¬(r.next (r.next x).1).2=1) (h2:¬(r.next (r.next x).1).2=2) (h3:¬(r.next (r.next x).1).2=3) (h4:¬(r.next (r.next x).1).2=4) (h6:¬(r.next (r.next x).1).2=6) (h7:¬(r.next (r.next x).1).2=7):nP r x=((r.next (r.next x).1).1,⟨(r.next x).2,⟨(r.next (r.next x).1).2,0,zP,0,0,0,0⟩⟩):=by unfold nP;simp only;rw[if_neg h1,if_neg h2,if_neg aA,if_neg aA]
theorem pF {d:Deed}(h:aV d=true):inB d.kind 1 8=true/\d.plan.edges.length<=31/\d=nM d/\∀n∈bC d,num n=true:=by
 unfold aV at h;simp only[Bool.and_eq_true,decide_eq_true_eq,Bool.not_eq_true']at h;obtain⟨⟨⟨h1,h2⟩,h3⟩,h4⟩:=h;refine⟨h1,h2,eqB_iff.1 h3,fun n hn=>?_⟩;cases hq:num n with
 | true=>rfl
 | false=>rw[any_eq_true.2 ⟨n,hn,by simp[hq]⟩]at h4;cases h4
variable {Rd:σ->List Int->Prop}(F:Fwd r Rd)
include F
theorem bV0 {n:Note}{ns:List Int}(hd:aV n.deed=true) (h:Rd x (dY n++ns)):(nP r x).2=n/\Rd (nP r x).1 ns:=by
 obtain⟨s,d⟩:=n;obtain⟨_,hl,hu,_⟩:=pF hd;simp only at hl hu hd;unfold dY at h;obtain⟨a1,h⟩:=F.next (ns:=(d.kind::bC d)++ns) h;obtain⟨a2,h⟩:=F.next (ns:=bC d++ns) h;unfold bC at h;unfold nM at hu;split at hu
 ·next hk=>
  rw[if_pos hk]at h;have h:Rd (r.next (r.next x).1).1 (d.run::((d.plan.prio::d.plan.most::d.plan.wait::d.plan.tasks::(d.plan.edges.length:Int)::d.plan.edges.flatMap pD)++ns)):=h;rw[<- qZ]at h;obtain⟨a3,h⟩:=F.next h;obtain⟨a4,h⟩:=bU4 F hl h;rw[bN3 (by rw[a2];exact hk)];refine⟨?_,h⟩;simp only[a1,a2,a3,a4];rw[<- hu]
 next h1=>
 rw[if_neg h1]at h;split at hu
 ·next hk=>
  rw[if_pos hk]at h;obtain⟨a3,h⟩:=F.next (ns:=d.draw::ns) h;obtain⟨a4,h⟩:=F.next h;rw[bN2 (by rw[a2];exact hk)];refine⟨?_,h⟩;simp only[a1,a2,a3,a4];rw[<- hu]
 next h2=>
 rw[if_neg h2]at h;split at hu
 ·next hk=>
  rw[if_pos hk]at h;obtain⟨a3,h⟩:=F.next (ns:=d.task::d.try_::ns) h;obtain⟨a4,h⟩:=F.next h;obtain⟨a5,h⟩:=F.next h;rw[bN1 (by rw[a2];exact hk)];refine⟨?_,h⟩;simp only[a1,a2,a3,a4,a5];rw[<- hu]
 next h3=>
 rw[if_neg h3]at h;split at hu
 ·next hk=>
  rw[if_pos hk]at h;obtain⟨a3,h⟩:=F.next (ns:=ns) h;rw[bN0 (by rw[a2];exact hk)];refine⟨?_,h⟩;simp only[a1,a2,a3];rw[<- hu]
 next h4=>
 rw[if_neg h4]at h;rw[bN4 (by rw[a2];omega) (by rw[a2];omega) (by rw[a2];omega) (by rw[a2];omega) (by rw[a2];omega) (by rw[a2];omega)];refine⟨?_,h⟩;simp only[a1,a2];rw[<- hu]
end
section
variable {σ:Type}{r:Rdr σ}{x:σ}{In:σ->Prop}{Cs:σ->σ->List Int->Prop}(B:Bwd r In Cs)
include B
theorem note_ok (h:In x):(nP r x).2.ok:=by
 have i1:=(B.inn h).1;have i2:=(B.inn i1).1;have i3:=(B.inn i2).1;have i4:=(B.inn i3).1;unfold nP;simp only;split
 ·exact⟨n64 B h,n64 B i1,n64 B i2,uY B _ i3,z64,z64,z64,z64⟩
 split
 ·exact⟨n64 B h,n64 B i1,z64,pJ,z64,z64,n64 B i2,n64 B i3⟩
 split
 ·exact⟨n64 B h,n64 B i1,n64 B i2,pJ,n64 B i3,n64 B i4,z64,z64⟩
 split
 ·exact⟨n64 B h,n64 B i1,n64 B i2,pJ,z64,z64,z64,z64⟩
 exact⟨n64 B h,n64 B i1,z64,pJ,z64,z64,z64,z64⟩
end
noncomputable def aZ7 (s:ByteArray):Numb×Note:=nP fU ⟨(eR s).1,false⟩
noncomputable def aZ6 (s:ByteArray):LIn×Note:=nP linR ⟨s,0,false⟩
def NTx (n:Note) (s:ByteArray):Prop:=¬s=⟨#[]⟩/\gQ n=s
noncomputable instance (n:Note) (s:ByteArray):Decidable (NTx n s):=Classical.propDecidable _
noncomputable def mF (s:ByteArray):Note×Bool:=if (eR s).2=true/\(aZ7 s).1.bad=false/\NTx (aZ7 s).2 s then ((aZ7 s).2,true) else (note0,false)
noncomputable def cN (s:ByteArray):Note×Bool:=if s.size<=400/\(aZ6 s).1.bad=false/\NTx (aZ6 s).2 s then ((aZ6 s).2,true) else (note0,false)
theorem bV2 {s:ByteArray}(h:¬((eR s).2=true/\(aZ7 s).1.bad=false/\NTx (aZ7 s).2 s)):(note0,false)=mF s:=by unfold mF;rw[if_neg h]
theorem bU8 {s:ByteArray}(h:¬(s.size<=400/\(aZ6 s).1.bad=false/\NTx (aZ6 s).2 s)):(note0,false)=cN s:=by unfold cN;rw[if_neg h]
theorem cW7 {n:Note}{s:ByteArray}(h:NTx n s):aV n.deed=true/\inB n.seq 1 1000000000=true/\s.size<=400/\∃ns,gW ns/\dY n=gS ns/\dH ns=s.data.toList:=by
 obtain⟨h0,h⟩:=h;by_cases hc:aV n.deed=true/\inB n.seq 1 1000000000=true/\(aZ9 (dY n)).size<=400
 ·rw[<- aE0 hc]at h;have hn:∀z∈dY n,0<=z/\z<=1000000000:=by
   intro z hz;unfold dY at hz;have h8:=inB_iff.1 (pF hc.1).1;have h9:=inB_iff.1 hc.2.1;rcases mem_cons.1 hz with rfl | hz
   ·omega
   rcases mem_cons.1 hz with rfl | hz
   ·omega
   have:=(pF hc.1).2.2.2 z hz;unfold num at this;exact inB_iff.1 this
  have e:dY n=gS ((dY n).map Int.toNat):=by
   unfold gS;rw[map_map]
   conv=>lhs;rw[<- map_id (dY n)]
   exact map_congr_left fun z hz=>by have:=hn z hz;simp only[id_eq,Function.comp_apply];omega
  have hs:gW ((dY n).map Int.toNat):=fun m hm=>by
   obtain⟨z,hz,rfl⟩:=mem_map.1 hm;have:=hn z hz;omega
  refine⟨hc.1,hc.2.1,by rw[<- h];exact hc.2.2,_,hs,e,?_⟩;rw[<- mV hs,<- e,<- h];rfl
 rw[<- nA hc]at h;exact absurd h.symm h0
theorem readNI_iff {s:ByteArray}{n:Note}:mF s=(n,true)↔NTx n s:=by
 constructor
 ·intro h;unfold mF at h;split at h
  ·next hc=>
   simp only[Prod.mk.injEq,and_true]at h;rw[<- h];exact hc.2.2
  cases h
 intro hx;obtain⟨hd,_,_,ns,h1,h2,h3⟩:=cW7 hx;have e:(gS ns,true)=eR s:=xA h1 h3;have hf:=bV0 numF hd (x:=⟨(eR s).1,false⟩) (ns:=[]) ⟨rfl,by rw[<- e,h2,append_nil]⟩;have e1:(aZ7 s).2=n:=hf.1;have e2:(aZ7 s).1.bad=false:=hf.2.1;unfold mF;rw[if_pos ⟨by rw[<- e],e2,by rw[e1];exact hx⟩,e1]
theorem readNS_iff {s:ByteArray}{n:Note}:cN s=(n,true)↔NTx n s:=by
 constructor
 ·intro h;unfold cN at h;split at h
  ·next hc=>
   simp only[Prod.mk.injEq,and_true]at h;rw[<- h];exact hc.2.2
  cases h
 intro hx;obtain⟨hd,_,hz,ns,h1,h2,h3⟩:=cW7 hx;have hf:=bV0 linF hd (x:=⟨s,0,false⟩) (ns:=[]) ⟨rfl,ns,h1,by rw[h2,append_nil],by rw[h3];rfl⟩;have e1:(aZ6 s).2=n:=hf.1;have e2:(aZ6 s).1.bad=false:=hf.2.1;unfold cN;rw[if_pos ⟨hz,e2,by rw[e1];exact hx⟩,e1]
theorem readN_eq (s:ByteArray):mF s=cN s:=by
 by_cases h:∃n,NTx n s
 ·obtain⟨n,h⟩:=h;rw[readNI_iff.2 h,readNS_iff.2 h]
 rw[<- bV2 fun hc=>h ⟨_,hc.2.2⟩,<- bU8 fun hc=>h ⟨_,hc.2.2⟩]
theorem bD1 (s:ByteArray) (hs:s.size<=1048576):(cN s).1.ok:=by
 unfold cN;split
 ·exact note_ok linB (x:=⟨s,0,false⟩) ⟨hs,Nat.zero_le _⟩
 exact lM
theorem xJ {s:ByteArray}(h:(cN s).2=true):1<=(cN s).1.seq/\(cN s).1.seq<=1000000000/\(cN s).1.deed.plan.edges.length<=31/\s.size<=400:=by
 have hx:NTx (cN s).1 s:=readNS_iff.1 (by rw[<- h]);obtain⟨h1,h2,h3,_⟩:=cW7 hx;have:=inB_iff.1 h2;exact⟨this.1,this.2,(pF h1).2.1,h3⟩
noncomputable def gX (s:ByteArray):Nat->List ByteArray×Int
 | 0=>([],0)
 | k+1=>if (bX s (gX s k).2.toNat).2<0 then gX s k else ((gX s k).1++[(bX s (gX s k).2.toNat).1],(bX s (gX s k).2.toNat).2)
noncomputable def iK (s:ByteArray):List ByteArray×Int:=if (60000:Int)<s.size then ([],0) else gX s s.size
theorem aK9 {s:ByteArray}{a:Nat}(ha:a<=s.size) (h:¬(bX s a).2<0):∃b:Nat,(bX s a).2=(b:Int)/\a+1<=b/\b<=s.size/\(bX s a).1.size<=400:=by
 unfold bX at h ⊢;split at h
 ·exact absurd fL h
 next hc=>
 split at h
 ·next hs=>
  rw[if_neg hc,if_pos hs];have hn:¬(vAt s a).2<0:=fun h=>hc (.inl h)
  obtain⟨n,j,e,h1,h2⟩:=cF5 ha hn;rw[e]at hc ⊢;simp only[not_or,Decidable.not_not]at hc;refine⟨j+4+n,by simp,by omega,by omega,?_⟩;rw[ByteArray.size_extract];simp only;omega
 exact absurd fL h
structure ScJ (s:ByteArray) (g:List ByteArray×Nat):Prop where
 ex:∃k:Nat,k<=g.2/\(g.1,(g.2:Int))=gX s k
 le:g.2<=s.size
 len:g.1.length<=g.2
theorem ScJ.start (s:ByteArray):ScJ s ([],0):=⟨⟨0,Nat.le_refl _,rfl⟩,Nat.zero_le _,Nat.le_refl _⟩
theorem scan_stop {s:ByteArray}{k:Nat}(h:(bX s (gX s k).2.toNat).2<0):∀j,k<=j->gX s j=gX s k:=by
 intro j hj
 induction j with
 | zero=>rw[show k=0 by omega]
 | succ j ih=>
  rcases Nat.lt_or_ge k (j+1) with h1 | h1
  ·have e:=ih aA;show (if (bX s (gX s j).2.toNat).2<0 then gX s j else _)=_;rw[e,if_pos h]
  rw[show k=j+1 by omega]
theorem ScJ.done {s:ByteArray}{g:List ByteArray×Nat}(h:ScJ s g) (h6:¬(60000:Int)<s.size) (hf:(bX s g.2).2<0):(g.1,(g.2:Int))=iK s:=by
 obtain⟨k,hk,e⟩:=h.ex;unfold iK;rw[if_neg h6,scan_stop (k:=k) (by rw[<- e];simpa using hf) _ (by have:=h.le;omega),e]
theorem frameAt_end {s:ByteArray}{a:Nat}(h:¬(a:Int)<s.size):(bX s a).2<0:=by
 have:vAt s a=(0,-1):=by
  rw[iG];rw[drop_eq_nil_of_le (by show s.data.toList.length<=a;have:s.data.toList.length=s.size:=rfl;omega)];exact nU fun n _ hp=>qO (bH n).1 (prefix_nil.1 hp)
 unfold bX;rw[if_pos (.inl (by rw[this];decide))];decide
theorem ScJ.next {s:ByteArray}{g:List ByteArray×Nat}(h:ScJ s g) (hf:¬(bX s g.2).2<0):∃b:Nat,(bX s g.2).2=(b:Int)/\g.2+1<=b/\ScJ s (g.1++[(bX s g.2).1],b):=by
 obtain⟨b,e1,e2,e3,_⟩:=aK9 h.le hf;obtain⟨k,hk,e⟩:=h.ex;refine⟨b,e1,e2,⟨k+1,by show k+1<=b;omega,?_⟩,e3,by have:=h.len;simp only[length_append,length_singleton];omega⟩;show _=(if (bX s (gX s k).2.toNat).2<0 then gX s k else _);rw[<- e];simp only[Int.toNat_natCast];rw[if_neg hf,e1]
theorem bC2 (s:ByteArray):∀k,((gX s k).2.toNat<=s.size/\0<=(gX s k).2)/\(∀b∈(gX s k).1,b.size<=400)/\((gX s k).1.length:Int)<=(gX s k).2
 | 0=>⟨⟨Nat.zero_le _,by show (0:Int)<=0;omega⟩,fun b hb=>(by cases hb),by show (0:Int)<=0;omega⟩
 | k+1=>by
  obtain⟨⟨h1,h2⟩,h3,h4⟩:=bC2 s k;unfold gX;split
  ·exact⟨⟨h1,h2⟩,h3,h4⟩
  ·next hf=>
   obtain⟨b,e1,e2,e3,e4⟩:=aK9 h1 hf;simp only;rw[e1];refine⟨⟨by omega,by omega⟩,fun c hc=>?_,by simp only[length_append,length_singleton];omega⟩;rcases mem_append.1 hc with hc | hc
   ·exact h3 c hc
   ·simp only[mem_singleton]at hc;rw[hc];exact e4
theorem zH (s:ByteArray):(∀b∈(iK s).1,b.size<=400)/\(iK s).1.length<=60000:=by
 unfold iK;split
 ·exact⟨fun b hb=>(by cases hb),Nat.zero_le _⟩
 obtain⟨⟨h1,h2⟩,h3,h4⟩:=bC2 s s.size;exact⟨h3,by omega⟩
def qI (a:List Note×Int) (b:ByteArray):Prop:=(cN b).2=true/\(a.1=[]∨(cN b).1.seq=(a.1.getLastD note0).seq+1)
noncomputable instance (a:List Note×Int) (b:ByteArray):Decidable (qI a b):=Classical.propDecidable _
noncomputable def lL:List Note×Int->List ByteArray->List Note×Int
 | a,[]=>a
 | a,b::bs=>if qI a b then lL (a.1++[(cN b).1],a.2+(dG b).size) bs else a
theorem pR (a:List Note×Int) (b:ByteArray) (bs:List ByteArray):lL a (b::bs)=if qI a b then lL (a.1++[(cN b).1],a.2+(dG b).size) bs else a:=rfl
noncomputable def fO (s:ByteArray):List Note×Int:=lL ([],0) (iK s).1
structure NsJ (bs:List ByteArray) (g:Nat×List Note×Int):Prop where
 eq:lL g.2 (bs.drop g.1)=lL ([],0) bs
 le:g.1<=bs.length
 len:g.2.1.length=g.1
 rng:∀n∈g.2.1,n.ok/\1<=n.seq/\n.seq<=1000000000
 sz:0<=g.2.2/\g.2.2<=1000*(g.1:Int)
theorem NsJ.start (bs:List ByteArray):NsJ bs (0,[],0):=⟨rfl,Nat.zero_le _,rfl,fun n hn=>(by cases hn),by simp⟩
theorem NsJ.all {bs:List ByteArray}{g:Nat×List Note×Int}(h:NsJ bs g) (hk:¬(g.1:Int)<bs.length):g.2=lL ([],0) bs:=by
 have:=h.eq;rw[drop_eq_nil_of_le aA]at this;exact this
theorem NsJ.stop {bs:List ByteArray}{g:Nat×List Note×Int}{b:ByteArray}(h:NsJ bs g) (hb:bs[g.1]? = some b) (hn:¬qI g.2 b):g.2=lL ([],0) bs:=by
 obtain⟨hk,rfl⟩:=gsi_.1 hb;have:=h.eq;rw[drop_eq_getElem_cons hk,pR]at this;rw[if_neg hn]at this;exact this
theorem sO {b:ByteArray}(hb:b.size<=400):(dG b).size<=1000:=by
 unfold dG;split
 ·have h1:=eW (b.size:Int);have h2:=vJ (cA b);rw[ByteArray.size_append,ByteArray.size_append];omega
 exact Nat.zero_le _
theorem NsJ.next {bs:List ByteArray}{g:Nat×List Note×Int}{b:ByteArray}(h:NsJ bs g) (hb:bs[g.1]? = some b) (hz:b.size<=400) (hn:qI g.2 b):NsJ bs (g.1+1,g.2.1++[(cN b).1],g.2.2+(dG b).size):=by
 obtain⟨hk,rfl⟩:=gsi_.1 hb;have hr:=xJ hn.1;have hf:=sO hz;have:=h.eq;rw[drop_eq_getElem_cons hk,pR]at this;rw[if_pos hn]at this;refine⟨this,hk,by simp[h.len],fun n hm=>?_,by have:=h.sz;simp only;omega⟩;rcases mem_append.1 hm with hm | hm
 ·exact h.rng n hm
 simp only[mem_singleton]at hm;rw[hm];exact⟨bD1 _ aA,hr.1,hr.2.1⟩
theorem cL6 {l:List Note}{n:Note}(h:l[l.length-1]? = some n):l.getLastD note0=n:=by
 rw[getLastD_eq_getLast?,getLast?_eq_getElem?,h];rfl
theorem bU9:∀(bs:List ByteArray) (a:List Note×Int),(∀b∈bs,b.size<=400)->(∀n∈a.1,n.ok/\1<=n.seq/\n.seq<=1000000000)->(∀n∈(lL a bs).1,n.ok/\1<=n.seq/\n.seq<=1000000000)/\(lL a bs).1.length<=a.1.length+bs.length/\(0<=a.2->0<=(lL a bs).2/\(lL a bs).2<=a.2+1000*(bs.length:Int))
 | [],a,_,h=>⟨h,Nat.le_refl _,fun h=>⟨h,by simp[lL]⟩⟩
 | b::bs,a,hs,h=>by
  rw[pR];split
  ·next hn=>
   have hr:=xJ hn.1;have hf:=sO (hs b mem_cons_self);obtain⟨h1,h2,h3⟩:=bU9 bs (a.1++[(cN b).1],a.2+(dG b).size) (fun c hc=>hs c (mem_cons_of_mem _ hc)) (fun n hm=>by
    rcases mem_append.1 hm with hm | hm
    ·exact h n hm
    ·simp only[mem_singleton]at hm;rw[hm];exact⟨bD1 _ aA,hr.1,hr.2.1⟩)
   simp only[length_append,length_nil,length_cons]at h2 h3 ⊢;exact⟨h1,by omega,fun h0=>by have:=h3 aA;omega⟩
  ·exact⟨h,by omega,fun h0=>⟨h0,by omega⟩⟩
theorem aT4 (s:ByteArray):(∀n∈(fO s).1,n.ok/\1<=n.seq/\n.seq<=1000000000)/\(fO s).1.length<=60000/\0<=(fO s).2/\(fO s).2<=60000000:=by
 have hz:=zH s;obtain⟨h1,h2,h3⟩:=bU9 (iK s).1 ([],0) hz.1 (fun n hn=>by cases hn);have:=h3 (Int.le_refl _);unfold fO;simp only[length_nil]at h2 this;exact⟨h1,by omega,by omega,by omega⟩
def jP:List Note×Int->List Note->List Note
 | a,[]=>a.1
 | a,n::ns=>if n.seq<=a.2 then jP a ns else if ¬n.seq-1=a.2 then a.1 else jP (a.1++[n],n.seq) ns
theorem pQ (a:List Note×Int) (n:Note) (ns:List Note):jP a (n::ns)=if n.seq<=a.2 then jP a ns else if ¬n.seq-1=a.2 then a.1 else jP (a.1++[n],n.seq) ns:=rfl
structure SiJ (ns:List Note) (q:Int) (g:Nat×List Note×Int):Prop where
 eq:jP g.2 (ns.drop g.1)=jP ([],q) ns
 le:g.1<=ns.length
 len:g.2.1.length<=g.1
 i64:I64 g.2.2
theorem SiJ.start {ns:List Note}{q:Int}(h:I64 q):SiJ ns q (0,[],q):=⟨rfl,Nat.zero_le _,Nat.le_refl _,h⟩
section
variable {ns:List Note}{q:Int}{g:Nat×List Note×Int}{n:Note}(h:SiJ ns q g)
include h
theorem SiJ.all (hk:¬(g.1:Int)<ns.length):g.2.1=jP ([],q) ns:=by
 have:=h.eq;rw[drop_eq_nil_of_le aA]at this;exact this
theorem SiJ.skip (hb:ns[g.1]? = some n) (hn:n.seq<=g.2.2):SiJ ns q (g.1+1,g.2):=by
 obtain⟨hk,rfl⟩:=gsi_.1 hb;have:=h.eq;rw[drop_eq_getElem_cons hk,pQ]at this;rw[if_pos hn]at this;exact⟨this,hk,by have:=h.len;show g.2.1.length<=g.1+1;omega,h.i64⟩
theorem SiJ.stop (hb:ns[g.1]? = some n) (hn:¬n.seq<=g.2.2) (h2:¬n.seq-1=g.2.2):g.2.1=jP ([],q) ns:=by
 obtain⟨hk,rfl⟩:=gsi_.1 hb;have:=h.eq;rw[drop_eq_getElem_cons hk,pQ]at this;rw[if_neg hn,if_pos h2]at this;exact this
theorem SiJ.next (hb:ns[g.1]? = some n) (hn:¬n.seq<=g.2.2) (h2:n.seq-1=g.2.2) (h6:I64 n.seq):SiJ ns q (g.1+1,g.2.1++[n],n.seq):=by
 obtain⟨hk,rfl⟩:=gsi_.1 hb;have:=h.eq;rw[drop_eq_getElem_cons hk,pQ]at this;rw[if_neg hn,if_neg (by simpa using h2)]at this;exact⟨this,hk,by have:=h.len;simp only[length_append,length_singleton];omega,h6⟩
end
theorem aQ9:∀(ns:List Note) (a:List Note×Int),(∀n∈jP a ns,n∈a.1∨n∈ns)/\(jP a ns).length<=a.1.length+ns.length
 | [],a=>⟨fun n h=>.inl h,Nat.le_refl _⟩
 | m::ns,a=>by
  rw[pQ];split
  ·obtain⟨h1,h2⟩:=aQ9 ns a;exact⟨fun n h=>(h1 n h).imp id (mem_cons_of_mem _),by simp only[length_cons];omega⟩
  split
  ·exact⟨fun n h=>.inl h,by omega⟩
  ·obtain⟨h1,h2⟩:=aQ9 ns (a.1++[m],m.seq);refine⟨fun n h=>?_,by simp only[length_append,length_nil,length_cons]at *;omega⟩;rcases h1 n h with h | h
   ·rcases mem_append.1 h with h | h
    ·exact .inl h
    ·simp only[mem_singleton]at h;exact .inr (by rw[h];exact mem_cons_self)
   ·exact .inr (mem_cons_of_mem _ h)
theorem bS9 {s:ByteArray}(h:(60000:Int)<s.size):(([]:List ByteArray),(0:Int))=iK s:=by unfold iK;rw[if_pos h]
theorem aW0 (s:ByteArray) (a:Nat) (h:s.size<=1048576):(inferInstance:Dsh ByteArray).good (bX s a).1:=by
 show _<=maxLen;unfold bX maxLen;split
 ·exact Nat.zero_le _
 split
 ·simp only[ByteArray.size_extract];omega
 exact Nat.zero_le _
theorem zG {s:ByteArray}{g:List ByteArray×Nat}(h:ScJ s g) (hs:s.size<=1048576):g.1.length+1<=maxLen/\(g.1.length+1)*16<=140737488355328:=by
 have:=h.len;have:=h.le;unfold maxLen;omega
theorem ScanOf_i (s:ByteArray) (hs:s.size<=1048576):Ct1 prog 261 [.T s] [.L (iK s).1,.I (iK s).2]:=
 .one (iK s) (rk:=fun q=>[.L q.1,.I q.2])<|vc func261 (fun hg=>.s ((60000:Int)<s.size)
  (fun h=>.rt ([],0) ⟨bS9 h,trivial⟩)
  (fun h=>.w ByteArray 9 4<|.l (Γ:=List ByteArray×Nat) (ScJ s) (fun g=>s.size-g.2) [0] [] [] (fun g=>[vR 4 0,vI 5 g.2]) (fun g=>[oR 0 9 g.1]) ([],0) (h:=ScJ.start s) fun g hJ t=>
   .c func296 (FrameAt_i s g.2 hs hJ.le) fun _=>.s ((bX s g.2).2<0)
    (fun hb=>.rt (g.1,(g.2:Int)) ⟨hJ.done h hb,trivial⟩)
    (fun hb=>.ex (hJ.next hb) fun b hx=>.rv 7 (I (b:Int)) (congrArg I hx.1)<|.a g.1 (bX s g.2).1 16 (hy:=aW0 s g.2 hs) (h63:=(zG hJ hs).1) (hby:=(zG hJ hs).2) <|
     .n t (g.1++[(bX s g.2).1],b) [] hx.2.2 (by have:=hx.2.1;have:=hx.2.2.le;dsimp only at *;omega)))) aB
theorem ScanOf_s (s:ByteArray) (hs:s.size<=1048576):Ct1 prog 216 [.T s] [.L (iK s).1,.I (iK s).2]:=
 .one (iK s) (rk:=fun q=>[.L q.1,.I q.2])<|vc func216 (fun hg=>.e ByteArray<|.s ((60000:Int)<s.size)
  (fun h=>.rt ([],0) ⟨bS9 h,trivial⟩)
  (fun h=>.l (Γ:=List ByteArray×Nat) (ScJ s) (fun g=>s.size-g.2) [0] [] [] (fun g=>[vR 4 0,vI 5 g.2]) (fun g=>[oR 0 9 g.1]) ([],0) (h:=ScJ.start s) fun g hJ t=>
   .s ((g.2:Int)<s.size)
    (fun h2=>.c func277 (FrameAt_s s g.2 hs hJ.le) fun _=>.s ((bX s g.2).2<0)
     (fun hb=>.rt (g.1,(g.2:Int)) ⟨hJ.done h hb,trivial⟩)
     (fun hb=>.ex (hJ.next hb) fun b hx=>.rv 7 (I (b:Int)) (congrArg I hx.1)<|.a g.1 (bX s g.2).1 16 (hy:=aW0 s g.2 hs) (h63:=(zG hJ hs).1) (hby:=(zG hJ hs).2) <|
      .n t (g.1++[(bX s g.2).1],b) [] hx.2.2 (by have:=hx.2.1;have:=hx.2.2.le;dsimp only at *;omega)))
    (fun h2=>.rt (g.1,(g.2:Int)) ⟨hJ.done h (frameAt_end h2),trivial⟩))) aB
theorem aP2 {n:Note}(h:n.ok):∀y∈[n.seq,n.deed.kind],(inferInstance:Dsh Int).good y:=bA3 h.1 h.2.1
theorem aT5 {n:Note}(h:n.deed.plan.edges.length<=31):(dY n).length<=100:=by
 have:=sW n.deed;unfold dY;simp only[length_cons];omega
theorem yK (n:Note):Ct1 prog 94 [.S n] [.T (gQ n)]:=
 .one (gQ n) (rk:=fun t=>[.T t])<|vc func94 (fun (hg:gin [Par.S n])=>let gn:n.ok:=hg.1.1
  .c func95 (aY7 n.deed) (hg:=⟨gn.2,trivial⟩) fun _=>.v (aV n.deed)
  (fun h=>.rt ⟨#[]⟩ ⟨nA (fun hc=>by rw[h]at hc;cases hc.1),trivial⟩)
  (fun h=>.c func50 (bL n.seq 1 1000000000) fun _=>.v (inB n.seq 1 1000000000)
   (fun h2=>.rt ⟨#[]⟩ ⟨nA (fun hc=>by rw[h2]at hc;cases hc.2.1),trivial⟩)
   (fun h2=>let he:=(pF h).2.1
    let hl:=sW n.deed
    let fin:D prog (fun t:ByteArray=>t=gQ n/\rgd [Rk.T t]) := .as (inferInstance:Shape Int) fS [n.seq,n.deed.kind] (bC n.deed) 8 (by simp only[length_cons,length_nil];unfold maxLen;omega) (by simp only[length_cons,length_nil];omega) <|
     .c func163 (VarsI (dY n) (by have:=aT5 he;omega)) fun _=>.s ((400:Int)<(aZ9 (dY n)).size)
     (fun h3=>.rt ⟨#[]⟩ ⟨nA (fun hc=>by omega),trivial⟩)
     (fun h3=>.rt (aZ9 (dY n)) ⟨aE0 ⟨h,h2,by omega⟩,trivial⟩)
    .pm fun i=>match i with
     | 5=>.lr (inferInstance:Dsh Int) fS 999999 [n.seq,n.deed.kind] (by simp) (aP2 gn)<|.c func164 (yL n.deed aA) (hg:=⟨gn.2,trivial⟩) fun _=>fin
     | _=>.c func164 (yL n.deed aA) (hg:=⟨gn.2,trivial⟩) fun _=>.lr (inferInstance:Dsh Int) fS 999999 [n.seq,n.deed.kind] (by simp) (aP2 gn) fin))) aB
noncomputable def cW8 (n:Note) (j:Nat) (h:aV n.deed=true) (h2:inB n.seq 1 1000000000=true):D prog (fun t:ByteArray=>t=gQ n/\rgd [Rk.T t]):=
 .sh j<|.c func131 (VarsS (dY n) (by have:=aT5 (pF h).2.1;omega)) fun _=>.s ((400:Int)<(mX (dY n)).size)
  (fun h3=>.rt ⟨#[]⟩ ⟨nA (fun hc=>by have:(aZ9 (dY n)).size=(mX (dY n)).size:=rfl;omega),trivial⟩)
  (fun h3=>.rt (mX (dY n)) ⟨aE0 ⟨h,h2,by have:(aZ9 (dY n)).size=(mX (dY n)).size:=rfl;omega⟩,trivial⟩)
theorem yJ (n:Note):Ct1 prog 77 [.S n] [.T (gQ n)]:=
 .one (gQ n) (rk:=fun t=>[.T t])<|vc func77 (fun (hg:gin [Par.S n])=>let gn:n.ok:=hg.1.1
  let gd:n.deed.ok:=gn.2
  let gi:Dsh Int:=inferInstance
  let d:=n.deed
  .c func130 (cB5 n.deed) (hg:=⟨gn.2,trivial⟩) fun _=>.v (aV n.deed)
  (fun h=>.rt ⟨#[]⟩ ⟨nA (fun hc=>by rw[h]at hc;cases hc.1),trivial⟩)
  (fun h=>.c func37 (InV n.seq 1 1000000000) fun _=>.v (inB n.seq 1 1000000000)
   (fun h2=>.rt ⟨#[]⟩ ⟨nA (fun hc=>by rw[h2]at hc;cases hc.2.1),trivial⟩)
   (fun h2=>let he:d.plan.edges.length<=31:=(pF h).2.1
    let add:∀ys:List Int,(∀y∈ys,(inferInstance:Dsh Int).good y)->ys.length<=6->ys=bC d->D prog (fun t:ByteArray=>t=gQ n/\rgd [Rk.T t]):=fun ys hy hl e=>.ap gi [n.seq,d.kind] ys hy 8 (by simp only[length_cons,length_nil];unfold maxLen;omega) (by simp only[length_cons,length_nil];omega)<|.g 3 (show [n.seq,d.kind]++ys=dY n by rw[e];rfl)<|cW8 n 3 h h2
    .lr gi fS 22 [n.seq,n.deed.kind] (by simp) (aP2 gn)<|.s (d.kind=1)
     (fun k1=>.ap gi [n.seq,d.kind] (lI d) (good6 gd aA) 8 (by simp only[lI,length_cons,length_nil];unfold maxLen;omega) (by simp only[lI,length_cons,length_nil];omega) <|
      .l (Γ:=Nat) (fun k=>k<=d.plan.edges.length) (fun k=>d.plan.edges.length-k) [777777,22,27,47] [777777] [777777] (fun k=>[vI 5 k,vR 4 3]) (fun k=>[oR 3 3 ([n.seq,d.kind]++(lI d++dF (d.plan.edges.take k)))]) 0 fun k hk t=>
       let hln:([n.seq,d.kind]++(lI d++dF (d.plan.edges.take k))).length<=70:=(by rw[length_append,length_append,oA,length_take];simp only[length_cons,length_nil];omega)
       .s ((k:Int)<d.plan.edges.length)
        (fun h5=>.x d.plan.edges k (h:=by omega) fun e he ge=>.y he fun _=>.ap gi ([n.seq,d.kind]++(lI d++dF (d.plan.edges.take k))) [e.from_,e.to_] (bA3 (show e.ok from ge).1 (show e.ok from ge).2) 8 (by simp only[length_cons,length_nil];unfold maxLen;omega) (by simp only[length_cons,length_nil];omega) <|
         .g 3 (show ([n.seq,d.kind]++(lI d++dF (d.plan.edges.take k)))++[e.from_,e.to_]=[n.seq,d.kind]++(lI d++dF (d.plan.edges.take (k+1))) by rw[append_assoc,append_assoc,cN5 he])<|.p k 1<|.n t (k+1) [])
        (fun h5=>.g 3 (show [n.seq,d.kind]++(lI d++dF (d.plan.edges.take k))=dY n by rw[cW6 k1 h5];rfl)<|cW8 n 3 h h2))
     (fun k1=>.s (d.kind=2)
      (fun k2=>add [d.worker,d.draw] (bA3 gd.2.2.2.2.2.1 gd.2.2.2.2.2.2) (by simp) (cW5 k2))
      (fun k2=>let three:d.kind=3∨d.kind=4->D prog (fun t:ByteArray=>t=gQ n/\rgd [Rk.T t]):=fun k=>add [d.run,d.task,d.try_] (fun z hz=>(mem_cons.1 hz).elim (fun e=>by rw[e];exact gd.2.1) (bA3 gd.2.2.2.1 gd.2.2.2.2.1 z)) (by simp) (cW4 k)
       let one:d.kind=6∨d.kind=7->D prog (fun t:ByteArray=>t=gQ n/\rgd [Rk.T t]):=fun k=>add [d.run] (aY3 gd.2.1) (by simp) (cW3 k)
       .s (d.kind=3) (fun k=>three (.inl k)) (fun k3=>.s (d.kind=4) (fun k=>three (.inr k)) (fun k4=>.s (d.kind=6) (fun k=>one (.inl k)) (fun k6=>.s (d.kind=7) (fun k=>one (.inr k)) (fun k7=>
        .g 3 (show [n.seq,d.kind]=dY n by unfold dY;rw[<- cW2 k1 k2 aA aA])<|cW8 n 3 h h2)))))))))  aB
structure MJ {σ β:Type}(bad:σ->Bool) (one:σ->σ×β) (In:σ->Prop) (x0:σ) (m:Int) (g:Nat×σ×List β):Prop where
 le:g.1<=m.toNat
 eq:(g.2.1,g.2.2)=bA bad one x0 g.1
 inn:In g.2.1
 len:g.2.2.length<=g.1
section
variable {σ β:Type}{bad:σ->Bool}{one:σ->σ×β}{In:σ->Prop}{x0:σ}{m:Int}{g:Nat×σ×List β}
theorem MJ.start (h:In x0):MJ bad one In x0 m (0,x0,[]):=⟨Nat.zero_le _,rfl,h,Nat.le_refl _⟩
theorem MJ.next (h:MJ bad one In x0 m g) (hI:∀x,In x->In (one x).1) (hm:(g.1:Int)<m) (hb:bad g.2.1=false):MJ bad one In x0 m (g.1+1,(one g.2.1).1,g.2.2++[(one g.2.1).2]):=by
 have e1:(bA bad one x0 g.1).1=g.2.1:=by rw[<- h.eq]
 have e2:(bA bad one x0 g.1).2=g.2.2:=by rw[<- h.eq]
 refine⟨by show g.1+1<=m.toNat;omega,?_,hI _ h.inn,by have:=h.len;simp only[length_append,length_singleton];omega⟩;show _=(if bad (bA bad one x0 g.1).1=true then _ else _);rw[e1,e2,if_neg (by rw[hb];simp)]
theorem MJ.all (h:MJ bad one In x0 m g) (hm:¬(g.1:Int)<m):(g.2.1,g.2.2)=bA bad one x0 m.toNat:=by
 rw[h.eq,show g.1=m.toNat by have:=h.le;omega]
theorem MJ.stop (h:MJ bad one In x0 m g) (hb:bad g.2.1=true):(g.2.1,g.2.2)=bA bad one x0 m.toNat:=by
 have e1:(bA bad one x0 g.1).1=g.2.1:=by rw[<- h.eq]
 rw[h.eq,many_bad (by rw[e1];exact hb) _ h.le]
end
def lbx (x:LIn):List Tc:=[.v (.string x.s),.v (I x.at_),.b x.bad]
noncomputable def bA0 (k m:Int) (x:LIn):LIn:=linR.lim k m x
theorem cD4 {k m:Int}{x:LIn}(h:k<m):bA0 k m x=⟨x.s,x.at_,true⟩:=by
 show (if _ then _ else _)=_;rw[if_pos h]
theorem cD5 {k m:Int}{x:LIn}(h:¬k<m):bA0 k m x=x:=by
 show (if _ then _ else _)=_;rw[if_neg h]
theorem shelfL_eq (x:LIn):sF x=dX linR x:=by
 have key:∀(y:LIn) i,fG y i=bA LIn.bad (kK linR) y i:=by
  intro y i
  induction i with
  | zero=>rfl
  | succ i ih=>
   show (if _ then _ else _)=(if _ then _ else _);rw[ih];rfl
 unfold sF;rw[key];rfl
section
variable {A:Type}{R:A->Prop}
noncomputable def cV7 (x x0:LIn) (a b c d m:Int) (h4:I64 a/\I64 b/\I64 c/\I64 d) (hm:m<=1000000000) (hi:x0.in_) (e:∀y es,(y,es)=bA LIn.bad (jD linR) x0 m.toNat->(y,(⟨a,b,c,d,es⟩:Plan))=fA linR x):D prog (fun q:LIn×Plan=>q=fA linR x/\rgd [Rk.S q.2]):=
 .r0 (inferInstance:Shape Edge) 105<|.lp (Γ:=Nat×LIn×List Edge) (fun g=>MJ LIn.bad (jD linR) LIn.in_ x0 m g) (fun g=>m.toNat-g.1) [0,2,3,4] [1,1000000] [] (fun g=>[vI 5 g.1]) (fun g=>[oR 3 105 g.2.2,oB 2 [.v (I a),.v (I b),.v (I c),.v (I d),.r 3],oB 0 (lbx g.2.1)]) (0,x0,[]) (MJ.start hi) [] fun g hJ t=>
  .s ((g.1:Int)<m)
   (fun h=>.sb (!g.2.1.bad)
    (fun hb=>cmL g.2.1 hJ.inn<|cmL (aD g.2.1).1 (bB hJ.inn) <|
     .a g.2.2 (jD linR g.2.1).2 16 (hy:=cN6 linB _ hJ.inn) (h63:=by have:=hJ.len;have:=hJ.le;unfold maxLen;omega) (hby:=by have:=hJ.len;have:=hJ.le;omega)<|.p g.1 1 (h:=by unfold I64;omega) <|
     .n t (g.1+1,(jD linR g.2.1).1,g.2.2++[(jD linR g.2.1).2]) [] (hJ.next (aO2 linB) h (bnT hb)) (by dsimp only;omega))
    (fun hb=>.rt (g.2.1,⟨a,b,c,d,g.2.2⟩) ⟨e _ _ (hJ.stop (bnF hb)),h4,trivial⟩))
   (fun h=>.rt (g.2.1,⟨a,b,c,d,g.2.2⟩) ⟨e _ _ (hJ.all h),h4,trivial⟩)
end
theorem PlanL (x:LIn) (h:x.in_):Cm prog 279 [] inferInstance x (fun _:Unit=>True) (fun _=>(fA linR x).1) (fun _=>[.S (fA linR x).2]):=
 Cm.one (fA linR x) (y:=fun a=>a.1) (rk:=fun a=>[.S a.2])<|vcm func279 (fun hg hn=>
  let x1:=(aD x).1
  let x2:=(aD x1).1
  let x3:=(aD x2).1
  let x4:=(aD x3).1
  let h1:=bB h
  let h2:=bB h1
  let h3:=bB h2
  let h4:=bB h3
  cmL x h<|cmL x1 h1<|cmL x2 h2<|cmL x3 h3<|cmL x4 h4<|.s ((31:Int)<(aD x4).2)
  (fun h8=>cV7 x ⟨(aD x4).1.s,(aD x4).1.at_,true⟩ (aD x).2 (aD x1).2 (aD x2).2 (aD x3).2 (aD x4).2 ⟨cB _,cB _,cB _,cB _⟩ (rA x4) (bB h4) (fun y es he=>by
   show _=(fun q:LIn×List Edge=>(q.1,(⟨(aD x).2,(aD x1).2,(aD x2).2,(aD x3).2,q.2⟩:Plan))) (bA LIn.bad (jD linR) (bA0 31 (aD x4).2 (aD x4).1) (aD x4).2.toNat);rw[cD4 h8,<- he]))
  (fun h8=>cV7 x (aD x4).1 (aD x).2 (aD x1).2 (aD x2).2 (aD x3).2 (aD x4).2 ⟨cB _,cB _,cB _,cB _⟩ (rA x4) (bB h4) (fun y es he=>by
   show _=(fun q:LIn×List Edge=>(q.1,(⟨(aD x).2,(aD x1).2,(aD x2).2,(aD x3).2,q.2⟩:Plan))) (bA LIn.bad (jD linR) (bA0 31 (aD x4).2 (aD x4).1) (aD x4).2.toNat);rw[cD5 h8,<- he]))) aB
section
variable {A:Type}{R:A->Prop}
noncomputable def cmP (x:LIn) (h:x.in_) (k:gds [Rk.S (fA linR x).2]->D prog R):D prog R := .cm 279 func279 (PlanL x h) trivial fun _ _ _ hg=>k hg
noncomputable def cV1 (x x0:LIn) (id:Int) (p:Plan) (st:Int) (hok:I64 id/\p.ok/\I64 st) (hl:p.edges.length<=9223372036854775807) (hm:p.tasks<=1000000000) (hi:x0.in_) (e:∀y ts,(y,ts)=bA LIn.bad (iU linR) x0 p.tasks.toNat->(y,(⟨id,p,st,ts⟩:Run))=iL linR x):D prog (fun q:LIn×Run=>q=iL linR x/\rgd [Rk.S q.2]):=
 .r0 (inferInstance:Shape Task) 186<|.lp (Γ:=Nat×LIn×List Task) (fun g=>MJ LIn.bad (iU linR) LIn.in_ x0 p.tasks g) (fun g=>p.tasks.toNat-g.1) [0,2,3] [1,3,1000000] [] (fun g=>[vI 4 g.1]) (fun g=>[oR 4 186 g.2.2,oB 2 [.v (I id),.v (I p.prio),.v (I p.most),.v (I p.wait),.v (I p.tasks),.r 3,.v (I st),.r 4],oB 0 (lbx g.2.1)]) (0,x0,[]) (MJ.start hi) [] fun g hJ t=>
  .s ((g.1:Int)<p.tasks)
   (fun h=>.sb (!g.2.1.bad)
    (fun hb=>let x1:=(aD g.2.1).1
     let x2:=(aD x1).1
     let x3:=(aD x2).1
     cmL g.2.1 hJ.inn<|cmL x1 (bB hJ.inn)<|cmL x2 (bB (bB hJ.inn))<|cmL x3 (bB (bB (bB hJ.inn))) <|
     .a g.2.2 (iU linR g.2.1).2 32 (hy:=cG5 linB _ hJ.inn) (h63:=by have:=hJ.len;have:=hJ.le;unfold maxLen;omega) (hby:=by have:=hJ.len;have:=hJ.le;omega)<|.p g.1 1 (h:=by unfold I64;omega) <|
     .n t (g.1+1,(iU linR g.2.1).1,g.2.2++[(iU linR g.2.1).2]) [] (hJ.next (aM5 linB) h (bnT hb)) (by dsimp only;omega))
    (fun hb=>.rt (g.2.1,⟨id,p,st,g.2.2⟩) ⟨e _ _ (hJ.stop (bnF hb)),hok,trivial⟩))
   (fun h=>.rt (g.2.1,⟨id,p,st,g.2.2⟩) ⟨e _ _ (hJ.all h),hok,trivial⟩)
end
theorem RunL (x:LIn) (h:x.in_):Cm prog 303 [] inferInstance x (fun _:Unit=>True) (fun _=>(iL linR x).1) (fun _=>[.S (iL linR x).2]):=
 Cm.one (iL linR x) (y:=fun a=>a.1) (rk:=fun a=>[.S a.2])<|vcm func303 (fun hg hn=>
  let x1:=(aD x).1
  let h1:=bB h
  let q:=fA linR x1
  let h2:=zO linB x1 h1
  cmL x h<|cmP x1 h1 fun gd=>cmL q.1 h2<|.s ((12:Int)<q.2.tasks)
  (fun h8=>cV1 x ⟨(aD q.1).1.s,(aD q.1).1.at_,true⟩ (aD x).2 q.2 (aD q.1).2 ⟨cB _,uY linB x1 h1,cB _⟩ gd.1.2.1 (xL linB x1 h1).2 (bB h2) (fun y es he=>by
   show _=(fun z:LIn×List Task=>(z.1,(⟨(aD x).2,q.2,(aD q.1).2,z.2⟩:Run))) (bA LIn.bad (iU linR) (bA0 12 q.2.tasks (aD q.1).1) q.2.tasks.toNat);rw[cD4 h8,<- he]))
  (fun h8=>cV1 x (aD q.1).1 (aD x).2 q.2 (aD q.1).2 ⟨cB _,uY linB x1 h1,cB _⟩ gd.1.2.1 (xL linB x1 h1).2 (bB h2) (fun y es he=>by
   show _=(fun z:LIn×List Task=>(z.1,(⟨(aD x).2,q.2,(aD q.1).2,z.2⟩:Run))) (bA LIn.bad (iU linR) (bA0 12 q.2.tasks (aD q.1).1) q.2.tasks.toNat);rw[cD5 h8,<- he]))) aB
def nbx (j:Nat) (x:Numb):List Tc:=[.r j,.b x.bad]
theorem fV {x:Numb}(h:x.in_):(aM x).1.in_:=(numB.inn h).1
theorem eK {x:Numb}(h:x.in_):I64 (aM x).2:=by have:=numB.inn h;have:0<=(aM x).2/\(aM x).2<=1000000000:=this.2;unfold I64;omega
theorem aT7 {x:Numb}(h:x.in_):(aM x).2<=1000000000:=(numB.inn h).2.2
section
variable {A:Type}{R:A->Prop}
noncomputable def cmN (x:Numb) (k:D prog R):D prog R := .cm 298 func298 (NextD x) trivial fun _ _ _ _=>k
end
theorem PlanD (x:Numb) (h:x.in_):Cm prog 299 [] inferInstance x (fun _:Unit=>True) (fun _=>(fA fU x).1) (fun _=>[.S (fA fU x).2]):=
 Cm.one (fA fU x) (y:=fun a=>a.1) (rk:=fun a=>[.S a.2])<|vcm func299 (fun hg hn=>
  let x1:=(aM x).1
  let x2:=(aM x1).1
  let x3:=(aM x2).1
  let x4:=(aM x3).1
  let x5:=(aM x4).1
  let m:=(aM x4).2
  let h1:=fV h
  let h2:=fV h1
  let h3:=fV h2
  let h4:=fV h3
  let h5:=fV h4
  let hm:m<=1000000000:=aT7 h4
  cmN x<|cmN x1<|cmN x2<|cmN x3<|cmN x4<|.r0 (inferInstance:Shape Edge) 105 <|
  .lp (Γ:=Nat×Numb×List Edge) (fun g=>MJ Numb.bad (jD fU) Numb.in_ x5 m g) (fun g=>m.toNat-g.1) [0,2,3,4] [2,1000000] [] (fun g=>[vI 5 g.1]) (fun g=>[oR 9 105 g.2.2,oO 8 g.2.1.list,oB 7 [.v (I (aM x).2),.v (I (aM x1).2),.v (I (aM x2).2),.v (I (aM x3).2),.r 9],oB 0 (nbx 8 g.2.1)]) (0,x5,[]) (MJ.start h5) [] fun g hJ t=>
   .s ((g.1:Int)<m)
    (fun h=>.sb (!g.2.1.bad)
     (fun hb=>cmN g.2.1<|cmN (aM g.2.1).1 <|
      .a g.2.2 (jD fU g.2.1).2 16 (hy:=cN6 numB _ hJ.inn) (h63:=by have:=hJ.len;have:=hJ.le;unfold maxLen;omega) (hby:=by have:=hJ.len;have:=hJ.le;omega)<|.p g.1 1 (h:=by unfold I64;omega) <|
      .n t (g.1+1,(jD fU g.2.1).1,g.2.2++[(jD fU g.2.1).2]) [(8,11)] (hJ.next (aO2 numB) h (bnT hb)) (by dsimp only;omega))
     (fun hb=>.rt (g.2.1,⟨(aM x).2,(aM x1).2,(aM x2).2,(aM x3).2,g.2.2⟩) ⟨by
      show _=(fun q:Numb×List Edge=>(q.1,(⟨(aM x).2,(aM x1).2,(aM x2).2,(aM x3).2,q.2⟩:Plan))) (bA Numb.bad (jD fU) x5 m.toNat);rw[<- hJ.stop (bnF hb)],⟨eK ‹_›,eK h1,eK h2,eK h3⟩,trivial⟩))
    (fun h=>.rt (g.2.1,⟨(aM x).2,(aM x1).2,(aM x2).2,(aM x3).2,g.2.2⟩) ⟨by
      show _=(fun q:Numb×List Edge=>(q.1,(⟨(aM x).2,(aM x1).2,(aM x2).2,(aM x3).2,q.2⟩:Plan))) (bA Numb.bad (jD fU) x5 m.toNat);rw[<- hJ.all h],⟨eK ‹_›,eK h1,eK h2,eK h3⟩,trivial⟩)) aB
theorem many4 {σ β:Type}(one:σ->σ×β) (x:σ):bA (fun _=>false) one x 4=((one (one (one (one x).1).1).1).1,[(one x).2,(one (one x).1).2,(one (one (one x).1).1).2,(one (one (one (one x).1).1).1).2]):=by
 simp[bA]
theorem cJ1 {s:ByteArray}(h:¬((eR s).2=true/\(jL s).1.bad=false/\aG (jL s).2=true/\dW (jL s).2=s)):(yard0,false)=eN s:=by unfold eN;rw[if_neg h]
theorem lists_good {α:Type}[Shape α] (l:List (List α)):∀y∈l,(inferInstance:Dsh (List α)).good y:=fun _ _=>trivial
section
variable {A:Type}{R:A->Prop}
noncomputable def cmPl (x:Numb) (h:x.in_) (k:gds [Rk.S (fA fU x).2]->D prog R):D prog R := .cm 299 func299 (PlanD x h) trivial fun _ _ _ hg=>k hg
noncomputable def aN0 (x:Numb) (hi:x.in_) (lst row:Nat) (ko:List Nat) (cells:List Tc) (k:∀z:Numb×List Entry,z=dX fU x->D prog R):D prog R:=
 let hm:(aM x).2<=1000000000:=aT7 hi
 cmN x<|.r0 (inferInstance:Shape Entry) 173<|.lx (Γ:=Nat×Numb×List Entry) (fun g=>MJ Numb.bad (kK fU) Numb.in_ (aM x).1 (aM x).2 g) (fun g=>(aM x).2.toNat-g.1) [0,2,6,7,8,9,34,35] ko [] (fun g=>[vI 10 g.1])
  (fun g=>[oR row 173 g.2.2,oO lst g.2.1.list,oB 83 cells,oB 2 (nbx lst g.2.1)]) (0,(aM x).1,[]) (MJ.start (fV hi)) []
  (fun g hJ t=>.s ((g.1:Int)<(aM x).2)
   (fun h=>.sb (!g.2.1.bad)
    (fun hb=>let x1:=(aM g.2.1).1
     let x2:=(aM x1).1
     let x3:=(aM x2).1
     cmN g.2.1<|cmN x1<|cmN x2<|cmN x3 <|
     .a g.2.2 (kK fU g.2.1).2 32 (hy:=entry_ok numB _ hJ.inn) (h63:=by have:=hJ.len;have:=hJ.le;unfold maxLen;omega) (hby:=by have:=hJ.len;have:=hJ.le;omega)<|.p g.1 1 (h:=by unfold I64;omega) <|
     .n t (g.1+1,(kK fU g.2.1).1,g.2.2++[(kK fU g.2.1).2]) [(lst,lst+5)] (hJ.next (aW7 numB) h (bnT hb)) (by dsimp only;omega))
    (fun hb=>.xt (fun z:Numb×List Entry=>z=dX fU x) (g.2.1,g.2.2) (hJ.stop (bnF hb)) []))
   (fun h=>.xt (fun z:Numb×List Entry=>z=dX fU x) (g.2.1,g.2.2) (hJ.all h) []))
  (fun z:Numb×List Entry=>z=dX fU x) 2 [0,2,6,7,34,35] ko [] (fun _=>[]) (fun z=>[oR row 173 z.2,oO lst z.1.list,oB 83 cells,oB 2 (nbx lst z.1)]) k
end
def cR0:Tc := .v (.slice none 0 0)
noncomputable def riEnd (s:ByteArray) (hs:s.size<=1048576) (hv:(eR s).2=true) (w:Numb×List Run) (y:Yard) (hok:y.ok) (e:(w.1,y)=jL s):D prog (fun a:Yard×Bool=>a=eN s/\rgd [Rk.S a.1,Rk.B a.2]):=
 let e1:(jL s).1=w.1:=by rw[<- e]
 let e2:(jL s).2=y:=by rw[<- e]
 .sb w.1.bad (fun hb=>.rt (yard0,false) ⟨cJ1 (fun h=>by rw[e1,hb]at h;exact absurd h.2.1 (by simp)),dB,trivial⟩)
  (fun hb=>let hw:y.wt<=1048576:=by { have:=bR3 hv (by rw[e1];exact hb);rw[e2]at this;omega }
   .c func91 (bP9 y hw) (hg:=⟨hok,trivial⟩) fun _=>.v (aG y)
   (fun h2=>.rt (yard0,false) ⟨cJ1 (fun h=>by rw[e2,h2]at h;exact absurd h.2.2.1 (by simp)),dB,trivial⟩)
   (fun h2=>.c func256 (aH0 y hw) (hg:=⟨hok,trivial⟩) fun _=>.u (dW y=s)
    (fun hn=>.rt (yard0,false) ⟨cJ1 (fun h=>hn (by rw[<- e2];exact h.2.2.2)),dB,trivial⟩)
    (fun he=>.rt (y,true) ⟨by unfold eN;rw[if_pos ⟨hv,by rw[e1];exact hb,by rw[e2];exact h2,by rw[e2];exact he⟩,e2],hok,trivial⟩)))
noncomputable def riRuns (s:ByteArray) (hs:s.size<=1048576) (hv:(eR s).2=true) (now seq m:Int) (ss:List (List Entry)) (hok:I64 now/\I64 seq) (hm:m<=1000000000) (x4:Numb) (hi:x4.in_) (e:∀w,w=bA Numb.bad (iL fU) x4 m.toNat->(w.1,(⟨now,seq,ss,w.2⟩:Yard))=jL s):D prog (fun a:Yard×Bool=>a=eN s/\rgd [Rk.S a.1,Rk.B a.2]):=
 .r0 (inferInstance:Shape Run) 145<|.lx (Γ:=Nat×Numb×List Run) (fun g=>MJ Numb.bad (iL fU) Numb.in_ x4 m g) (fun g=>m.toNat-g.1) [0,2,6,7,11] [0,83] [] (fun g=>[vI 12 g.1]) (fun g=>[oR 172 145 g.2.2,oO 171 g.2.1.list,oB 123 [.v (I now),.v (I seq),.r 83,.r 172],oB 2 (nbx 171 g.2.1)]) (0,x4,[]) (MJ.start hi) []
  (fun g hJ t=>.s ((g.1:Int)<m)
   (fun h=>.sb (!g.2.1.bad)
    (fun hb=>
     let x1:=(aM g.2.1).1
     let i1:=fV hJ.inn
     let p:=fA fU x1
     let i2:=zO numB x1 i1
     let x3:=(aM p.1).1
     let i3:=fV i2
     let hpt:p.2.tasks<=1000000000:=(xL numB x1 i1).2
     cmN g.2.1<|cmPl x1 i1 fun gp=>cmN p.1<|.r0 (inferInstance:Shape Task) 186 <|
     .lx (Γ:=Nat×Numb×List Task) (fun q=>MJ Numb.bad (iU fU) Numb.in_ x3 p.2.tasks q) (fun q=>p.2.tasks.toNat-q.1) [0,2,6,7,11,12,13] [0,83,123,172,176] [] (fun q=>[vI 14 q.1])
      (fun q=>[oR 178 186 q.2.2,oO 177 q.2.1.list,oB 174 [.v (I (aM g.2.1).2),.v (I p.2.prio),.v (I p.2.most),.v (I p.2.wait),.v (I p.2.tasks),.r 176,.v (I (aM p.1).2),.r 178],oB 2 (nbx 177 q.2.1)]) (0,x3,[]) (MJ.start i3) []
      (fun q hJ2 t2=>.s ((q.1:Int)<p.2.tasks)
       (fun h3=>.sb (!q.2.1.bad)
        (fun hb2=>let z1:=(aM q.2.1).1
         let z2:=(aM z1).1
         let z3:=(aM z2).1
         cmN q.2.1<|cmN z1<|cmN z2<|cmN z3 <|
         .a q.2.2 (iU fU q.2.1).2 32 (hy:=cG5 numB _ hJ2.inn) (h63:=by have:=hJ2.len;have:=hJ2.le;unfold maxLen;omega) (hby:=by have:=hJ2.len;have:=hJ2.le;omega)<|.p q.1 1 (h:=by unfold I64;omega) <|
         .n t2 (q.1+1,(iU fU q.2.1).1,q.2.2++[(iU fU q.2.1).2]) [(177,182)] (hJ2.next (aM5 numB) h3 (bnT hb2)) (by dsimp only;omega))
        (fun hb2=>.xt (fun z:Numb×List Task=>z=bA Numb.bad (iU fU) x3 p.2.tasks.toNat) (q.2.1,q.2.2) (hJ2.stop (bnF hb2)) []))
       (fun h3=>.xt (fun z:Numb×List Task=>z=bA Numb.bad (iU fU) x3 p.2.tasks.toNat) (q.2.1,q.2.2) (hJ2.all h3) []))
      (fun z:Numb×List Task=>z=bA Numb.bad (iU fU) x3 p.2.tasks.toNat) 6 [0,2,6,7,11,12,13] [0,83,123,172,176] [] (fun _=>[])
      (fun z=>[oR 178 186 z.2,oO 177 z.1.list,oB 174 [.v (I (aM g.2.1).2),.v (I p.2.prio),.v (I p.2.most),.v (I p.2.wait),.v (I p.2.tasks),.r 176,.v (I (aM p.1).2),.r 178],oB 2 (nbx 177 z.1)])
      fun z hz=>
       let er:iL fU g.2.1=(z.1,(⟨(aM g.2.1).2,p.2,(aM p.1).2,z.2⟩:Run)):=by
        show (fun z:Numb×List Task=>(z.1,(⟨(aM g.2.1).2,p.2,(aM p.1).2,z.2⟩:Run))) (bA Numb.bad (iU fU) x3 p.2.tasks.toNat)=_;rw[<- hz]
       .a g.2.2 (⟨(aM g.2.1).2,p.2,(aM p.1).2,z.2⟩:Run) 96 (hy:=by have:=cU5 numB _ hJ.inn;rw[er]at this;exact this) (h63:=by have:=hJ.len;have:=hJ.le;unfold maxLen;omega) (hby:=by have:=hJ.len;have:=hJ.le;omega)<|.p g.1 1 (h:=by unfold I64;omega) <|
       .n t (g.1+1,z.1,g.2.2++[(⟨(aM g.2.1).2,p.2,(aM p.1).2,z.2⟩:Run)]) [(171,177)] (by have:=hJ.next (bL6 numB) h (bnT hb);rw[er]at this;exact this) (by dsimp only;omega))
    (fun hb=>.xt (fun w:Numb×List Run=>w=bA Numb.bad (iL fU) x4 m.toNat) (g.2.1,g.2.2) (hJ.stop (bnF hb)) []))
   (fun h=>.xt (fun w:Numb×List Run=>w=bA Numb.bad (iL fU) x4 m.toNat) (g.2.1,g.2.2) (hJ.all h) []))
  (fun w:Numb×List Run=>w=bA Numb.bad (iL fU) x4 m.toNat) 4 [0,2,6,7] [0,83] [] (fun _=>[]) (fun w=>[oR 172 145 w.2,oO 171 w.1.list,oB 123 [.v (I now),.v (I seq),.r 83,.r 172],oB 2 (nbx 171 w.1)])
  fun w hw=>riEnd s hs hv w ⟨now,seq,ss,w.2⟩ hok (e w hw)
theorem ReadYardI (s:ByteArray) (hs:s.size<=1048576):Ct1 prog 309 [.T s] [.S (eN s).1,.B (eN s).2]:=
 .one (eN s) (rk:=fun a=>[.S a.1,.B a.2])<|vc func309 (fun hg=>.c func297 (bJ2 s hs) fun _=>.v (eR s).2
  (fun hb=>.rt (yard0,false) ⟨cJ1 (fun h=>by rw[h.1]at hb;cases hb),dB,trivial⟩)
  (fun hv=>
   let x0:Numb:=⟨(eR s).1,false⟩
   let i0:x0.in_:=aP1 s
   let x1:=(aM x0).1
   let x2:=(aM x1).1
   let i1:=fV i0
   let i2:=fV i1
   cmN x0<|cmN x1<|.ul 5<|.kt ((0:Int)<4) fL <|
   aN0 x2 i2 163 164 [0,123] [.r 164,cR0,cR0,cR0] fun z0 e0=>let j0:z0.1.in_:=by { rw[e0];exact lG numB _ i2 }
   .p 0 1<|.kt ((1:Int)<4) fL <|
   aN0 z0.1 j0 165 166 [0,123,164] [.r 164,.r 166,cR0,cR0] fun z1 e1=>let j1:z1.1.in_:=by { rw[e1];exact lG numB _ j0 }
   .p 1 1<|.kt ((2:Int)<4) fL <|
   aN0 z1.1 j1 167 168 [0,123,164,166] [.r 164,.r 166,.r 168,cR0] fun z2 e2=>let j2:z2.1.in_:=by { rw[e2];exact lG numB _ j1 }
   .p 2 1<|.kt ((3:Int)<4) fL <|
   aN0 z2.1 j2 169 170 [0,123,164,166,168] [.r 164,.r 166,.r 168,.r 170] fun z3 e3=>let j3:z3.1.in_:=by { rw[e3];exact lG numB _ j2 }
   .p 3 1<|.kf ((4:Int)<4) fL <|
   cmN z3.1<|.lj (inferInstance:Dsh (List Entry)) 123 2 [z0.2,z1.2,z2.2,z3.2] (by simp) (by simp) (lists_good _) <|
   riRuns s hs hv (aM x0).2 (aM x1).2 (aM z3.1).2 [z0.2,z1.2,z2.2,z3.2] ⟨eK i0,eK i1⟩ (aT7 j3) (aM z3.1).1 (fV j3) (fun w hw=>by
    show _=(fun z:Numb×List (List Entry)=>(fun w:Numb×List Run=>(w.1,(⟨(aM x0).2,(aM x1).2,z.2,w.2⟩:Yard))) (bA Numb.bad (iL fU) (aM z.1).1 (aM z.1).2.toNat)) (bA (fun _=>false) (dX fU) x2 4);rw[many4,<- e0,<- e1,<- e2,<- e3];show _=(fun w:Numb×List Run=>(w.1,(⟨(aM x0).2,(aM x1).2,[z0.2,z1.2,z2.2,z3.2],w.2⟩:Yard))) (bA Numb.bad (iL fU) (aM z3.1).1 (aM z3.1).2.toNat);rw[<- hw]))) aB
noncomputable def aS3 (s:ByteArray) (hv:(eR s).2=true) (w:Numb) (n:Note) (hok:n.ok) (e:(w,n)=aZ7 s):D prog (fun a:Note×Bool=>a=mF s/\rgd [Rk.S a.1,Rk.B a.2]):=
 let e1:(aZ7 s).1=w:=by rw[<- e]
 let e2:(aZ7 s).2=n:=by rw[<- e]
 .c func94 (yK n) (hg:=⟨hok,trivial⟩) fun _=>.sb w.bad
  (fun hb=>.rt (note0,false) ⟨bV2 (fun h=>by rw[e1,hb]at h;exact absurd h.2.1 (by simp)),lM,trivial⟩)
  (fun hb=>.s (gQ n=⟨#[]⟩)
   (fun h0=>.rt (note0,false) ⟨bV2 (fun h=>h.2.2.1 (by rw[<- h.2.2.2,e2,h0])),lM,trivial⟩)
   (fun h0=>.u (gQ n=s)
    (fun hn=>.rt (note0,false) ⟨bV2 (fun h=>hn (by rw[<- e2];exact h.2.2.2)),lM,trivial⟩)
    (fun he=>.rt (n,true) ⟨by unfold mF;rw[if_pos ⟨hv,by rw[e1];exact hb,fun h=>h0 (by rw[he,h]),by rw[e2];exact he⟩,e2],hok,trivial⟩)))
theorem ReadNote_i (s:ByteArray) (hs:s.size<=1048576):Ct1 prog 262 [.T s] [.S (mF s).1,.B (mF s).2]:=
 .one (mF s) (rk:=fun a=>[.S a.1,.B a.2])<|vc func262 (fun hg=>.c func297 (bJ2 s hs) fun _=>.v (eR s).2
  (fun hb=>.rt (note0,false) ⟨bV2 (fun h=>by rw[h.1]at hb;cases hb),lM,trivial⟩)
  (fun hv=>
   let x0:Numb:=⟨(eR s).1,false⟩
   let i0:x0.in_:=aP1 s
   let x1:=(aM x0).1
   let i1:=fV i0
   let x2:=(aM x1).1
   let i2:=fV i1
   let x3:=(aM x2).1
   let i3:=fV i2
   let x4:=(aM x3).1
   let i4:=fV i3
   let k:=(aM x1).2
   let a64:=eK i0
   let k64:=eK i1
   let three:k=3∨k=4->D prog (fun a:Note×Bool=>a=mF s/\rgd [Rk.S a.1,Rk.B a.2]):=fun h=>cmN x2<|cmN x3<|cmN x4<|aS3 s hv (aM x4).1 ⟨(aM x0).2,⟨k,(aM x2).2,zP,(aM x3).2,(aM x4).2,0,0⟩⟩ ⟨a64,k64,eK i2,pJ,eK i3,eK i4,z64,z64⟩ (bN1 (r:=fU) (x:=x0) h).symm
   let one:k=6∨k=7->D prog (fun a:Note×Bool=>a=mF s/\rgd [Rk.S a.1,Rk.B a.2]):=fun h=>cmN x2<|aS3 s hv (aM x2).1 ⟨(aM x0).2,⟨k,(aM x2).2,zP,0,0,0,0⟩⟩ ⟨a64,k64,eK i2,pJ,z64,z64,z64,z64⟩ (bN0 (r:=fU) (x:=x0) h).symm
   cmN x0<|cmN x1<|.s (k=1)
    (fun h1=>cmN x2<|cmPl x3 i3 fun gp=>aS3 s hv (fA fU x3).1 ⟨(aM x0).2,⟨k,(aM x2).2,(fA fU x3).2,0,0,0,0⟩⟩ ⟨a64,k64,eK i2,uY numB x3 i3,z64,z64,z64,z64⟩ (bN3 (r:=fU) (x:=x0) h1).symm)
    (fun h1=>.s (k=2)
     (fun h2=>cmN x2<|cmN x3<|aS3 s hv (aM x3).1 ⟨(aM x0).2,⟨k,0,zP,0,0,(aM x2).2,(aM x3).2⟩⟩ ⟨a64,k64,z64,pJ,z64,z64,eK i2,eK i3⟩ (bN2 (r:=fU) (x:=x0) h2).symm)
     (fun h2=>.s (k=3) (fun h=>three (.inl h)) (fun h3=>.s (k=4) (fun h=>three (.inr h)) (fun h4=>.s (k=6) (fun h=>one (.inl h)) (fun h6=>.s (k=7) (fun h=>one (.inr h)) (fun h7=>
      aS3 s hv (aM x1).1 ⟨(aM x0).2,⟨k,0,zP,0,0,0,0⟩⟩ ⟨a64,k64,z64,pJ,z64,z64,z64,z64⟩ (bN4 (r:=fU) (x:=x0) h1 h2 h3 h4 h6 h7).symm)))))))) aB
noncomputable def aS2 (s:ByteArray) (hs:s.size<=400) (w:LIn) (n:Note) (hok:n.ok) (e:(w,n)=aZ6 s):D prog (fun a:Note×Bool=>a=cN s/\rgd [Rk.S a.1,Rk.B a.2]):=
 let e1:(aZ6 s).1=w:=by rw[<- e]
 let e2:(aZ6 s).2=n:=by rw[<- e]
 .sb w.bad
  (fun hb=>.rt (note0,false) ⟨bU8 (fun h=>by rw[e1,hb]at h;exact absurd h.2.1 (by simp)),lM,trivial⟩)
  (fun hb=>.s (s=⟨#[]⟩)
   (fun h0=>.rt (note0,false) ⟨bU8 (fun h=>h.2.2.1 h0),lM,trivial⟩)
   (fun h0=>.c func77 (yJ n) (hg:=⟨hok,trivial⟩) fun _=>.u (gQ n=s)
    (fun hn=>.rt (note0,false) ⟨bU8 (fun h=>hn (by rw[<- e2];exact h.2.2.2)),lM,trivial⟩)
    (fun he=>.rt (n,true) ⟨by unfold cN;rw[if_pos ⟨hs,by rw[e1];exact hb,h0,by rw[e2];exact he⟩,e2],hok,trivial⟩)))
theorem ReadNote_s (s:ByteArray) (hs:s.size<=1048576):Ct1 prog 217 [.T s] [.S (cN s).1,.B (cN s).2]:=
 .one (cN s) (rk:=fun a=>[.S a.1,.B a.2])<|vc func217 (fun hg=>.s ((400:Int)<s.size)
  (fun hb=>.rt (note0,false) ⟨bU8 (fun h=>by omega),lM,trivial⟩)
  (fun hz=>
   let h4:s.size<=400:=by omega
   let x0:LIn:=⟨s,0,false⟩
   let i0:x0.in_:=⟨hs,Nat.zero_le _⟩
   let x1:=(aD x0).1
   let i1:=bB i0
   let x2:=(aD x1).1
   let i2:=bB i1
   let x3:=(aD x2).1
   let i3:=bB i2
   let x4:=(aD x3).1
   let i4:=bB i3
   let k:=(aD x1).2
   let a64:=cB x0
   let k64:=cB x1
   let three:k=3∨k=4->D prog (fun a:Note×Bool=>a=cN s/\rgd [Rk.S a.1,Rk.B a.2]):=fun h=>cmL x2 i2<|cmL x3 i3<|cmL x4 i4<|aS2 s h4 (aD x4).1 ⟨(aD x0).2,⟨k,(aD x2).2,zP,(aD x3).2,(aD x4).2,0,0⟩⟩ ⟨a64,k64,cB _,pJ,cB _,cB _,z64,z64⟩ (bN1 (r:=linR) (x:=x0) h).symm
   let one:k=6∨k=7->D prog (fun a:Note×Bool=>a=cN s/\rgd [Rk.S a.1,Rk.B a.2]):=fun h=>cmL x2 i2<|aS2 s h4 (aD x2).1 ⟨(aD x0).2,⟨k,(aD x2).2,zP,0,0,0,0⟩⟩ ⟨a64,k64,cB _,pJ,z64,z64,z64,z64⟩ (bN0 (r:=linR) (x:=x0) h).symm
   cmL x0 i0<|cmL x1 i1<|.s (k=1)
    (fun h1=>cmL x2 i2<|cmP x3 i3 fun gp=>aS2 s h4 (fA linR x3).1 ⟨(aD x0).2,⟨k,(aD x2).2,(fA linR x3).2,0,0,0,0⟩⟩ ⟨a64,k64,cB _,uY linB x3 i3,z64,z64,z64,z64⟩ (bN3 (r:=linR) (x:=x0) h1).symm)
    (fun h1=>.s (k=2)
     (fun h2=>cmL x2 i2<|cmL x3 i3<|aS2 s h4 (aD x3).1 ⟨(aD x0).2,⟨k,0,zP,0,0,(aD x2).2,(aD x3).2⟩⟩ ⟨a64,k64,z64,pJ,z64,z64,cB _,cB _⟩ (bN2 (r:=linR) (x:=x0) h2).symm)
     (fun h2=>.s (k=3) (fun h=>three (.inl h)) (fun h3=>.s (k=4) (fun h=>three (.inr h)) (fun h4'=>.s (k=6) (fun h=>one (.inl h)) (fun h6=>.s (k=7) (fun h=>one (.inr h)) (fun h7=>
      aS2 s h4 (aD x1).1 ⟨(aD x0).2,⟨k,0,zP,0,0,0,0⟩⟩ ⟨a64,k64,z64,pJ,z64,z64,z64,z64⟩ (bN4 (r:=linR) (x:=x0) h1 h2 h3 h4' h6 h7).symm)))))))) aB
theorem uZ {bs:List ByteArray}{g:Nat×List Note×Int}(h:NsJ bs g) (hb:bs.length<=60000):g.2.1.length+1<=maxLen/\(g.2.1.length+1)*112<=140737488355328:=by
 have:=h.len;have:=h.le;unfold maxLen;omega
theorem cU4 {s b:ByteArray}{k:Nat}(h:(iK s).1[k]? = some b):b.size<=400:=(zH s).1 b (mem_of_getElem? h)
theorem aT6 {a:List Note×Int}{b:ByteArray}(h:(cN b).2=true) (h0:¬(0:Int)<a.1.length):qI a b:=⟨h,.inl (eq_nil_of_length_eq_zero aA)⟩
theorem bE1 {a:List Note×Int}{b:ByteArray}{v:Note}(h:(cN b).2=true) (hv:a.1[a.1.length-1]? = some v) (e:(cN b).1.seq=v.seq+1):qI a b:=⟨h,.inr (by rw[cL6 hv];exact e)⟩
theorem bV3 {a:List Note×Int}{b:ByteArray}{v:Note}(h0:(0:Int)<a.1.length) (hv:a.1[a.1.length-1]? = some v) (e:¬(cN b).1.seq=v.seq+1):¬qI a b:=fun hc=>hc.2.elim (fun h=>by rw[h]at h0;exact absurd h0 fL) (fun h=>e (by rw[cL6 hv]at h;exact h))
theorem cL7 {bs:List ByteArray}{g:Nat×List Note×Int}{v:Note}{k:Nat}(h:NsJ bs g) (hv:g.2.1[k]? = some v):I64 (v.seq+1):=by
 have:=h.rng v (mem_of_getElem? hv);unfold I64;omega
theorem bJ4 (s:ByteArray) (hs:s.size<=1048576):Ct1 prog 180 [.T s] [.L (fO s).1,.I (fO s).2]:=
 .one (fO s) (rk:=fun q=>[.L q.1,.I q.2])<|vc func180 (fun hg=>let hbl:=(zH s).2
  .w Note 116 4<|.c func261 (ScanOf_i s hs) fun _=>.l (Γ:=Nat×List Note×Int) (NsJ (iK s).1) (fun g=>(iK s).1.length-g.1) [5,17,18] [1] [] (fun g=>[vR 4 0,vI 7 g.2.2,vI 19 g.1]) (fun g=>[oR 0 116 g.2.1]) (0,[],0) (h:=NsJ.start _) fun g hJ t=>
   .s ((g.1:Int)<(iK s).1.length)
    (fun h=>.x (iK s).1 g.1 (h:=by omega) fun b hb gb=>let hz:=cU4 hb
     .c func262 (show Ct1 prog 262 [.T b] [.S (cN b).1,.B (cN b).2] by rw[<- readN_eq];exact ReadNote_i b aA) fun gn=>
     let add:qI g.2 b->D prog (fun q:List Note×Int=>q=fO s/\rgd [Rk.L q.1,Rk.I q.2]):=fun hn=>.a g.2.1 (cN b).1 112 (hy:=gn.1.1) (h63:=(uZ hJ hbl).1) (hby:=(uZ hJ hbl).2)<|.c func93 (aH6 b aA) fun _=>
      let hfz:=sO hz
      let hsz:=hJ.sz
      let hle:=hJ.le
      .p g.2.2 (dG b).size<|.p g.1 1<|.n t (g.1+1,g.2.1++[(cN b).1],g.2.2+(dG b).size) [] (hJ.next hb hz hn) (by dsimp only;omega)
     .v (cN b).2
      (fun h1=>.rt g.2 ⟨hJ.stop hb (fun hc=>by rw[hc.1]at h1;cases h1),trivial⟩)
      (fun h1=>.s ((0:Int)<g.2.1.length)
       (fun h2=>.m g.2.1.length 1 (h:=by unfold I64;have:=hJ.len;have:=hJ.le;omega)<|.xe g.2.1 (g.2.1.length-1) ((g.2.1.length:Int)-1) (h:=by omega) (he:=by omega) fun v hv gv=>.p v.seq 1 (h:=cL7 hJ hv)<|.u ((cN b).1.seq=v.seq+1)
        (fun h3=>.rt g.2 ⟨hJ.stop hb (bV3 h2 hv h3),trivial⟩)
        (fun h3=>add (bE1 h1 hv h3)))
       (fun h2=>add (aT6 h1 h2))))
    (fun h=>.rt g.2 ⟨hJ.all h,trivial⟩)) aB
theorem bJ3 (s:ByteArray) (hs:s.size<=1048576):Ct1 prog 143 [.T s] [.L (fO s).1,.I (fO s).2]:=
 .one (fO s) (rk:=fun q=>[.L q.1,.I q.2])<|vc func143 (fun hg=>let hbl:=(zH s).2
  .e Note<|.c func216 (ScanOf_s s hs) fun _=>.l (Γ:=Nat×List Note×Int) (NsJ (iK s).1) (fun g=>(iK s).1.length-g.1) [5] [1] [] (fun g=>[vR 4 0,vI 7 g.2.2,vI 8 g.1]) (fun g=>[oR 0 116 g.2.1]) (0,[],0) (h:=NsJ.start _) fun g hJ t=>let hlen:=hJ.len
   .s ((g.1:Int)<(iK s).1.length)
    (fun h=>.x (iK s).1 g.1 (h:=by omega) fun b hb gb=>let hz:=cU4 hb
     .c func217 (ReadNote_s b aA) fun gn=>
     let add:qI g.2 b->D prog (fun q:List Note×Int=>q=fO s/\rgd [Rk.L q.1,Rk.I q.2]):=fun hn=>.a g.2.1 (cN b).1 112 (hy:=gn.1.1) (h63:=(uZ hJ hbl).1) (hby:=(uZ hJ hbl).2)<|.y hb fun _=>.c func76 (aH5 b aA) fun _=>
      let hfz:=sO hz
      let hsz:=hJ.sz
      let hle:=hJ.le
      .p g.2.2 (dG b).size<|.p g.1 1<|.n t (g.1+1,g.2.1++[(cN b).1],g.2.2+(dG b).size) [] (hJ.next hb hz hn) (by dsimp only;omega)
     .v (cN b).2
      (fun h1=>.rt g.2 ⟨hJ.stop hb (fun hc=>by rw[hc.1]at h1;cases h1),trivial⟩)
      (fun h1=>.s ((0:Int)<(g.1:Int))
       (fun h2=>.m g.1 1 (h:=by unfold I64;have:=hJ.le;omega)<|.xe g.2.1 (g.1-1) ((g.1:Int)-1) (h:=by omega) (he:=by omega) fun v hv gv=>.p v.seq 1 (h:=cL7 hJ hv)<|.u ((cN b).1.seq=v.seq+1)
        (fun h3=>.rt g.2 ⟨hJ.stop hb (bV3 aA (by rw[hlen];exact hv) h3),trivial⟩)
        (fun h3=>add (bE1 h1 (by rw[hlen];exact hv) h3)))
       (fun h2=>add (aT6 h1 aA))))
    (fun h=>.rt g.2 ⟨hJ.all h,trivial⟩)) aB
theorem yN (d:Deed) (hl:d.plan.edges.length<=1048576):Ct1 prog 53 [.S d] [.S d]:=
 vc func53 (fun (hg:gin [Par.S d])=>.c func99 (yM d.plan hl) (hg:=⟨(show d.ok from hg.1.1).2.2.1,trivial⟩) fun _=>.rt () ⟨trivial,hg.1.1,trivial⟩) aB
theorem CopyNote_i (n:Note) (hl:n.deed.plan.edges.length<=1048576):Ct1 prog 295 [.S n] [.S n]:=
 vc func295 (fun (hg:gin [Par.S n])=>.c func53 (yN n.deed hl) (hg:=⟨(show n.ok from hg.1.1).2,trivial⟩) fun _=>.rt () ⟨trivial,hg.1.1,trivial⟩) aB
theorem CopyNote_s (n:Note) (hl:n.deed.plan.edges.length<=1048576):Ct1 prog 219 [.S n] [.S n]:=
 vc func219 (fun (hg:gin [Par.S n])=>.c func80 (tB n.deed.plan hl) (hg:=⟨(show n.ok from hg.1.1).2.2.2.1,trivial⟩) fun _=>.rt () ⟨trivial,hg.1.1,trivial⟩) aB
theorem uU {ns:List Note}{q:Int}{g:Nat×List Note×Int}(h:SiJ ns q g) (hl:ns.length<=1048576):g.2.1.length+1<=maxLen/\(g.2.1.length+1)*112<=140737488355328:=by
 have:=h.len;have:=h.le;unfold maxLen;omega
theorem seq_m {n:Note}{q:Int}(gn:n.ok) (h:¬n.seq<=q) (hq:I64 q):I64 (n.seq-1):=by have:=gn.1;unfold I64 at *;omega
theorem Since_i (ns:List Note) (q:Int) (hq:I64 q) (hl:ns.length<=1048576) (he:∀n∈ns,n.deed.plan.edges.length<=1048576):Ct1 prog 259 [.L ns,.I q] [.L (jP ([],q) ns)]:=
 .one (jP ([],q) ns) (rk:=fun l=>[.L l])<|vc func259 (fun (hg:gin [Par.L ns,Par.I q])=>.w Note 116 5<|.l (Γ:=Nat×List Note×Int) (SiJ ns q) (fun g=>ns.length-g.1) [10,11] [] [0] (fun g=>[vR 5 1,vI 6 g.2.2,vI 12 g.1]) (fun g=>[oR 1 116 g.2.1]) (0,[],q) (h:=SiJ.start hq) fun g hJ t=>let hle:=hJ.le
   .s ((g.1:Int)<ns.length)
    (fun h=>.x ns g.1 (h:=by omega) fun n hn gn=>let gn:n.ok:=gn
     .s (n.seq<=g.2.2)
      (fun h1=>.p g.1 1<|.n t (g.1+1,g.2) [] (hJ.skip hn h1) (by dsimp only;omega))
      (fun h1=>.m n.seq 1 (h:=seq_m gn h1 hJ.i64)<|.u (n.seq-1=g.2.2)
       (fun h2=>.rt g.2.1 ⟨hJ.stop hn h1 h2,trivial⟩)
       (fun h2=>.c func295 (CopyNote_i n (he n (mem_of_getElem? hn))) (hg:=⟨gn,trivial⟩) fun _=>.a g.2.1 n 112 (hy:=gn) (h63:=(uU hJ hl).1) (hby:=(uU hJ hl).2)<|.p g.1 1<|.n t (g.1+1,g.2.1++[n],n.seq) [] (hJ.next hn h1 h2 gn.1) (by dsimp only;omega))))
    (fun h=>.rt g.2.1 ⟨hJ.all h,trivial⟩)) aB
theorem Since_s (ns:List Note) (q:Int) (hq:I64 q) (hl:ns.length<=1048576) (he:∀n∈ns,n.deed.plan.edges.length<=1048576):Ct1 prog 146 [.L ns,.I q] [.L (jP ([],q) ns)]:=
 .one (jP ([],q) ns) (rk:=fun l=>[.L l])<|vc func146 (fun (hg:gin [Par.L ns,Par.I q])=>.e Note<|.l (Γ:=Nat×List Note×Int) (SiJ ns q) (fun g=>ns.length-g.1) [0] [] [0] (fun g=>[vR 5 1,vI 1 g.2.2,vI 6 g.1]) (fun g=>[oR 1 116 g.2.1]) (0,[],q) (h:=SiJ.start hq) fun g hJ t=>let hle:=hJ.le
   .s ((g.1:Int)<ns.length)
    (fun h=>.x ns g.1 (h:=by omega) fun n hn gn=>let gn:n.ok:=gn
     .s (n.seq<=g.2.2)
      (fun h1=>.p g.1 1<|.n t (g.1+1,g.2) [] (hJ.skip hn h1) (by dsimp only;omega))
      (fun h1=>.y hn fun _=>.m n.seq 1 (h:=seq_m gn h1 hJ.i64)<|.u (n.seq-1=g.2.2)
       (fun h2=>.rt g.2.1 ⟨hJ.stop hn h1 h2,trivial⟩)
       (fun h2=>.y hn fun _=>.y hn fun _=>.c func219 (CopyNote_s n (he n (mem_of_getElem? hn))) (hg:=⟨gn,trivial⟩) fun _=>.a g.2.1 n 112 (hy:=gn) (h63:=(uU hJ hl).1) (hby:=(uU hJ hl).2)<|.p g.1 1<|.n t (g.1+1,g.2.1++[n],n.seq) [] (hJ.next hn h1 h2 gn.1) (by dsimp only;omega))))
    (fun h=>.rt g.2.1 ⟨hJ.all h,trivial⟩)) aB
structure StJ (sh:Nat) (prio id:Int) (xss:List (List Entry)) (seq:Int) (ts:List Int) (g:Int×List (List Entry)):Prop where
 sq:g.1=seq+(ts.length:Int)
 sl:g.2=fN sh prio id ts xss seq
theorem StJ.start {sh:Nat}{prio id:Int}{xss:List (List Entry)}{seq:Int}:StJ sh prio id xss seq [] (seq,xss):=⟨by simp,rfl⟩
theorem StJ.at {sh:Nat}{prio id:Int}{xss:List (List Entry)}{seq:Int}{ts:List Int}{g:Int×List (List Entry)}(h:StJ sh prio id xss seq ts g) (hs:sh<xss.length):∃l,g.2[sh]? = some l/\l.length=(xss.getD sh []).length+ts.length:=by
 refine⟨g.2.getD sh [],getD_some (by rw[h.sl,kG];exact hs),by rw[h.sl];exact oP sh prio id ts xss seq hs⟩
theorem StJ.step {sh:Nat}{prio id:Int}{xss:List (List Entry)}{seq:Int}{ts:List Int}{g:Int×List (List Entry)}(h:StJ sh prio id xss seq ts g) {l:List Entry}(hl:g.2[sh]? = some l) (t:Int):StJ sh prio id xss seq (ts++[t]) (g.1+1,g.2.set sh (gM l ⟨prio,g.1,id,t⟩)):=by
 have e:g.2.getD sh []=l:=by rw[getD_eq_getElem?_getD,hl];rfl
 refine⟨by show g.1+1=_;rw[h.sq,length_append];simp only[length_singleton];omega,?_⟩;show g.2.set sh _=_;rw[aI8,<- h.sl,<- h.sq,e]
theorem cZ8 {a b c d:Int}(ha:I64 a) (hb:I64 b) (hc:I64 c) (hd:I64 d):Entry.ok ⟨a,b,c,d⟩:=⟨ha,hb,hc,hd⟩
theorem fr_f1 {was r:Run}{k:Nat}{t:Task}(ht:r.tasks[k]? = some t) (h:¬t.state=2):cZ was r (k+1)=cZ was r k:=by
 obtain⟨hk,rfl⟩:=gsi_.1 ht;exact aV9 hk h
theorem fr_f2 {was r:Run}{k:Nat}{t u:Task}(ht:r.tasks[k]? = some t) (hu:was.tasks[k]? = some u) (h:u.state=2):cZ was r (k+1)=cZ was r k:=by
 obtain⟨hk,rfl⟩:=gsi_.1 ht;obtain⟨hk2,rfl⟩:=gsi_.1 hu;exact freshTo_f2 hk hk2 h
theorem fr_t1 {was r:Run}{k:Nat}{t:Task}(ht:r.tasks[k]? = some t) (h:t.state=2) (hl:¬(k:Int)<was.tasks.length):cZ was r (k+1)=cZ was r k++[(k:Int)]:=by
 obtain⟨hk,rfl⟩:=gsi_.1 ht;exact bF6 hk h (.inl aA)
theorem fr_t2 {was r:Run}{k:Nat}{t u:Task}(ht:r.tasks[k]? = some t) (h:t.state=2) (hu:was.tasks[k]? = some u) (h2:¬u.state=2):cZ was r (k+1)=cZ was r k++[(k:Int)]:=by
 obtain⟨hk,rfl⟩:=gsi_.1 ht;obtain⟨hk2,rfl⟩:=gsi_.1 hu;exact bF6 hk h (.inr ⟨hk2,h2⟩)
abbrev yH (r:Run) (ts:List Int) (seq:Int) (xss:List (List Entry)) (q:Int×List (List Entry)):Prop:=q=(seq+(ts.length:Int),fN (aX r.id).toNat r.plan.prio r.id ts xss seq)
theorem stk_q {r:Run}{ts:List Int}{seq:Int}{xss:List (List Entry)}{k:Nat}{g:Int×List (List Entry)}(h:StJ (aX r.id).toNat r.plan.prio r.id xss seq (ts.take k) g) (hk:¬(k:Int)<ts.length):yH r ts seq xss g:=by
 have h1:=h.sq;have h2:=h.sl;rw[take_of_length_le aA]at h1 h2;exact Prod.ext h1 h2
noncomputable def cT9 (yb sn rn:Nat) (now seq:Int) (xss:List (List Entry)) (r:Run) (ts:List Int) (hs:4<=xss.length) (hln:(xss.getD (aX r.id).toNat []).length+ts.length<=1048576) (hsq:0<=seq/\seq<=4000000000) (gr:r.ok):D prog (yH r ts seq xss):=
 let hsr:=gE r.id
 .c func287 (ShelfOf_i r.id) fun _=>
  .la (Γ:=Nat×Int×List (List Entry)) (fun g=>g.1<=ts.length/\StJ (aX r.id).toNat r.plan.prio r.id xss seq (ts.take g.1) g.2) (fun g=>ts.length-g.1) (fun g=>[vI 14 g.1]) (fun g=>[oO sn g.2.2,oB yb [.v (I now),.v (I g.2.1),.r sn,.r rn]]) (0,seq,xss) (h:=⟨Nat.zero_le _,StJ.start⟩) fun g hJ tk=>
   let hq:=hJ.2.sq
   let htl:(ts.take g.1).length<=ts.length:=(by rw[length_take];omega)
   .s ((g.1:Int)<ts.length)
    (fun h=>.ex (hJ.2.at aA) fun l hl=>.x ts g.1 (h:=by omega) fun t ht gt=>.d sn hl.1 fun _=>.ie (aX r.id).toNat (aX r.id) (he:=by omega) <|
     .c func288 (aY6 l ⟨r.plan.prio,g.2.1,r.id,t⟩ (by have:=hl.2;omega)) (hg:=⟨cZ8 gr.2.1.1 (by unfold I64;omega) gr.1 gt,trivial⟩) fun _=>.ie (aX r.id).toNat (aX r.id) (he:=by omega)<|.wt 42<|.f sn g.2.2 (gM l ⟨r.plan.prio,g.2.1,r.id,t⟩) (h:=trivial) <|
     .p g.2.1 1<|.p g.1 1<|.n tk (g.1+1,g.2.1+1,g.2.2.set (aX r.id).toNat (gM l ⟨r.plan.prio,g.2.1,r.id,t⟩)) [] (h1:=⟨by show g.1+1<=_;omega,by show StJ _ _ _ _ _ (ts.take (g.1+1)) _;rw[<- dJ ht];exact hJ.2.step hl.1 t⟩) (h2:=by show ts.length-(g.1+1)<_;omega))
    (fun h=>.rt g.2 (stk_q hJ.2 h))
def uE (r r':Run) (j:Nat):List Int:=((aK r'.tasks 2).take j).filter (fun t=> !decide (t∈aK r.tasks 2))
theorem chgTo_len (r r':Run) (j:Nat):(uE r r' j).length<=j:=Nat.le_trans (length_filter_le _ _) (by rw[length_take];omega)
theorem chgTo_t {r r':Run}{j:Nat}{v:Int}(h:(aK r'.tasks 2)[j]? = some v) (hn:¬v∈aK r.tasks 2):uE r r' j++[v]=uE r r' (j+1):=by
 unfold uE;rw[<- dJ h,filter_append];simp[hn]
theorem chgTo_f {r r':Run}{j:Nat}{v:Int}(h:(aK r'.tasks 2)[j]? = some v) (hn:v∈aK r.tasks 2):uE r r' j=uE r r' (j+1):=by
 unfold uE;rw[<- dJ h,filter_append];simp[hn]
theorem chgTo_e {r r':Run}{j:Nat}(h:¬(j:Int)<(aK r'.tasks 2).length):uE r r' j=dU r r':=by
 unfold uE dU;rw[take_of_length_le aA]
noncomputable def aO4 (yb sn rn w:Nat) (now seq:Int) (xss:List (List Entry)) (runs:List Run) (k:Nat) (ki:Int) (hki:ki=k) (r r':Run) (hr:runs[k]? = some r) (hrl:r.tasks.length<=1000) (hrl':r'.tasks.length<=1000) (gr:r.ok) (gr':r'.ok) (hs:4<=xss.length) (hln:(xss.getD (aX r'.id).toNat []).length<=1000000) (hsq:0<=seq/\seq<=4000000000)
  (how:D prog (yH r' (dU r r') seq xss)->D prog (yH r' (dU r r') seq xss)):D prog (yH r' (dU r r') seq xss):=
 let hti:(aK r'.tasks 2).length<=r'.tasks.length:=iY r'.tasks 2 r'.tasks.length
 let hff:=nE r r'
 .d rn hr fun _=>.ie k ki (he:=hki)<|.c func227 (mJ r 2 aA) (hg:=⟨gr,trivial⟩) fun _=>.ie k ki (he:=hki)<|how<|.w Int 3 7<|.ie k ki (he:=hki)<|.c func227 (mJ r' 2 aA) (hg:=⟨gr',trivial⟩) fun _=>
  .la (Γ:=Nat) (fun j=>j<=(aK r'.tasks 2).length) (fun j=>(aK r'.tasks 2).length-j) (fun j=>[vI 35 j,vR 7 w]) (fun j=>[oR w 3 (uE r r' j)]) 0 fun j hj t=>let hcl:=chgTo_len r r' j
   .s ((j:Int)<(aK r'.tasks 2).length)
    (fun h=>.x (aK r'.tasks 2) j (h:=by omega) fun v hv gv=>.c func153 (cQ4 (aK r.tasks 2) v (by have:=iY r.tasks 2 r.tasks.length;show (eF r.tasks 2 r.tasks.length).length<=_;omega)) fun _=>.u (v∈aK r.tasks 2)
     (fun h2=>.a (uE r r' j) v 8 (hby:=by omega)<|.g w (chgTo_t hv h2)<|.p j 1<|.n t (j+1) [])
     (fun h2=>.g w (chgTo_f hv h2)<|.p j 1<|.n t (j+1) []))
    (fun h=>.g w (chgTo_e (r:=r) h)<|.ie k ki (he:=hki)<|.in_ func236 (cT9 yb sn rn now seq xss r' (dU r r') hs aA hsq gr') fun q hq=>.wt 999<|.f rn runs r' (h:=gr')<|.rt q hq)
theorem lay_q {was r:Run}{seq:Int}{xss:List (List Entry)}{k:Nat}{g:Int×List (List Entry)}(h:StJ (aX r.id).toNat r.plan.prio r.id xss seq (cZ was r k) g) (hk:k<=r.tasks.length) (hn:¬(k:Int)<r.tasks.length):yH r (dU was r) seq xss g:=by
 have e:cZ was r k=dU was r:=by rw[show k=r.tasks.length by omega];rfl
 exact Prod.ext (by rw[<- e];exact h.sq) (by rw[<- e];exact h.sl)
noncomputable def layD (z:Bool) (b sn rn:Nat) (now seq:Int) (xss:List (List Entry)) (was r:Run) (hs:4<=xss.length) (hln:(xss.getD (aX r.id).toNat []).length<=1000000) (hrl:r.tasks.length<=1000) (hsq:0<=seq/\seq<=4000000000) (gr:r.ok) (hz:z=true->was.tasks=[]):D prog (yH r (dU was r) seq xss):=
 let hsr:=gE r.id
 .c func270 (ShelfOf_s r.id) fun _=>
  .la (Γ:=Nat×Int×List (List Entry)) (fun g=>g.1<=r.tasks.length/\StJ (aX r.id).toNat r.plan.prio r.id xss seq (cZ was r g.1) g.2) (fun g=>r.tasks.length-g.1) (fun g=>[vI 8 g.1]) (fun g=>[oO sn g.2.2,oB b [.v (I now),.v (I g.2.1),.r sn,.r rn]]) (0,seq,xss) (h:=⟨Nat.zero_le _,by rw[freshTo_zero];exact StJ.start⟩) fun g hJ tk=>
   let hq:=hJ.2.sq
   let hfl:=freshTo_len was r g.1
   .s ((g.1:Int)<r.tasks.length)
    (fun h=>.x r.tasks g.1 (h:=by omega) fun t ht gt=>
     let skip:cZ was r (g.1+1)=cZ was r g.1->D prog (yH r (dU was r) seq xss):=fun hf=>.p g.1 1<|.n tk (g.1+1,g.2) [] (h1:=⟨by show g.1+1<=_;omega,by show StJ _ _ _ _ _ (cZ was r (g.1+1)) _;rw[hf];exact hJ.2⟩) (h2:=by show r.tasks.length-(g.1+1)<_;omega)
     let put:cZ was r (g.1+1)=cZ was r g.1++[(g.1:Int)]->D prog (yH r (dU was r) seq xss):=fun hf=>.ex (hJ.2.at aA) fun l hl=>.d sn hl.1 fun _=>.ie (aX r.id).toNat (aX r.id) (he:=by omega) <|
      .c func271 (aY5 l ⟨r.plan.prio,g.2.1,r.id,g.1⟩ (by have:=hl.2;omega)) (hg:=⟨cZ8 gr.2.1.1 (by unfold I64;omega) gr.1 (by unfold I64;omega),trivial⟩) fun _=>.ie (aX r.id).toNat (aX r.id) (he:=by omega)<|.wt 60<|.f sn g.2.2 (gM l ⟨r.plan.prio,g.2.1,r.id,g.1⟩) (h:=trivial) <|
      .p g.2.1 1<|.p g.1 1<|.n tk (g.1+1,g.2.1+1,g.2.2.set (aX r.id).toNat (gM l ⟨r.plan.prio,g.2.1,r.id,g.1⟩)) [] (h1:=⟨by show g.1+1<=_;omega,by show StJ _ _ _ _ _ (cZ was r (g.1+1)) _;rw[hf];exact hJ.2.step hl.1 g.1⟩) (h2:=by show r.tasks.length-(g.1+1)<_;omega)
     .u (t.state=2)
      (fun h2=>skip (fr_f1 ht h2))
      (fun h2=>.s ((g.1:Int)<was.tasks.length)
       (fun h3=>match z,hz with
        | true,hz=>.ab (by rw[hz rfl]at h3;simp at h3;omega)
        | false,_=>.x was.tasks g.1 (h:=by omega) fun u hu gu=>.s (u.state=2)
         (fun h4=>skip (fr_f2 ht hu h4))
         (fun h4=>put (fr_t2 ht h2 hu h4)))
       (fun h3=>put (fr_t1 ht h2 h3))))
    (fun h=>.rt g.2 (lay_q hJ.2 hJ.1 h))
theorem bK4 {y:Yard}{k:Nat}{was r:Run}{q:Int×List (List Entry)}(hq:yH r (dU was r) y.seq y.shelf q):(⟨y.now,q.1,q.2,y.runs.set k r⟩:Yard)=dV y k was r:=by
 have hq:q=_:=hq;rw[hq];rfl
theorem bQ0 (y:Yard) (e:Int) (k:Nat) (was r:Run) (he:e=k) (hk:y.runs[k]? = some was) (hss:4<=y.shelf.length) (hrl:r.tasks.length<=1000) (hln:(y.shelf.getD (aX r.id).toNat []).length<=1000000) (hsq:0<=y.seq/\y.seq<=4000000000) (gr:r.ok) (gy:(dV y k was r).ok) :
  Cw prog 210 [.ow inferInstance y,.bw (.I e),.ow inferInstance r] (fun _:Unit=>True) (fun _=>[.S (dV y k was r)]):=
 Cw.one (dV y k was r) (rk:=fun x=>[.S x])<|vcw func210 (fun hg=>.d 1 hk fun gw=>.ie k e (he:=he)<|.ie k e (he:=he)<|.in_ func202 (layD false 11 0 1 y.now y.seq y.shelf was r hss hln hrl hsq gr (fun z=>by cases z)) fun q hq=>
  .wt 999<|.f 1 y.runs r (h:=gr)<|.rt ⟨y.now,q.1,q.2,y.runs.set k r⟩ ⟨bK4 hq,by rw[bK4 hq];exact gy,trivial⟩) aB
theorem runs_no {r:Run}{task:Int}(h:eZ r=false):false=iZ r task:=by unfold iZ;rw[h];rfl
theorem runs_out {r:Run}{task:Int}(h:inB task 0 ((r.tasks.length:Int)-1)=false):false=iZ r task:=by unfold iZ;rw[h];simp
theorem runs_in {r:Run}{task:Int}{t:Task}(h0:eZ r=true) (h:inB task 0 ((r.tasks.length:Int)-1)=true) (ht:r.tasks[task.toNat]? = some t):decide (t.state=3)=iZ r task:=by unfold iZ;rw[h0,h,ht];rfl
theorem dC6 (r:Run) (task:Int):Ct1 prog 273 [.S r,.I task] [.B (iZ r task)]:=
 .one (iZ r task) (rk:=fun x=>[.B x])<|vc func273 (fun (hg:gin [Par.S r,Par.I task])=>let hrl:=hg.1.2.2.1
  .c func120 (bQ1 r) (hg:=⟨hg.1.1,trivial⟩) fun _=>.sb (eZ r)
  (fun h0=>.m (r.tasks.length:Int) 1 (h:=by unfold I64;omega)<|.c func37 (InV task 0 ((r.tasks.length:Int)-1)) fun _=>.sb (inB task 0 ((r.tasks.length:Int)-1))
   (fun h1=>.ex (xW h1) fun t ht=>.ye ht task (he:=kD h1) fun _=>.rt (decide (t.state=3)) ⟨runs_in h0 h1 ht,trivial⟩)
   (fun h1=>.rt false ⟨runs_out h1,trivial⟩))
  (fun h0=>.rt false ⟨runs_no h0,trivial⟩)) aB
abbrev ownRun (r:Run):List Lr:=[.v (I r.id),.v (I r.plan.prio),.v (I r.plan.most),.v (I r.plan.wait),.v (I r.plan.tasks),.o (inferInstance:Shape Edge) r.plan.edges,.v (I r.state),.o (inferInstance:Shape Task) r.tasks]
theorem cP8 (r:Run) (st:Int) (hs:I64 st) (hl:r.tasks.length<=1048576) (gr:r.ok):Co prog 275 (ownRun r) true [.I st] (fun _:Unit=>True) (fun _=>[.S (⟨r.id,r.plan,st,dZ r.tasks⟩:Run)]):=
 vco func275 (fun hg ho=>.wt 4<|.g 1 (leaveSTo_zero r.tasks).symm<|.l (Γ:=Nat) (fun k=>k<=r.tasks.length) (fun k=>r.tasks.length-k) [1,2,4] [3,1000000] [] (fun k=>[vI 5 k]) (fun k=>[oO 0 r.plan.edges,oO 1 (fW r.tasks k),oB 2 [.v (I r.id),.v (I r.plan.prio),.v (I r.plan.most),.v (I r.plan.wait),.v (I r.plan.tasks),.r 0,.v (I r.state),.r 1]]) 0 fun k hk t=>let hln:=leaveSTo_len r.tasks k
   .s ((k:Int)<(fW r.tasks k).length)
    (fun h=>.ex (p:=fun u=>r.tasks[k]? = some u) ⟨_,getElem?_eq_getElem (show k<r.tasks.length by omega)⟩ fun u hu=>.y (aK4 hu) fun gu=>
     let fin:∀y:Task,fP u=y->Task.ok y->D prog (fun _:Unit=>True/\rgd [Rk.S (⟨r.id,r.plan,st,dZ r.tasks⟩:Run)]):=fun y hy gy=>.d 1 (aK4 hu) fun _=>.i k<|.wt 12<|.f 1 (fW r.tasks k) y (h:=gy)<|.g 1 (leaveSTo_set hu hy)<|.p k 1<|.n t (k+1) []
     .u (u.state=4)
      (fun h4=>.u (u.state=5)
       (fun h5=>fin ⟨6,u.need,u.try_,0⟩ (leaveS1_t h4 h5) ⟨by show I64 6;unfold I64;omega,(show Task.ok u from gu).2.1,(show Task.ok u from gu).2.2.1,by show I64 0;unfold I64;omega⟩)
       (fun h5=>fin u (leaveS1_5 h5) gu))
      (fun h4=>fin u (leaveS1_4 h4) gu))
    (fun h=>.g 1 (show fW r.tasks k=dZ r.tasks by rw[show k=r.tasks.length by omega];exact leaveSTo_all _)<|.rt () ⟨trivial,⟨gr.1,gr.2.1,hs⟩,trivial⟩)) aB
theorem rf_no {r:Run}{task:Int}(h:iZ r task=false):r=cQ r task:=by unfold cQ;rw[if_neg (by rw[h];simp)]
theorem rf_a {r:Run}{task:Int}{t:Task}(h:iZ r task=true) (ht:r.tasks[task.toNat]? = some t) (hl:t.try_<r.plan.most):(⟨r.id,r.plan,r.state,r.tasks.set task.toNat ⟨2,t.need,t.try_,0⟩⟩:Run)=cQ r task:=by
 unfold cQ aW6;rw[if_pos h,ht];simp only;rw[if_pos hl]
theorem rf_b {r:Run}{task:Int}{t:Task}(h:iZ r task=true) (ht:r.tasks[task.toNat]? = some t) (hl:¬t.try_<r.plan.most):(⟨r.id,r.plan,3,dZ (r.tasks.set task.toNat ⟨5,t.need,t.try_,0⟩)⟩:Run)=cQ r task:=by
 unfold cQ aW6;rw[if_pos h,ht];simp only;rw[if_neg hl]
theorem yI (r:Run) (task:Int) (hl:r.plan.edges.length<=1048576) (htl:r.tasks.length<=1048576):Ct1 prog 212 [.S r,.I task] [.S (cQ r task)]:=
 .one (cQ r task) (rk:=fun x=>[.S x])<|vc func212 (fun (hg:gin [Par.S r,Par.I task])=>let gr:=hg.1.1
  .c func191 (oL r hl htl) (hg:=⟨gr,trivial⟩) fun _=>.c func273 (dC6 r task) (hg:=⟨gr,trivial⟩) fun _=>.v (iZ r task)
   (fun h=>.rt r ⟨rf_no h,gr,trivial⟩)
   (fun h=>.ex (aR3 h).2 fun t ht=>.d 5 ht.2.1 fun gt=>.ie task.toNat task (he:=by omega)<|.ie task.toNat task (he:=by omega)<|.ie task.toNat task (he:=by omega)<|.s (t.try_<r.plan.most)
    (fun h2=>.f 5 r.tasks ⟨2,t.need,t.try_,0⟩ (h:=bB4 gt aA)<|.rt ⟨r.id,r.plan,r.state,r.tasks.set task.toNat ⟨2,t.need,t.try_,0⟩⟩ ⟨rf_a h ht.2.1 h2,gr,trivial⟩)
    (fun h2=>.ie task.toNat task (he:=by omega)<|.wt 39<|.f 5 r.tasks ⟨5,t.need,t.try_,0⟩ (h:=bB4 gt aA) <|
     .co _ func275 (cP8 ⟨r.id,r.plan,r.state,r.tasks.set task.toNat ⟨5,t.need,t.try_,0⟩⟩ 3 (by unfold I64;omega) (by rw[length_set];exact htl) gr) trivial fun _ _ hq=>.rt ⟨r.id,r.plan,3,dZ (r.tasks.set task.toNat ⟨5,t.need,t.try_,0⟩)⟩ ⟨rf_b h ht.2.1 h2,hq.1.1,trivial⟩))) aB
theorem dC5 (y:Yard) (id task try_:Int) (hw:y.wt<=1048576):Ct1 prog 242 [.S y,.I id,.I task,.I try_] [.I (eL y id task try_)]:=
 .one (eL y id task try_) (rk:=fun x=>[.I x])<|vc func242 (fun (hg:gin [Par.S y,Par.I id,Par.I task,Par.I try_])=>.c func91 (lT y hw) (hg:=⟨hg.1.1,trivial⟩) fun _=>.v (aG y)
  (fun h=>.rt 8 ⟨by unfold eL;rw[if_pos h],trivial⟩)
  (fun h=>.c func155 (lV y id hw) (hg:=⟨hg.1.1,trivial⟩) fun _=>.s (aI y id<0)
   (fun h2=>.rt 10 ⟨by unfold eL;rw[if_neg (by rw[h];simp),if_pos h2],trivial⟩)
   (fun h2=>.c func249 (bQ2 y id task try_ hw) (hg:=⟨hg.1.1,trivial⟩) fun _=>.v (fX y id task try_)
    (fun h3=>.rt 11 ⟨by unfold eL;rw[if_neg (by rw[h];simp),if_neg h2,if_pos h3],trivial⟩)
    (fun h3=>.rt 0 ⟨by unfold eL;rw[if_neg (by rw[h];simp),if_neg h2,if_neg (by rw[h3];simp)],trivial⟩)))) aB
theorem Ask_s (y:Yard) (id task try_:Int) (hw:y.wt<=1048576):Ct1 prog 209 [.S y,.I id,.I task,.I try_] [.I (eL y id task try_)]:=
 .one (eL y id task try_) (rk:=fun x=>[.I x])<|vc func209 (fun (hg:gin [Par.S y,Par.I id,Par.I task,Par.I try_])=>.c func74 (lR y hw) (hg:=⟨hg.1.1,trivial⟩) fun _=>.v (aG y)
  (fun h=>.rt 8 ⟨by unfold eL;rw[if_pos h],trivial⟩)
  (fun h=>.c func121 (lU y id hw) (hg:=⟨hg.1.1,trivial⟩) fun _=>.s (aI y id<0)
   (fun h2=>.rt 10 ⟨by unfold eL;rw[if_neg (by rw[h];simp),if_pos h2],trivial⟩)
   (fun h2=>.c func272 (Holds_s y id task try_ hw) (hg:=⟨hg.1.1,trivial⟩) fun _=>.v (fX y id task try_)
    (fun h3=>.rt 11 ⟨by unfold eL;rw[if_neg (by rw[h];simp),if_neg h2,if_pos h3],trivial⟩)
    (fun h3=>.rt 0 ⟨by unfold eL;rw[if_neg (by rw[h];simp),if_neg h2,if_neg (by rw[h3];simp)],trivial⟩)))) aB
theorem fail_at {y:Yard}{id task try_:Int}{k:Nat}{r:Run}{t:Task}(h:eL y id task try_=0) (hk:cJ y id=some k) (hr:y.runs[k]? = some r) (hR:RunIs r) (h0:0<=task) (ht:r.tasks[task.toNat]? = some t) (h3:t.state=3):dV y k r (cQ r task)=oZ y id task try_:=by
 unfold oZ;rw[qS h hk hr,aJ1 hR h0 ht h3]
theorem bR6 {y:Yard}(hY:YardIs y) (id:Int):4<=y.shelf.length/\(y.shelf.getD (aX id).toNat []).length<=1000000/\(0<=y.seq/\y.seq<=4000000000):=by
 refine⟨by rw[hY.shelf];exact Nat.le_refl _,?_,by have:=hY.seq;omega⟩;have h:=mR hY (aX id).toNat (by have:=gE id;omega);omega
theorem Fail_s (y:Yard) (id task try_:Int) (hw:y.wt<=1048576):Ct1 prog 135 [.S y,.I id,.I task,.I try_] [.S (oZ y id task try_),.I (eL y id task try_)]:=
 .one (oZ y id task try_,eL y id task try_) (rk:=fun q=>[.S q.1,.I q.2])<|vc func135 (fun (hg:gin [Par.S y,Par.I id,Par.I task,Par.I try_])=>let gy:=hg.1.1
  .c func117 (fJ y hw) (hg:=⟨gy,trivial⟩) fun _=>.c func209 (Ask_s y id task try_ hw) (hg:=⟨gy,trivial⟩) fun _=>.u (eL y id task try_=0)
   (fun h=>.rt (y,eL y id task try_) ⟨by rw[oZ,qQ h],gy,trivial⟩)
   (fun h=>let ha:=aG8 h
    .ex (p:=fun q:Nat×Run×Task=>cJ y id=some q.1/\y.runs[q.1]? = some q.2.1/\RunIs q.2.1/\0<=task/\q.2.1.tasks[task.toNat]? = some q.2.2/\q.2.2.state=3) (ha.2.elim fun k hk=>hk.elim fun r hr=>hr.elim fun t ht=>⟨(k,r,t),ht⟩) fun q hq=>
    let hrf:=aJ1 hq.2.2.1 hq.2.2.2.1 hq.2.2.2.2.1 hq.2.2.2.2.2
    let hpre:=bR6 ha.1 (cQ q.2.1 task).id
    let hlen:(cQ q.2.1 task).tasks.length<=1000:=(by rw[hrf,(lP _ _).2.2.1];have:=hq.2.2.1.small;omega)
    .c func121 (lU y id hw) (hg:=⟨gy,trivial⟩) fun _=>.ye hq.2.1 (aI y id) (he:=dC hq.1) fun gr=>.c func212 (yI q.2.1 task (aU6 hq.2.2.1).1 (aU6 hq.2.2.1).2) (hg:=⟨gr,trivial⟩) fun hf=>
     .cw _ func210 (bQ0 y (aI y id) q.1 q.2.1 (cQ q.2.1 task) (dC hq.1) hq.2.1 hpre.1 hlen hpre.2.1 hpre.2.2 hf.1.1 (yA ha.1 hlen)) ⟨trivial,trivial⟩ fun _ _ hz=>.rt (dV y q.1 q.2.1 (cQ q.2.1 task),0) ⟨by rw[fail_at h hq.1 hq.2.1 hq.2.2.1 hq.2.2.2.1 hq.2.2.2.2.1 hq.2.2.2.2.2,h],hz.1.1,trivial⟩)) aB
theorem rd_no {r:Run}{task:Int}(h:iZ r task=false):r=iV r task:=by unfold iV;rw[if_neg (by rw[h];simp)]
theorem rd_val {r:Run}{task:Int}{t:Task}(hB:iZ r task=true) (hR:RunIs r) (h0:0<=task) (ht:r.tasks[task.toNat]? = some t) (h3:t.state=3):(⟨r.id,r.plan,bK (bI r task.toNat t),bI r task.toNat t⟩:Run)=iV r task:=by
 unfold iV;rw[if_pos hB,aB3 ht];unfold wU;rw[<- aL1 hR ht h3]
theorem st_i64 (ts:List Task):I64 (bK ts):=by unfold bK I64;(repeat' split)<;>omega
theorem RunDone_s (r:Run) (task:Int) (hl:r.plan.edges.length<=1048576) (htl:r.tasks.length<=1048576):Ct1 prog 211 [.S r,.I task] [.S (iV r task)]:=
 .one (iV r task) (rk:=fun x=>[.S x])<|vc func211 (fun (hg:gin [Par.S r,Par.I task])=>let gr:=hg.1.1
  .c func191 (oL r hl htl) (hg:=⟨gr,trivial⟩) fun _=>.c func273 (dC6 r task) (hg:=⟨gr,trivial⟩) fun _=>.v (iZ r task)
   (fun h=>.rt r ⟨rd_no h,gr,trivial⟩)
   (fun h=>.ex (p:=fun t=>r.tasks[task.toNat]? = some t/\t.state=3/\0<=task/\RunIs r) ((aR3 h).2.elim fun t ht=>⟨t,ht.2.1,ht.2.2,ht.1,(aR3 h).1⟩) fun t ht=>
    let hR:=ht.2.2.2
    .d 5 ht.1 fun gt=>.ie task.toNat task (he:=by omega)<|.ie task.toNat task (he:=by omega)<|.wt 26<|.f 5 r.tasks ⟨4,t.need,t.try_,0⟩ (h:=bB4 gt aA) <|
    .c func274 (BehindP_s r.plan task hR.plan) (hg:=⟨gr.2.1,trivial⟩) fun _=>.g 5 (bI1 (r.tasks.set task.toNat ⟨4,t.need,t.try_,0⟩) (aT r.plan task)).symm <|
    .l (Γ:=Nat) (fun k=>k<=(aT r.plan task).length) (fun k=>(aT r.plan task).length-k) [4,5,6] [3,4,8] [] (fun k=>[vI 7 k]) (fun k=>[oO 5 (qM (r.tasks.set task.toNat ⟨4,t.need,t.try_,0⟩) ((aT r.plan task).take k)),oB 6 [.v (I r.id),.v (I r.plan.prio),.v (I r.plan.most),.v (I r.plan.wait),.v (I r.plan.tasks),.r 4,.v (I r.state),.r 5]]) 0 fun k hk tk=>
     .s ((k:Int)<(aT r.plan task).length)
      (fun hlt=>.ex (rd_in hR ht.1 k aA) fun q hq=>
       let fin:∀y:Task,jW q.2=y->Task.ok y->D prog (fun x:Run=>x=iV r task/\rgd [Rk.S x]):=fun y hy gy=>.d 5 hq.2.1 fun _=>.y hq.1 fun _=>.ie q.1.toNat q.1 (he:=by omega)<|.wt 34<|.f 5 (qM (r.tasks.set task.toNat ⟨4,t.need,t.try_,0⟩) ((aT r.plan task).take k)) y (h:=gy)<|.g 5 (cO7 hq.1 hq.2.1 hy).symm<|.p k 1 (h:=by have:=yD r.plan task;unfold I64;omega)<|.n tk (k+1) []
       .y hq.1 fun _=>.ye hq.2.1 q.1 (he:=by omega) fun gu=>.m q.2.need 1<|.s (q.2.need-1=0)
        (fun h0=>fin ⟨2,q.2.need-1,q.2.try_,q.2.until_⟩ (cL0 h0) (aM4 gu hq.2.2.2 2 (by unfold I64;omega)))
        (fun h0=>fin ⟨q.2.state,q.2.need-1,q.2.try_,q.2.until_⟩ (cK9 h0) (aM4 gu hq.2.2.2 _ gu.1)))
      (fun hge=>.g 5 (rd_ts (t:=t) ht.2.2.1 (show k=(aT r.plan task).length by omega))<|.c func195 (cP3 ⟨r.id,r.plan,r.state,bI r task.toNat t⟩ (doneTs_st hR ht.1) (by show (bI r task.toNat t).length<=_;rw[sU];exact htl)) (hg:=⟨gr,trivial⟩) fun _=>
       .rt ⟨r.id,r.plan,bK (bI r task.toNat t),bI r task.toNat t⟩ ⟨rd_val h hR ht.2.2.1 ht.1 ht.2.1,⟨gr.1,gr.2.1,st_i64 _⟩,trivial⟩))) aB
theorem done_at {y:Yard}{id task try_:Int}{k:Nat}{r:Run}{t:Task}(h:eL y id task try_=0) (hk:cJ y id=some k) (hr:y.runs[k]? = some r) (hR:RunIs r) (h0:0<=task) (ht:r.tasks[task.toNat]? = some t) (h3:t.state=3):dV y k r (iV r task)=fH y id task try_:=by
 unfold fH;rw[qS h hk hr,aR8 hR h0 ht h3]
theorem Complete_s (y:Yard) (id task try_:Int) (hw:y.wt<=1048576):Ct1 prog 134 [.S y,.I id,.I task,.I try_] [.S (fH y id task try_),.I (eL y id task try_)]:=
 .one (fH y id task try_,eL y id task try_) (rk:=fun q=>[.S q.1,.I q.2])<|vc func134 (fun (hg:gin [Par.S y,Par.I id,Par.I task,Par.I try_])=>let gy:=hg.1.1
  .c func117 (fJ y hw) (hg:=⟨gy,trivial⟩) fun _=>.c func209 (Ask_s y id task try_ hw) (hg:=⟨gy,trivial⟩) fun _=>.u (eL y id task try_=0)
   (fun h=>.rt (y,eL y id task try_) ⟨by rw[fH,qQ h],gy,trivial⟩)
   (fun h=>let ha:=aG8 h
    .ex (p:=fun q:Nat×Run×Task=>cJ y id=some q.1/\y.runs[q.1]? = some q.2.1/\RunIs q.2.1/\0<=task/\q.2.1.tasks[task.toNat]? = some q.2.2/\q.2.2.state=3) (ha.2.elim fun k hk=>hk.elim fun r hr=>hr.elim fun t ht=>⟨(k,r,t),ht⟩) fun q hq=>
    let hrf:=aR8 hq.2.2.1 hq.2.2.2.1 hq.2.2.2.2.1 hq.2.2.2.2.2
    let hpre:=bR6 ha.1 (iV q.2.1 task).id
    let hlen:(iV q.2.1 task).tasks.length<=1000:=(by rw[hrf,(nF _ _).2.2.1];have:=hq.2.2.1.small;omega)
    .c func121 (lU y id hw) (hg:=⟨gy,trivial⟩) fun _=>.ye hq.2.1 (aI y id) (he:=dC hq.1) fun gr=>.c func211 (RunDone_s q.2.1 task (aU6 hq.2.2.1).1 (aU6 hq.2.2.1).2) (hg:=⟨gr,trivial⟩) fun hf=>
     .cw _ func210 (bQ0 y (aI y id) q.1 q.2.1 (iV q.2.1 task) (dC hq.1) hq.2.1 hpre.1 hlen hpre.2.1 hpre.2.2 hf.1.1 (yA ha.1 hlen)) ⟨trivial,trivial⟩ fun _ _ hz=>.rt (dV y q.1 q.2.1 (iV q.2.1 task),0) ⟨by rw[done_at h hq.1 hq.2.1 hq.2.2.1 hq.2.2.2.1 hq.2.2.2.2.1 hq.2.2.2.2.2,h],hz.1.1,trivial⟩)) aB
theorem rest_run {y out:Yard}{n k:Nat}{r1:Run}(h:RI y out n) (hr:y.runs[k]? = some r1):∃r2,out.runs[k]? = some r2/\RunIs r2/\r2.tasks.length=r1.tasks.length:=by
 obtain⟨r2,h1,h2,h3,h4,h5⟩:=h.run k r1 hr;exact⟨r2,h1,h2,h4⟩
theorem bC7 {y out:Yard}{n k i:Nat}{r:Run}{t:Task}(hY:YardIs y) (h:RI y out n) (hn:n<=900) (hr:out.runs[k]? = some r) (ht:r.tasks[i]? = some t) (h3:t.state=3) (hR:RunIs r):(4<=out.shelf.length/\(out.shelf.getD (aX (cQ r (i:Int)).id).toNat []).length<=1000000/\(0<=out.seq/\out.seq<=4000000000))/\(cQ r (i:Int)).tasks.length<=1000/\(dV out k r (cQ r (i:Int))).ok/\dV out k r (cQ r (i:Int))=kM out k i:=by
 have he:=aJ2 hR ht h3;refine⟨h.chg hY aA _,by rw[he];have:=(hR.fails ht h3).small;omega,by rw[he];exact(h.change hY hr ht h3 hR).ok hY aA,by rw[he];exact(cF9 hr ht h3).symm⟩
theorem bT3 {y:Yard}(hY:YardIs y) {k:Nat}(hk:k<=y.runs.length):RI y (mZ y k) 96:=(RI.outer hY k hk).mono (by have:=hY.runs;omega)
theorem cJ2 {y:Yard}(hY:YardIs y) {k i:Nat}{r:Run}(hr:y.runs[k]? = some r) (hi:i<=r.tasks.length):RI y (qX (mZ y k) k i) 200:=(RI.at hY (gsi_.1 hr).1).mono (by have:=hY.runs;have:=(gsi_.1 hr).1;have:=(hY.run k r hr).1.small;omega)
abbrev ryS (y:Yard) (b s r:Nat):List (Nat×To):=[oB b [.v (I y.now),.v (I y.seq),.r s,.r r],oO s y.shelf,oO r y.runs]
theorem Restart_s (y:Yard) (hw:y.wt<=1048576):Ct1 prog 139 [.S y] [.S (dO y)]:=
 .one (dO y) (rk:=fun x=>[.S x])<|vc func139 (fun (hg:gin [Par.S y])=>let gy:=hg.1.1
  .c func117 (fJ y hw) (hg:=⟨gy,trivial⟩) fun _=>.c func74 (lR y hw) (hg:=⟨gy,trivial⟩) fun _=>.v (aG y)
   (fun h=>.rt y ⟨by unfold dO;rw[if_neg (by rw[h];simp)],gy,trivial⟩)
   (fun h=>let hY:=kE h
    .l (Γ:=Nat×Yard) (fun g=>g.1<=y.runs.length/\g.2=mZ y g.1) (fun g=>y.runs.length-g.1) [2,3] [3] [] (fun g=>[vI 4 g.1]) (fun g=>ryS g.2 6 4 5) (0,y) (h:=⟨Nat.zero_le _,rfl⟩) fun g hJ tk=>
     let hRK:RI y g.2 96:=(by rw[hJ.2];exact bT3 hY hJ.1)
     .s ((g.1:Int)<g.2.runs.length)
      (fun hlt=>.ex (p:=fun r1=>y.runs[g.1]? = some r1) ⟨_,getElem?_eq_getElem (show g.1<y.runs.length by have:=hRK.runs;omega)⟩ fun r1 hr1=>
       .l (Γ:=Nat×Yard) (fun q=>q.1<=r1.tasks.length/\q.2=qX (mZ y g.1) g.1 q.1) (fun q=>r1.tasks.length-q.1) [2,3,4] [3] [] (fun q=>[vI 5 q.1]) (fun q=>ryS q.2 6 4 5) (0,g.2) (h:=⟨Nat.zero_le _,hJ.2⟩) fun q hq tq=>
        let hRI:RI y q.2 200:=(by rw[hq.2];exact cJ2 hY hr1 hq.1)
        .ex (rest_run hRI hr1) fun r2 h2=>.y h2.1 fun gr=>.s ((q.1:Int)<r2.tasks.length)
         (fun hl2=>.ex (p:=fun t=>r2.tasks[q.1]? = some t) ⟨_,getElem?_eq_getElem (show q.1<r2.tasks.length by omega)⟩ fun t2 ht2=>.y h2.1 fun _=>.y ht2 fun _=>.s (t2.state=3)
          (fun h3=>let hT:=bC7 hY hRI aA h2.1 ht2 h3 h2.2.1
           .y h2.1 fun _=>.c func212 (yI r2 (q.1:Int) (aU6 h2.2.1).1 (aU6 h2.2.1).2) (hg:=⟨gr,trivial⟩) fun hf=>
           .cw _ func210 (bQ0 q.2 (g.1:Int) g.1 r2 (cQ r2 (q.1:Int)) rfl h2.1 hT.1.1 hT.2.1 hT.1.2.1 hT.1.2.2 hf.1.1 hT.2.2.1) ⟨trivial,trivial⟩ fun _ _ hz=>
           .p q.1 1 (h:=by have:=h2.2.1.small;unfold I64;omega)<|.n tq (q.1+1,dV q.2 g.1 r2 (cQ r2 (q.1:Int))) [(4,19),(5,20)] (h1:=⟨by show q.1+1<=_;omega,by show dV q.2 g.1 r2 (cQ r2 (q.1:Int))=_;rw[hT.2.2.2,hq.2];rfl⟩) (h2:=by show r1.tasks.length-(q.1+1)<_;omega))
          (fun h3=>.p q.1 1 (h:=by have:=h2.2.1.small;unfold I64;omega)<|.n tq (q.1+1,q.2) [] (h1:=⟨by show q.1+1<=_;omega,by show q.2=kM (qX (mZ y g.1) g.1 q.1) g.1 q.1;rw[<- hq.2];exact(aM2 h2.1 ht2 h3).symm⟩) (h2:=by show r1.tasks.length-(q.1+1)<_;omega)))
         (fun hl2=>.p g.1 1 (h:=by have:=hY.runs;unfold I64;omega)<|.n tk (g.1+1,q.2) [] (h1:=⟨by show g.1+1<=_;have:=hRK.runs;omega,by show q.2=_;rw[hq.2];exact bT4 hr1 aA⟩) (h2:=by show y.runs.length-(g.1+1)<_;have:=hRK.runs;omega)))
      (fun hge=>.rt g.2 ⟨by unfold dO;rw[if_pos h,hJ.2];congr 1;have:=hRK.runs;omega,hRK.ok hY aA,trivial⟩))) aB
structure LtA (y out:Yard) (j k i:Nat) (id tr:Int) (r:Run) (t:Task):Prop where
 p:(cT y)[j]? = some (k,i)
 row:((cT y).map (gP y))[j]? = some [id,(i:Int),tr]
 ix:aI out id=(k:Int)
 hr:out.runs[k]? = some r
 is:RunIs r
 ht:r.tasks[i]? = some t
theorem lt_at {y out:Yard}{n j:Nat}(hY:YardIs y) (h:RI y out n) (hj:j<(cT y).length):∃q:(Nat×Nat)×(Int×Int)×Run×Task,LtA y out j q.1.1 q.1.2 q.2.1.1 q.2.1.2 q.2.2.1 q.2.2.2:=by
 obtain⟨k,i,r,t,hp,hr,ht,hrow⟩:=bX0 hj;obtain⟨r2,t2,h1,h2,h3,h4⟩:=h.holds hY hr ht;exact⟨((k,i),(r.id,t.try_),r2,t2),⟨hp,hrow,dC (h.ix hY hr),h1,h2,h3⟩⟩
theorem cX9 {y:Yard}(hY:YardIs y):(cT y).length<=96:=by have:=vD hY y.runs.length;have:=hY.runs;show (jO y y.runs.length).length<=96;omega
theorem bR8 {y:Yard}(h:aG y=false):(y,(8:Int))=eE y:=by unfold eE;rw[if_pos h]
theorem bR9 {y:Yard}(h0:aG y=true) (h:999999980<y.now+1):(y,(7:Int))=eE y:=by unfold eE;rw[if_neg (by rw[h0];simp),if_pos h]
theorem ticked_0 {y out:Yard}{j:Nat}(h0:aG y=true) (h:¬999999980<y.now+1) (hY:YardIs y) (ho:out=lX y ((cT y).take j)) (hj:¬j<(cT y).length):((⟨out.now+1,out.seq,out.shelf,out.runs⟩:Yard),(0:Int))=eE y:=by
 unfold eE;rw[if_neg (by rw[h0];simp),if_neg h];unfold bS0;rw[bB2,<- (RI.list hY aN5 j).now,<- ho,ho,take_of_length_le aA];rfl
theorem Tick_s (y:Yard) (hw:y.wt<=1048576):Ct1 prog 136 [.S y] [.S (eE y).1,.I (eE y).2]:=
 .one (eE y) (rk:=fun q=>[.S q.1,.I q.2])<|vc func136 (fun (hg:gin [Par.S y])=>let gy:=hg.1.1
  .c func117 (fJ y hw) (hg:=⟨gy,trivial⟩) fun _=>.c func74 (lR y hw) (hg:=⟨gy,trivial⟩) fun _=>.v (aG y)
   (fun h=>.rt (y,8) ⟨bR8 h,gy,trivial⟩)
   (fun h=>let hY:=kE h
    let hn:=hY.now
    .p y.now 1<|.s (999999980<y.now+1)
     (fun h7=>.rt (y,7) ⟨bR9 h h7,gy,trivial⟩)
     (fun h7=>let hln:=cX9 hY
      let hml:((cT y).map (gP y)).length=(cT y).length:=length_map _
      .c func213 (LateOf_s y hY) (hg:=⟨gy,trivial⟩) fun _=>
      .l (Γ:=Nat×Yard) (fun g=>g.1<=(cT y).length/\g.2=lX y ((cT y).take g.1)) (fun g=>(cT y).length-g.1) [2,4,5] [3,7] [] (fun g=>[vI 6 g.1]) (fun g=>ryS g.2 6 4 5) (0,y) (h:=⟨Nat.zero_le _,(xB y _).symm⟩) fun g hJ tk=>
       let hRI:RI y g.2 200:=(by rw[hJ.2];exact(RI.list hY aN5 g.1).mono aA)
       .s ((g.1:Int)<((cT y).map (gP y)).length)
        (fun hlt=>.ex (lt_at hY hRI (show g.1<(cT y).length by omega)) fun q hq=>
         let r2:=q.2.2.1
         .y hq.row fun _=>.y (show [q.2.1.1,(q.1.2:Int),q.2.1.2][0]? = some q.2.1.1 from rfl) fun gi=>.c func121 (lU g.2 q.2.1.1 (Nat.le_trans (hRI.wt hY aA) aA)) (hg:=⟨hRI.ok hY aA,trivial⟩) fun _=>
         .ye hq.hr (aI g.2 q.2.1.1) (he:=hq.ix) fun gr=>.y hq.row fun _=>.y (show [q.2.1.1,(q.1.2:Int),q.2.1.2][1]? = some (q.1.2:Int) from rfl) fun _=>.y hq.ht fun _=>.s (q.2.2.2.state=3)
          (fun h3=>let hT:=bC7 hY hRI aA hq.hr hq.ht h3 hq.is
           .ye hq.hr (aI g.2 q.2.1.1) (he:=hq.ix) fun gr=>.y hq.row fun _=>.y (show [q.2.1.1,(q.1.2:Int),q.2.1.2][1]? = some (q.1.2:Int) from rfl) fun _=>
           .c func212 (yI q.2.2.1 (q.1.2:Int) (aU6 hq.is).1 (aU6 hq.is).2) (hg:=⟨gr,trivial⟩) fun hf=>
           .cw _ func210 (bQ0 g.2 (aI g.2 q.2.1.1) q.1.1 q.2.2.1 (cQ q.2.2.1 (q.1.2:Int)) hq.ix hq.hr hT.1.1 hT.2.1 hT.1.2.1 hT.1.2.2 hf.1.1 hT.2.2.1) ⟨trivial,trivial⟩ fun _ _ hz=>
           .p g.1 1<|.n tk (g.1+1,dV g.2 q.1.1 q.2.2.1 (cQ q.2.2.1 (q.1.2:Int))) [(4,26),(5,27)] (h1:=⟨by show g.1+1<=_;omega,by show dV g.2 q.1.1 q.2.2.1 (cQ q.2.2.1 (q.1.2:Int))=_;rw[hT.2.2.2,oM hq.p,hJ.2]⟩) (h2:=by show (cT y).length-(g.1+1)<_;omega))
          (fun h3=>.p g.1 1<|.n tk (g.1+1,g.2) [] (h1:=⟨by show g.1+1<=_;omega,by show g.2=_;rw[oM hq.p,<- hJ.2];exact(aM2 hq.hr hq.ht h3).symm⟩) (h2:=by show (cT y).length-(g.1+1)<_;omega)))
        (fun hge=>let hnow:=hRI.now
         .p g.2.now 1<|.rt (⟨g.2.now+1,g.2.seq,g.2.shelf,g.2.runs⟩,0) ⟨ticked_0 h h7 hY hJ.2 aA,⟨by show I64 (g.2.now+1);unfold I64;omega,(show Yard.ok g.2 from hRI.ok hY aA).2⟩,trivial⟩)))) aB
theorem cM3 {r:Run}(h:eZ r=false):r=iQ r:=by unfold iQ tT;rw[h];rfl
theorem cM4 {r:Run}(h:¬r.state=1):r=iQ r:=by unfold iQ tT;rw[decide_eq_false h,Bool.and_false];rfl
theorem gone_1 {r:Run}(h0:eZ r=true) (h:r.state=1):(⟨r.id,r.plan,4,dZ r.tasks⟩:Run)=iQ r:=by
 rw[aN9 (by unfold tT;rw[h0,decide_eq_true h];rfl),leave_all ((runIs.1 h0).no5 h)]
theorem RunLeft_s (r:Run) (hl:r.plan.edges.length<=1048576) (htl:r.tasks.length<=1048576):Ct1 prog 214 [.S r] [.S (iQ r)]:=
 .one (iQ r) (rk:=fun x=>[.S x])<|vc func214 (fun (hg:gin [Par.S r])=>let gr:=hg.1.1
  .c func191 (oL r hl htl) (hg:=⟨gr,trivial⟩) fun _=>.c func120 (bQ1 r) (hg:=⟨gr,trivial⟩) fun _=>.v (eZ r)
   (fun h=>.rt r ⟨cM3 h,gr,trivial⟩)
   (fun h=>.u (r.state=1)
    (fun h1=>.rt r ⟨cM4 h1,gr,trivial⟩)
    (fun h1=>.co _ func275 (cP8 r 4 (by unfold I64;omega) htl gr) trivial fun _ _ hq=>.rt ⟨r.id,r.plan,4,dZ r.tasks⟩ ⟨gone_1 h h1,hq.1.1,trivial⟩))) aB
theorem dB2 {y:Yard}{id:Int}(h:aG y=false):(y,(8:Int))=bQ y id:=by unfold bQ;rw[if_pos h]
theorem tJ {y:Yard}{id:Int}(h:¬aI y id<0):aI y id=((aI y id).toNat:Int):=by omega
theorem Cancel_s (y:Yard) (id:Int) (hw:y.wt<=1048576):Ct1 prog 137 [.S y,.I id] [.S (bQ y id).1,.I (bQ y id).2]:=
 .one (bQ y id) (rk:=fun q=>[.S q.1,.I q.2])<|vc func137 (fun (hg:gin [Par.S y,Par.I id])=>let gy:=hg.1.1
  .c func117 (fJ y hw) (hg:=⟨gy,trivial⟩) fun _=>.c func121 (lU y id hw) (hg:=⟨gy,trivial⟩) fun _=>.c func74 (lR y hw) (hg:=⟨gy,trivial⟩) fun _=>.v (aG y)
   (fun h=>.rt (y,8) ⟨dB2 h,gy,trivial⟩)
   (fun h=>.s (aI y id<0)
    (fun h2=>.rt (y,10) ⟨(aC1 h h2).symm,gy,trivial⟩)
    (fun h2=>.ex (zK h2) fun r hr=>.ye hr (aI y id) (he:=tJ h2) fun gr=>let hrl:=kA hw hr
     .u (r.state=1)
      (fun h3=>.rt (y,12) ⟨by rw[oE h h2 hr,if_pos h3],gy,trivial⟩)
      (fun h3=>.d 5 hr fun _=>.ie (aI y id).toNat (aI y id) (he:=tJ h2)<|.c func214 (RunLeft_s r hrl.2.2 hrl.2.1) (hg:=⟨gr,trivial⟩) fun _=>.ie (aI y id).toNat (aI y id) (he:=tJ h2)<|.wt 41<|.f 5 y.runs (iQ r) (h:=bY1 gr) <|
       .rt (cO4 y (aI y id).toNat r,0) ⟨by rw[oE h h2 hr,if_neg (by simp[h3])],gy,trivial⟩)))) aB
theorem flt_t {α:Type}{p:α->Bool}{l:List α}{k:Nat}{e:α}(h:l[k]? = some e) (hp:p e=true):(l.take k).filter p++[e]=(l.take (k+1)).filter p:=by
 rw[<- dJ h,filter_append,filter_cons_of_pos hp];rfl
theorem flt_f {α:Type}{p:α->Bool}{l:List α}{k:Nat}{e:α}(h:l[k]? = some e) (hp:p e=false):(l.take k).filter p=(l.take (k+1)).filter p:=by
 rw[<- dJ h,filter_append,filter_cons_of_neg (by rw[hp];simp)];simp
theorem flt_all {α:Type}{p:α->Bool}{l:List α}{k:Nat}(h:¬(k:Int)<l.length):(l.take k).filter p=l.filter p:=by rw[take_of_length_le aA]
theorem flt_len {α:Type}{p:α->Bool}{l:List α}{k:Nat}:((l.take k).filter p).length<=l.length:=Nat.le_trans (length_filter_le _ _) (by rw[length_take];omega)
theorem sw_no {y:Yard}{sh:Int}(h:inB sh 0 ((y.shelf.length:Int)-1)=false):y=aW y sh:=by unfold aW;rw[if_neg (by rw[h];simp)]
theorem sw_in {y:Yard}{sh:Int}{l:List Entry}(h:inB sh 0 ((y.shelf.length:Int)-1)=true) (hl:y.shelf[sh.toNat]? = some l):(⟨y.now,y.seq,y.shelf.set sh.toNat (l.filter (fresh y)),y.runs⟩:Yard)=aW y sh:=by
 unfold aW;rw[if_pos h,getD_eq_getElem?_getD,hl];rfl
theorem cP0 (y:Yard) (sh:Int) (hw:y.wt<=1048576):Ct1 prog 203 [.S y,.I sh] [.S (aW y sh)]:=
 .one (aW y sh) (rk:=fun x=>[.S x])<|vc func203 (fun (hg:gin [Par.S y,Par.I sh])=>let gy:=hg.1.1
  let hsl:=fC y hw
  .c func117 (fJ y hw) (hg:=⟨gy,trivial⟩) fun _=>.m (y.shelf.length:Int) 1 (h:=by unfold I64;omega)<|.c func37 (InV sh 0 ((y.shelf.length:Int)-1)) fun _=>.v (inB sh 0 ((y.shelf.length:Int)-1))
   (fun h=>.rt y ⟨sw_no h,gy,trivial⟩)
   (fun h=>.ex (xW h) fun l hl=>let hll:=kQ hl hw
    .e Entry<|.l (Γ:=Nat) (fun k=>k<=l.length) (fun k=>l.length-k) [1,2,4,5] [2,3,4,5,6] [0,1] (fun k=>[vR 6 7,vI 7 k]) (fun k=>[oR 7 173 ((l.take k).filter (fresh y))]) 0 fun k hk tk=>
     let hfl:((l.take k).filter (fresh y)).length<=l.length:=flt_len
     .ye hl sh (he:=kD h) fun _=>.s ((k:Int)<l.length)
      (fun h2=>.ye hl sh (he:=kD h) fun _=>.x l k (h:=by omega) fun e he ge=>.c func196 (cQ0 y e hw) (hg:=⟨gy,ge,trivial⟩) fun _=>.sb (fresh y e)
       (fun h3=>.ye hl sh (he:=kD h) fun _=>.y he fun _=>.a ((l.take k).filter (fresh y)) e 32 (hy:=ge) (hby:=by omega)<|.g 7 (flt_t he h3)<|.p k 1<|.n tk (k+1) [])
       (fun h3=>.g 7 (flt_f he h3)<|.p k 1<|.n tk (k+1) []))
      (fun h2=>.g 7 (flt_all (p:=fresh y) h2)<|.sh 7<|.d 4 hl fun _=>.ie sh.toNat sh (he:=kD h)<|.wt 55<|.f 4 y.shelf (l.filter (fresh y)) (h:=trivial) <|
       .rt ⟨y.now,y.seq,y.shelf.set sh.toNat (l.filter (fresh y)),y.runs⟩ ⟨sw_in h hl,gy,trivial⟩))) aB
theorem st_ok {r:Run}{t:Task}{now:Int}(g:t.ok) (h:I64 (t.try_+1)) (h2:I64 (now+r.plan.wait)):Task.ok ⟨3,t.need,t.try_+1,now+r.plan.wait⟩:=⟨by show I64 3;unfold I64;omega,g.2.1,h,h2⟩
theorem Started_s (r:Run) (task now:Int) (t:Task) (h0:0<=task) (ht:r.tasks[task.toNat]? = some t) (hn:0<=now/\now<=999999980) (hR:RunIs r):Ct1 prog 208 [.S r,.I task,.I now] [.S (gK r task.toNat t now)]:=
 vc func208 (fun (hg:gin [Par.S r,Par.I task,Par.I now])=>let gr:=hg.1.1
  let htr:=hR.tries ht
  let h1:I64 (t.try_+1):=(by unfold I64;omega)
  let h2:I64 (now+r.plan.wait):=(by unfold I64;omega)
  .c func191 (oL r (aU6 hR).1 (aU6 hR).2) (hg:=⟨gr,trivial⟩) fun _=>.ye ht task (he:=by omega) fun gt=>.p t.try_ 1 (h:=h1)<|.p now r.plan.wait (h:=h2) <|
   .d 5 ht fun _=>.ie task.toNat task (he:=by omega)<|.wt 32<|.f 5 r.tasks ⟨3,t.need,t.try_+1,now+r.plan.wait⟩ (h:=st_ok gt h1 h2)<|.rt () ⟨trivial,gr,trivial⟩) aB
def aL8 (home:Int):List Int:=[(home+1) % 4,(home+2) % 4,(home+3) % 4]
theorem oth_sp {home draw d:Int}(hd:d=max draw 0 % 3):(aL8 home).drop d.toNat++(aL8 home).take d.toNat=bU home draw:=oth_vict hd
theorem Victims_s (home draw:Int) (hh:0<=home/\home<=3) (hd:I64 draw):Ct1 prog 204 [.I home,.I draw] [.L (bU home draw)]:=
 .one (bU home draw) (rk:=fun l=>[.L l])<|vc func204 (fun hg=>
  let fin:∀d:Int,d=max draw 0->D prog (fun l:List Int=>l=bU home draw/\rgd [Rk.L l]):=fun d he=>
   let h0:0<=d/\d<=9223372036854775807:=(by unfold I64 at hd;omega)
   let hl3:(aL8 home).length=3:=rfl
   .e Int<|.l (Γ:=Nat) (fun k=>1<=k/\k<=4) (fun k=>4-k) [777777,12] [777777] [777777] (fun k=>[vI 6 k,vR 5 0]) (fun k=>[oR 0 3 (mN home k)]) 1 (h:=⟨Nat.le_refl _,by omega⟩) fun k hk t=>
    let hol:(mN home k).length<=3:=(by unfold mN;rw[length_take];simp only[length_cons,length_nil];omega)
    .s ((k:Int)<4)
    (fun h=>.p home (k:Int) (h:=by unfold I64;omega)<|.q (home+k) 4 (h:=by omega)<|.a (mN home k) ((home+k) % 4) 8 (hy:=by show I64 _;unfold I64;omega) (hby:=by omega)<|.g 0 (oth_to (home:=home) hk.1 aA).symm<|.p k 1<|.n t (k+1) [] (h1:=⟨by omega,by omega⟩))
    (fun h=>.sh 0<|.g 0 (show mN home k=aL8 home by rw[show k=4 by omega];rfl)<|.q d 3 (h:=by omega) <|
     .dp inferInstance (aL8 home) (d % 3).toNat aA (d % 3) aA<|.tk inferInstance (aL8 home) (d % 3).toNat aA (d % 3) aA<|.e Int<|.as (inferInstance:Shape Int) fS [] ((aL8 home).drop (d % 3).toNat) 8 (by rw[length_drop,hl3];simp only[length_nil];unfold maxLen;omega) (by rw[length_drop,hl3];simp only[length_nil];omega)<|.re inferInstance 2 0 (aL8 home) (d % 3).toNat aA<|.as (inferInstance:Shape Int) fS ((aL8 home).drop (d % 3).toNat) ((aL8 home).take (d % 3).toNat) 8 (by rw[length_drop,length_take,hl3];unfold maxLen;omega) (by rw[length_drop,length_take,hl3];omega) <|
     .rt ((aL8 home).drop (d % 3).toNat++(aL8 home).take (d % 3).toNat) ⟨oth_sp (by rw[he]),trivial⟩)
  .c func82 (aH8 home 0 3) fun _=>.rv 9 (I home) (y:=I (fQ home 0 3)) (dB6 hh)<|.s (draw<0)
   (fun h=>fin 0 aA)
   (fun h=>fin draw aA)) aB
theorem cG4 {xs:List Entry}(h:(cG xs).2.2=true):xs=(cG xs).1::(cG xs).2.1:=by
 cases xs with
 | nil=>cases h
 | cons e l=>rfl
theorem cS8 {xs:List Entry}(h:(cG xs).2.2=false):xs=[]:=by
 cases xs with
 | nil=>rfl
 | cons e l=>cases h
theorem oV (worker:Int):worker % 4=(((worker % 4).toNat:Nat):Int):=by omega
theorem cJ8 {y:Yard}(hY:YardIs y) (w draw:Int) (k:Nat):PI y (eV (w % 4).toNat (aW y (w % 4)) ((bU (w % 4) draw).take k)) (w % 4).toNat:=by
 have h:=PI.take hY (home:=(w % 4).toNat) aA (l:=bU (w % 4) draw) (fun o ho=>by have:=mU (home:=w % 4) aA o ho;omega) k
 rwa [<- oV]at h
theorem aN3 {y out:Yard}{h:Nat}(hP:PI y out h) (hh:h<4):out.shelf[h]? = some (out.shelf.getD h []):=getD_some (by have:=hP.len;omega)
theorem pl_rob {y out:Yard}{h:Nat}{o:Int}(hP:PI y out h) (hh:h<4) (ho:0<=o/\o<=3/\o≠(h:Int)):∃q:List Entry×List Entry,(aW out o).shelf[o.toNat]? = some q.1/\((aW out o).shelf.set o.toNat (q.1.drop (bN q.1)))[h]? = some q.2/\q.1.length<=80/\q.2.length<=80 /\
  (⟨(aW out o).now,(aW out o).seq,((aW out o).shelf.set o.toNat (q.1.drop (bN q.1))).set h (dS q.2 (q.1.take (bN q.1))),(aW out o).runs⟩:Yard)=aL7 (aW out o) h o.toNat:=by
 have hs:=hP.sw (o:=o) aA;have hne:h≠o.toNat:=by omega
 refine⟨((aW out o).shelf.getD o.toNat [],(aW out o).shelf.getD h []),getD_some aA,?_,hs.2 _ aA,hs.2 _ hh,?_⟩
 ·rw[getElem?_set_ne (fun e=>hne e.symm)];exact getD_some aA
 rw[robY_comm hne];rfl
theorem pl_8 {y:Yard}{w d:Int}(h:aG y=false):(y,(⟨8,0,0,0⟩:Reply))=gB y w d:=by unfold gB;rw[if_pos (by rw[h];simp)]
theorem pl_5 {y:Yard}{w d:Int}(h0:aG y=true) (h:inB w 0 99=false):(y,(⟨5,0,0,0⟩:Reply))=gB y w d:=by unfold gB;rw[if_neg (by rw[h0];simp),if_pos (by rw[h];simp)]
theorem pl_0 {y out:Yard}{w d:Int}(h0:aG y=true) (h:inB w 0 99=true) (ho:out=eV (w % 4).toNat (aW y (w % 4)) (bU (w % 4) d)):qJ out (w % 4).toNat=gB y w d:=by unfold gB;rw[if_neg (by rw[h0];simp),if_neg (by rw[h];simp),<- ho]
structure PlA (y out:Yard) (home:Nat) (e:Entry) (k:Nat) (r:Run) (t:Task):Prop where
 ix:cJ out e.run=some k
 hr:out.runs[k]? = some r
 h0:0<=e.task
 ht:r.tasks[e.task.toNat]? = some t
 is:RunIs r
theorem pl_at {y out:Yard}{h:Nat}{e:Entry}(hY:YardIs y) (hP:PI y out h) (he:e∈out.shelf.getD h []):∃q:Nat×Run×Task,PlA y out h e q.1 q.2.1 q.2.2:=by
 obtain⟨k,r,t,hix,hry,h0,hti,h2⟩:=fresh_at (hP.fresh e he);exact⟨(k,r,t),⟨(runIx_runs hP.runs _).trans hix,by rw[hP.runs];exact hry,h0,hti,(hY.run k r hry).1⟩⟩
theorem cC7 {a b c d:Int}(ha:I64 a) (hb:I64 b) (hc:I64 c) (hd:I64 d):Reply.ok ⟨a,b,c,d⟩:=⟨ha,hb,hc,hd⟩
theorem bC8 (a:Int) (h:0<=a/\a<=100):Reply.ok ⟨a,0,0,0⟩:=cC7 (by unfold I64;omega) (by unfold I64;omega) (by unfold I64;omega) (by unfold I64;omega)
theorem Poll_s (y:Yard) (w d:Int) (hw:y.wt<=1048576) (hd:I64 d):Ct1 prog 133 [.S y,.I w,.I d] [.S (gB y w d).1,.S (gB y w d).2]:=
 .one (gB y w d) (rk:=fun q=>[.S q.1,.S q.2])<|vc func133 (fun (hg:gin [Par.S y,Par.I w,Par.I d])=>let gy:=hg.1.1
  .c func74 (lR y hw) (hg:=⟨gy,trivial⟩) fun _=>.v (aG y)
   (fun h=>.c func117 (fJ y hw) (hg:=⟨gy,trivial⟩) fun _=>.rt (y,⟨8,0,0,0⟩) ⟨pl_8 h,gy,bC8 8 aA,trivial⟩)
   (fun hy=>let hY:=kE hy
    .c func37 (InV w 0 99) fun _=>.v (inB w 0 99)
    (fun h=>.c func117 (fJ y hw) (hg:=⟨gy,trivial⟩) fun _=>.rt (y,⟨5,0,0,0⟩) ⟨pl_5 hy h,gy,bC8 5 aA,trivial⟩)
    (fun hin=>let hwk:=inB_iff.1 hin
     .q w 4 (h:=by omega)<|.c func203 (cP0 y (w % 4) hw) (hg:=⟨gy,trivial⟩) fun _=>.c func204 (Victims_s (w % 4) d aA hd) fun _=>
     let fin:∀(m:Nat) (out:Yard),out=eV (w % 4).toNat (aW y (w % 4)) (bU (w % 4) d)->PI y out (w % 4).toNat->out.ok->D prog (fun q:Yard×Reply=>q=gB y w d/\rgd [Rk.S q.1,Rk.S q.2]):=fun m out ho hP go=>
      let hl:=aN3 hP (show (w % 4).toNat<4 by omega)
      let h80:=hP.each (w % 4).toNat aA
      .ye hl (w % 4) (he:=oV w) fun _=>.c func207 (TakeEntry_s (out.shelf.getD (w % 4).toNat []) aA) fun gt=>.v (cG (out.shelf.getD (w % 4).toNat [])).2.2
       (fun hn=>.rt (out,⟨9,0,0,0⟩) ⟨by rw[<- pl_0 hy hin ho];exact(aV7 (cS8 hn)).symm,go,bC8 9 aA,trivial⟩)
       (fun hn=>let hcs:=cG4 hn
        .ex (pl_at hY hP (show (cG (out.shelf.getD (w % 4).toNat [])).1∈out.shelf.getD (w % 4).toNat [] by rw[hcs];exact mem_cons_self)) fun q hq=>
        let hnow:0<=out.now/\out.now<=999999980:=(by rw[hP.now];exact hY.now)
        let hrl:(cG (out.shelf.getD (w % 4).toNat [])).2.1.length<=80:=(by have h_:=h80;rw[hcs]at h_;simp only[length_cons]at h_;omega)
        .d 5 hl fun _=>.ie (w % 4).toNat (w % 4) (he:=oV w)<|.wt 109<|.f 5 out.shelf (cG (out.shelf.getD (w % 4).toNat [])).2.1 (h:=trivial) <|
        .c func121 (lU ⟨out.now,out.seq,out.shelf.set (w % 4).toNat (cG (out.shelf.getD (w % 4).toNat [])).2.1,out.runs⟩ (cG (out.shelf.getD (w % 4).toNat [])).1.run (Nat.le_trans (hP.wtS hY hrl) aA)) (hg:=⟨go,trivial⟩) fun _=>
        .d 6 hq.hr fun gr=>.ie q.1 (aI ⟨out.now,out.seq,out.shelf.set (w % 4).toNat (cG (out.shelf.getD (w % 4).toNat [])).2.1,out.runs⟩ (cG (out.shelf.getD (w % 4).toNat [])).1.run) (he:=dC hq.ix) <|
        .c func208 (Started_s q.2.1 (cG (out.shelf.getD (w % 4).toNat [])).1.task out.now q.2.2 hq.h0 hq.ht hnow hq.is) (hg:=⟨gr,trivial⟩) fun gs=>
        .ie q.1 (aI ⟨out.now,out.seq,out.shelf.set (w % 4).toNat (cG (out.shelf.getD (w % 4).toNat [])).2.1,out.runs⟩ (cG (out.shelf.getD (w % 4).toNat [])).1.run) (he:=dC hq.ix)<|.wt 126<|.f 6 out.runs (gK q.2.1 (cG (out.shelf.getD (w % 4).toNat [])).1.task.toNat q.2.2 out.now) (h:=gs.1.1) <|
        let hr2:(out.runs.set q.1 (gK q.2.1 (cG (out.shelf.getD (w % 4).toNat [])).1.task.toNat q.2.2 out.now))[q.1]? = some (gK q.2.1 (cG (out.shelf.getD (w % 4).toNat [])).1.task.toNat q.2.2 out.now):=getElem?_set_self (gsi_.1 hq.hr).1
        let ht2:(gK q.2.1 (cG (out.shelf.getD (w % 4).toNat [])).1.task.toNat q.2.2 out.now).tasks[(cG (out.shelf.getD (w % 4).toNat [])).1.task.toNat]? = some ⟨3,q.2.2.need,q.2.2.try_+1,out.now+q.2.1.plan.wait⟩:=getElem?_set_self (gsi_.1 hq.ht).1
        .d 6 hr2 fun _=>.d m ht2 fun gu=>.ie q.1 (aI ⟨out.now,out.seq,out.shelf.set (w % 4).toNat (cG (out.shelf.getD (w % 4).toNat [])).2.1,out.runs⟩ (cG (out.shelf.getD (w % 4).toNat [])).1.run) (he:=dC hq.ix)<|.ie (cG (out.shelf.getD (w % 4).toNat [])).1.task.toNat (cG (out.shelf.getD (w % 4).toNat [])).1.task (he:=by have:=hq.h0;omega) <|
        .f m (gK q.2.1 (cG (out.shelf.getD (w % 4).toNat [])).1.task.toNat q.2.2 out.now).tasks ⟨3,q.2.2.need,q.2.2.try_+1,out.now+q.2.1.plan.wait⟩ (h:=gu)<|.g m (zD ht2)<|.f 6 (out.runs.set q.1 (gK q.2.1 (cG (out.shelf.getD (w % 4).toNat [])).1.task.toNat q.2.2 out.now)) (gK q.2.1 (cG (out.shelf.getD (w % 4).toNat [])).1.task.toNat q.2.2 out.now) (h:=gs.1.1)<|.g 6 (zD hr2) <|
        .rt (⟨out.now,out.seq,out.shelf.set (w % 4).toNat (cG (out.shelf.getD (w % 4).toNat [])).2.1,out.runs.set q.1 (gK q.2.1 (cG (out.shelf.getD (w % 4).toNat [])).1.task.toNat q.2.2 out.now)⟩,⟨0,(cG (out.shelf.getD (w % 4).toNat [])).1.run,(cG (out.shelf.getD (w % 4).toNat [])).1.task,q.2.2.try_+1⟩)
         ⟨by rw[<- pl_0 hy hin ho];exact(bF3 hcs hq.ix hq.hr hq.ht).symm,go,cC7 (by unfold I64;omega) gt.1.1.2.2.1 gt.1.1.2.2.2 (show Task.ok _ from gu).2.2.1,trivial⟩)
     .l (Γ:=Nat×Yard) (fun g=>g.1<=3/\g.2=eV (w % 4).toNat (aW y (w % 4)) ((bU (w % 4) d).take g.1)) (fun g=>3-g.1) [6,7,8,9,10] [3,4,8] [] (fun g=>[vI 11 g.1]) (fun g=>ryS g.2 7 5 6) (0,aW y (w % 4)) (h:=⟨Nat.zero_le _,(aJ3 _ _ _).symm⟩) fun g hJ tk=>
      let hP:PI y g.2 (w % 4).toNat:=(by rw[hJ.2];exact cJ8 hY w d g.1)
      let hl:=aN3 hP (show (w % 4).toNat<4 by omega)
      let go:g.2.ok:=hP.ok hY
      .s ((g.1:Int)<(bU (w % 4) d).length)
       (fun hlt=>.ye hl (w % 4) (he:=oV w) fun _=>.s (((g.2.shelf.getD (w % 4).toNat []).length:Int)=0)
        (fun hem=>.ex (p:=fun o=>(bU (w % 4) d)[g.1]? = some o) ⟨_,getElem?_eq_getElem (show g.1<(bU (w % 4) d).length by omega)⟩ fun o hk=>
         let hor:=mU (home:=w % 4) (draw:=d) aA o (mem_of_getElem? hk)
         .ex (pl_rob hP (show (w % 4).toNat<4 by omega) (show 0<=o/\o<=3/\o≠(((w % 4).toNat:Nat):Int) by omega)) fun q hq=>
         .y hk fun _=>.c func203 (cP0 g.2 o (Nat.le_trans (hP.wt hY) aA)) (hg:=⟨go,trivial⟩) fun gs=>
         .y hk fun _=>.ye hq.1 o (he:=by omega) fun _=>.c func205 (HalfOf_s q.1 (by have:=hq.2.2.1;omega)) fun _=>
         .d 12 hq.1 fun _=>.y hk fun _=>.ie o.toNat o (he:=by omega)<|.wt 78<|.f 12 (aW g.2 o).shelf (q.1.drop (bN q.1)) (h:=trivial) <|
         .d 12 hq.2.1 fun _=>.ie (w % 4).toNat (w % 4) (he:=oV w)<|.c func206 (Merged_s q.2 (q.1.take (bN q.1)) (by have:=hq.2.2.2.1;omega) (by have:=hq.2.2.1;rw[length_take];omega)) fun _=>.ie (w % 4).toNat (w % 4) (he:=oV w)<|.wt 51<|.f 12 ((aW g.2 o).shelf.set o.toNat (q.1.drop (bN q.1))) (dS q.2 (q.1.take (bN q.1))) (h:=trivial) <|
         .p g.1 1<|.n tk (g.1+1,⟨(aW g.2 o).now,(aW g.2 o).seq,((aW g.2 o).shelf.set o.toNat (q.1.drop (bN q.1))).set (w % 4).toNat (dS q.2 (q.1.take (bN q.1))),(aW g.2 o).runs⟩) [(5,12),(6,13)]
          (h1:=⟨by show g.1+1<=3;have:(bU (w % 4) d).length=3:=rfl;omega,by rw[bC5 hk (by rw[<- hJ.2];exact nil0 hem),<- hJ.2];exact hq.2.2.2.2⟩) (h2:=by show 3-(g.1+1)<_;have:(bU (w % 4) d).length=3:=rfl;omega))
        (fun hem=>fin 24 g.2 (by rw[hJ.2];exact(aS0 (by rw[<- hJ.2];exact cK4 hem)).symm) hP go))
       (fun hlt=>fin 22 g.2 (by rw[hJ.2];exact aS1 (by have:(bU (w % 4) d).length=3:=rfl;omega)) hP go)))) aB
def aS7:Code->Nat->List Oper
 | .region id ops _,k=>cond (Nat.beq id k) ops.toList []
 | .seq a b,k=>aS7 a k++aS7 b k
 | .cond _ a b,k=>aS7 a k++aS7 b k
 | .block _ c,k=>aS7 c k
 | .loop c,k=>aS7 c k
 | _,_=>[]
theorem fr_keep {E:List (Nat×SV)}{f f':Nat->Value}{p:Nat->Bool}(h:Fr E f) (hf:∀t,p t=true->f' t=f t):Fr (E.filter fun q=>p q.1) f':=by
 intro t x hx;have key:∀{E:List (Nat×SV)},lku (E.filter fun q=>p q.1) t=some x->p t=true/\lku E t=some x:=by
  intro E
  induction E with
  | nil=>intro h;cases h
  | cons q E ih=>
   intro h;obtain⟨a,v⟩:=q;rw[filter_cons]at h;unfold lku;split at h
   ·next hp=>
    unfold lku at h;cases hb:Nat.beq t a with
    | true=>rw[hb]at h;rw[Nat.eq_of_beq_eq_true hb];exact⟨hp,h⟩
    | false=>rw[hb]at h;exact ih h
   next hp=>
   obtain⟨h1,h2⟩:=ih h;refine⟨h1,?_⟩;cases hb:Nat.beq t a with
   | true=>rw[Nat.eq_of_beq_eq_true hb]at h1;exact absurd h1 hp
   | false=>exact h2
 obtain⟨h1,h2⟩:=key hx;rw[hf t h1];exact h t x h2
theorem cJ5 {f:Nat->Value}{d:Option Tmp}{v:Value}{t:Nat}(h:(match d with | some d=> !Nat.beq d t | none=>true)=true):gL f d v t=f t:=by
 cases d with
 | none=>rfl
 | some d=>
  simp only[gL,upd];cases hb:Nat.beq t d with
  | false=>rfl
  | true=>rw[Nat.eq_of_beq_eq_true hb]at h;simp[Nat.beq_refl]at h
noncomputable def fgOps:List Oper:=aS7 (Tryz.f138.body.getD .skip) 9
section
variable {P:Program}{n:Nat}{f:Nat->Value}{W:World}{Q:Exit->Act->World->Prop}{d:Option Tmp}{ty:TypeId}{pos:String}{af:Array Go.Edge}{g:Option (Nat×Bool)}{K:Value->World->Prop}{α:Type}[Shape α]
theorem stp_xs {t t':TypeId}{x y:Operand}{b o m c l:Nat}{e:Int}(hT:SlOk P t t' α) (hx:ev n f x = .slice (some ⟨b,o,none⟩) m c) (hy:ev n f y=I e) (he:e=l) (hl:l<=m) (hc:m<=c) (k:K (sliced (some ⟨b,o,none⟩) l m c (Shape.size α)) W):Stp P n ⟨d,.slice t x (some y) none none,ty,pos,af,g⟩ f W Q K:=by
 subst he;have hel:P.elem t=t':=by simp[Program.elem,hT.desc]
 have hu:P.underlying t=some (.slice (P.elem t)):=by rw[hel];exact hT.desc
 refine Stp.run (W':=W) (v:=sliced (some ⟨b,o,none⟩) l m c (Shape.size α)) ?_ k;simp only[execOp,hx,hy,Sem.run_bind,Option.map_none,Option.map_some];rw[run_sliceAt_slice (h:=hu),run_slice_l (ht:=hu) (h0:=by omega) (h1:=by omega),hel,gG hT.size];simp
theorem sliced_ad {b o l m c z:Nat}(hl:l<=m) (hc:m<=c):∃ad:Addr,sliced (some ⟨b,o,none⟩) l m c z = .slice (some ad) (m-l) (c-l)/\(0<m-l->ad=⟨b,o+l*z,none⟩):=by
 by_cases h:c=l
 ·exact⟨⟨b,o,none⟩,by simp[sliced,h],fun hh=>by omega⟩
 exact⟨_,qU aA,fun _=>rfl⟩
end
noncomputable def fgR (rs:List Run) (k:Nat) (e:Int) (he:e=k) (hk:k<rs.length) (hl:rs.length<=1048576):Rgn prog (Tryz.f138.ntmps) fgOps.toArray true where
 T:=fun s K=>match lku s.E 6,lku s.E 7 with
  | some (.on (.ce (.pt jb b q o))),some v7=>.e0 q 0<|.e0 o 0<|.e0 v7.val (I e)<|match lku s.O jb with
   | some (.bx b' pre [c0,c1,c2,.rf jr h] post t)=>.e0 b' b<|.e0 pre []<|.e0 post []<|.e0 t 27<|match lku (bJ s.O jb) jr with
    | some (.own i h' xs fp)=>.e0 h' h<|.e1 (⟨i,xs⟩:Dat) ⟨instShapeRun,rs⟩<|.fn fun G:Hd×List Nat=>
      K ⟨s.E.filter fun q=>nY fgOps q.1,(jb,.bx b [] [c0,c1,c2,.rf jr G.1] [] t)::(jr,.row instShapeRun 145 G.1 (([]++rs.take k)++rs.drop (k+1)) G.2)::bJ (bJ s.O jb) jr,lasting s.B,s.nx⟩
    | _=>.no
   | _=>.no
  | _,_=>.no
 ok:=by
  intro w0 W s f K id Q h den kk;split at h
  ·next jb b q o v7 hE6 hE7=>
   obtain⟨rfl,rfl,h7,h⟩:=h;split at h
   ·next b' pre c0 c1 c2 jr hd post t hjb=>
    obtain⟨rfl,rfl,rfl,rfl,h⟩:=h;split at h
    ·next i hd' xs fp hjr=>
     obtain⟨rfl,h2,h⟩:=h;simp only[Dat.mk.injEq]at h2;obtain⟨rfl,h6,h7'⟩:=h2;obtain⟨rfl,rfl⟩:=And.intro (eq_of_heq h6) (eq_of_heq h7');have hf6:f 6 = .pointer (some ⟨b',0+0,none⟩):=den.fr 6 _ hE6;have hf7:f 7=I (k:Int):=(den.fr 7 _ hE7).trans (h7.trans (by rw[he]));have st0:St w0 W (Or s.O++[]):=by simpa [Or,S.rs] using den.st
     have st1:=st0.take hjb;have st2:St w0 W (Res.own hd'.val xs fp::(Or (bJ (bJ s.O jb) jr)++[Res.bx b' [c0.val,c1.val,c2.val,hd'.val] 27])):=by
      have:St w0 W (Res.bx b' [c0.val,c1.val,c2.val,hd'.val] 27::(Or (bJ s.O jb)++[])):=st1;rw[append_nil]at this;exact(this.perm (perm_append_comm (l₁:=Or (bJ s.O jb)) (l₂:=[_]))).take hjr
     have st3:St w0 W ([Res.own hd'.val xs fp,Res.bx b' [c0.val,c1.val,c2.val,hd'.val] 27]++Or (bJ (bJ s.O jb) jr)):=
      st2.perm (List.Perm.cons _ (perm_append_comm (l₁:=[_]) (l₂:=Or (bJ (bJ s.O jb) jr))))
     have st4:=st3.all_in;obtain⟨bD,oD,cD,CD,eD,feD,hvD,hcD,hmD,hlD,st87⟩:=St.ownOpen' st4 fL aA;obtain⟨fE0,fE1,st88⟩:=st87.f1.es_split hk;rw[hvD]at st88;obtain⟨ad,hxe,had⟩:=sliced_ad (b:=bD) (o:=oD) (z:=Shape.size Run) (show k+1<=xs.length by omega) hcD;refine pO 11 [(none,some 5,.is (Res.es (((CD.drop oD).take (xs.length*8)).take (k*8)) (xs.take k) fE0)),(some 0,some 5,.of (ι:=Nat) [34] (fun b170=>[(.slice (some ⟨b170,0,none⟩) 0 0)]) (fun b170=>Res.row (α:=Run) 145 (.slice (some ⟨b170,0,none⟩) 0 0) [] [])),(some 5,none,.of (ι:=Value) [39] (fun v179=>[v179]) (fun v179=>Res.row (α:=Run) 145 v179 ([]++(xs.take k)) ([]++fE0)))] [(false,.ex (fun (b170:Nat)=>(.slice (some ⟨b170,0,none⟩) 0 0))),(true,.is (.pointer (some ⟨b',0+3,none⟩))),(true,.is (.slice (some ⟨bD,oD,none⟩) xs.length cD)),(true,.is (I (k:Int))),(true,.is (.slice (some ⟨bD,oD,none⟩) k cD)),(false,.ex (fun (v179:Value)=>v179)),(true,.is (.pointer (some ⟨b',0+3,none⟩))),(true,.is (.slice (some ⟨bD,oD,none⟩) xs.length cD)),(true,.is (I (k:Int))),(true,.is (I ((k:Int)+1))),(true,.is (sliced (some ⟨bD,oD,none⟩) (k+1) xs.length cD (Shape.size Run)))] mix aB aB aB aB (rs0:=[Res.es (((CD.drop oD).take (xs.length*8)).take (k*8)) (xs.take k) fE0]) ⟨_,_,rfl,rfl,rfl⟩ st88 st88.below ⟨?_,(fun f W hst hbl hd hf=>gJ aF4 ((hf 6 rfl).trans hf6) brq),(fun f W hst hbl hd hf=>kP cL3 rfl (hd 1 35 rfl rfl) (hst.get 2 rfl) (i:=3) rfl rfl brq),(fun f W hst hbl hd hf=>cI (v:=I (k:Int)) ((hf 7 rfl).trans hf7) brq),(fun f W hst hbl hd hf=>xE (h:=k) lD (hd 2 36 rfl rfl) (hd 3 37 rfl rfl) aA aA aA brq),?_,(fun f W hst hbl hd hf=>gJ aF4 ((hf 6 rfl).trans hf6) brq),(fun f W hst hbl hd hf=>kP cL3 rfl (hd 6 40 rfl rfl) (hst.get 2 rfl) (i:=3) rfl rfl brq),(fun f W hst hbl hd hf=>cI (v:=I (k:Int)) ((hf 7 rfl).trans hf7) brq),(fun f W hst hbl hd hf=>sE (hd 8 42 rfl rfl) rfl (by unfold I64;omega) brq),(fun f W hst hbl hd hf=>stp_xs (l:=k+1) lD (hd 7 41 rfl rfl) (hd 9 43 rfl rfl) aA aA aA brq),trivial⟩ ?_
     ·intro f W ru oth hu hst hbl hd hf;have hn_:ru=[]:=hu;subst hn_
      try simp only[cap_,aZ8]at hst
      refine(gV (cs:=[]) (e:=145) pnil (run_buildSlice0 bP6 _) hst ?_);intro b170 W171 hb172 st173;have st173:=st173.row_empty (α:=Run);exact⟨⟨b170,rfl⟩,⟨_,⟨_,_,rfl,⟨b170,(ce rfl rfl),rfl⟩,rfl⟩,st173⟩,st173.below⟩
     ·intro f W ru oth hu hst hbl hd hf;obtain⟨_,_,rfl,rfl,_,_,rfl,⟨b170,he175,rfl⟩,hn_⟩:=hu;have hn_:_=[]:=hn_;subst hn_;have hu175_34:f 34=(.slice (some ⟨b170,0,none⟩) 0 0):=congrArg (fun l=>l.getD 0 undef) he175
      try simp only[cap_,aZ8]at hst
      have st176:=hst.f3;refine(wK (α:=Run) (m:=k) (o:=oD) bP6 hu175_34 (hd 4 38 rfl rfl) (by rw[length_take];omega) (fun _=>rfl) (by rw[take_take];congr 1;have hz:k*8<=xs.length*8:=Nat.mul_le_mul_right _ aA;exact(Nat.min_eq_left hz).symm▸rfl) st176.f1.f2 (by simp only[length_append,length_take,length_nil];unfold maxLen;omega) (by simp only[length_append,length_take,length_nil];omega) ?_);intro v179 W180 st181;exact⟨⟨v179,rfl⟩,⟨_,⟨_,_,rfl,⟨v179,(ce rfl rfl),rfl⟩,rfl⟩,st181.f2.f1⟩,st181.f2.f1.below⟩
     intro f189 W190 rs_ hAL_ st193 hbl194 hv191 hf192;obtain⟨_,_,rfl,⟨v179,he195,rfl⟩,hn_⟩:=hAL_;have hn_:_=[]:=hn_;subst hn_;have hu195_39:f189 39=v179:=congrArg (fun l=>l.getD 0 undef) he195
     try simp only[cap_,aZ8]at st193
     have st197:=st193.f2;refine sg (wK (α:=Run) (m:=xs.length-(k+1)) (o:=oD+(k+1)*8) bP6 hu195_39 (Eq.trans (hv191 10 44 fL rfl) hxe) (by rw[length_drop]) had (es_tail aA) st197.f2.f2 (by simp only[length_append,length_take,length_nil];unfold maxLen;omega) (by simp only[length_append,length_take,length_nil];omega) ?_);intro v200 W201 st202;refine sg (gJ aF4 ((hf192 6 rfl).trans hf6) (sgn (wH (v:=v200) aB rfl rfl (Sl.cells (jQ (st202.f2.get 1 rfl))) (Sl.one (jQ (st202.f2.get 1 rfl))) st202.f2 nbq_ rfl ?_)));intro W206 st207;refine bG ?_;obtain⟨hd2,rfl,_⟩:=Sl.hd (jQ (st207.get 1 rfl));refine kk _ _ _ (h (hd2,([]++fE0)++fE1)) ⟨fr_keep den.fr fun t ht=>?_,?_,den.fa.lasting⟩
     ·unfold nY at ht;rw[all_eq_true]at ht;have h1:nY (fgOps.take 11) t=true:=by
       unfold nY;rw[all_eq_true];exact fun o ho=>ht o (mem_of_mem_take ho)
      rw[<- hf192 t h1];have h2:∀(k:Nat) (o:Oper),fgOps[k]? = some o->(match o.dst with | some d=> !Nat.beq d t | none=>true)=true:=fun k o ho=>ht o (mem_of_getElem? ho)
      exact(cJ5 (h2 12 _ rfl)).trans (cJ5 (h2 11 _ rfl))
     have:=st207.d2;exact St.all_out (a:=[_,_]) this
    exact h.elim
   exact h.elim
  exact h.elim
theorem fg_er (rs:List Run) (k:Nat):([]++rs.take k)++rs.drop (k+1)=rs.eraseIdx k:=by rw[nil_append,eraseIdx_eq_take_drop_succ]
theorem fg_8s {y:Yard}{id:Int}(h:aG y=false):(y,(8:Int))=bE y id:=by unfold bE;rw[if_pos h]
theorem fg_13 {y:Yard}{id:Int}{r:Run}(h0:aG y=true) (h:¬aI y id<0) (hr:y.runs[(aI y id).toNat]? = some r) (h1:r.state=1):(y,(13:Int))=bE y id:=by rw[nZ h0 h hr,if_pos h1]
theorem fg_0 {y:Yard}{id:Int}{r:Run}(h0:aG y=true) (h:¬aI y id<0) (hr:y.runs[(aI y id).toNat]? = some r) (h1:¬r.state=1):(bY9 y id (aI y id).toNat,(0:Int))=bE y id:=by rw[nZ h0 h hr,if_neg h1]
theorem Forget_s (y:Yard) (id:Int) (hid:I64 id) (hw:y.wt<=1048576):Ct1 prog 138 [.S y,.I id] [.S (bE y id).1,.I (bE y id).2]:=
 .one (bE y id) (rk:=fun q=>[.S q.1,.I q.2])<|vc func138 (fun (hg:gin [Par.S y,Par.I id])=>let gy:=hg.1.1
  let hsl:=fC y hw
  .c func117 (fJ y hw) (hg:=⟨gy,trivial⟩) fun _=>.c func121 (lU y id hw) (hg:=⟨gy,trivial⟩) fun _=>.c func74 (lR y hw) (hg:=⟨gy,trivial⟩) fun _=>.v (aG y)
   (fun h=>.rt (y,8) ⟨fg_8s h,gy,trivial⟩)
   (fun h=>.s (aI y id<0)
    (fun h2=>.rt (y,10) ⟨(aA3 h h2).symm,gy,trivial⟩)
    (fun h2=>.ex (zK h2) fun r hr=>let hrl:(aI y id).toNat<y.runs.length:=(gsi_.1 hr).1
     .ye hr (aI y id) (he:=by omega) fun gr=>.s (r.state=1)
      (fun h3=>.rt (y,13) ⟨fg_13 h h2 hr h3,gy,trivial⟩)
      (fun h3=>.hr (fgR y.runs (aI y id).toNat (aI y id) aA hrl aA)<|.g 5 (fg_er y.runs (aI y id).toNat)<|.sh 5 <|
       .la (Γ:=Nat) (fun i=>i<=y.shelf.length) (fun i=>y.shelf.length-i) (fun i=>[vI 8 i]) (fun i=>[oO 4 (wA id y.shelf i)]) 0 (h:=Nat.zero_le _) fun i hi tk=>let hfl:=fgTo_len id y.shelf i
        .s ((i:Int)<(wA id y.shelf i).length)
         (fun h4=>.ex (p:=fun l=>y.shelf[i]? = some l) ⟨_,getElem?_eq_getElem aA⟩ fun l hl=>let hll:=kQ hl hw
          .e Entry<|.l (Γ:=Nat) (fun j=>j<=l.length) (fun j=>l.length-j) [777777,9,54] [777777] [777777] (fun j=>[vI 10 j,vR 9 10]) (fun j=>[oR 10 173 (flE id (l.take j))]) 0 (h:=Nat.zero_le _) fun j hj tj=>let hfe:=cM7 id (l.take j)
           .y (aA7 (id:=id) hl) fun _=>.s ((j:Int)<l.length)
            (fun h5=>.y (aA7 (id:=id) hl) fun _=>.x l j (h:=by omega) fun e he ge=>.u (e.run=id)
             (fun h6=>.y (aA7 (id:=id) hl) fun _=>.y he fun _=>.a (flE id (l.take j)) e 32 (hy:=ge) (h63:=by rw[length_take]at hfe;unfold maxLen;omega) (hby:=by rw[length_take]at hfe;omega)<|.g 10 (flE_t he h6).symm<|.p j 1<|.n tj (j+1) [])
             (fun h6=>.g 10 (flE_f he h6).symm<|.p j 1<|.n tj (j+1) []))
            (fun h5=>.sh 10<|.g 10 (show flE id (l.take j)=flE id l by rw[take_of_length_le aA])<|.d 4 (aA7 (id:=id) hl) fun _=>.i i<|.wt 52<|.f 4 (wA id y.shelf i) (flE id l) (h:=trivial)<|.g 4 (bZ2 (id:=id) hl)<|.p i 1<|.n tk (i+1) []))
         (fun h4=>.g 4 (bZ3 (id:=id) (xss:=y.shelf) (i:=i) aA)<|.rt (bY9 y id (aI y id).toNat,0) ⟨fg_0 h h2 hr h3,gy,trivial⟩)))) ) aB
structure SubJ (y:Yard) (id:Int) (p:Plan):Prop where
 ss:4<=y.shelf.length
 sq:0<=y.seq/\y.seq<=4000000000
 tl:(aZ id p).tasks.length<=12
 tk:(aK (aZ id p).tasks 2).length<=12
 ln:(y.shelf.getD (aX (aZ id p).id).toNat []).length<=80
 r8:y.runs.length<8
 nw:nB id p=true
 ok:(cT6 y id p).ok
theorem sub_j {y:Yard}{id:Int}{p:Plan}(gp:p.ok) (h0:aG y=true) (h1:inB id 1 9999=true) (h3:aC p=0) (h4:jA y p=true):SubJ y id p:=by
 have hY:=kE h0;have hplr:=bU3 h3;have hrq:y.seq<=999999000-p.tasks/\y.runs.length<8:=by unfold jA at h4;simp at h4;omega
 have hsq:=hY.seq;have hss:=hY.shelf;have htl:(aZ id p).tasks.length=p.tasks.toNat:=hU p _;have htk:(aK (aZ id p).tasks 2).length<=(aZ id p).tasks.length:=iY _ _ _;have hsh:=gE id;have hnow:=hY.now;refine⟨by omega,by omega,by omega,by omega,Nat.le_trans (mR hY _ (by have:aX (aZ id p).id=aX id:=rfl;omega)) fL,hrq.2,by unfold nB;simp[h1,h3],?_⟩;show I64 _/\I64 _;simp only[cT6,I64];omega
theorem sub_8 {y:Yard}{id:Int}{p:Plan}(h0:aG y=false):(y,(8:Int))=aY y id p:=by unfold aY;rw[if_pos h0]
theorem sub_5 {y:Yard}{id:Int}{p:Plan}(h0:aG y=true) (h1:inB id 1 9999=false):(y,(5:Int))=aY y id p:=by unfold aY;rw[if_neg (by rw[h0];decide),if_pos h1]
theorem sub_6 {y:Yard}{id:Int}{p:Plan}(h0:aG y=true) (h1:inB id 1 9999=true) (h2:0<=aI y id):(y,(6:Int))=aY y id p:=by unfold aY;rw[if_neg (by rw[h0];decide),if_neg (by rw[h1];decide),if_pos h2]
theorem sub_p {y:Yard}{id:Int}{p:Plan}(h0:aG y=true) (h1:inB id 1 9999=true) (h2:¬0<=aI y id) (h3:¬aC p=0):(y,aC p)=aY y id p:=by unfold aY;rw[if_neg (by rw[h0];decide),if_neg (by rw[h1];decide),if_neg h2,if_pos h3]
theorem sub_7 {y:Yard}{id:Int}{p:Plan}(h0:aG y=true) (h1:inB id 1 9999=true) (h2:¬0<=aI y id) (h3:aC p=0) (h4:jA y p=false):(y,(7:Int))=aY y id p:=by unfold aY;rw[if_neg (by rw[h0];decide),if_neg (by rw[h1];decide),if_neg h2,if_neg (by simp[h3]),if_pos h4]
theorem sub_0 {y:Yard}{id:Int}{p:Plan}{q:Int×List (List Entry)}(h0:aG y=true) (h1:inB id 1 9999=true) (h2:¬0<=aI y id) (h3:aC p=0) (h4:jA y p=true) (hq:yH (aZ id p) (aK (aZ id p).tasks 2) y.seq y.shelf q):((⟨y.now,q.1,q.2,y.runs++[aZ id p]⟩:Yard),(0:Int))=aY y id p:=by
 unfold aY;rw[if_neg (by rw[h0];decide),if_neg (by rw[h1];decide),if_neg h2,if_neg (by simp[h3]),if_neg (by rw[h4];decide)];have hq:q=_:=hq;rw[hq];rfl
theorem sub_g {y:Yard}{id:Int}{p:Plan}{q:Int×List (List Entry)}(hj:SubJ y id p) (hq:yH (aZ id p) (aK (aZ id p).tasks 2) y.seq y.shelf q):(⟨y.now,q.1,q.2,y.runs++[aZ id p]⟩:Yard).ok:=by
 have hq:q=_:=hq;rw[hq];exact hj.ok
theorem new_t {P:Program}{F:FuncId}{id:Int}{p:Plan}{ps:List Par}(h:nB id p=true) (C:Ct1 P F ps [.S (aT8 id p),.B (nB id p)]):Ct1 P F ps [.S (aZ id p),.B true]:=by rw[cX0 h,h]at C;exact C
theorem Submit_s (y:Yard) (id:Int) (p:Plan) (hw:y.wt<=1048576) (hp:p.wt<=1048576):Ct1 prog 132 [.S y,.I id,.S p] [.S (aY y id p).1,.I (aY y id p).2]:=
 .one (aY y id p) (rk:=fun q=>[.S q.1,.I q.2])<|vc func132 (fun (hg:gin [Par.S y,Par.I id,Par.S p])=>let gy:=hg.1.1
  let gp:p.ok:=hg.2.1.1
  .c func117 (CopyYardR_s y hw) (hg:=⟨gy,trivial⟩) fun _=>.c func74 (lR y hw) (hg:=⟨gy,trivial⟩) fun _=>.v (aG y) (fun h0=>.rt (y,8) ⟨sub_8 h0,gy,trivial⟩) (fun h0=>
  .c func37 (InV id 1 9999) fun _=>.v (inB id 1 9999) (fun h1=>.rt (y,5) ⟨sub_5 h0 h1,gy,trivial⟩) (fun h1=>
  .c func121 (lU y id hw) (hg:=⟨gy,trivial⟩) fun _=>.s ((0:Int)<=aI y id) (fun h2=>.rt (y,6) ⟨sub_6 h0 h1 h2,gy,trivial⟩) (fun h2=>
  .c func193 (qA p) (hg:=⟨gp,trivial⟩) fun _=>.u (aC p=0) (fun h3=>.c func193 (qA p) (hg:=⟨gp,trivial⟩) fun _=>.rt (y,aC p) ⟨sub_p h0 h1 h2 h3,gy,trivial⟩) (fun h3=>
  .c func200 (RoomFor_s y p hw) (hg:=⟨gy,gp,trivial⟩) fun _=>.v (jA y p) (fun h4=>.rt (y,7) ⟨sub_7 h0 h1 h2 h3 h4,gy,trivial⟩) (fun h4=>let hj:=sub_j gp h0 h1 h3 h4
  .c func201 (new_t hj.nw (RunNew_s id p)) (hg:=⟨gp,trivial⟩) fun hz=>let gr:(aZ id p).ok:=hz.1.1
  .az inferInstance y.runs (aZ id p) gr 96 (by have:=hj.r8;unfold maxLen;omega) (by have:=hj.r8;omega)<|.in_ func202 (layD true 13 6 7 y.now y.seq y.shelf zRun (aZ id p) hj.ss (Nat.le_trans hj.ln aA) (by have:=hj.tl;omega) hj.sq gr (fun _=>rfl)) fun q hq0=>let hq:yH (aZ id p) (aK (aZ id p).tasks 2) y.seq y.shelf q:=(by rw[<- fresh_zero];exact hq0)
      .zr 7<|.rt (⟨y.now,q.1,q.2,y.runs++[aZ id p]⟩,0) ⟨sub_0 h0 h1 h2 h3 h4 hq,sub_g hj hq,trivial⟩)))))) aB
theorem dd_wt {d:Deed}(h:aV d=true):d.plan.wt<=1048576:=by have:=deedOk_edges h;unfold Plan.wt;omega
theorem cO0 {d:Deed}(h:aV d=true):1<=d.kind/\d.kind<=8:=by
 unfold aV at h;simp only[Bool.and_eq_true]at h;exact inB_iff.1 h.1.1.1
theorem do_0 {y:Yard}{d:Deed}(h:aV d=false):(y,eT 5)=doD y d:=by unfold doD;rw[if_pos h]
theorem do_1 {y:Yard}{d:Deed}(h:aV d=true) (hk:d.kind=1):((aY y d.run d.plan).1,eT (aY y d.run d.plan).2)=doD y d:=by unfold doD;rw[if_neg (by rw[h];simp),if_pos hk]
theorem do_2 {y:Yard}{d:Deed}(h:aV d=true) (hk:d.kind=2):gB y d.worker d.draw=doD y d:=by unfold doD;rw[if_neg (by rw[h];simp),if_neg aA,if_pos hk]
theorem do_3 {y:Yard}{d:Deed}(h:aV d=true) (hk:d.kind=3):(fH y d.run d.task d.try_,eT (eL y d.run d.task d.try_))=doD y d:=by unfold doD;rw[if_neg (by rw[h];simp),if_neg aA,if_neg aA,if_pos hk]
theorem do_4 {y:Yard}{d:Deed}(h:aV d=true) (hk:d.kind=4):(oZ y d.run d.task d.try_,eT (eL y d.run d.task d.try_))=doD y d:=by unfold doD;rw[if_neg (by rw[h];simp),if_neg aA,if_neg aA,if_neg aA,if_pos hk]
theorem do_5 {y:Yard}{d:Deed}(h:aV d=true) (hk:d.kind=5):((eE y).1,eT (eE y).2)=doD y d:=by unfold doD;rw[if_neg (by rw[h];simp),if_neg aA,if_neg aA,if_neg aA,if_neg aA,if_pos hk]
theorem do_6 {y:Yard}{d:Deed}(h:aV d=true) (hk:d.kind=6):((bQ y d.run).1,eT (bQ y d.run).2)=doD y d:=by unfold doD;rw[if_neg (by rw[h];simp),if_neg aA,if_neg aA,if_neg aA,if_neg aA,if_neg aA,if_pos hk]
theorem do_7 {y:Yard}{d:Deed}(h:aV d=true) (hk:d.kind=7):((bE y d.run).1,eT (bE y d.run).2)=doD y d:=by unfold doD;rw[if_neg (by rw[h];simp),if_neg aA,if_neg aA,if_neg aA,if_neg aA,if_neg aA,if_neg aA,if_pos hk]
theorem do_8 {y:Yard}{d:Deed}(h:aV d=true) (hk:d.kind=8) (c:Int) (hc:(if aG y=true then 0 else 8)=c):(dO y,eT c)=doD y d:=by unfold doD;rw[if_neg (by rw[h];simp),if_neg aA,if_neg aA,if_neg aA,if_neg aA,if_neg aA,if_neg aA,if_neg aA,<- hc]
theorem bP5 (y:Yard) (a b c:Int):(eT (eL y a b c)).ok:=fY (by have:=askF_rng y a b c;omega)
theorem Do_s (y:Yard) (d:Deed) (hw:y.wt<=1048576):Ct1 prog 79 [.S y,.S d] [.S (doD y d).1,.S (doD y d).2]:=
 .one (doD y d) (rk:=fun q=>[.S q.1,.S q.2])<|vc func79 (fun (hg:gin [Par.S y,Par.S d])=>let gy:=hg.1.1
  let gd:d.ok:=hg.2.1.1
  .c func130 (cB5 d) (hg:=⟨gd,trivial⟩) fun _=>.v (aV d)
   (fun h=>.c func117 (fJ y hw) (hg:=⟨gy,trivial⟩) fun _=>.rt (y,eT 5) ⟨do_0 h,gy,fY aA,trivial⟩)
   (fun h=>let hk:=cO0 h
    .s (d.kind=1)
    (fun h1=>.c func132 (Submit_s y d.run d.plan hw (dd_wt h)) (hg:=⟨gy,gd.2.2.1,trivial⟩) fun hz=>.rt ((aY y d.run d.plan).1,eT (aY y d.run d.plan).2) ⟨do_1 h h1,hz.1.1,fY (wG y d.run d.plan),trivial⟩)
    (fun h1=>.s (d.kind=2)
    (fun h2=>.c func133 (Poll_s y d.worker d.draw hw gd.2.2.2.2.2.2) (hg:=⟨gy,trivial⟩) fun hz=>.rt (gB y d.worker d.draw) ⟨do_2 h h2,hz.1.1,hz.2.1.1,trivial⟩)
    (fun h2=>.s (d.kind=3)
    (fun h3=>.c func134 (Complete_s y d.run d.task d.try_ hw) (hg:=⟨gy,trivial⟩) fun hz=>.rt (fH y d.run d.task d.try_,eT (eL y d.run d.task d.try_)) ⟨do_3 h h3,hz.1.1,bP5 _ _ _ _,trivial⟩)
    (fun h3=>.s (d.kind=4)
    (fun h4=>.c func135 (Fail_s y d.run d.task d.try_ hw) (hg:=⟨gy,trivial⟩) fun hz=>.rt (oZ y d.run d.task d.try_,eT (eL y d.run d.task d.try_)) ⟨do_4 h h4,hz.1.1,bP5 _ _ _ _,trivial⟩)
    (fun h4=>.s (d.kind=5)
    (fun h5=>.c func136 (Tick_s y hw) (hg:=⟨gy,trivial⟩) fun hz=>.rt ((eE y).1,eT (eE y).2) ⟨do_5 h h5,hz.1.1,fY (aP7 y),trivial⟩)
    (fun h5=>.s (d.kind=6)
    (fun h6=>.c func137 (Cancel_s y d.run hw) (hg:=⟨gy,trivial⟩) fun hz=>.rt ((bQ y d.run).1,eT (bQ y d.run).2) ⟨do_6 h h6,hz.1.1,fY (wV y d.run),trivial⟩)
    (fun h6=>.s (d.kind=7)
    (fun h7=>.c func138 (Forget_s y d.run gd.2.1 hw) (hg:=⟨gy,trivial⟩) fun hz=>.rt ((bE y d.run).1,eT (bE y d.run).2) ⟨do_7 h h7,hz.1.1,fY (wP y d.run),trivial⟩)
    (fun h7=>.c func139 (Restart_s y hw) (hg:=⟨gy,trivial⟩) fun hz=>.c func74 (lR y hw) (hg:=⟨gy,trivial⟩) fun _=>.v (aG y)
     (fun h9=>.rt (dO y,eT 8) ⟨do_8 h aA 8 (by rw[h9];rfl),hz.1.1,fY aA,trivial⟩)
     (fun h9=>.rt (dO y,eT 0) ⟨do_8 h aA 0 (by rw[h9];rfl),hz.1.1,fY aA,trivial⟩)))))))))) aB
section
variable {p q:Entry->Bool}{xs:List Entry}{k m c:Nat}{e:Entry}{g:Nat×Nat×List Entry}
theorem cN9 (hpq:∀e,q e = !p e) (h:xs.any p=false):xs=xs.filter q:=by
 symm;rw[filter_eq_self];intro x hx;rw[hpq,Bool.not_eq_true'];simpa using any_eq_false.1 h x hx
theorem dl_some (hpq:∀e,q e = !p e) (hk:xs[k]? = some e) (h:(xs.take k).any p=false) (hp:p e=true):xs.take k=(xs.take (k+1)).filter q:=by
 rw[<- dJ hk,filter_append,<- cN9 hpq h];simp[hpq,hp]
theorem dl_any (h:xs[k]? = some e) (h0:(xs.take k).any p=false) (hp:¬p e=true):(xs.take (k+1)).any p=false:=by
 rw[<- dJ h,any_append,h0];simp[hp]
def DlF (q:Entry->Bool) (xs:List Entry):Option Nat->Prop
 | none=>xs=xs.filter q
 | some k=>k<xs.length/\xs.take k=(xs.take (k+1)).filter q
structure DlJ (q:Entry->Bool) (xs:List Entry) (g:Nat×Nat×List Entry):Prop where
 lt:g.2.1<g.1
 le:g.1<=xs.length
 len:g.2.2.length=xs.length
 tk:g.2.2.take g.2.1=(xs.take g.1).filter q
 dr:g.2.2.drop g.1=xs.drop g.1
theorem DlJ.at_ (h:DlJ q xs g) (he:g.2.2[g.1]? = some e):xs[g.1]? = some e:=by
 have h1:(g.2.2.drop g.1)[0]? = some e:=by simpa using he
 rw[h.dr]at h1;simpa using h1
theorem DlJ.dr1 (h:DlJ q xs g):g.2.2.drop (g.1+1)=xs.drop (g.1+1):=by
 have:=congrArg (fun l=>l.drop 1) h.dr;simpa [drop_drop,Nat.add_comm] using this
theorem DlJ.skip (h:DlJ q xs g) (he:g.2.2[g.1]? = some e) (hq:q e=false):DlJ q xs (g.1+1,g.2.1,g.2.2):=by
 have h1:=h.at_ he;have h2:=(gsi_.1 h1).1;have h3:=h.lt;exact⟨by show g.2.1<g.1+1;omega,h2,h.len,by show g.2.2.take g.2.1=(xs.take (g.1+1)).filter q;rw[<- dJ h1,filter_append,h.tk];simp[hq],h.dr1⟩
theorem DlJ.keep (h:DlJ q xs g) (he:g.2.2[g.1]? = some e) (hq:q e=true):DlJ q xs (g.1+1,g.2.1+1,g.2.2.set g.2.1 e):=by
 have h1:=h.at_ he;have h2:=(gsi_.1 h1).1;have h3:=h.lt;have h4:=h.len;refine⟨by show g.2.1+1<g.1+1;omega,h2,by show (g.2.2.set g.2.1 e).length=_;rw[length_set,h4],?_,?_⟩
 ·show (g.2.2.set g.2.1 e).take (g.2.1+1)=(xs.take (g.1+1)).filter q;rw[<- dJ h1,filter_append,<- h.tk,<- dJ (getElem?_set_self (show g.2.1<g.2.2.length by omega)),take_set_of_le (Nat.le_refl _)];simp[hq]
 show (g.2.2.set g.2.1 e).drop (g.1+1)=xs.drop (g.1+1);rw[drop_set_of_lt aA];exact h.dr1
theorem DlJ.all (h:DlJ q xs g) (hn:¬(g.1:Int)<g.2.2.length):g.2.2.take g.2.1=xs.filter q:=by
 have h4:=h.len;rw[h.tk,take_of_length_le aA]
end
noncomputable def delD (j:Nat) (xs:List Entry) (hl:xs.length<=1048576) (p q:Entry->Bool) (hpq:∀e,q e = !p e) (call:∀{A:Type}{R:A->Prop}(e:Entry),Dsh.good e->D prog R->D prog R):D prog (fun _:Unit=>True):=
 .in_ (R':=DlF q xs) func292 (
  .la (Γ:=Nat) (fun k=>k<=xs.length/\(xs.take k).any p=false) (fun k=>xs.length-k) (fun k=>[vI 8 k]) (fun _=>[]) 0 (h:=⟨Nat.zero_le _,rfl⟩) fun k hk t=>
   .s ((k:Int)<xs.length)
    (fun h=>.x xs k (h:=by omega) fun e he ge=>call e ge<|.sb (p e)
     (fun hp=>.rt (some k) ⟨by omega,dl_some hpq he hk.2 hp⟩)
     (fun hp=>.p k 1<|.n t (k+1) [] (h1:=⟨by omega,dl_any he hk.2 (by rw[hp];simp)⟩)))
    (fun h=>.rt none (cN9 hpq (by have:=hk.2;rwa [take_of_length_le aA]at this)))) fun o=>match o with
 | none=>fun ho=>.kt ((-1:Int) = -1) rfl<|.g j ho<|.rt () trivial
 | some k=>fun ho=>let hk:k<xs.length:=ho.1
  .kf ((k:Int) = -1) aA<|.p k 1<|.la (Γ:=Nat×Nat×List Entry) (DlJ q xs) (fun g=>xs.length-g.1) (fun g=>[vI 6 g.1,vI 5 g.2.1]) (fun g=>[oO j g.2.2]) (k+1,k,xs) (h:=⟨Nat.lt_succ_self k,hk,rfl,ho.2,rfl⟩) fun g hJ t=>
   let h1:=hJ.lt
   let h2:=hJ.le
   let h3:=hJ.len
   .s ((g.1:Int)<g.2.2.length)
    (fun h=>.x g.2.2 g.1 (h:=by omega) fun e he ge=>call e ge<|.v (p e)
     (fun hp=>.ex (p:=fun x=>g.2.2[g.2.1]? = some x) ⟨g.2.2[g.2.1]'(by omega),getElem?_eq_getElem _⟩ fun x hx=>.d j hx fun _=>.i g.2.1<|.wt 34<|.f j g.2.2 e (h:=ge)<|.p g.2.1 1<|.p g.1 1<|.n t (g.1+1,g.2.1+1,g.2.2.set g.2.1 e) [] (h1:=hJ.keep he (by rw[hpq,hp];rfl)) (h2:=by show xs.length-(g.1+1)<_;omega))
     (fun hp=>.p g.1 1<|.n t (g.1+1,g.2.1,g.2.2) [] (h1:=hJ.skip he (by rw[hpq,hp];rfl)) (h2:=by show xs.length-(g.1+1)<_;omega)))
    (fun h=>.dp inferInstance g.2.2 g.2.1 aA g.2.1 rfl<|.cz inferInstance j g.2.2 g.2.1 aA<|.dz<|.g j (hJ.all h)<|.rt () trivial)
theorem cP1 (y:Yard) (sh:Int) (hw:y.wt<=1048576):Ct1 prog 237 [.S y,.I sh] [.S (aW y sh)]:=
 .one (aW y sh) (rk:=fun x=>[.S x])<|vc func237 (fun (hg:gin [Par.S y,Par.I sh])=>let gy:=hg.1.1
  let hsl:=fC y hw
  .c func149 (fK y hw) (hg:=⟨gy,trivial⟩) fun _=>.m (y.shelf.length:Int) 1 (h:=by unfold I64;omega)<|.c func50 (bL sh 0 ((y.shelf.length:Int)-1)) fun _=>.v (inB sh 0 ((y.shelf.length:Int)-1))
   (fun h=>.rt y ⟨sw_no h,gy,trivial⟩)
   (fun h=>.ex (xW h) fun l hl=>let hll:=kQ hl hw
    .d 4 hl fun _=>.ie sh.toNat sh (he:=kD h)<|.in_ func253 (delD 8 l aA (fun e=> !fresh y e) (fresh y) (fun e=>(Bool.not_not _).symm)
     (fun e ge d=>.in_ (R':=fun _:Unit=>True) func289 (.c func230 (cQ1 y e hw) (hg:=⟨gy,ge,trivial⟩) fun _=>.rt () trivial) fun _ _=>d)) fun _ _=>
    .ie sh.toNat sh (he:=kD h)<|.wt 26<|.f 4 y.shelf (l.filter (fresh y)) (h:=trivial) <|
     .rt ⟨y.now,y.seq,y.shelf.set sh.toNat (l.filter (fresh y)),y.runs⟩ ⟨sw_in h hl,gy,trivial⟩)) aB
noncomputable def delRunInc (xs:List Run) (k:Nat) (hk:k<xs.length) (hxl:xs.length<=1048576) (e1 e2:Int) (h1:e1=k) (h2:e2=(k:Int)+1):Inc prog 252 (fun _:Unit=>True) where
 T:=fun s us K=>match us with
  | [.on (.ce (.rf j h)),.on (.ce (.vl v1)),.on (.ce (.vl v2))]=>match lku s.O j with
   | some (.own i h' xs' _)=>.e0 h h'<|.e1 (⟨i,xs'⟩:Dat) ⟨instShapeRun,xs⟩<|.e0 v1 (I e1)<|.e0 v2 (I e2)<|.fn fun r:Hd×List Nat=>K () (.on (.ce (.rf j r.1))) ⟨s.E,(j,.own instShapeRun r.1 (xs.eraseIdx k) r.2)::bJ s.O j,lasting s.B,s.nx⟩
   | _=>.no
  | _=>.no
 ok:=by
  intro w0 W s us K h st fa;split at h
  ·next j hd v1 v2=>
   split at h
   ·next i h' xs' fp hj=>
    obtain⟨rfl,h2',h3,h4,h5⟩:=h;subst h1 h2;simp only[Dat.mk.injEq]at h2';obtain⟨rfl,h6,h7⟩:=h2';obtain⟨rfl,rfl⟩:=And.intro (eq_of_heq h6) (eq_of_heq h7);subst h3 h4;have st2:=St.take (rs:=[]) (by simpa [Or,S.rs] using st) hj;rw[append_nil]at st2;refine(DeleteRun st2 hk hxl).mono ?_;rintro e W' ⟨v',fp',rfl,st'⟩;obtain⟨hd,rfl,_⟩:=Sl.hd (jS (st'.get 0 rfl));exact⟨(),.on (.ce (.rf j hd)),_,trivial,h5 (hd,fp'),rfl,st',fa.lasting⟩
   exact h.elim
  exact h.elim
theorem fg_8 {y:Yard}{id:Int}(h:aG y=false):(y,(8:Int))=bE y id:=by unfold bE;rw[if_pos h]
theorem Forget_i (y:Yard) (id:Int) (hid:I64 id) (hw:y.wt<=1048576):Ct1 prog 174 [.S y,.I id] [.S (bE y id).1,.I (bE y id).2]:=
 .one (bE y id) (rk:=fun q=>[.S q.1,.I q.2])<|vc func174 (fun (hg:gin [Par.S y,Par.I id])=>let gy:=hg.1.1
  let hsl:=fC y hw
  .c func149 (fK y hw) (hg:=⟨gy,trivial⟩) fun _=>.c func155 (lV y id hw) (hg:=⟨gy,trivial⟩) fun _=>.c func91 (lT y hw) (hg:=⟨gy,trivial⟩) fun _=>.v (aG y)
   (fun h=>.rt (y,8) ⟨fg_8 h,gy,trivial⟩)
   (fun h=>.s (aI y id<0)
    (fun h2=>.rt (y,10) ⟨(aA3 h h2).symm,gy,trivial⟩)
    (fun h2=>.ex (zK h2) fun r hr=>let hrl:(aI y id).toNat<y.runs.length:=(gsi_.1 hr).1
     .ye hr (aI y id) (he:=tJ h2) fun gr=>.s (r.state=1)
      (fun h3=>.rt (y,13) ⟨by rw[nZ h h2 hr,if_pos h3],gy,trivial⟩)
      (fun h3=>.p (aI y id) 1<|.iv _ func252 (delRunInc y.runs (aI y id).toNat hrl aA (aI y id) (aI y id+1) (tJ h2) aA) fun _ _=>
       .g 5 (fgTo_zero id y.shelf).symm<|.la (Γ:=Nat) (fun k=>k<=y.shelf.length) (fun k=>y.shelf.length-k) (fun k=>[vI 42 k]) (fun k=>[oO 5 (wA id y.shelf k)]) 0 fun k hk t=>
        .s ((k:Int)<y.shelf.length)
         (fun h4=>.ex (p:=fun l=>y.shelf[k]? = some l) ⟨y.shelf[k]'(by omega),getElem?_eq_getElem _⟩ fun l hl=>let hll:=kQ hl hw
          .d 5 (aA7 (id:=id) hl) fun _=>.i k<|.in_ func253 (delD 12 l hll (fun e=>decide (e.run=id)) (fun e=> !decide (e.run=id)) (fun _=>rfl)
           (fun e ge d=>.in_ (R':=fun _:Unit=>True) func254 (.rt () trivial) fun _ _=>d)) fun _ _=>
          .i k<|.wt 55<|.f 5 (wA id y.shelf k) (flE id l) (h:=trivial)<|.g 5 (bZ2 (id:=id) hl)<|.p k 1<|.n t (k+1) [])
         (fun h4=>.g 5 (bZ3 (id:=id) (xss:=y.shelf) (show k=y.shelf.length by omega))<|.rt (bY9 y id (aI y id).toNat,0) ⟨by rw[nZ h h2 hr,if_neg h3],gy,trivial⟩)))) ) aB
theorem RunLeft_i (r:Run) (hl:r.plan.edges.length<=1048576) (htl:r.tasks.length<=1048576):Ct1 prog 251 [.S r] [.S (iQ r)]:=
 .one (iQ r) (rk:=fun x=>[.S x])<|vc func251 (fun (hg:gin [Par.S r])=>let gr:=hg.1.1
  .c func222 (aH7 r hl htl) (hg:=⟨gr,trivial⟩) fun _=>.c func154 (cP4 r) (hg:=⟨gr,trivial⟩) fun _=>.sb (eZ r)
   (fun h=>.s (r.state=1)
    (fun h1=>.cm _ func291 (cP9 r (-1) htl) trivial fun _ _ _ _=>.rt ⟨r.id,r.plan,4,fB r.tasks (-1)⟩ ⟨(aN9 (by unfold tT;rw[h,decide_eq_true h1];rfl)).symm,⟨gr.1,gr.2.1,by show I64 4;unfold I64;omega⟩,trivial⟩)
    (fun h1=>.rt r ⟨cM4 h1,gr,trivial⟩))
   (fun h=>.rt r ⟨cM3 h,gr,trivial⟩)) aB
theorem Cancel_i (y:Yard) (id:Int) (hw:y.wt<=1048576):Ct1 prog 173 [.S y,.I id] [.S (bQ y id).1,.I (bQ y id).2]:=
 .one (bQ y id) (rk:=fun q=>[.S q.1,.I q.2])<|vc func173 (fun (hg:gin [Par.S y,Par.I id])=>let gy:=hg.1.1
  .c func149 (fK y hw) (hg:=⟨gy,trivial⟩) fun _=>.c func155 (lV y id hw) (hg:=⟨gy,trivial⟩) fun _=>.c func91 (lT y hw) (hg:=⟨gy,trivial⟩) fun _=>.v (aG y)
   (fun h=>.rt (y,8) ⟨dB2 h,gy,trivial⟩)
   (fun h=>.s (aI y id<0)
    (fun h2=>.rt (y,10) ⟨(aC1 h h2).symm,gy,trivial⟩)
    (fun h2=>.ex (zK h2) fun r hr=>.ye hr (aI y id) (he:=tJ h2) fun gr=>let hrl:=kA hw hr
     .u (r.state=1)
      (fun h3=>.rt (y,12) ⟨by rw[oE h h2 hr,if_pos h3],gy,trivial⟩)
      (fun h3=>.d 5 hr fun _=>.ye hr (aI y id) (he:=tJ h2) fun _=>.c func251 (RunLeft_i r hrl.2.2 hrl.2.1) (hg:=⟨gr,trivial⟩) fun _=>.ie (aI y id).toNat (aI y id) (he:=tJ h2)<|.wt 41<|.f 5 y.runs (iQ r) (h:=bY1 gr) <|
       .rt (cO4 y (aI y id).toNat r,0) ⟨by rw[oE h h2 hr,if_neg (by simp[h3])],gy,trivial⟩)))) aB
theorem Submit_i (y:Yard) (id:Int) (p:Plan) (hw:y.wt<=1048576) (hp:p.wt<=1048576):Ct1 prog 168 [.S y,.I id,.S p] [.S (aY y id p).1,.I (aY y id p).2]:=
 .one (aY y id p) (rk:=fun q=>[.S q.1,.I q.2])<|vc func168 (fun (hg:gin [Par.S y,Par.I id,Par.S p])=>let gy:=hg.1.1
  let gp:p.ok:=hg.2.1.1
  .c func149 (CopyYardR_i y hw) (hg:=⟨gy,trivial⟩) fun _=>.c func91 (lT y hw) (hg:=⟨gy,trivial⟩) fun _=>.v (aG y) (fun h0=>.rt (y,8) ⟨sub_8 h0,gy,trivial⟩) (fun h0=>
  .c func50 (bL id 1 9999) fun _=>.v (inB id 1 9999) (fun h1=>.rt (y,5) ⟨sub_5 h0 h1,gy,trivial⟩) (fun h1=>
  .c func155 (lV y id hw) (hg:=⟨gy,trivial⟩) fun _=>.s ((0:Int)<=aI y id) (fun h2=>.rt (y,6) ⟨sub_6 h0 h1 h2,gy,trivial⟩) (fun h2=>
  .c func225 (kU p) (hg:=⟨gp,trivial⟩) fun _=>.u (aC p=0) (fun h3=>.c func225 (kU p) (hg:=⟨gp,trivial⟩) fun _=>.rt (y,aC p) ⟨sub_p h0 h1 h2 h3,gy,trivial⟩) (fun h3=>
  .c func234 (RoomFor_i y p hw) (hg:=⟨gy,gp,trivial⟩) fun _=>.v (jA y p) (fun h4=>.rt (y,7) ⟨sub_7 h0 h1 h2 h3 h4,gy,trivial⟩) (fun h4=>let hj:=sub_j gp h0 h1 h3 h4
  .c func235 (new_t hj.nw (RunNew_i id p)) (hg:=⟨gp,trivial⟩) fun hz=>let gr:(aZ id p).ok:=hz.1.1
  .az inferInstance y.runs (aZ id p) gr 96 (by have:=hj.r8;unfold maxLen;omega) (by have:=hj.r8;omega)<|.c func227 (mJ (aZ id p) 2 (by have:=hj.tl;omega)) (hg:=⟨gr,trivial⟩) fun _=>.in_ func236 (cT9 8 6 7 y.now y.seq y.shelf (aZ id p) (aK (aZ id p).tasks 2) hj.ss (by have:=hj.ln;have:=hj.tk;omega) hj.sq gr) fun q hq=>.zr 7<|.rt (⟨y.now,q.1,q.2,y.runs++[aZ id p]⟩,0) ⟨sub_0 h0 h1 h2 h3 h4 hq,sub_g hj hq,trivial⟩)))))) aB
theorem dB1 {y out:Yard}{n k i:Nat}{r:Run}{t:Task}(hY:YardIs y) (h:RI y out n) (hn:n<=900) (hr:out.runs[k]? = some r) (ht:r.tasks[i]? = some t) (h3:t.state=3) (hR:RunIs r):(r.ok/\r.tasks.length<=12)/\(4<=out.shelf.length/\(out.shelf.getD (aX (bP r i).id).toNat []).length<=1000000/\(0<=out.seq/\out.seq<=4000000000))/\(bP r i).tasks.length<=1000/\(bP r i).ok/\dV out k r (bP r i)=kM out k i:=by
 have h1:=hR.small;have h2:=(hR.fails ht h3).small;exact⟨⟨h1.1,h1.2.1⟩,h.chg hY aA _,by omega,h2.1,(cF9 hr ht h3).symm⟩
structure LtI (y out:Yard) (j k i:Nat) (id tr:Int) (r:Run) (t:Task):Prop where
 p:(cT y)[j]? = some (k,i)
 row:((cT y).map (gP y))[j]? = some [id,(i:Int),tr]
 ix:aI out id=(k:Int)
 hr:out.runs[k]? = some r
 is:RunIs r
 ht:r.tasks[i]? = some t
 ho:fX out id (i:Int) tr=decide (t.state=3)
theorem li_at {y out:Yard}{n j:Nat}{m:Int}(hY:YardIs y) (hm:0<=m/\m<=999999980) (h:RI (nQ m y) out n) (hj:j<(cT y).length):∃q:(Nat×Nat)×(Int×Int)×Run×Task,LtI y out j q.1.1 q.1.2 q.2.1.1 q.2.1.2 q.2.2.1 q.2.2.2:=by
 obtain⟨k,i,r,t,hp,hr,ht,hrow⟩:=bX0 hj;obtain⟨r2,t2,h1,h2,h3,h4⟩:=h.holds (hY.at hm) hr ht;exact⟨((k,i),(r.id,t.try_),r2,t2),⟨hp,hrow,dC (h.ix (hY.at hm) hr),h1,h2,h3,h4⟩⟩
theorem tick_e {y out:Yard}{j:Nat}(h0:aG y=true) (h:¬999999980<y.now+1) (ho:out=lX (nQ (y.now+1) y) ((cT y).take j)) (hj:¬j<(cT y).length):(out,(0:Int))=eE y:=by
 unfold eE;rw[if_neg (by rw[h0];simp),if_neg h];unfold bS0;rw[ho,take_of_length_le aA]
theorem Tick_i (y:Yard) (hw:y.wt<=1048576):Ct1 prog 172 [.S y] [.S (eE y).1,.I (eE y).2]:=
 .one (eE y) (rk:=fun q=>[.S q.1,.I q.2])<|vc func172 (fun (hg:gin [Par.S y])=>let gy:=hg.1.1
  .c func149 (fK y hw) (hg:=⟨gy,trivial⟩) fun _=>.c func91 (lT y hw) (hg:=⟨gy,trivial⟩) fun _=>.v (aG y)
   (fun h=>.rt (y,8) ⟨bR8 h,gy,trivial⟩)
   (fun h=>let hY:=kE h
    let hn:=hY.now
    .p y.now 1<|.s (999999980<y.now+1)
     (fun h7=>.rt (y,7) ⟨bR9 h h7,gy,trivial⟩)
     (fun h7=>let hln:=cX9 hY
      let hml:((cT y).map (gP y)).length=(cT y).length:=length_map _
      let hm:0<=y.now+1/\y.now+1<=999999980:=aA
      .p y.now 1<|.c func248 (LateOf_i y hY) (hg:=⟨gy,trivial⟩) fun _=>
      .la (Γ:=Nat×Yard) (fun g=>g.1<=(cT y).length/\g.2=lX (nQ (y.now+1) y) ((cT y).take g.1)) (fun g=>(cT y).length-g.1) (fun g=>[vI 27 g.1]) (fun g=>oO 7 ((cT y).map (gP y))::ryS g.2 6 4 5) (0,nQ (y.now+1) y) (h:=⟨Nat.zero_le _,(xB _ _).symm⟩) fun g hJ tk=>
       let hRI:RI (nQ (y.now+1) y) g.2 200:=(by rw[hJ.2];exact(RI.list (hY.at hm) (l:=cT y) (fun p hp=>aN5 (y:=y) p hp) g.1).mono aA)
       .s ((g.1:Int)<((cT y).map (gP y)).length)
        (fun hlt=>.ex (li_at hY hm hRI (show g.1<(cT y).length by omega)) fun q hq=>
         let row:=[q.2.1.1,(q.1.2:Int),q.2.1.2]
         let i0:row[0]? = some q.2.1.1:=rfl
         let i1:row[1]? = some (q.1.2:Int):=rfl
         let i2:row[2]? = some q.2.1.2:=rfl
         .d 7 hq.row fun _=>.i g.1<|.y i0 fun _=>.y i1 fun _=>.y i2 fun _=>.c func249 (bQ2 g.2 q.2.1.1 (q.1.2:Int) q.2.1.2 (Nat.le_trans (hRI.wt (hY.at hm) aA) aA)) (hg:=⟨hRI.ok (hY.at hm) aA,trivial⟩) fun _=>.sb (fX g.2 q.2.1.1 (q.1.2:Int) q.2.1.2)
          (fun hh=>let h3:q.2.2.2.state=3:=of_decide_eq_true (hq.ho.symm.trans hh)
           let hT:=dB1 (hY.at hm) hRI aA hq.hr hq.ht h3 hq.is
           .y i0 fun _=>.c func155 (lV g.2 q.2.1.1 (Nat.le_trans (hRI.wt (hY.at hm) aA) aA)) (hg:=⟨hRI.ok (hY.at hm) aA,trivial⟩) fun _=>
           .in_ func243 (aO4 6 4 5 22 g.2.now g.2.seq g.2.shelf g.2.runs q.1.1 (aI g.2 q.2.1.1) hq.ix q.2.2.1 (bP q.2.2.1 q.1.2) hq.hr aA hT.2.2.1 hT.1.1 hT.2.2.2.1 hT.2.1.1 hT.2.1.2.1 hT.2.1.2.2
            (fun d=>.in_ (R':=fun _:Unit=>True) func250 (.y i1 fun _=>.cm _ func247 (bQ6 q.2.2.1 (q.1.2:Int) q.2.2.2 aA hq.ht aA) trivial fun _ _ _ _=>.rt () trivial) fun _ _=>d)) fun z hz=>
           .f 7 ((cT y).map (gP y)) row (h:=trivial)<|.g 7 (zD hq.row)<|.p g.1 1<|.n tk (g.1+1,⟨g.2.now,z.1,z.2,g.2.runs.set q.1.1 (bP q.2.2.1 q.1.2)⟩) [] (h1:=⟨by show g.1+1<=_;omega,by show (⟨g.2.now,z.1,z.2,_⟩:Yard)=_;rw[bK4 hz,hT.2.2.2.2,oM hq.p,<- hJ.2]⟩) (h2:=by show (cT y).length-(g.1+1)<_;omega))
          (fun hh=>let h3:¬q.2.2.2.state=3:=of_decide_eq_false (hq.ho.symm.trans hh)
           .f 7 ((cT y).map (gP y)) row (h:=trivial)<|.g 7 (zD hq.row)<|.p g.1 1<|.n tk (g.1+1,g.2) [] (h1:=⟨by show g.1+1<=_;omega,by show g.2=_;rw[oM hq.p,<- hJ.2];exact(aM2 hq.hr hq.ht h3).symm⟩) (h2:=by show (cT y).length-(g.1+1)<_;omega)))
        (fun hge=>.rt (g.2,0) ⟨tick_e (j:=g.1) h h7 hJ.2 aA,hRI.ok (hY.at hm) aA,trivial⟩)))) aB
theorem Restart_i (y:Yard) (hw:y.wt<=1048576):Ct1 prog 175 [.S y] [.S (dO y)]:=
 .one (dO y) (rk:=fun x=>[.S x])<|vc func175 (fun (hg:gin [Par.S y])=>let gy:=hg.1.1
  .c func149 (fK y hw) (hg:=⟨gy,trivial⟩) fun _=>.c func91 (lT y hw) (hg:=⟨gy,trivial⟩) fun _=>.v (aG y)
   (fun h=>.rt y ⟨by unfold dO;rw[if_neg (by rw[h];simp)],gy,trivial⟩)
   (fun h=>let hY:=kE h
    let h8:=hY.runs
    .la (Γ:=Nat×Yard) (fun g=>g.1<=y.runs.length/\g.2=mZ y g.1) (fun g=>y.runs.length-g.1) (fun g=>[vI 17 g.1]) (fun g=>ryS g.2 6 4 5) (0,y) (h:=⟨Nat.zero_le _,rfl⟩) fun g hJ tk=>
     let hRK:RI y g.2 96:=(by rw[hJ.2];exact bT3 hY hJ.1)
     .s ((g.1:Int)<y.runs.length)
      (fun hlt=>.x y.runs g.1 (h:=by omega) fun r1 hr1 gr1=>
       let hl12:=(hY.run g.1 r1 hr1).1.small.2.1
       .la (Γ:=Nat×Yard) (fun q=>q.1<=r1.tasks.length/\q.2=qX (mZ y g.1) g.1 q.1) (fun q=>r1.tasks.length-q.1) (fun q=>[vI 25 q.1]) (fun q=>ryS q.2 6 4 5) (0,g.2) (h:=⟨Nat.zero_le _,hJ.2⟩) fun q hq tq=>
        let hRI:RI y q.2 200:=(by rw[hq.2];exact cJ2 hY hr1 hq.1)
        .s ((q.1:Int)<r1.tasks.length)
         (fun hl2=>.x r1.tasks q.1 (h:=by omega) fun t1 ht1 gt1=>.ex (p:=fun z:Run×Task=>q.2.runs[g.1]? = some z.1/\RunIs z.1/\z.1.tasks[q.1]? = some z.2/\fX q.2 r1.id (q.1:Int) t1.try_=decide (z.2.state=3)) (by obtain⟨r2,t2,h1,h2,h3,h4⟩:=hRI.holds hY hr1 ht1;exact⟨(r2,t2),h1,h2,h3,h4⟩) fun z hz=>
          .c func249 (bQ2 q.2 r1.id (q.1:Int) t1.try_ (Nat.le_trans (hRI.wt hY aA) aA)) (hg:=⟨hRI.ok hY aA,trivial⟩) fun _=>.sb (fX q.2 r1.id (q.1:Int) t1.try_)
          (fun hh=>let h3:z.2.state=3:=of_decide_eq_true (hz.2.2.2.symm.trans hh)
           let hT:=dB1 hY hRI aA hz.1 hz.2.2.1 h3 hz.2.1
           .in_ func243 (aO4 6 4 5 20 q.2.now q.2.seq q.2.shelf q.2.runs g.1 (g.1:Int) rfl z.1 (bP z.1 q.1) hz.1 aA hT.2.2.1 hT.1.1 hT.2.2.2.1 hT.2.1.1 hT.2.1.2.1 hT.2.1.2.2
            (fun d=>.in_ (R':=fun _:Unit=>True) func255 (.cm _ func247 (bQ6 z.1 (q.1:Int) z.2 aA hz.2.2.1 aA) trivial fun _ _ _ _=>.rt () trivial) fun _ _=>d)) fun u hu=>
           .p q.1 1<|.n tq (q.1+1,⟨q.2.now,u.1,u.2,q.2.runs.set g.1 (bP z.1 q.1)⟩) [] (h1:=⟨by show q.1+1<=_;omega,by show (⟨q.2.now,u.1,u.2,_⟩:Yard)=_;rw[bK4 hu,hT.2.2.2.2,hq.2];rfl⟩) (h2:=by show r1.tasks.length-(q.1+1)<_;omega))
          (fun hh=>let h3:¬z.2.state=3:=of_decide_eq_false (hz.2.2.2.symm.trans hh)
           .p q.1 1<|.n tq (q.1+1,q.2) [] (h1:=⟨by show q.1+1<=_;omega,by show q.2=kM (qX (mZ y g.1) g.1 q.1) g.1 q.1;rw[<- hq.2];exact(aM2 hz.1 hz.2.2.1 h3).symm⟩) (h2:=by show r1.tasks.length-(q.1+1)<_;omega)))
         (fun hl2=>.p g.1 1<|.n tk (g.1+1,q.2) [] (h1:=⟨by show g.1+1<=_;omega,by show q.2=_;rw[hq.2];exact bT4 hr1 aA⟩) (h2:=by show y.runs.length-(g.1+1)<_;omega)))
      (fun hge=>.rt g.2 ⟨by unfold dO;rw[if_pos h,hJ.2];congr 1;omega,hRK.ok hY aA,trivial⟩))) aB
theorem aP5 {g:Run->Nat->Run}{y:Yard}{id task try_:Int}{k:Nat}{r:Run}{q:Int×List (List Entry)}(h:eL y id task try_=0) (hk:cJ y id=some k) (hr:y.runs[k]? = some r) (hq:yH (g r task.toNat) (dU r (g r task.toNat)) y.seq y.shelf q):((⟨y.now,q.1,q.2,y.runs.set k (g r task.toNat)⟩,eL y id task try_):Yard×Int)=(wF g y id task try_,eL y id task try_):=by
 have hq:q=_:=hq;subst hq;rw[qS h hk hr];rfl
theorem cG2 {g:Run->Nat->Run}{y:Yard}{id task try_:Int}{k:Nat}{r:Run}{q:Int×List (List Entry)}(hY:YardIs y) (h:eL y id task try_=0) (hk:cJ y id=some k) (hr:y.runs[k]? = some r) (hl:(g r task.toNat).tasks.length<=1000) (hq:yH (g r task.toNat) (dU r (g r task.toNat)) y.seq y.shelf q):(⟨y.now,q.1,q.2,y.runs.set k (g r task.toNat)⟩:Yard).ok:=by
 have:=congrArg Prod.fst (aP5 h hk hr hq);simp only at this;rw[this,qS h hk hr];exact yA hY hl
theorem cG1 {g:Run->Nat->Run}{y:Yard}{id task try_:Int}(h:¬eL y id task try_=0):(y,eL y id task try_)=(wF g y id task try_,eL y id task try_):=by rw[qQ h]
structure AskJ (y:Yard) (id task:Int) (q:Nat×Run×Task):Prop where
 Y:YardIs y
 ix:cJ y id=some q.1
 at_:y.runs[q.1]? = some q.2.1
 R:RunIs q.2.1
 pos:0<=task
 tk:q.2.1.tasks[task.toNat]? = some q.2.2
 run:q.2.2.state=3
theorem dC0 {y:Yard}{id task try_:Int}(h:eL y id task try_=0):∃q,AskJ y id task q:=by
 obtain⟨hY,k,r,t,h1,h2,h3,h4,h5,h6⟩:=aG8 h;exact⟨(k,r,t),hY,h1,h2,h3,h4,h5,h6⟩
theorem AskJ.small {y:Yard}{id task:Int}{q:Nat×Run×Task}(h:AskJ y id task q):q.2.1.ok/\q.2.1.tasks.length<=12/\4<=y.shelf.length/\(y.shelf.getD (aX q.2.1.id).toNat []).length<=1000000/\(0<=y.seq/\y.seq<=4000000000):=by
 have h1:=h.R.small;have h2:=(RI.start h.Y).chg h.Y (Nat.zero_le _) q.2.1.id;exact⟨h1.1,h1.2.1,h2⟩
theorem Complete_i (y:Yard) (id task try_:Int) (hw:y.wt<=1048576):Ct1 prog 170 [.S y,.I id,.I task,.I try_] [.S (fH y id task try_),.I (eL y id task try_)]:=
 .one (fH y id task try_,eL y id task try_) (rk:=fun q=>[.S q.1,.I q.2])<|vc func170 (fun (hg:gin [Par.S y,Par.I id,Par.I task,Par.I try_])=>let gy:=hg.1.1
  .c func149 (fK y hw) (hg:=⟨gy,trivial⟩) fun _=>.c func242 (dC5 y id task try_ hw) (hg:=⟨gy,trivial⟩) fun _=>.s (eL y id task try_=0)
   (fun h=>.ex (dC0 h) fun z hz=>let hs:=hz.small
    let hk:=nF z.2.1 task.toNat
    .c func155 (lV y id hw) (hg:=⟨gy,trivial⟩) fun _=>.in_ func243 (aO4 7 5 6 14 y.now y.seq y.shelf y.runs z.1 (aI y id) (dC hz.ix) z.2.1 (iW z.2.1 task.toNat) hz.at_ aA (by rw[hk.2.2.1];omega) hs.1 (doneR_ok hs.1 _) hs.2.2.1 (by rw[hk.1];exact hs.2.2.2.1) hs.2.2.2.2
     (fun d=>.in_ (R':=fun _:Unit=>True) func244 (.cm _ func245 (Done_p z.2.1 task z.2.2 hz.pos hz.tk hz.R) trivial fun _ _ _ _=>.rt () trivial) fun _ _=>d)) fun q hq=>
      .rt (⟨y.now,q.1,q.2,y.runs.set z.1 (iW z.2.1 task.toNat)⟩,eL y id task try_) ⟨aP5 h hz.ix hz.at_ hq,cG2 hz.Y h hz.ix hz.at_ (by rw[hk.2.2.1];omega) hq,trivial⟩)
   (fun h=>.rt (y,eL y id task try_) ⟨cG1 h,gy,trivial⟩)) aB
theorem Fail_i (y:Yard) (id task try_:Int) (hw:y.wt<=1048576):Ct1 prog 171 [.S y,.I id,.I task,.I try_] [.S (oZ y id task try_),.I (eL y id task try_)]:=
 .one (oZ y id task try_,eL y id task try_) (rk:=fun q=>[.S q.1,.I q.2])<|vc func171 (fun (hg:gin [Par.S y,Par.I id,Par.I task,Par.I try_])=>let gy:=hg.1.1
  .c func149 (fK y hw) (hg:=⟨gy,trivial⟩) fun _=>.c func242 (dC5 y id task try_ hw) (hg:=⟨gy,trivial⟩) fun _=>.s (eL y id task try_=0)
   (fun h=>.ex (dC0 h) fun z hz=>let hs:=hz.small
    let hk:=lP z.2.1 task.toNat
    .c func155 (lV y id hw) (hg:=⟨gy,trivial⟩) fun _=>.in_ func243 (aO4 7 5 6 14 y.now y.seq y.shelf y.runs z.1 (aI y id) (dC hz.ix) z.2.1 (bP z.2.1 task.toNat) hz.at_ aA (by rw[hk.2.2.1];omega) hs.1 (failsR_ok hs.1 _) hs.2.2.1 (by rw[hk.1];exact hs.2.2.2.1) hs.2.2.2.2
     (fun d=>.in_ (R':=fun _:Unit=>True) func246 (.cm _ func247 (bQ6 z.2.1 task z.2.2 hz.pos hz.tk aA) trivial fun _ _ _ _=>.rt () trivial) fun _ _=>d)) fun q hq=>
      .rt (⟨y.now,q.1,q.2,y.runs.set z.1 (bP z.2.1 task.toNat)⟩,eL y id task try_) ⟨aP5 h hz.ix hz.at_ hq,cG2 hz.Y h hz.ix hz.at_ (by rw[hk.2.2.1];omega) hq,trivial⟩)
   (fun h=>.rt (y,eL y id task try_) ⟨cG1 h,gy,trivial⟩)) aB
theorem pl_robI {y out:Yard}{h:Nat}{o:Int}(hP:PI y out h) (hh:h<4) (ho:0<=o/\o<=3/\o≠(h:Int)):∃q:List Entry×List Entry,(aW out o).shelf[o.toNat]? = some q.1/\(aW out o).shelf[h]? = some q.2/\((aW out o).shelf.set h (dS q.2 (q.1.take (bN q.1))))[o.toNat]? = some q.1/\q.1.length<=80/\q.2.length<=80 /\
  (⟨(aW out o).now,(aW out o).seq,((aW out o).shelf.set h (dS q.2 (q.1.take (bN q.1)))).set o.toNat (q.1.drop (bN q.1)),(aW out o).runs⟩:Yard)=aL7 (aW out o) h o.toNat:=by
 have hs:=hP.sw (o:=o) aA;have hne:h≠o.toNat:=by omega
 exact⟨((aW out o).shelf.getD o.toNat [],(aW out o).shelf.getD h []),getD_some aA,getD_some aA,by rw[getElem?_set_ne hne];exact getD_some aA,hs.2 _ aA,hs.2 _ hh,rfl⟩
theorem Poll_i (y:Yard) (w d:Int) (hw:y.wt<=1048576) (hd:I64 d):Ct1 prog 169 [.S y,.I w,.I d] [.S (gB y w d).1,.S (gB y w d).2]:=
 .one (gB y w d) (rk:=fun q=>[.S q.1,.S q.2])<|vc func169 (fun (hg:gin [Par.S y,Par.I w,Par.I d])=>let gy:=hg.1.1
  .c func91 (lT y hw) (hg:=⟨gy,trivial⟩) fun _=>.v (aG y)
   (fun h=>.c func149 (fK y hw) (hg:=⟨gy,trivial⟩) fun _=>.rt (y,⟨8,0,0,0⟩) ⟨pl_8 h,gy,bC8 8 aA,trivial⟩)
   (fun hy=>let hY:=kE hy
    .c func50 (bL w 0 99) fun _=>.v (inB w 0 99)
    (fun h=>.c func149 (fK y hw) (hg:=⟨gy,trivial⟩) fun _=>.rt (y,⟨5,0,0,0⟩) ⟨pl_5 hy h,gy,bC8 5 aA,trivial⟩)
    (fun hin=>let hwk:=inB_iff.1 hin
     .q w 4 (h:=by omega)<|.c func237 (cP1 y (w % 4) hw) (hg:=⟨gy,trivial⟩) fun _=>.c func238 (Victims_i (w % 4) d aA hd) fun _=>
     let fin:∀(m:Nat) (out:Yard),out=eV (w % 4).toNat (aW y (w % 4)) (bU (w % 4) d)->PI y out (w % 4).toNat->out.ok->D prog (fun q:Yard×Reply=>q=gB y w d/\rgd [Rk.S q.1,Rk.S q.2]):=fun m out ho hP go=>
      let hl:=aN3 hP (show (w % 4).toNat<4 by omega)
      let h80:=hP.each (w % 4).toNat aA
      .ye hl (w % 4) (he:=oV w) fun _=>.c func241 (TakeEntry_i (out.shelf.getD (w % 4).toNat []) aA) fun gt=>.v (cG (out.shelf.getD (w % 4).toNat [])).2.2
       (fun hn=>.rt (out,⟨9,0,0,0⟩) ⟨by rw[<- pl_0 hy hin ho];exact(aV7 (cS8 hn)).symm,go,bC8 9 aA,trivial⟩)
       (fun hn=>let hcs:=cG4 hn
        .ex (pl_at hY hP (show (cG (out.shelf.getD (w % 4).toNat [])).1∈(out.shelf.getD (w % 4).toNat []) by rw[hcs];exact mem_cons_self)) fun q hq=>
        let hnow:0<=out.now/\out.now<=999999980:=(by rw[hP.now];exact hY.now)
        let hrl:(cG (out.shelf.getD (w % 4).toNat [])).2.1.length<=80:=(by have h_:=h80;rw[hcs]at h_;simp only[length_cons]at h_;omega)
        let htr:=hq.is.tries hq.ht
        let h1:I64 (q.2.2.try_+1):=(by unfold I64;omega)
        let h2:I64 (out.now+q.2.1.plan.wait):=(by unfold I64;omega)
        .d 5 hl fun _=>.ie (w % 4).toNat (w % 4) (he:=oV w)<|.w1<|.f 5 out.shelf (cG (out.shelf.getD (w % 4).toNat [])).2.1 (h:=trivial) <|
        .c func155 (lV ⟨out.now,out.seq,out.shelf.set (w % 4).toNat (cG (out.shelf.getD (w % 4).toNat [])).2.1,out.runs⟩ (cG (out.shelf.getD (w % 4).toNat [])).1.run (Nat.le_trans (hP.wtS hY hrl) aA)) (hg:=⟨go,trivial⟩) fun _=>
        .ye hq.hr (aI ⟨out.now,out.seq,out.shelf.set (w % 4).toNat (cG (out.shelf.getD (w % 4).toNat [])).2.1,out.runs⟩ (cG (out.shelf.getD (w % 4).toNat [])).1.run) (he:=dC hq.ix) fun _=>.d 6 hq.hr fun gr=>.lq 17 6<|.d (m+11) hq.ht fun gu=>.ie (cG (out.shelf.getD (w % 4).toNat [])).1.task.toNat (cG (out.shelf.getD (w % 4).toNat [])).1.task (he:=by have:=hq.h0;omega) <|
        .p q.2.2.try_ 1 (h:=h1)<|.p out.now q.2.1.plan.wait (h:=h2)<|.wt 999<|.f (m+11) q.2.1.tasks ⟨3,q.2.2.need,q.2.2.try_+1,out.now+q.2.1.plan.wait⟩ (h:=st_ok gu h1 h2)<|.f 6 out.runs (gK q.2.1 (cG (out.shelf.getD (w % 4).toNat [])).1.task.toNat q.2.2 out.now) (h:=gr) <|
        .rt (⟨out.now,out.seq,out.shelf.set (w % 4).toNat (cG (out.shelf.getD (w % 4).toNat [])).2.1,out.runs.set q.1 (gK q.2.1 (cG (out.shelf.getD (w % 4).toNat [])).1.task.toNat q.2.2 out.now)⟩,⟨0,(cG (out.shelf.getD (w % 4).toNat [])).1.run,(cG (out.shelf.getD (w % 4).toNat [])).1.task,q.2.2.try_+1⟩)
         ⟨by rw[<- pl_0 hy hin ho];exact(bF3 hcs hq.ix hq.hr hq.ht).symm,go,cC7 (by unfold I64;omega) gt.1.1.2.2.1 gt.1.1.2.2.2 h1,trivial⟩)
     .la (Γ:=Nat×Yard) (fun g=>g.1<=3/\g.2=eV (w % 4).toNat (aW y (w % 4)) ((bU (w % 4) d).take g.1)) (fun g=>3-g.1) (fun g=>[vI 42 g.1]) (fun g=>ryS g.2 7 5 6) (0,aW y (w % 4)) (h:=⟨Nat.zero_le _,(aJ3 _ _ _).symm⟩) fun g hJ tk=>
      let hP:PI y g.2 (w % 4).toNat:=(by rw[hJ.2];exact cJ8 hY w d g.1)
      let hl:=aN3 hP (show (w % 4).toNat<4 by omega)
      let go:g.2.ok:=hP.ok hY
      .s ((g.1:Int)<(bU (w % 4) d).length)
       (fun hlt=>.ex (p:=fun o=>(bU (w % 4) d)[g.1]? = some o) ⟨_,getElem?_eq_getElem (show g.1<(bU (w % 4) d).length by omega)⟩ fun o hk=>
        let hor:=mU (home:=w % 4) (draw:=d) aA o (mem_of_getElem? hk)
        .ex (pl_robI hP (show (w % 4).toNat<4 by omega) (show 0<=o/\o<=3/\o≠(((w % 4).toNat:Nat):Int) by omega)) fun q hq=>
        .y hk fun _=>.ye hl (w % 4) (he:=oV w) fun _=>.s ((0:Int)<((g.2.shelf.getD (w % 4).toNat []).length:Int))
        (fun hem=>fin 12 g.2 (by rw[hJ.2];exact(aS0 (by rw[<- hJ.2];exact cK4 aA)).symm) hP go)
        (fun hem=>.c func237 (cP1 g.2 o (Nat.le_trans (hP.wt hY) aA)) (hg:=⟨go,trivial⟩) fun gs=>
         .ye hq.1 o (he:=by omega) fun _=>.c func239 (HalfOf_i q.1 (by have:=hq.2.2.2.1;omega)) fun _=>
         .d 12 hq.2.1 fun _=>.ie (w % 4).toNat (w % 4) (he:=oV w)<|.c func240 (Merged_i q.2 (q.1.take (bN q.1)) (by have:=hq.2.2.2.2.1;omega) (by have:=hq.2.2.2.1;rw[length_take];omega)) fun _=>.ie (w % 4).toNat (w % 4) (he:=oV w)<|.wt 75<|.f 12 (aW g.2 o).shelf (dS q.2 (q.1.take (bN q.1))) (h:=trivial) <|
         .d 12 hq.2.2.1 fun _=>.ie o.toNat o (he:=by omega)<|.w1<|.f 12 ((aW g.2 o).shelf.set (w % 4).toNat (dS q.2 (q.1.take (bN q.1)))) (q.1.drop (bN q.1)) (h:=trivial) <|
         .p g.1 1<|.n tk (g.1+1,⟨(aW g.2 o).now,(aW g.2 o).seq,((aW g.2 o).shelf.set (w % 4).toNat (dS q.2 (q.1.take (bN q.1)))).set o.toNat (q.1.drop (bN q.1)),(aW g.2 o).runs⟩) [(5,12),(6,13)]
          (h1:=⟨by show g.1+1<=3;have:(bU (w % 4) d).length=3:=rfl;omega,by rw[bC5 hk (by rw[<- hJ.2];exact nil0 aA),<- hJ.2];exact hq.2.2.2.2.2⟩) (h2:=by show 3-(g.1+1)<_;have:(bU (w % 4) d).length=3:=rfl;omega)))
       (fun hlt=>fin 9 g.2 (by rw[hJ.2];exact aS1 (by have:(bU (w % 4) d).length=3:=rfl;omega)) hP go)))) aB
theorem Do_i (y:Yard) (d:Deed) (hw:y.wt<=1048576):Ct1 prog 98 [.S y,.S d] [.S (doD y d).1,.S (doD y d).2]:=
 .one (doD y d) (rk:=fun q=>[.S q.1,.S q.2])<|vc func98 (fun (hg:gin [Par.S y,Par.S d])=>let gy:=hg.1.1
  let gd:d.ok:=hg.2.1.1
  .c func95 (aY7 d) (hg:=⟨gd,trivial⟩) fun _=>.v (aV d)
   (fun h=>.c func149 (fK y hw) (hg:=⟨gy,trivial⟩) fun _=>.rt (y,eT 5) ⟨do_0 h,gy,fY aA,trivial⟩)
   (fun h=>let hk:=cO0 h
    .s (d.kind=1)
    (fun h1=>.c func168 (Submit_i y d.run d.plan hw (dd_wt h)) (hg:=⟨gy,gd.2.2.1,trivial⟩) fun hz=>.rt ((aY y d.run d.plan).1,eT (aY y d.run d.plan).2) ⟨do_1 h h1,hz.1.1,fY (wG y d.run d.plan),trivial⟩)
    (fun h1=>.s (d.kind=2)
    (fun h2=>.c func169 (Poll_i y d.worker d.draw hw gd.2.2.2.2.2.2) (hg:=⟨gy,trivial⟩) fun hz=>.rt (gB y d.worker d.draw) ⟨do_2 h h2,hz.1.1,hz.2.1.1,trivial⟩)
    (fun h2=>.s (d.kind=3)
    (fun h3=>.c func170 (Complete_i y d.run d.task d.try_ hw) (hg:=⟨gy,trivial⟩) fun hz=>.rt (fH y d.run d.task d.try_,eT (eL y d.run d.task d.try_)) ⟨do_3 h h3,hz.1.1,bP5 _ _ _ _,trivial⟩)
    (fun h3=>.s (d.kind=4)
    (fun h4=>.c func171 (Fail_i y d.run d.task d.try_ hw) (hg:=⟨gy,trivial⟩) fun hz=>.rt (oZ y d.run d.task d.try_,eT (eL y d.run d.task d.try_)) ⟨do_4 h h4,hz.1.1,bP5 _ _ _ _,trivial⟩)
    (fun h4=>.s (d.kind=5)
    (fun h5=>.c func172 (Tick_i y hw) (hg:=⟨gy,trivial⟩) fun hz=>.rt ((eE y).1,eT (eE y).2) ⟨do_5 h h5,hz.1.1,fY (aP7 y),trivial⟩)
    (fun h5=>.s (d.kind=6)
    (fun h6=>.c func173 (Cancel_i y d.run hw) (hg:=⟨gy,trivial⟩) fun hz=>.rt ((bQ y d.run).1,eT (bQ y d.run).2) ⟨do_6 h h6,hz.1.1,fY (wV y d.run),trivial⟩)
    (fun h6=>.s (d.kind=7)
    (fun h7=>.c func174 (Forget_i y d.run gd.2.1 hw) (hg:=⟨gy,trivial⟩) fun hz=>.rt ((bE y d.run).1,eT (bE y d.run).2) ⟨do_7 h h7,hz.1.1,fY (wP y d.run),trivial⟩)
    (fun h7=>.c func175 (Restart_i y hw) (hg:=⟨gy,trivial⟩) fun hz=>.c func91 (lT y hw) (hg:=⟨gy,trivial⟩) fun _=>.v (aG y)
     (fun h9=>.rt (dO y,eT 8) ⟨do_8 h aA 8 (by rw[h9];rfl),hz.1.1,fY aA,trivial⟩)
     (fun h9=>.rt (dO y,eT 0) ⟨do_8 h aA 0 (by rw[h9];rfl),hz.1.1,fY aA,trivial⟩)))))))))) aB
theorem restartY_wt {y:Yard}(h:aG y=true):(dO y).wt<=100000:=by
 have hY:=kE h;unfold dO;rw[h,if_pos rfl];exact(RI.outer hY _ (Nat.le_refl _)).wt hY (by have:=hY.runs;omega)
theorem yP {y:Yard}{s:List (List Entry)}{rr:List Run}{a b:Int}(h4:s.length=4) (he:∀j,j<4->(s.getD j []).length<=1000) (h8:rr.length<=8) (hr:∀r∈rr,r.wt<=42):(⟨a,b,s,rr⟩:Yard).wt<=100000:=by
 have hs:=yV (fun z:List Entry=>z.length) 1000 s (fun z hz=>by
  obtain⟨j,hj,rfl⟩:=getElem_of_mem hz;have:=he j aA;rw[getD_eq_getElem?_getD,getElem?_eq_getElem hj]at this;simpa using this)
 have hq:=yV (fun z:Run=>z.wt) 42 rr hr;rw[h4]at hs;have:rr.length*42<=8*42:=Nat.mul_le_mul_right _ h8;unfold Yard.wt wtL;simp only;omega
theorem aX2 {y:Yard}(hY:YardIs y) {k:Nat}{r r':Run}(hr:y.runs[k]? = some r) (hl:r'.tasks.length<=12) (hw:r'.wt<=42):(dV y k r r').wt<=100000:=by
 have h4:=hY.shelf;have hsr:=gE r'.id;have hfl:=nE r r';refine yP (y:=y) ?_ ?_ ?_ ?_
 ·rw[kG];exact h4
 ·intro j hj;by_cases e:j=(aX r'.id).toNat
  ·subst e;rw[oP _ _ _ _ _ _ aA];have:=mR hY (aX r'.id).toNat aA;omega
  rw[nV _ _ _ j e];have:=mR hY j hj;omega
 ·rw[length_set];exact hY.runs
 intro q hq;rcases mem_or_eq_of_mem_set hq with h | rfl
 ·exact zI hY q h
 exact hw
theorem doneR_wt {r:Run}(h:RunIs r) (i:Nat):(iW r i).tasks.length<=12/\(iW r i).wt<=42:=by
 obtain⟨h1,h2,h3,h4⟩:=nF r i;have hs:=h.small;have hw:=h.wt;unfold Run.wt at hw ⊢;rw[h2,h3];omega
theorem completeY_wt {y:Yard}(id task try_:Int) {B:Nat}(hB:100000<=B) (hw:y.wt<=B):(fH y id task try_).wt<=B:=by
 unfold fH;by_cases h:eL y id task try_=0
 ·obtain⟨hY,k,r,t,hk,hr,hR,h0,ht,h3⟩:=aG8 h;rw[qS h hk hr];obtain⟨h1,h2⟩:=doneR_wt hR task.toNat;have:=aX2 hY hr h1 h2;omega
 rw[qQ h];exact hw
theorem startT_wt {r:Run}(i:Nat) (t:Task) (now:Int):(gK r i t now).wt=r.wt:=by unfold gK Run.wt;simp
theorem given_wt {y out:Yard}{home:Nat}(hY:YardIs y) (h:PI y out home):(qJ out home).1.wt<=100000:=by
 have hb:=h.wt hY;unfold qJ;split
 ·exact hb
 next e rest he=>
 split
 ·exact hb
 next k hk=>
 split
 ·exact hb
 next r hr=>
 split
 ·exact hb
 next t ht=>
 have hrest:rest.length<=80:=by
  by_cases hh:home<4
  ·have:=h.each home hh;rw[he]at this;simp only[length_cons]at this;omega
  rw[getD_eq_getElem?_getD,getElem?_eq_none (by have:=h.len;omega)]at he;cases he
 refine bK0 (y:=y) (by rw[length_set];exact h.len) (pE h.each hrest h.len) (by rw[length_set,h.runs];exact hY.runs) ?_;intro q hq;rcases mem_or_eq_of_mem_set hq with h1 | rfl
 ·rw[h.runs]at h1;exact zI hY q h1
 rw[startT_wt];rw[h.runs]at hr;exact zI hY r (mem_of_getElem? hr)
theorem polled_wt {y:Yard}(worker draw:Int) {B:Nat}(hB:100000<=B) (hw:y.wt<=B):(gB y worker draw).1.wt<=B:=by
 unfold gB;split
 ·exact hw
 next h1=>
 split
 ·exact hw
 next h2=>
 have hY:=kE (y:=y) (by simpa using h1);have hi:=inB_iff'.1 (show inB worker 0 99=true by simpa using h2);have hh:(((worker % 4).toNat:Nat):Int)=worker % 4:=by omega
 have hPI:=PI.all hY (home:=(worker % 4).toNat) aA (l:=bU (worker % 4) draw) (by rw[hh];exact mU aA) (PI.start hY aA);rw[hh]at hPI;have:=given_wt hY hPI;omega
theorem failsR_wt {r:Run}(h:RunIs r) {i:Nat}{t:Task}(ht:r.tasks[i]? = some t) (h3:t.state=3):(bP r i).tasks.length<=12/\(bP r i).wt<=42:=by
 have hR:=h.fails ht h3;exact⟨hR.small.2.1,hR.wt⟩
theorem failY_wt {y:Yard}(id task try_:Int) {B:Nat}(hB:100000<=B) (hw:y.wt<=B):(oZ y id task try_).wt<=B:=by
 by_cases hA0:eL y id task try_=0
 ·obtain⟨hY,k,r,t,hix,hr,hRI,h0,hti,h3⟩:=aG8 hA0;have hd:=failsR_wt hRI hti h3;have e:oZ y id task try_=dV y k r (bP r task.toNat):=qS hA0 hix hr;rw[e];exact Nat.le_trans (aX2 hY hr hd.1 hd.2) hB
 have e:oZ y id task try_=y:=qQ hA0;rw[e];exact hw
theorem submitted_wt {y:Yard}(id:Int) (p:Plan) {B:Nat}(hB:100000<=B) (hw:y.wt<=B):(aY y id p).1.wt<=B:=by
 unfold aY;split
 ·exact hw
 next h1=>
 split
 ·exact hw
 split
 ·exact hw
 split
 ·exact hw
 next h4=>
 split
 ·exact hw
 next h5=>
 have hY:=kE (by simpa using h1);have hpf:aC p=0:=by simpa using h4
 have hpr:=bU3 hpf;have hroom:jA y p=true:=by simpa using h5
 have hr8:y.runs.length<8:=by unfold jA at hroom;simp at hroom;omega
 refine Nat.le_trans (yP (y:=y) ?_ ?_ ?_ ?_) hB
 ·rw[kG];exact hY.shelf
 ·intro j hj;by_cases e:j=(aX id).toNat
  ·subst e;rw[oP _ _ _ _ _ _ (by have:=hY.shelf;omega)];have h7:(aK (aZ id p).tasks 2).length<=(aZ id p).tasks.length:=iY _ _ _;have h8:(aZ id p).tasks.length=p.tasks.toNat:=hU p _;have h9:=mR hY (aX id).toNat hj;omega
  rw[nV _ _ _ j e];have:=mR hY j hj;omega
 ·rw[length_append,length_singleton];omega
 intro r hr;rcases mem_append.1 hr with hr | hr
 ·obtain⟨j,hj⟩:=mem_iff_getElem?.1 hr;exact(hY.run j r hj).1.wt
 rw[mem_singleton]at hr;subst hr;have h8:(aZ id p).tasks.length=p.tasks.toNat:=hU p _;show (aZ id p).plan.wt+(aZ id p).tasks.length<=42;have:(aZ id p).plan.wt=p.edges.length:=rfl;omega
theorem ticked_wt {y:Yard}{B:Nat}(hB:100000<=B) (hw:y.wt<=B):(eE y).1.wt<=B:=by
 unfold eE;split
 ·exact hw
 next h1=>
 split
 ·exact hw
 have hY:=kE (by simpa using h1);have hn:=hY.now;have hr:=hY.runs;have hl:=vD hY y.runs.length;have hY1:YardIs (nQ (y.now+1) y):=hY.at aA;have h2:=RI.list hY1 (l:=cT y) aN5 (cT y).length;rw[take_length]at h2;exact Nat.le_trans (h2.wt hY1 (by show (jO y y.runs.length).length<=1000;omega)) hB
theorem goneR_wt (r:Run):(iQ r).wt=r.wt:=by
 unfold iQ;split
 ·show r.plan.wt+(fB r.tasks (-1)).length=_;rw[xR];rfl
 rfl
theorem cancelled_wt {y:Yard}(id:Int) {B:Nat}(hB:100000<=B) (hw:y.wt<=B):(bQ y id).1.wt<=B:=by
 unfold bQ;split
 ·exact hw
 next h1=>
 split
 ·next r hr=>
  split
  ·exact hw
  split
  ·exact hw
  have hY:=kE (by simpa using h1);refine Nat.le_trans (yP (y:=y) hY.shelf (fun j hj=>by have:=mR hY j hj;omega) (by rw[length_set];exact hY.runs) ?_) hB;intro q hq;rcases mem_or_eq_of_mem_set hq with hq | hq
  ·obtain⟨j,hj⟩:=mem_iff_getElem?.1 hq;exact(hY.run j q hj).1.wt
  subst hq;rw[goneR_wt];exact(hY.run _ r hr).1.wt
 exact hw
theorem forgotten_wt {y:Yard}(id:Int) {B:Nat}(hB:100000<=B) (hw:y.wt<=B):(bE y id).1.wt<=B:=by
 unfold bE;split
 ·exact hw
 next h1=>
 split
 ·next r hr=>
  split
  ·exact hw
  split
  ·exact hw
  have hY:=kE (by simpa using h1);refine Nat.le_trans (yP (y:=y) (by rw[length_map];exact hY.shelf) (fun j hj=>?_) ?_ ?_) hB
  ·have h2:=mR hY j hj;have h4:=hY.shelf;rw[getD_eq_getElem?_getD,getElem?_map];rw[getD_eq_getElem?_getD]at h2;cases hq:y.shelf[j]? with
   | none=>simp
   | some l=>
    rw[hq]at h2;have:=cM7 id l;simp at h2 ⊢;omega
  ·have:=length_eraseIdx_le y.runs (aI y id).toNat;have:=hY.runs;omega
  intro q hq;obtain⟨j,hj⟩:=mem_iff_getElem?.1 (mem_of_mem_eraseIdx hq);exact(hY.run j q hj).1.wt
 exact hw
theorem cE0 {y:Yard}(d:Deed) {B:Nat}(hB:100000<=B) (hw:y.wt<=B):(doD y d).1.wt<=B:=by
 unfold doD;split
 ·exact hw
 split
 ·exact submitted_wt _ _ hB hw
 split
 ·exact polled_wt _ _ hB hw
 split
 ·exact completeY_wt _ _ _ hB hw
 split
 ·exact failY_wt _ _ _ hB hw
 split
 ·exact ticked_wt hB hw
 split
 ·exact cancelled_wt _ hB hw
 split
 ·exact forgotten_wt _ hB hw
 show (dO y).wt<=B;cases h:aG y with
 | true=>exact Nat.le_trans (restartY_wt h) hB
 | false=>
  have:dO y=y:=by unfold dO;rw[h];rfl
  rw[this];exact hw
noncomputable def doSt (a:Yard×List Reply) (d:Deed):Yard×List Reply:=((doD a.1 d).1,a.2++[(doD a.1 d).2])
noncomputable def doL (y:Yard) (ds:List Deed):Yard×List Reply:=ds.foldl doSt (y,[])
theorem doL_to {y:Yard}{ds:List Deed}{k:Nat}{d:Deed}(h:ds[k]? = some d):doL y (ds.take (k+1))=doSt (doL y (ds.take k)) d:=by
 unfold doL;rw[<- dJ h,foldl_append];rfl
theorem doF_wt (ds:List Deed):∀a:Yard×List Reply,a.1.wt<=1048576->(ds.foldl doSt a).1.wt<=1048576:=by
 induction ds with
 | nil=>exact fun a h=>h
 | cons d ds ih=>exact fun a h=>ih _ (cE0 d aA h)
theorem doL_wt {y:Yard}(ds:List Deed) (h:y.wt<=1048576):(doL y ds).1.wt<=1048576:=doF_wt ds (y,[]) h
theorem doF_len (ds:List Deed):∀a:Yard×List Reply,(ds.foldl doSt a).2.length=a.2.length+ds.length:=by
 induction ds with
 | nil=>exact fun a=>rfl
 | cons d ds ih=>intro a;rw[foldl_cons,ih];simp only[doSt,length_append,length_cons,length_nil];omega
theorem doL_len (y:Yard) (ds:List Deed):(doL y ds).2.length=ds.length:=by unfold doL;rw[doF_len];simp
structure DaJ (y:Yard) (ds:List Deed) (g:Nat×Yard×List Reply):Prop where
 le:g.1<=ds.length
 eq:g.2=doL y (ds.take g.1)
 ok:g.2.1.ok
theorem DaJ.wt {y:Yard}{ds:List Deed}{g:Nat×Yard×List Reply}(h:DaJ y ds g) (hw:y.wt<=1048576):g.2.1.wt<=1048576:=by rw[h.eq];exact doL_wt _ hw
theorem DaJ.len {y:Yard}{ds:List Deed}{g:Nat×Yard×List Reply}(h:DaJ y ds g):g.2.2.length<=ds.length:=by rw[h.eq,doL_len,length_take];omega
theorem DaJ.next {y:Yard}{ds:List Deed}{g:Nat×Yard×List Reply}{d:Deed}(h:DaJ y ds g) (hd:ds[g.1]? = some d) (ho:(doD g.2.1 d).1.ok):DaJ y ds (g.1+1,(doD g.2.1 d).1,g.2.2++[(doD g.2.1 d).2]):=
 ⟨(gsi_.1 hd).1,by show _=doL y (ds.take (g.1+1));rw[doL_to hd,<- h.eq];rfl,ho⟩
def gR:ByteArray:=⟨#[109,97,114,107]⟩
def moR (y0:Yard) (rm:ByteArray->Yard×Int×Bool) (d:Disk):Yard×Int×Bool:=if fAt d.files gR<0 then (y0,0,true) else rm (cX d.files gR)
theorem MarkOfS (y0:Yard) (rm:ByteArray->Yard×Int×Bool) (d:Disk) (hl:d.files.length<=1048576) (hN:Ct1 prog 72 [] [.S y0]) (hR:Ct1 prog 218 [.T (cX d.files gR)] [.S (rm (cX d.files gR)).1,.I (rm (cX d.files gR)).2.1,.B (rm (cX d.files gR)).2.2]):Ct1 prog 145 [.S d] [.S (moR y0 rm d).1,.I (moR y0 rm d).2.1,.B (moR y0 rm d).2.2]:=
 .one (moR y0 rm d) (rk:=fun a=>[.S a.1,.I a.2.1,.B a.2.2])<|vc func145 (fun (hg:gin [Par.S d])=>.c func126 (mT d gR hl) (hg:=⟨hg.1.1,trivial⟩) fun _=>.s (fAt d.files gR<0)
  (fun h=>.c func72 hN (hg:=trivial) fun gd=>.rt (y0,0,true) ⟨by unfold moR;rw[if_pos h],gd.1.1,trivial⟩)
  (fun h=>.c func144 (aH3 d gR hl) (hg:=⟨hg.1.1,trivial⟩) fun _=>.c func218 hR (hg:=trivial) fun gd=>.rt (rm (cX d.files gR)) ⟨by unfold moR;rw[if_neg h],gd.1.1,trivial⟩)) aB
theorem MarkOfI (y0:Yard) (rm:ByteArray->Yard×Int×Bool) (d:Disk) (hA:Ct1 prog 159 [.S d,.T gR] [.I (fAt d.files gR)]) (hF:Ct1 prog 181 [.S d,.T gR] [.T (cX d.files gR)]) (hN:Ct1 prog 88 [] [.S y0]) (hR:Ct1 prog 294 [.T (cX d.files gR)] [.S (rm (cX d.files gR)).1,.I (rm (cX d.files gR)).2.1,.B (rm (cX d.files gR)).2.2]):Ct1 prog 258 [.S d] [.S (moR y0 rm d).1,.I (moR y0 rm d).2.1,.B (moR y0 rm d).2.2]:=
 .one (moR y0 rm d) (rk:=fun a=>[.S a.1,.I a.2.1,.B a.2.2])<|vc func258 (fun (hg:gin [Par.S d])=>.c func159 hA (hg:=⟨hg.1.1,trivial⟩) fun _=>.s (fAt d.files gR<0)
  (fun h=>.c func88 hN (hg:=trivial) fun gd=>.rt (y0,0,true) ⟨by unfold moR;rw[if_pos h],gd.1.1,trivial⟩)
  (fun h=>.c func181 hF (hg:=⟨hg.1.1,trivial⟩) fun _=>.c func294 hR (hg:=trivial) fun gd=>.rt (rm (cX d.files gR)) ⟨by unfold moR;rw[if_neg h],gd.1.1,trivial⟩)) aB
end Go.Proofs.YtjihdmlkpkkpbaaGreat
