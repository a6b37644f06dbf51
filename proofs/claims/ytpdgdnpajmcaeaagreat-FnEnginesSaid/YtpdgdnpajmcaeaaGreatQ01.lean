/-
  What data looks like in memory: lists of cells that stand for numbers, structs and slices. Theory alone: no function of the program is walked here.
  Steps of a walk over a frame that is a function of the slot's number: each operation has one law; a region that draws its order is walked once, whatever the order. Theory alone.
  The laws of single operations, over any program.
  What a call owns while it runs: blocks of its own, that nothing else leads to; calls, boxes, stores, appends over them.
  Slices that a call has made itself and appends to.
  A region that draws its order, walked once: each operation says what holds of what it lays down; whatever the order, that holds in the end.
  More laws of single operations.
  What is owned taken apart and put together; a row that is filled from its head; results that lie in cells.
  Short names for the steps that come most often.
  The data of the program, and how it lies in memory: a number, a text and a flag a cell each, a slice one cell that leads to its row.
  Closed facts on the program's types: sizes, places of fields, elements of slices.
  Parts of slices; appending a whole slice of plain elements; structs that are built.
  An element of an owned slice, lent: its block written out around it; what else the slice holds stays aside until it is given back.
  A region that draws its order, some operations of which write, one behind the other, a box that no other looks at.
  Literals of several elements; flat structs compared.
  Strings: lengths, comparisons, sums.
  Bytes: numbers turned to bytes, rows of bytes turned to strings.
  Bits of small numbers: or, and, shifts.
  Shifts (a try).
  Bits of numbers that are no Nat by their form.
  Bytes of strings; xor; what stands for a number, and its sum.
  Numbers in bytes, read: the one number whose bytes stand at a place. Plain theory.
  The lesser and the greater of two numbers.
  A region that draws its order, some operations of which, one behind the other, make memory or write to what is the call's own; the others only look.
  Appending an element with memory of its own, all of which the call owns.
  Pointers that are not nil; functions without results.
  Operations that only read, many at a time: what they lay down is reckoned by the kernel. Theory alone.
  A region that draws its order: whatever holds at its beginning, and is kept by each operation when those are done for which it waits, holds at its end.
-/
import Derived.Test.YtpdgdnpajmcaeaaGreatRows
import Derived.WalkKit
import Derived.BigQuiet
import Derived.Deep.QuietTactic
import Derived.Deep.MidRow
import Derived.Lib.QuietBelow
import Derived.Deep.Slices
import Derived.Carry
import Derived.Lib.Hide
import Derived.Orders
import Derived.Laws.OwnMore
import Derived.Laws.StructEq
import Derived.Laws.Strings
import Derived.Lib.SlBytesRow
import Derived.Laws.BytesString
import Derived.Lib.QuoteBits
import Derived.Laws.IdiomStrings
set_option linter.unusedSimpArgs false
set_option linter.unusedVariables false
namespace Go.Proofs.YtpdgdnpajmcaeaaGreat
set_option maxRecDepth 100000
set_option maxHeartbeats 2000000
open Go.RowKit Go.Proofs.Tryz List
abbrev pt_ (b:Nat):Value := .pointer (some ⟨b,0,none⟩)
theorem gsi_ {α:Type}{xs:List α}{i:Nat}{a:α}:xs[i]? = some a↔∃h:i<xs.length,xs[i]=a:=List.getElem?_eq_some_iff
theorem aB {P:Prop}(h:P:=by kernel_rfl):P:=h
theorem aA {P:Prop}(h:P:=by omega):P:=h
theorem eZ {P:Prop}(h:P:=by decide):P:=h
theorem nbq_ {a b:Nat}(h:Nat.ble a b=true:=by exact rfl):a<=b:=Nat.le_of_ble_eq_true h
abbrev I (n:Int):Value := .int .i64 n
def I64 (n:Int):Prop := -9223372036854775808<=n/\n<=9223372036854775807

theorem i6q_ {P:Prop}(h:P:=by (simp only[I64]at *;omega)):P:=h
class Shape (α:Type) where
 size:Nat
 C:World->List Value->α->List Nat->Prop
 len:∀{w:World}{cs:List Value}{x:α}{fp:List Nat},C w cs x fp->cs.length=size
 loc:∀{w w':World}{cs:List Value}{x:α}{fp:List Nat},w.heap.size<=w'.heap.size->(∀b∈fp,∀o,w'.cell? ⟨b,o,none⟩=w.cell? ⟨b,o,none⟩)->C w cs x fp->C w' cs x fp
 one:∀{w:World}{cs:List Value}{x:α}{fp:List Nat},C w cs x fp->∀v∈cs,v.oneCell'=true
 lt:∀{w:World}{cs:List Value}{x:α}{fp:List Nat},C w cs x fp->∀b∈fp,b<w.heap.size

def SlAt {α:Type}[Shape α] (w:World) (b:Nat):Nat->List α->List Nat->Prop
 | _,[],fp=>fp=[]
 | o,x::xs,fp=>∃cs f1 f2,w.rangeAt b o cs/\Shape.C w cs x f1/\SlAt w b (o+Shape.size α) xs f2/\fp=f1++f2

def Sl {α:Type}[Shape α] (w:World) (v:Value) (xs:List α) (fp:List Nat):Prop:=
 ∃ao cap,v = .slice ao xs.length cap/\xs.length<=cap/\cap<=9223372036854775807 /\
  ((xs=[]/\fp=[])∨∃b off f,xs≠[]/\ao=some ⟨b,off,none⟩/\fp=b::f/\b<w.heap.size/\SlAt w b off xs f)

section
variable {α:Type}[Shape α]

theorem SlAt.loc {w w':World}{b:Nat}(hs:w.heap.size<=w'.heap.size):∀{xs:List α}{o:Nat}{fp:List Nat},(∀c,c=b∨c∈fp->∀o,w'.cell? ⟨c,o,none⟩=w.cell? ⟨c,o,none⟩)->SlAt w b o xs fp->SlAt w' b o xs fp
 | [],_,_,_,h=>h
 | x::xs,o,fp,hk,h=>by
  obtain⟨cs,f1,f2,hr,hc,ht,rfl⟩:=h;refine⟨cs,f1,f2,fun j v hj=>?_,Shape.loc hs (fun c hc'=>hk c (.inr (by simp[hc']))) hc,SlAt.loc hs (fun c hc'=>hk c (hc'.elim .inl fun h=>.inr (by simp[h]))) ht,rfl⟩;rw[hk b (.inl rfl)];exact hr j v hj

theorem SlAt.lt {w:World}{b:Nat}:∀{xs:List α}{o:Nat}{fp:List Nat},SlAt w b o xs fp->∀c∈fp,c<w.heap.size
 | [],_,_,h,c,hc=>by cases h;cases hc
 | x::xs,o,fp,h,c,hc=>by
  obtain⟨cs,f1,f2,hr,hcc,ht,rfl⟩:=h;rcases mem_append.1 hc with h1 | h1
  ·exact Shape.lt hcc c h1
  ·exact SlAt.lt ht c h1

theorem SlAt.get {w:World}{b:Nat}:∀{xs:List α}{o:Nat}{fp:List Nat},SlAt w b o xs fp->∀i (h:i<xs.length),∃cs f,w.rangeAt b (o+i*Shape.size α) cs/\Shape.C w cs xs[i] f/\∀c∈f,c∈fp
 | x::xs,o,fp,h,0,_=>by
  obtain⟨cs,f1,f2,hr,hcc,ht,rfl⟩:=h;exact⟨cs,f1,by simpa using hr,hcc,fun c hc=>by simp[hc]⟩
 | x::xs,o,fp,h,i+1,hi=>by
  obtain⟨cs,f1,f2,hr,hcc,ht,rfl⟩:=h;obtain⟨cs',f,h1,h2,h3⟩:=SlAt.get ht i (by simpa using hi);refine⟨cs',f,?_,h2,fun c hc=>by simp[h3 c hc]⟩;rw[show o+(i+1)*Shape.size α=o+Shape.size α+i*Shape.size α by rw[Nat.add_mul];omega];exact h1

theorem Sl.loc {w w':World}{v:Value}{xs:List α}{fp:List Nat}(hk:∀b∈fp,∀o,w'.cell? ⟨b,o,none⟩=w.cell? ⟨b,o,none⟩) (h:Sl w v xs fp) (hs:w.heap.size<=w'.heap.size):Sl w' v xs fp:=by
 obtain⟨ao,cap,rfl,h1,h2,h3⟩:=h;refine⟨ao,cap,rfl,h1,h2,?_⟩;rcases h3 with h3 | ⟨b,off,f,hne,rfl,rfl,hb,h3⟩
 ·exact .inl h3
 exact .inr ⟨b,off,f,hne,rfl,rfl,by omega,SlAt.loc hs (fun c hc=>hk c (by simpa using hc)) h3⟩

theorem Sl.below {w w':World}{v:Value}{xs:List α}{fp:List Nat}(h:Sl w v xs fp) (hb:Below w.heap.size w w'):Sl w' v xs fp:=by
 refine Sl.loc (fun b hbm o=>?_) h hb.size;have:b<w.heap.size:=by
  obtain⟨ao,cap,rfl,h1,h2,h3⟩:=h;rcases h3 with⟨_,rfl⟩ | ⟨b',off,f,hne,rfl,rfl,hb',h3⟩
  ·cases hbm
  rcases mem_cons.1 hbm with rfl | h
  ·exact hb'
  exact SlAt.lt h3 _ h
 exact hb.cell this

theorem Sl.lt {w:World}{v:Value}{xs:List α}{fp:List Nat}(h:Sl w v xs fp):∀b∈fp,b<w.heap.size:=by
 intro b hbm;obtain⟨ao,cap,rfl,h1,h2,h3⟩:=h;rcases h3 with⟨_,rfl⟩ | ⟨b',off,f,hne,rfl,rfl,hb',h3⟩
 ·cases hbm
 rcases mem_cons.1 hbm with rfl | h
 ·exact hb'
 exact SlAt.lt h3 _ h

theorem zS {w w':World}{cs:List Value}{x:α}{fp:List Nat}(h:Shape.C w cs x fp) (hb:Below w.heap.size w w'):Shape.C w' cs x fp:=
 Shape.loc hb.size (fun b hbm _=>hb.cell (Shape.lt h b hbm)) h

theorem Sl.openk {w:World}{v:Value}{xs:List α}{fp:List Nat}(h:Sl w v xs fp) (k:Nat) (hk:Shape.size α=k):∃ao cap,v = .slice ao xs.length cap/\xs.length<=cap/\cap<=9223372036854775807 /\
  (0<xs.length->∃b off,ao=some ⟨b,off,none⟩/\b<w.heap.size/\b∈fp/\∀i (hi:i<xs.length),∃cs f,w.rangeAt b (off+i*k) cs/\Shape.C w cs xs[i] f/\∀c∈f,c∈fp):=by
 subst hk;obtain⟨ao,cap,rfl,h1,h2,h3⟩:=h;refine⟨ao,cap,rfl,h1,h2,fun hp=>?_⟩;rcases h3 with⟨rfl,_⟩ | ⟨b,off,f,hne,rfl,rfl,hb,h3⟩
 ·simp at hp
 exact⟨b,off,rfl,hb,by simp,fun i hi=>by
  obtain⟨cs,g,a1,a2,a3⟩:=SlAt.get h3 i hi;exact⟨cs,g,a1,a2,fun c hc=>by simp[a3 c hc]⟩⟩
end

section
variable {α:Type}[Shape α]
theorem SlAt.loc_row {w w':World}{b:Nat}(hs:w.heap.size<=w'.heap.size):∀{xs:List α}{o:Nat}{fp:List Nat},(∀j,o<=j->j<o+xs.length*Shape.size α->w'.cell? ⟨b,j,none⟩=w.cell? ⟨b,j,none⟩) ->
  (∀c∈fp,∀o,w'.cell? ⟨c,o,none⟩=w.cell? ⟨c,o,none⟩)->SlAt w b o xs fp->SlAt w' b o xs fp
 | [],_,_,_,_,h=>h
 | x::xs,o,fp,hr0,hk,h=>by
  obtain⟨cs,f1,f2,hr,hc,ht,rfl⟩:=h;have hlen:(x::xs).length*Shape.size α=Shape.size α+xs.length*Shape.size α:=by simp[Nat.add_mul];omega
  refine⟨cs,f1,f2,fun j v hj=>?_,Shape.loc hs (fun c hc'=>hk c (by simp[hc'])) hc,SlAt.loc_row hs (fun j h1 h2=>hr0 j aA aA) (fun c hc'=>hk c (by simp[hc'])) ht,rfl⟩;have hjl:j<cs.length:=(List.getElem?_eq_some_iff.1 hj).1;rw[Shape.len hc]at hjl;rw[hr0 (o+j) aA aA];exact hr j v hj
theorem SlAt.snoc {w:World}{b:Nat}{x:α}{cs:List Value}{f1:List Nat}:∀{xs:List α}{o:Nat}{fp:List Nat},SlAt w b o xs fp->w.rangeAt b (o+xs.length*Shape.size α) cs->Shape.C w cs x f1->SlAt w b o (xs++[x]) (fp++f1)
 | [],o,fp,h,hr,hc=>by
  cases h;exact⟨cs,f1,[],by simpa using hr,hc,rfl,by simp⟩
 | y::xs,o,fp,h,hr,hc=>by
  obtain⟨cs',g1,g2,hr',hc',ht,rfl⟩:=h;refine⟨cs',g1,g2++f1,hr',hc',SlAt.snoc ht ?_ hc,by simp⟩;rw[show o+Shape.size α+xs.length*Shape.size α=o+(y::xs).length*Shape.size α by simp[Nat.add_mul];omega];exact hr
end

def Row (w:World) (b e k:Nat):Prop:=∃C:Array Value,w.heap[b]? = some (.cells C e (0,0))/\C.size=k
theorem Row.there {w:World}{b e k:Nat}(h:Row w b e k) (o n:Nat) (hn:o+n<=k):w.there b o n:=by
 obtain⟨C,hC,rfl⟩:=h;intro j hj;constructor
 ·simp[World.cell?,hC];omega
 simp[World.frozen?,hC]
theorem Row.lt {w:World}{b e k:Nat}(h:Row w b e k):b<w.heap.size:=by
 obtain⟨C,hC,rfl⟩:=h;exact(Array.getElem?_eq_some_iff.1 hC).1
theorem mM {w:World}{b e:Nat}{C:Array Value}(h:w.heap[b]? = some (.cells C e (0,0))) (o:Nat) (v:Value):(w.setCell ⟨b,o,none⟩ v).heap[b]? = some (.cells (C.setIfInBounds o v) e (0,0)):=by
 simp[World.setCell,Array.getElem?_modify,h]
theorem Row.setCell {w:World}{b e k:Nat}(h:Row w b e k) (o:Nat) (v:Value):Row (w.setCell ⟨b,o,none⟩ v) b e k:=by
 obtain⟨C,hC,rfl⟩:=h;exact⟨_,mM hC o v,by simp⟩
theorem Row.setCells {b e k:Nat}:∀(vs:List Value) (o:Nat) {w:World},Row w b e k->Row (w.setCells b o vs) b e k
 | [],_,_,h=>h
 | v::r,o,w,h=>by rw[World.setCells];exact Row.setCells r (o+1) (h.setCell o v)
theorem qI {B b:Nat}(hB:B<=b):∀(vs:List Value) (o:Nat) (w:World),Below B w (w.setCells b o vs)
 | [],_,w=>Below.refl _ _
 | v::r,o,w=>by rw[World.setCells];exact((Below.refl B w).setCell (p:=⟨b,o,none⟩) hB v).trans (qI hB r (o+1) _)
theorem Row.below {w w':World}{b e k B:Nat}(h:Row w b e k) (hb:Below B w w') (hB:b<B):Row w' b e k:=by
 obtain⟨C,hC,rfl⟩:=h;exact⟨C,by rw[hb.block b hB];exact hC,rfl⟩
theorem Row.made (w:World) (z:Array Value) (n e:Nat):Row (w.alloc (.cells (madeCells z n) e)) w.heap.size e n:=
 ⟨_,by show (w.heap.push _)[w.heap.size]? = _;simp,size_madeCells z n⟩
theorem SlAt.store {α:Type}[Shape α] {w:World}{b e k:Nat}{x:α}{cs:List Value}{f1 fp:List Nat}{xs:List α}(hR:Row w b e k) (h:SlAt w b 0 xs fp) (hc:Shape.C w cs x f1) (hk:(xs.length+1)*Shape.size α<=k)
  (hb:∀c∈fp++f1,c≠b):SlAt (w.setCells b (xs.length*Shape.size α) cs) b 0 (xs++[x]) (fp++f1):=by
 have hcl:=Shape.len hc;have hmul:(xs.length+1)*Shape.size α=xs.length*Shape.size α+Shape.size α:=by rw[Nat.add_mul];omega
 have hsz:w.heap.size<=(w.setCells b (xs.length*Shape.size α) cs).heap.size:=(qI (Nat.zero_le b) cs _ w).size;have hout:∀c,c≠b->∀o,(w.setCells b (xs.length*Shape.size α) cs).cell? ⟨c,o,none⟩=w.cell? ⟨c,o,none⟩:=fun c hcb o=>World.cell?_setCells_out _ _ _ _ _ (fun h=>absurd h hcb)
 refine SlAt.snoc (SlAt.loc_row hsz (fun j _ hj=>?_) (fun c hcm o=>hout c (hb c (by simp[hcm])) o) h) ?_ (Shape.loc hsz (fun c hcm o=>hout c (hb c (by simp[hcm])) o) hc)
 ·exact World.cell?_setCells_out _ _ _ _ _ (fun _ _=>.inl (by simp at hj ⊢;omega))
 simp only[Nat.zero_add];exact World.rangeAt_setCells_same _ _ _ _ (hR.there _ _ aA)

theorem Sl.setCell {α:Type}[Shape α] {w:World}{v:Value}{xs:List α}{fp:List Nat}{c o:Nat}{u:Value}(h:Sl w v xs fp) (hc:c∉fp):Sl (w.setCell ⟨c,o,none⟩ u) v xs fp:=
 Sl.loc (fun b hb o'=>World.cell?_setCell_other _ _ _ _ (fun e=>by injection e with e1;subst e1;exact hc hb)) h (by simp[World.setCell])
theorem Sl.alloc {α:Type}[Shape α] {w:World}{v:Value}{xs:List α}{fp:List Nat}{ob:Obj}(h:Sl w v xs fp):Sl (w.alloc ob) v xs fp:=
 h.below ((Below.refl _ _).alloc (Nat.le_refl _) _)
def after (W:World) (p:Regrown):World:=Sort.grow (redrawn W p.d) p.os
def bP7 (p q:Regrown):Regrown:=⟨q.d,p.os++q.os⟩
theorem below_after {a W:World}{p:Regrown}(h:Below a.heap.size a W):Below a.heap.size a (after W p):=h.trans ((below_regrown W p.d p.os).mono h.size)
@[go_sem] theorem after_cell (W:World) (p:Regrown) (n i:Nat) (hn:n<W.heap.size):(after W p).cell? ⟨n,i,none⟩=W.cell? ⟨n,i,none⟩:=(below_regrown W p.d p.os).cell (p:=⟨n,i,none⟩) hn
@[go_sem] theorem after_frozen (W:World) (p:Regrown) (n i:Nat) (hn:n<W.heap.size):(after W p).frozen? ⟨n,i,none⟩=W.frozen? ⟨n,i,none⟩:=(below_regrown W p.d p.os).frozen (p:=⟨n,i,none⟩) hn
@[go_sem] theorem after_size (W:World) (p:Regrown):(after W p).heap.size=W.heap.size+p.os.size:=by simp[after,redrawn]
@[go_sem] theorem after_after (W:World) (p q:Regrown):after (after W p) q=after W (bP7 p q):=by simp[after,redrawn,bP7,Sort.grow,Array.append_assoc]
@[go_sem] theorem after_setCell (W:World) (p:Regrown) (n i:Nat) (v:Value) (hn:n<W.heap.size):(after W p).setCell ⟨n,i,none⟩ v=after (W.setCell ⟨n,i,none⟩ v) p:=by
 simp only[after,redrawn,World.setCell,Sort.grow];rw[Sort.modify_append_left _ _ _ _ hn]
theorem Sl.join {α:Type}[Shape α] {W:World}{p q:Regrown}{v:Value}{xs:List α}{fp:List Nat}(h:Sl (after W p) v xs fp):Sl (after W (bP7 p q)) v xs fp:=by
 rw[<- after_after];exact h.below (below_after (Below.refl _ _))
theorem Sl.flat {α:Type}[Shape α] {W:World}{p q:Regrown}{v:Value}{xs:List α}{fp:List Nat}(h:Sl (after (after W p) q) v xs fp):Sl (after W (bP7 p q)) v xs fp:=by
 rw[<- after_after];exact h

def kB (w:World) (b:Nat) (o:Obj):World:={ w with heap:=w.heap.setIfInBounds b o }
def aK:List Value->Nat->List Value->List Value
 | C,0,[]=>C
 | _::C,0,v::vs=>v::aK C 0 vs
 | c::C,n+1,vs=>c::aK C n vs
 | [],_,_=>[]
@[go_sem] theorem putBlk_after (W:World) (p:Regrown) (b:Nat) (o:Obj) (h:b<W.heap.size):kB (after W p) b o=after (kB W b o) p:=by
 simp only[kB,after,redrawn,Sort.grow];rw[Array.setIfInBounds_append_left h]
@[go_sem] theorem putBlk_alloc_past (w:World) (ob:Obj) (b:Nat) (o:Obj) (h:b<w.heap.size):kB (w.alloc ob) b o=(kB w b o).alloc ob:=by
 show ({ w with heap:=(w.heap.push ob).setIfInBounds b o }:World)={ w with heap:=(w.heap.setIfInBounds b o).push ob };congr 1;apply Array.ext_getElem?;intro i;simp only[Array.getElem?_setIfInBounds,Array.getElem?_push,Array.size_push,Array.size_setIfInBounds];split<;>split<;>simp_all<;>omega
@[go_sem] theorem putBlk_alloc_at (w:World) (ob:Obj) (b:Nat) (o:Obj) (h:b=w.heap.size):kB (w.alloc ob) b o=w.alloc o:=by
 subst h;show ({ w with heap:=(w.heap.push ob).setIfInBounds w.heap.size o }:World)={ w with heap:=w.heap.push o };congr 1;apply Array.ext_getElem?;intro i;simp only[Array.getElem?_setIfInBounds,Array.getElem?_push,Array.size_push];split<;>split<;>simp_all
theorem heap_alloc_at (w:World) (ob:Obj) (b:Nat) (h:b=w.heap.size):(w.alloc ob).heap[b]? = some ob:=by subst h;show (w.heap.push _)[w.heap.size]? = _;simp
theorem uC {b t:Nat}:∀(vs:List Value) (o:Nat) (C:List Value) (w:World),w.heap[b]? = some (.cells C.toArray t (0,0))->o+vs.length<=C.length->w.setCells b o vs=kB w b (.cells (aK C o vs).toArray t)
 | [],o,C,w,h,_=>by
  have e:aK C o []=C:=by
   clear h
   induction C generalizing o with
   | nil=>cases o<;>rfl
   | cons c C ih=>cases o with
    | zero=>rfl
    | succ o=>rw[aK];congr 1;exact ih o (by simp_all)
  rw[e];show w=kB w b _;unfold kB;obtain⟨hb,he⟩:=Array.getElem?_eq_some_iff.1 h;rw[<- he,Array.setIfInBounds,dif_pos hb,Array.set_getElem_self]
 | v::vs,o,C,w,h,hl=>by
  rw[World.setCells];have h1:=mM h o v;have e1:(C.toArray.setIfInBounds o v)=(C.set o v).toArray:=by simp
  rw[e1]at h1;rw[uC vs (o+1) (C.set o v) _ h1 (by simp at hl ⊢;omega)];have e2:∀(C:List Value) (o:Nat),o<C.length->aK (C.set o v) (o+1) vs=aK C o (v::vs):=by
   intro C
   induction C with
   | nil=>intro o h;simp at h
   | cons c C ih=>
    intro o ho;cases o with
    | zero=>rfl
    | succ o=>show c::aK (C.set o v) (o+1) vs=c::aK C o (v::vs);rw[ih o (by simpa using ho)]
  rw[e2 C o (by simp at hl;omega)];unfold kB;simp only[World.setCell];congr 1;apply Array.ext_getElem?;intro i;simp only[Array.getElem?_setIfInBounds,Array.getElem?_modify,Array.size_modify];split
  ·rfl
  rfl
theorem jY:∀(C vs:List Value),vs.length=C.length->aK C 0 vs=vs
 | [],[],_=>rfl
 | _::C,v::vs,h=>by rw[aK,jY C vs (by simpa using h)]
 | [],v::vs,h=>by simp at h
 | _::C,[],h=>by simp at h
@[reducible] def Shape.flat {α:Type}(n:Nat) (cells:α->List Value) (ok:α->Prop) (hl:∀x,(cells x).length=n) (h1:∀x,∀v∈cells x,v.oneCell'=true):Shape α where
 size:=n
 C:=fun _ cs x fp=>cs=cells x/\fp=[]/\ok x
 len:=fun ⟨h,_⟩=>by rw[h,hl]
 loc:=fun _ _ h=>h
 one:=fun ⟨h,_⟩=>by rw[h];exact h1 _
 lt:=fun ⟨_,h,_⟩=>by subst h;simp

instance:Shape Int:=Shape.flat 1 (fun n=>[I n]) I64 (fun _=>rfl) (fun _ v hv=>by simp at hv;subst hv;rfl)
instance:Shape Bool:=Shape.flat 1 (fun b=>[.bool b]) (fun _=>True) (fun _=>rfl) (fun _ v hv=>by simp at hv;subst hv;rfl)
instance:Shape ByteArray:=Shape.flat 1 (fun s=>[.string s]) (fun s=>s.size<=maxLen) (fun _=>rfl) (fun _ v hv=>by simp at hv;subst hv;rfl)
instance {α:Type}[Shape α]:Shape (List α) where
 size:=1
 C:=fun w cs xs fp=>∃v,cs=[v]/\Sl w v xs fp
 len:=fun ⟨_,h,_⟩=>by rw[h];rfl
 loc:=fun hs hk ⟨v,h,hl⟩=>⟨v,h,hl.loc hk hs⟩
 one:=fun ⟨v,h,ao,cap,hv,_⟩ u hu=>by subst h;simp at hu;subst hu;subst hv;rfl
 lt:=fun ⟨_,_,h⟩=>h.lt

theorem gU {w w':World}{b o:Nat}{cs:List Value}(h:w.rangeAt b o cs) (hb:Below w.heap.size w w'):w'.rangeAt b o cs:=fun j v hj=>by
 have:=h j v hj;rw[hb.cell (World.block_lt_of_cell? w _ this)];exact this

theorem fH {a w:World}{o:Obj}(h:Below a.heap.size a w):Below a.heap.size a (w.alloc o):=h.alloc h.size o
noncomputable def pB (p:Prop):Bool := @decide p (Classical.propDecidable p)
theorem pQ {p:Prop}(h:p):pB p=true:=by simp[pB,h]
theorem kX {p:Prop}(h:¬p):pB p=false:=by simp[pB,h]
theorem pB_iff {p:Prop}:pB p=true↔p:=by simp[pB]
def eqB {α:Type}[DecidableEq α] (a b:α):Bool:=decide (a=b)
theorem vA {α:Type}[DecidableEq α] {a b:α}(h:a=b):eqB a b=true:=by simp[eqB,h]
theorem vC {α:Type}[DecidableEq α] {a b:α}(h:¬a=b):eqB a b=false:=by simp[eqB,h]
theorem eqB_iff {α:Type}[DecidableEq α] {a b:α}:eqB a b=true↔a=b:=by simp[eqB]
def inB (n a b:Int):Bool:=decide (a<=n) && decide (n<=b)
def act (n:Nat) (f:Nat->Value):Act:={ tmps:=((List.range n).map f).toArray,defers:=[] }
def upd (f:Nat->Value) (d:Nat) (v:Value):Nat->Value:=fun t=>cond (Nat.beq t d) v (f t)
def dF (f:Nat->Value):Option Tmp->Value->(Nat->Value)
 | some d,v=>upd f d v
 | none,_=>f
def ev (n:Nat) (f:Nat->Value):Operand->Value
 | .tmp t=>cond (Nat.ble (t+1) n) (f t) undef
 | .const v=>v
 | .global g=>.pointer (some ⟨g,0,none⟩)
 | .func g=>.func (.func g) #[] #[]
def u0:Nat->Value:=fun _=>undef

theorem aV8 (n:Nat) (f:Nat->Value) (t:Nat):(act n f).tmps.getD t undef=cond (Nat.ble (t+1) n) (f t) undef:=by
 by_cases h:t<n
 ·have:Nat.ble (t+1) n=true:=Nat.ble_eq_true_of_le aA;simp[act,h,this]
 have:Nat.ble (t+1) n=false:=by
  cases e:Nat.ble (t+1) n
  ·rfl
  exact absurd (Nat.le_of_ble_eq_true e) aA
 simp[act,h,this]
theorem qK (n:Nat) (f:Nat->Value):(act n f).eval=ev n f:=by
 funext x
 cases x<;>simp only[Act.eval,ev]
 exact aV8 n f _
theorem rH (n:Nat) (f:Nat->Value) (d:Option Tmp) (v:Value):(act n f).put d v=act n (dF f d v):=by
 cases d with
 | none=>rfl
 | some d=>
  simp only[Act.put,act,dF];congr 1;apply Array.ext_getElem?;intro i;simp only[Array.getElem?_setIfInBounds,getElem?_toArray,getElem?_map,size_toArray,length_map,length_range];by_cases h:d=i
  ·subst h;by_cases hn:d<n
   ·simp[hn,upd]
   simp[hn]
  rw[if_neg h];cases hi:(List.range n)[i]? with
  | none=>rfl
  | some j=>
   obtain⟨hj,rfl⟩:=List.getElem?_eq_some_iff.1 hi;simp only[Option.map_some,getElem_range];have:Nat.beq i d=false:=by
    cases e:Nat.beq i d
    ·rfl
    exact absurd (Nat.eq_of_beq_eq_true e) (fun e=>h e.symm)
   simp[upd,this]
theorem xD (n:Nat) (vs:List Value) (g:Nat->Value) (hl:vs.length<=n) (h:∀t,t<n->vs.getD t undef=g t) :
  ({ tmps:=vs.toArray++Array.replicate (n-vs.toArray.size) undef,defers:=[] }:Act)=act n g:=by
 simp only[act];congr 1;apply Array.ext_getElem?;intro i;simp only[getElem?_toArray,getElem?_map,Array.getElem?_append,size_toArray,Array.getElem?_replicate];by_cases h1:i<vs.length
 ·have h2:i<n:=by omega
  rw[if_pos h1,getElem?_range h2];simp only[Option.map_some];rw[<- h i h2,getD_eq_getElem?_getD,getElem?_eq_getElem h1];rfl
 rw[if_neg h1];by_cases h2:i<n
 ·rw[if_pos aA,getElem?_range h2];simp only[Option.map_some];rw[<- h i h2,getD_eq_getElem?_getD,getElem?_eq_none aA];rfl
 rw[if_neg aA,getElem?_eq_none (by simp;omega)];rfl

structure Stp (P:Program) (n:Nat) (o:Oper) (f:Nat->Value) (W:World) (Q:Exit->Act->World->Prop) (K:Value->World->Prop):Prop where
 out:o.wp P (act n f) W (fun a' w'=>∃v,a'=act n (dF f o.dst v)/\K v w') Q

section
variable {P:Program}{n:Nat}{f:Nat->Value}{W:World}{Q:Exit->Act->World->Prop}{K:Value->World->Prop}

theorem Stp.mono {o:Oper}{K':Value->World->Prop}(h:Stp P n o f W Q K) (hk:∀v w,K v w->K' v w):Stp P n o f W Q K':=
 ⟨Oper.wp_mono (fun _ _ ⟨v,e,k⟩=>⟨v,e,hk v _ k⟩) h.out⟩
theorem Stp.run {o:Oper}{v:Value}{W':World}(h:(execOp (ev n f) o).run P W = .ok (.value v) W') (k:K v W'):Stp P n o f W Q K:=by
 refine⟨?_⟩;unfold Oper.wp;rw[qK,h];exact⟨v,by rw[rH],k⟩
theorem Stp.unit {o:Oper}{W':World}(h:(execOp (ev n f) o).run P W = .ok .skip W') (k:K undef W'):Stp P n o f W Q K:=by
 refine⟨?_⟩;unfold Oper.wp;rw[qK,h];exact⟨undef,by rw[rH],k⟩
structure Wl (P:Program) (ops:Array Oper) (Q:Exit->Act->World->Prop) (rest:List Oper) (n:Nat) (f:Nat->Value) (W:World):Prop where
 out:wpList P ops Q rest (act n f) W
theorem sx {o:Oper}{ops:Array Oper}{rest:List Oper}(hg:o.guard=none) (h:Stp P n o f W Q (fun v W'=>Wl P ops Q rest n (dF f o.dst v) W')):Wl P ops Q (o::rest) n f W:=by
 refine⟨?_⟩;unfold wpList;rw[if_pos (by simp[Region.wanted,hg])];exact .inl (Oper.wp_mono (fun _ _ ⟨v,e,k⟩=>by rw[e];exact k.out) h.out)
theorem sxn {o:Oper}{ops:Array Oper}{rest:List Oper}(hg:o.guard=none) (hd:o.dst=none) (h:Stp P n o f W Q (fun _ W'=>Wl P ops Q rest n f W')):Wl P ops Q (o::rest) n f W:=sx hg (by rw[hd];exact h)
theorem bO {ops:Array Oper}(h:Q .normal (act n f) W):Wl P ops Q [] n f W:=⟨h⟩
theorem aS {id:Nat}{l:List Oper}(h:Wl P l.toArray Q l n f W):(Code.region id l.toArray false).wp P Q (act n f) W:=wp_region_lit h.out
theorem bK8 {c:Operand}{x y:Code}{t:Bool}(hc:ev n f c = .bool t) (ht:t=true->x.wp P Q (act n f) W) (hf:t=false->y.wp P Q (act n f) W):(Code.cond c x y).wp P Q (act n f) W:=
 wp_cond_split (t:=t) (by rw[qK];exact hc) ht hf
theorem sx_t {c:Operand}{x y:Code}{t:Bool}(hc:ev n f c = .bool t) (h:t=true) (ht:x.wp P Q (act n f) W):(Code.cond c x y).wp P Q (act n f) W:=
 bK8 hc (fun _=>ht) (fun h'=>by rw[h]at h';cases h')
theorem bP2 {p:Nat->Prop}(h:∃m,p m):∃m,p m/\∀k,p k->m<=k:=by
 obtain⟨m,hm⟩:=h
 induction m using Nat.strongRecOn with
 | _ m ih=>
  by_cases h:∃k,k<m/\p k
  ·obtain⟨k,hk,hp⟩:=h;exact ih k hk hp
  exact⟨m,hm,fun k hk=>Nat.le_of_not_lt (fun hlt=>h ⟨k,hlt,hk⟩)⟩
theorem yZ {c:Code}(J:Nat->(Nat->Value)->World->Prop) (m0:Nat) (h0:J m0 f W)
  (round:∀m f W,J m f W->c.wp P (Exit.then (fun a' w'=>∃f' m',m'<m/\a'=act n f'/\J m' f' w') Q) (act n f) W):(Code.loop c).wp P Q (act n f) W:=by
 classical
 let R:Act->World->Nat->Prop:=fun a w m=>∃f,a=act n f/\J m f w
 refine wp_loop (fun a w=>∃m,R a w m) (fun a w=>if h:∃m,R a w m then (bP2 h).choose else 0) ⟨m0,f,rfl,h0⟩ ?_;intro a w hI;obtain⟨g,rfl,hJ⟩:=(bP2 hI).choose_spec.1;refine Code.wp_mono ?_ (round _ g w hJ);intro e a' w' hq;cases e with
 | normal=>
  obtain⟨f',m',hlt,rfl,hJ'⟩:=hq;have hI':∃m,R (act n f') w' m:=⟨m',f',rfl,hJ'⟩;refine⟨hI',?_⟩;rw[dif_pos hI,dif_pos hI'];exact Nat.lt_of_le_of_lt ((bP2 hI').choose_spec.2 m' ⟨f',rfl,hJ'⟩) hlt
 | exit id=>exact hq
 | goto l=>exact hq
 | ret=>exact hq
 | panic ch=>exact hq
 | outgrown=>exact hq
end
section
variable {P:Program}{n:Nat}{f:Nat->Value}{W:World}{Q:Exit->Act->World->Prop}{K:Value->World->Prop}
 {d:Option Tmp}{ty:TypeId}{pos:String}{af:Array Edge}{g:Option (Nat×Bool)}

theorem bY {x:Operand}{v:Value}(hx:ev n f x=v) (k:K v W):Stp P n ⟨d,.move x,ty,pos,af,g⟩ f W Q K:=
 Stp.run (v:=v) (by simp[execOp,hx]) k
theorem cC {x:Operand}{v:Value}(hx:ev n f x=v) (k:K v W):Stp P n ⟨d,.assign x,ty,pos,af,g⟩ f W Q K:=
 Stp.run (v:=v) (by simp[execOp,hx]) k
theorem stp_ac_ {c:Value}(k:K c W):Stp P n ⟨d,.assign (.const c),ty,pos,af,g⟩ f W Q K:=cC rfl k
theorem sN {c a b:Operand}{v:Value}(hc:ev n f c = .bool true) (hx:ev n f a=v) (k:K v W):Stp P n ⟨d,.pick c a b,ty,pos,af,g⟩ f W Q K:=
 Stp.run (v:=v) (by simp[execOp,hx,hc,asBool]) k
theorem sO {c a b:Operand}{v:Value}(hc:ev n f c = .bool false) (hx:ev n f b=v) (k:K v W):Stp P n ⟨d,.pick c a b,ty,pos,af,g⟩ f W Q K:=
 Stp.run (v:=v) (by simp[execOp,hx,hc,asBool]) k

theorem gS {a:Int}(h:I64 a):IntKind.i64.wrap a=a:=by
 unfold I64 at h;simp[IntKind.wrap,IntKind.bits,IntKind.signed];omega
theorem nY {x y:Operand}{t t':TypeId}{a b:Int}(hx:ev n f x=I a) (hy:ev n f y=I b) (h:I64 (a+b)) (k:K (I (a+b)) W):Stp P n ⟨d,.binOp .add t x y t',ty,pos,af,g⟩ f W Q K:=
 Stp.run (v:=I (a+b)) (by simp[execOp,hx,hy,go_sem,Op.intArith,gS h]) k
theorem bL3 {x y:Operand}{t t':TypeId}{a b:Int}(hx:ev n f x=I a) (hy:ev n f y=I b) (h:I64 (a-b)) (k:K (I (a-b)) W):Stp P n ⟨d,.binOp .sub t x y t',ty,pos,af,g⟩ f W Q K:=
 Stp.run (v:=I (a-b)) (by simp[execOp,hx,hy,go_sem,Op.intArith,gS h]) k
theorem bL7 {x y:Operand}{t t':TypeId}{a b:Int}(hx:ev n f x=I a) (hy:ev n f y=I b) (h:I64 (a*b)) (k:K (I (a*b)) W):Stp P n ⟨d,.binOp .mul t x y t',ty,pos,af,g⟩ f W Q K:=
 Stp.run (v:=I (a*b)) (by simp[execOp,hx,hy,go_sem,Op.intArith,gS h]) k
theorem bM0 {x y:Operand}{t t':TypeId}{a b:Int}(hx:ev n f x=I a) (hy:ev n f y=I b) (k:K (.bool (decide (a=b))) W):Stp P n ⟨d,.binOp .eql t x y t',ty,pos,af,g⟩ f W Q K:=
 Stp.run (v := .bool (decide (a=b))) (by simp[execOp,hx,hy,go_sem];rfl) k
theorem stp_neq {x y:Operand}{t t':TypeId}{a b:Int}(hx:ev n f x=I a) (hy:ev n f y=I b) (k:K (.bool (!decide (a=b))) W):Stp P n ⟨d,.binOp .neq t x y t',ty,pos,af,g⟩ f W Q K:=
 Stp.run (v := .bool (!decide (a=b))) (by simp[execOp,hx,hy,go_sem,bne];rfl) k
theorem aS2 {x y:Operand}{t t':TypeId}{a b:Int}(hx:ev n f x=I a) (hy:ev n f y=I b) (k:K (.bool (decide (a<b))) W):Stp P n ⟨d,.binOp .lss t x y t',ty,pos,af,g⟩ f W Q K:=
 Stp.run (v := .bool (decide (a<b))) (by simp[execOp,hx,hy,go_sem]) k
theorem stp_leq {x y:Operand}{t t':TypeId}{a b:Int}(hx:ev n f x=I a) (hy:ev n f y=I b) (k:K (.bool (decide (a<=b))) W):Stp P n ⟨d,.binOp .leq t x y t',ty,pos,af,g⟩ f W Q K:=
 Stp.run (v := .bool (decide (a<=b))) (by simp[execOp,hx,hy,go_sem]) k
theorem bL9 {x y:Operand}{t t':TypeId}{a b:Int}(hx:ev n f x=I a) (hy:ev n f y=I b) (k:K (.bool (decide (b<a))) W):Stp P n ⟨d,.binOp .gtr t x y t',ty,pos,af,g⟩ f W Q K:=
 Stp.run (v := .bool (decide (b<a))) (by simp[execOp,hx,hy,go_sem]) k
theorem stp_geq {x y:Operand}{t t':TypeId}{a b:Int}(hx:ev n f x=I a) (hy:ev n f y=I b) (k:K (.bool (decide (b<=a))) W):Stp P n ⟨d,.binOp .geq t x y t',ty,pos,af,g⟩ f W Q K:=
 Stp.run (v := .bool (decide (b<=a))) (by simp[execOp,hx,hy,go_sem]) k
theorem zB {x:Operand}{t:TypeId}{b:Bool}(hx:ev n f x = .bool b) (k:K (.bool (!b)) W):Stp P n ⟨d,.unOp .not t x,ty,pos,af,g⟩ f W Q K:=
 Stp.run (v := .bool (!b)) (by simp[execOp,hx,go_sem,Op.unary]) k

def oW (P:Program) (t:TypeId) (i off:Nat):Prop:=∀b o W,(Instr.fieldAt t (.pointer (some ⟨b,o,none⟩)) i).run P W = .ok (.pointer (some ⟨b,o+off,none⟩)) W
theorem uX {t:TypeId}{i off:Nat}{fs:Array Field}{fd:Field}(hu:P.underlying t=some (.struct fs)) (hf:fs[i]? = some fd) (ho:fd.offset=off) (hz:((P.info? fd.type).map (fun j=>decide (j.size=0)))=some false):oW P t i off:=by
 subst ho;intro b o W;cases hq:P.info? fd.type with
 | none=>simp[hq]at hz
 | some j=>
  have hj:¬j.size=0:=by simpa [hq] using hz
  simp[Instr.fieldAt,hu,hf,Sem.run_bind,Instr.sureAddr,run_underlying hu,fieldPlace,Addr.add,sizeOf,typeInfo,hq,hj,go_sem]
class Agg (α:Type) where
 agg:Bool
instance:Agg Int:=⟨false⟩
instance:Agg Bool:=⟨false⟩
instance:Agg ByteArray:=⟨false⟩
instance {α:Type}:Agg (List α):=⟨false⟩
def val (α:Type) [Agg α] (cs:List Value):Value:=cond (Agg.agg α) (.agg cs.toArray) (cs.headD undef)
def V {α:Type}[Shape α] [Agg α] (w:World) (v:Value) (x:α) (fp:List Nat):Prop:=∃cs,v=val α cs/\Shape.C w cs x fp
def At {α:Type}[Shape α] (w:World) (b o:Nat) (x:α) (fp:List Nat):Prop:=∃cs,w.rangeAt b o cs/\Shape.C w cs x fp
structure TyOk (P:Program) (t:TypeId) (α:Type) [Shape α] [Agg α]:Prop where
 size:(P.info? t).map (·.size)=some (Shape.size α)
 one:Agg.agg α=false->Shape.size α=1
 desc:∃ds,P.underlying t=some ds/\(cond (Agg.agg α) (∃fs,ds = .struct fs) (ds.isRow=false))
theorem TyOk.load {t:TypeId}{α:Type}[Shape α] [Agg α] (h:TyOk P t α) {b o:Nat}{cs:List Value}(hr:W.rangeAt b o cs) (hl:cs.length=Shape.size α) :
  (Instr.loadAt t (.pointer (some ⟨b,o,none⟩))).run P W = .ok (val α cs) W:=by
 obtain⟨ds,hu,hd⟩:=h.desc;cases ha:Agg.agg α with
 | true=>
  rw[ha]at hd;obtain⟨fs,rfl⟩:=hd;rw[run_loadAt_mid W b o t cs _ hr hu rfl (by rw[h.size,hl])];simp[val,ha]
 | false=>
  rw[ha]at hd;have h1:=h.one ha;obtain⟨v,rfl⟩:∃v,cs=[v]:=by
   match cs,hl with
   | [v],_=>exact⟨v,rfl⟩
   | [],h=>simp[h1]at h
   | _::_::_,h=>simp[h1]at h
  have hc:=hr 0 v rfl;have hagg:(isAgg t).run P W = .ok false W:=by
   unfold isAgg;rw[Sem.run_bind,run_underlying hu W];have hd':ds.isRow=false:=hd;cases ds<;>simp_all[TypeDesc.isRow]
  simp only[Nat.add_zero]at hc;simp[Instr.loadAt,Instr.sureAddr,Sem.run_bind,loadVar,hagg,hc,val,ha]

theorem eV {x:Operand}{t:TypeId}{i off b o:Nat}(hF:oW P t i off) (hx:ev n f x = .pointer (some ⟨b,o,none⟩)) (k:K (.pointer (some ⟨b,o+off,none⟩)) W):Stp P n ⟨d,.fieldAddr t x i,ty,pos,af,g⟩ f W Q K:=
 Stp.run (v := .pointer (some ⟨b,o+off,none⟩)) (by simp[execOp,hx,hF b o W,Sem.run_bind]) k
theorem At.below {α:Type}[Shape α] {w w':World}{b o:Nat}{x:α}{fp:List Nat}(h:At w b o x fp) (hb:Below w.heap.size w w'):At w' b o x fp:=by
 obtain⟨cs,hr,hc⟩:=h;exact⟨cs,gU hr hb,zS hc hb⟩
theorem V.below {α:Type}[Shape α] [Agg α] {w w':World}{v:Value}{x:α}{fp:List Nat}(h:V w v x fp) (hb:Below w.heap.size w w'):V w' v x fp:=by
 obtain⟨cs,hr,hc⟩:=h;exact⟨cs,hr,zS hc hb⟩
theorem V_sl {w:World}{α:Type}[Shape α] {v:Value}{x:List α}{fp:List Nat}(h:V w v x fp):Sl w v x fp:=by obtain⟨_,rfl,_,rfl,h⟩:=h;exact h
theorem Sl.v {w:World}{α:Type}[Shape α] {v:Value}{x:List α}{fp:List Nat}(h:Sl w v x fp):V w v x fp:=⟨[v],rfl,v,rfl,h⟩
theorem At.int {w:World}{b o:Nat}{x:Int}(h:w.cell? ⟨b,o,none⟩=some (I x)) (hx:I64 x):At w b o x []:=
 ⟨[I x],fun j v hj=>by cases j with | zero=>cases hj;exact h | succ j=>simp at hj,rfl,rfl,hx⟩

structure SlOk (P:Program) (t:TypeId) (e:TypeId) (α:Type) [Shape α]:Prop where
 desc:P.underlying t=some (.slice e)
 size:(P.info? e).map (·.size)=some (Shape.size α)
def PA (v:Value) (k i b o:Nat):Prop:=∃off len cap,v = .slice (some ⟨b,off,none⟩) len cap/\i<len/\o=off+i*k
theorem idx {α:Type}[Shape α] {w:World}{v:Value}{xs:List α}{fp:List Nat}(hs:Sl w v xs fp) {i:Nat}(hi:i<xs.length):∃b o cs f1,PA v (Shape.size α) i b o/\w.rangeAt b o cs/\Shape.C w cs xs[i] f1/\∀c∈b::f1,c∈fp:=by
 obtain⟨ao,cap,rfl,h1,h2,h3⟩:=hs.openk _ rfl;obtain⟨b,off,rfl,hb,hm,he⟩:=h3 aA;obtain⟨cs,f1,hr,hc,hf⟩:=he i hi;exact⟨b,_,cs,f1,⟨off,_,_,rfl,hi,rfl⟩,hr,hc,by intro c hc;rcases mem_cons.1 hc with rfl | hc;exact hm;exact hf c hc⟩
theorem kF {x y:Operand}{t t':TypeId}{α:Type}[Shape α] {v:Value}{i b o:Nat}{e:Int}(hT:SlOk P t t' α) (hx:ev n f x=v) (hp:PA v (Shape.size α) i b o) (hy:ev n f y=I e) (he:e=i)
  (k:K (.pointer (some ⟨b,o,none⟩)) W):Stp P n ⟨d,.indexAddr t x y,ty,pos,af,g⟩ f W Q K:=by
 obtain⟨off,len,cap,rfl,hi,rfl⟩:=hp;subst he;refine Stp.run (v := .pointer (some ⟨b,off+i*Shape.size α,none⟩)) ?_ k;have hel:P.elem t=t':=by simp[Program.elem,hT.desc]
 have hu:P.underlying t=some (.slice (P.elem t)):=by rw[hel];exact hT.desc
 have hz:=hT.size;cases hq:P.info? t' with
 | none=>simp[hq]at hz
 | some j=>
  have hj:j.size=Shape.size α:=by simpa [hq] using hz
  have hlt:(i:Int)<len:=by omega
  simp[execOp,hx,hy,Sem.run_bind,run_indexAt_slice (h:=hu),hel,hlt,sizeOf,typeInfo,hq,hj,Addr.add]
theorem xO {t:TypeId}{α:Type}[Shape α] [Agg α] {w:World}{x:Operand}{b o o' i:Nat}{C:List Value}{v:Value}(hT:TyOk P t α) (ha:Agg.agg α=false) (hx:ev n f x = .pointer (some ⟨b,o',none⟩)) (hr:w.rangeAt b o C) (hb:Below w.heap.size w W) (ho:o'=o+i) (hv:C[i]? = some v) (k:K v W) :
  Stp P n ⟨d,.load t x,ty,pos,af,g⟩ f W Q K:=by
 subst ho;have hr1:W.rangeAt b (o+i) [v]:=by
  intro j u hj;cases j with
  | zero=>simp at hj;subst hj;exact(gU hr hb) i v hv
  | succ j=>simp at hj
 refine Stp.run (v:=v) ?_ k;have:=hT.load hr1 (by rw[hT.one ha];rfl);simp only[val,ha,cond_false]at this;simp[execOp,hx,Sem.run_bind,this]
theorem stp_load_rgs {t:TypeId}{α:Type}[Shape α] [Agg α] {w:World}{x:Operand}{b o o' i:Nat}{C cs:List Value}(hT:TyOk P t α) (ha:Agg.agg α=true) (hx:ev n f x = .pointer (some ⟨b,o',none⟩)) (hr:w.rangeAt b o C) (hb:Below w.heap.size w W) (ho:o'=o+i) (hv:(C.drop i).take (Shape.size α)=cs) (hl:cs.length=Shape.size α) (k:K (.agg cs.toArray) W) :
  Stp P n ⟨d,.load t x,ty,pos,af,g⟩ f W Q K:=by
 subst ho;have hr1:W.rangeAt b (o+i) cs:=by
  intro j u hj;have hjl:j<cs.length:=(List.getElem?_eq_some_iff.1 hj).1;rw[<- hv,getElem?_take,if_pos aA,getElem?_drop]at hj;rw[Nat.add_assoc];exact(gU hr hb) (i+j) u hj
 refine Stp.run (v := .agg cs.toArray) ?_ k;have:=hT.load hr1 hl;simp only[val,ha,cond_true]at this;simp[execOp,hx,Sem.run_bind,this]
end
def Wr (W:World) (b:Nat):Prop:=∃C e,W.heap[b]? = some (.cells C e (0,0))
theorem Wr.lt {W:World}{b:Nat}(h:Wr W b):b<W.heap.size:=by
 obtain⟨C,e,h⟩:=h;exact(Array.getElem?_eq_some_iff.1 h).1
theorem Wr.loc {W W':World}{b:Nat}(h:Wr W b) (he:W'.heap[b]? = W.heap[b]?):Wr W' b:=by
 obtain⟨C,e,h⟩:=h;exact⟨C,e,by rw[he];exact h⟩
theorem fM {W W':World}{b:Nat}(he:W'.heap[b]? = W.heap[b]?) (o:Nat):W'.cell? ⟨b,o,none⟩=W.cell? ⟨b,o,none⟩:=World.cell?_of_block (w:=W) he

structure Res where
 fp:List Nat
 holds:World->Prop
 loc:∀{W W':World},W.heap.size<=W'.heap.size->(∀b∈fp,W'.heap[b]? = W.heap[b]?)->holds W->holds W'
 wr:∀{W:World},holds W->∀b∈fp,Wr W b

structure St (w0 W:World) (rs:List Res):Prop where
 below:Below w0.heap.size w0 W
 nodup:(rs.flatMap Res.fp).Nodup
 fresh:∀r∈rs,∀b∈r.fp,w0.heap.size<=b
 holds:∀r∈rs,r.holds W

theorem St.start (w:World):St w w []:=⟨Below.refl _ _,by simp,by simp,by simp⟩
theorem St.get {w0 W:World}{rs:List Res}(h:St w0 W rs) (i:Nat) {r:Res}(hi:rs[i]? = some r):r.holds W:=h.holds r (mem_of_getElem? hi)
theorem St.of_below {w0 W:World}(h:Below w0.heap.size w0 W):St w0 W []:=⟨h,by simp,by simp,by simp⟩
theorem sub_flatMap {rs rs':List Res}(h:rs'.Sublist rs):(rs'.flatMap Res.fp).Sublist (rs.flatMap Res.fp):=by
 induction h with
 | slnil=>simp
 | cons a _ ih=>rw[flatMap_cons];exact ih.trans (sublist_append_right _ _)
 | cons_cons a _ ih=>rw[flatMap_cons,flatMap_cons];exact(List.Sublist.refl _).append ih
theorem sG:∀(rs:List Res) (i:Nat) (h:i<rs.length),(rs[i]::rs.eraseIdx i).Perm rs
 | r::rs,0,_=>List.Perm.refl _
 | r::rs,i+1,h=>(List.Perm.swap _ _ _).trans ((sG rs i (by simpa using h)).cons r)
theorem St.sub {w0 W:World}{rs rs':List Res}(h:St w0 W rs) (hs:rs'.Sublist rs):St w0 W rs':=
 ⟨h.below,(sub_flatMap hs).nodup h.nodup,fun r hr=>h.fresh r (hs.subset hr),fun r hr=>h.holds r (hs.subset hr)⟩
theorem St.perm {w0 W:World}{rs rs':List Res}(h:St w0 W rs) (hs:rs'.Perm rs):St w0 W rs':=
 ⟨h.below,((hs.flatMap_right _).nodup_iff).2 h.nodup,fun r hr=>h.fresh r (hs.subset hr),fun r hr=>h.holds r (hs.subset hr)⟩
theorem St.front {w0 W:World}{rs:List Res}(h:St w0 W rs) (i:Nat) {r:Res}(hi:rs[i]? = some r):St w0 W (r::rs.eraseIdx i):=by
 obtain⟨hlt,rfl⟩:=List.getElem?_eq_some_iff.1 hi;exact h.perm (sG rs i hlt)
theorem St.f1 {w0 W:World}{r0 r1:Res}{rs:List Res}(h:St w0 W (r0::r1::rs)):St w0 W (r1::r0::rs):=h.front 1 rfl
theorem St.f2 {w0 W:World}{r0 r1 r2:Res}{rs:List Res}(h:St w0 W (r0::r1::r2::rs)):St w0 W (r2::r0::r1::rs):=h.front 2 rfl
theorem St.f3 {w0 W:World}{r0 r1 r2 r3:Res}{rs:List Res}(h:St w0 W (r0::r1::r2::r3::rs)):St w0 W (r3::r0::r1::r2::rs):=h.front 3 rfl
theorem St.f4 {w0 W:World}{r0 r1 r2 r3 r4:Res}{rs:List Res}(h:St w0 W (r0::r1::r2::r3::r4::rs)):St w0 W (r4::r0::r1::r2::r3::rs):=h.front 4 rfl
theorem St.f5 {w0 W:World}{r0 r1 r2 r3 r4 r5:Res}{rs:List Res}(h:St w0 W (r0::r1::r2::r3::r4::r5::rs)):St w0 W (r5::r0::r1::r2::r3::r4::rs):=h.front 5 rfl
theorem St.f6 {w0 W:World}{r0 r1 r2 r3 r4 r5 r6:Res}{rs:List Res}(h:St w0 W (r0::r1::r2::r3::r4::r5::r6::rs)):St w0 W (r6::r0::r1::r2::r3::r4::r5::rs):=h.front 6 rfl
theorem St.f7 {w0 W:World}{r0 r1 r2 r3 r4 r5 r6 r7:Res}{rs:List Res}(h:St w0 W (r0::r1::r2::r3::r4::r5::r6::r7::rs)):St w0 W (r7::r0::r1::r2::r3::r4::r5::r6::rs):=h.front 7 rfl
theorem St.f10 {w0 W:World}{r0 r1 r2 r3 r4 r5 r6 r7 r8 r9 r10:Res}{rs:List Res}(h:St w0 W (r0::r1::r2::r3::r4::r5::r6::r7::r8::r9::r10::rs)):St w0 W (r10::r0::r1::r2::r3::r4::r5::r6::r7::r8::r9::rs):=h.front 10 rfl
theorem St.f12 {w0 W:World}{r0 r1 r2 r3 r4 r5 r6 r7 r8 r9 r10 r11 r12:Res}{rs:List Res}(h:St w0 W (r0::r1::r2::r3::r4::r5::r6::r7::r8::r9::r10::r11::r12::rs)):St w0 W (r12::r0::r1::r2::r3::r4::r5::r6::r7::r8::r9::r10::r11::rs):=h.front 12 rfl
theorem St.f15 {w0 W:World}{r0 r1 r2 r3 r4 r5 r6 r7 r8 r9 r10 r11 r12 r13 r14 r15:Res}{rs:List Res}(h:St w0 W (r0::r1::r2::r3::r4::r5::r6::r7::r8::r9::r10::r11::r12::r13::r14::r15::rs)):St w0 W (r15::r0::r1::r2::r3::r4::r5::r6::r7::r8::r9::r10::r11::r12::r13::r14::rs):=h.front 15 rfl
theorem St.d0 {w0 W:World}{r0:Res}{rs:List Res}(h:St w0 W (r0::rs)):St w0 W (rs):=h.sub (eraseIdx_sublist (r0::rs) 0)
theorem St.d1 {w0 W:World}{r0 r1:Res}{rs:List Res}(h:St w0 W (r0::r1::rs)):St w0 W (r0::rs):=h.sub (eraseIdx_sublist (r0::r1::rs) 1)
theorem St.d2 {w0 W:World}{r0 r1 r2:Res}{rs:List Res}(h:St w0 W (r0::r1::r2::rs)):St w0 W (r0::r1::rs):=h.sub (eraseIdx_sublist (r0::r1::r2::rs) 2)
theorem St.d3 {w0 W:World}{r0 r1 r2 r3:Res}{rs:List Res}(h:St w0 W (r0::r1::r2::r3::rs)):St w0 W (r0::r1::r2::rs):=h.sub (eraseIdx_sublist (r0::r1::r2::r3::rs) 3)
theorem St.d4 {w0 W:World}{r0 r1 r2 r3 r4:Res}{rs:List Res}(h:St w0 W (r0::r1::r2::r3::r4::rs)):St w0 W (r0::r1::r2::r3::rs):=h.sub (eraseIdx_sublist (r0::r1::r2::r3::r4::rs) 4)
theorem St.d5 {w0 W:World}{r0 r1 r2 r3 r4 r5:Res}{rs:List Res}(h:St w0 W (r0::r1::r2::r3::r4::r5::rs)):St w0 W (r0::r1::r2::r3::r4::rs):=h.sub (eraseIdx_sublist (r0::r1::r2::r3::r4::r5::rs) 5)
theorem St.bare {w0 W:World}{rs:List Res}(h:St w0 W rs):St w0 W []:=h.sub (nil_sublist _)
theorem St.only {w0 W:World}{rs:List Res}(h:St w0 W rs) (i:Nat) {r:Res}(hi:rs[i]? = some r):St w0 W [r]:=
 h.sub (singleton_sublist.2 (mem_of_getElem? hi))
theorem St.lt {w0 W:World}{rs:List Res}(h:St w0 W rs) {r:Res}(hr:r∈rs):∀b∈r.fp,b<W.heap.size:=fun b hb=>(r.wr (h.holds r hr) b hb).lt
theorem St.call {w0 W W':World}{rs rs':List Res}(h:St w0 W rs) (k:St W W' rs'):St w0 W' (rs'++rs):=by
 have hk:=k.below;refine⟨h.below.trans (hk.mono h.below.size),?_,?_,?_⟩
 ·rw[flatMap_append,nodup_append];refine⟨k.nodup,h.nodup,?_⟩;intro a ha b hb e;subst e;obtain⟨r,hr,hra⟩:=mem_flatMap.1 ha;obtain⟨s,hs,hsa⟩:=mem_flatMap.1 hb;have:=k.fresh r hr a hra;have:=h.lt hs a hsa;omega
 ·intro r hr b hb;rcases mem_append.1 hr with hr | hr
  ·exact Nat.le_trans h.below.size (k.fresh r hr b hb)
  exact h.fresh r hr b hb
 intro r hr;rcases mem_append.1 hr with hr | hr
 ·exact k.holds r hr
 exact r.loc hk.size (fun b hb=>hk.block b (h.lt hr b hb)) (h.holds r hr)
theorem St.turn {w0 W W':World}{r r':Res}{rs:List Res}(h:St w0 W (r::rs)) (hos:W'.os=W.os) (htape:W'.tape=W.tape) (hout:W'.output=W.output) (hsize:W.heap.size<=W'.heap.size)
  (hblock:∀k,k<W.heap.size->k∉r.fp->W'.heap[k]? = W.heap[k]?) (hr:r'.holds W') (hn:r'.fp.Nodup) (hf:∀b∈r'.fp,b∈r.fp∨W.heap.size<=b):St w0 W' (r'::rs):=by
 have hfr:∀b∈r.fp,w0.heap.size<=b:=h.fresh r (by simp);have hnd:=h.nodup;rw[flatMap_cons,nodup_append]at hnd;have hlt:∀s∈rs,∀b∈s.fp,b<W.heap.size:=fun s hs=>h.lt (by simp[hs])
 refine⟨⟨hos.trans h.below.os,htape.trans h.below.tape,hout.trans h.below.output,Nat.le_trans h.below.size hsize,fun k hk=>?_⟩,?_,?_,?_⟩
 ·rw[hblock k (Nat.lt_of_lt_of_le hk h.below.size) (fun hm=>by have:=hfr k hm;omega)];exact h.below.block k hk
 ·rw[flatMap_cons,nodup_append];refine⟨hn,hnd.2.1,?_⟩;intro a ha b hb e;subst e;rcases hf a ha with h1 | h1
  ·exact hnd.2.2 a h1 a hb rfl
  obtain⟨s,hs,hsa⟩:=mem_flatMap.1 hb;have:=hlt s hs a hsa;omega
 ·intro s hs b hb;rcases mem_cons.1 hs with rfl | hs
  ·rcases hf b hb with h1 | h1
   ·exact hfr b h1
   exact Nat.le_trans h.below.size h1
  exact h.fresh s (by simp[hs]) b hb
 intro s hs;rcases mem_cons.1 hs with rfl | hs
 ·exact hr
 refine s.loc hsize (fun b hb=>hblock b (hlt s hs b hb) (fun hm=>?_)) (h.holds s (by simp[hs]));exact hnd.2.2 b hm b (mem_flatMap.2 ⟨s,hs,hb⟩) rfl

def Res.bx (b:Nat) (cs:List Value) (t:TypeId):Res where
 fp:=[b]
 holds:=fun W=>W.heap[b]? = some (.cells cs.toArray t (0,0))
 loc:=fun _ hb h=>by rw[hb b (by simp)];exact h
 wr:=fun h c hc=>by simp at hc;subst hc;exact⟨_,_,h⟩
theorem St.alloc {w0 W:World}{rs:List Res}(h:St w0 W rs) (cs:List Value) (t:TypeId):St w0 (W.alloc (.cells cs.toArray t)) (Res.bx W.heap.size cs t::rs):=by
 refine h.call (rs':=[Res.bx W.heap.size cs t]) ⟨fH (Below.refl _ _),by simp[Res.bx],?_,?_⟩
 ·intro r hr b hb;simp at hr;subst hr;simp[Res.bx]at hb;omega
 intro r hr;simp at hr;subst hr;exact heap_alloc_at _ _ _ rfl
theorem bE {W:World}{b:Nat}{cs:List Value}{t:TypeId}{fr:Nat×Nat}(h:W.heap[b]? = some (.cells cs.toArray t fr)):W.rangeAt b 0 cs:=by
 intro j v hj;rw[cell_of_row W b (0+j) _ t fr h,Nat.zero_add];simpa using hj
theorem At.cell {W:World}{b:Nat}{cs:List Value}{t:TypeId}(h:(Res.bx b cs t).holds W) (i:Nat) {v:Value}(hv:cs[i]? = some v):W.cell? ⟨b,0+i,none⟩=some v:=bE h i v hv

section
variable {P:Program}{n:Nat}{f:Nat->Value}{W w0:World}{rs:List Res}{Q:Exit->Act->World->Prop}{K:Value->World->Prop}
 {d:Option Tmp}{ty:TypeId}{pos:String}{af:Array Edge}{g:Option (Nat×Bool)}

theorem xQ {t:TypeId}{x:Operand}{cs:List Value}(hx:ev n f x = .agg cs.toArray) (hst:St w0 W rs) (k:∀b W',Below W.heap.size W W'->St w0 W' (Res.bx b cs t::rs)->K (.pointer (some ⟨b,0,none⟩)) W') :
  Stp P n ⟨d,.box t x,ty,pos,af,g⟩ f W Q K:=
 Stp.run (v := .pointer (some ⟨W.heap.size,0,none⟩)) (W':=W.alloc (.cells cs.toArray t)) (by simp[execOp,hx,Instr.box,newVar,newRow,Sem.run_bind,Value.cells]) (k _ _ (fH (Below.refl _ _)) (hst.alloc cs t))
theorem stp_box_one {t:TypeId}{x:Operand}{v:Value}(hx:ev n f x=v) (h1:v.cells = #[v]) (hst:St w0 W rs) (k:∀b W',Below W.heap.size W W'->St w0 W' (Res.bx b [v] t::rs)->K (.pointer (some ⟨b,0,none⟩)) W') :
  Stp P n ⟨d,.box t x,ty,pos,af,g⟩ f W Q K:=
 Stp.run (v := .pointer (some ⟨W.heap.size,0,none⟩)) (W':=W.alloc (.cells [v].toArray t)) (by simp[execOp,hx,Instr.box,newVar,newRow,Sem.run_bind,h1]) (k _ _ (fH (Below.refl _ _)) (hst.alloc [v] t))
def aV9 (P:Program) (t:TypeId) (cs:List Value):Prop:=((P.info? t).bind (·.zero)).map (·.cells.toList)=some cs
theorem aL4 {t:TypeId}{cs:List Value}(hz:aV9 P t cs) (hst:St w0 W rs) (k:∀b W',Below W.heap.size W W'->St w0 W' (Res.bx b cs t::rs)->K (.pointer (some ⟨b,0,none⟩)) W') :
  Stp P n ⟨d,.alloc t,ty,pos,af,g⟩ f W Q K:=by
 unfold aV9 at hz;cases hq:P.info? t with
 | none=>simp[hq]at hz
 | some i=>
  cases hq2:i.zero with
  | none=>simp[hq,hq2]at hz
  | some z=>
   have hc:z.cells=cs.toArray:=by simp[hq,hq2]at hz;rw[<- hz]
   exact Stp.run (v := .pointer (some ⟨W.heap.size,0,none⟩)) (W':=W.alloc (.cells cs.toArray t)) (by simp[execOp,Instr.alloc,zeroValue,typeInfo,hq,hq2,newVar,newRow,Sem.run_bind,hc]) (k _ _ (fH (Below.refl _ _)) (hst.alloc cs t))
theorem St.store {b:Nat}{C:List Value}{t:TypeId}(hst:St w0 W (Res.bx b C t::rs)) (o:Nat) (cs:List Value) (hle:o+cs.length<=C.length):St w0 (W.setCells b o cs) (Res.bx b (aK C o cs) t::rs):=by
 have hB:W.heap[b]? = some (.cells C.toArray t (0,0)):=hst.get 0 rfl;rw[uC cs o C W hB hle];have hbl:=(Array.getElem?_eq_some_iff.1 hB).1;refine hst.turn (r':=Res.bx b (aK C o cs) t) rfl rfl rfl (by simp[kB]) ?_ ?_ (by simp[Res.bx]) (fun c hc=>.inl hc)
 ·intro k hk hne;have:k≠b:=fun e=>hne (by simp[Res.bx,e])
  simp[kB,Array.getElem?_setIfInBounds];intro e;exact absurd e.symm this
 simp[Res.bx,kB,Array.getElem?_setIfInBounds,hbl]
theorem aL1 {b:Nat}{C:List Value}{t:TypeId}(hB:(Res.bx b C t).holds W) {o k:Nat}(h:o+k<=C.length):W.there b o k:=by
 have hB:W.heap[b]? = some (.cells C.toArray t (0,0)):=hB;intro j hj;constructor
 ·simp[World.cell?,hB];omega
 simp[World.frozen?,hB]
theorem rX {t t':TypeId}{x y:Operand}{b o:Nat}{cs C C':List Value}(hi:(P.info? t).map (·.size)=some cs.length) (hx:ev n f x = .pointer (some ⟨b,o,none⟩)) (hy:ev n f y = .agg cs.toArray) (h1:∀v∈cs,v.oneCell'=true)
  (hst:St w0 W (Res.bx b C t'::rs)) (hle:o+cs.length<=C.length) (hC:aK C o cs=C') (k:∀W',St w0 W' (Res.bx b C' t'::rs)->K undef W') :
  Stp P n ⟨d,.store t x y,ty,pos,af,g⟩ f W Q K:=by
 subst hC;refine Stp.unit (W':=W.setCells b o cs) ?_ (k _ (hst.store o cs hle));have:=run_storeAt_mid (P:=P) W b o t cs.toArray (by simpa using aL1 (hst.get 0 rfl) hle) (by simpa using hi) (all_oneCell_toArray h1);simp[execOp,hx,hy,Sem.run_bind,this]
theorem run_storeAt_one (P:Program) (W:World) (t:TypeId) (b o:Nat) (v:Value) (hi:(P.info? t).map (·.size)=some 1) (h1:v.cells = #[v]) (h2:v.oneCell'=true) (ht:W.there b o 1) :
  (Instr.storeAt t (.pointer (some ⟨b,o,none⟩)) v).run P W = .ok () (W.setCells b o [v]):=by
 have:=run_storeCells_cells (P:=P) b o [v] 0 W (fun j hj=>by simpa using (ht j (by simpa using hj)).1) (fun j hj=>by simpa using (ht j (by simpa using hj)).2) (fun u hu=>by simp at hu;subst hu;exact h2);cases hq:P.info? t with
 | none=>simp[hq]at hi
 | some i=>
  have hs:i.size=1:=by simpa [hq] using hi
  simp only[Nat.add_zero]at this;simp[Instr.storeAt,Instr.sureAddr,Sem.run_bind,storeVar,sizeOf,typeInfo,hq,hs,h1,this]
theorem rW {t t':TypeId}{x y:Operand}{b o:Nat}{v:Value}{C C':List Value}(hi:(P.info? t).map (·.size)=some 1) (hx:ev n f x = .pointer (some ⟨b,o,none⟩)) (hy:ev n f y=v) (h1:v.cells = #[v]) (h2:v.oneCell'=true)
  (hst:St w0 W (Res.bx b C t'::rs)) (hle:o+1<=C.length) (hC:aK C o [v]=C') (k:∀W',St w0 W' (Res.bx b C' t'::rs)->K undef W') :
  Stp P n ⟨d,.store t x y,ty,pos,af,g⟩ f W Q K:=by
 subst hC;refine Stp.unit (W':=W.setCells b o [v]) ?_ (k _ (hst.store o [v] hle));have:=run_storeAt_one P W t b o v hi h1 h2 (aL1 (hst.get 0 rfl) hle);simp[execOp,hx,hy,Sem.run_bind,this]

theorem iJ {t t':TypeId}{α:Type}[Shape α] [Agg α] {x:Operand}{b o i:Nat}{C:List Value}{v:Value}(hT:TyOk P t α) (ha:Agg.agg α=false) (hx:ev n f x = .pointer (some ⟨b,o,none⟩)) (hB:(Res.bx b C t').holds W) (ho:o=i) (hv:C[i]? = some v) (k:K v W) :
  Stp P n ⟨d,.load t x,ty,pos,af,g⟩ f W Q K:=by
 subst ho;have hB:W.heap[b]? = some (.cells C.toArray t' (0,0)):=hB;have hr:W.rangeAt b o [v]:=by
  intro j u hj;cases j with
  | zero=>
   simp at hj;subst hj;rw[cell_of_row W b (o+0) _ t' (0,0) hB];simpa using hv
  | succ j=>simp at hj
 refine Stp.run (v:=v) ?_ k;have:=hT.load hr (by rw[hT.one ha];rfl);simp only[val,ha,cond_false]at this;simp[execOp,hx,Sem.run_bind,this]
theorem gT {F:FuncId}{xs:List Operand}{ats:Array TypeId}{av:List Value}{fn:Func}(hfn:P.funcs[F]? = some fn) (hok:((fn.name == "runtime.NumGoroutine") || fn.body.isNone)=false) (hav:xs.map (ev n f)=av)
  (h:Calls P F av.toArray W fun e W'=>∃v,e = .returned v/\K v W'):Stp P n ⟨d,.call { callee := .value (.func F),args:=xs.toArray,argTypes:=ats },ty,pos,af,g⟩ f W Q K:=by
 refine⟨?_⟩;unfold Oper.wp;rw[qK];have hrun:(execOp (ev n f) ⟨d,.call { callee := .value (.func F),args:=xs.toArray,argTypes:=ats },ty,pos,af,g⟩).run P W = .ok (.enter F av.toArray) W:=by
  have e:execOp (ev n f) ⟨d,.call { callee := .value (.func F),args:=xs.toArray,argTypes:=ats },ty,pos,af,g⟩=callFunc F (#[]++xs.toArray.map (ev n f) ++ #[]):=rfl;have e2:xs.toArray.map (ev n f)=av.toArray:=by rw[<- hav];simp
  rw[e,e2];simp only[Bool.or_eq_false_iff]at hok;have h1:fn.name ≠ "runtime.NumGoroutine" := by simpa using hok.1
  have h2:fn.body≠none:=by intro h;rw[h]at hok;cases hok.2
  simp[callFunc,hfn,h1,h2]
 rw[hrun];refine h.mono ?_;rintro e W' ⟨v,rfl,hk⟩;exact⟨v,by rw[rH],hk⟩

theorem enter {F:FuncId}{fn:Func}{c:Code}{m:Nat}{R:Ending->World->Prop}(vs:List Value) (hf:P.funcs[F]? = some fn) (hb:fn.body=some c) (hm:fn.ntmps=m) (hl:vs.length<=m) (h:c.wp P (bodyPost P fn R) (act m (fun t=>vs.getD t undef)) W):Calls P F vs.toArray W R:=by
 subst hm;refine calls_of_wp hf hb ?_;rw[xD fn.ntmps vs _ hl (fun t _=>rfl)];exact h
theorem enter1 {F:FuncId}{fn:Func}{c:Code}{m:Nat}{R:Ending->World->Prop}{v0:Value}(hf:P.funcs[F]? = some fn) (hb:fn.body=some c) (hm:fn.ntmps=m) (hl:1<=m) (h:c.wp P (bodyPost P fn R) (act m (upd u0 0 v0)) W):Calls P F #[v0] W R:=by
 subst hm;refine calls_of_wp hf hb ?_;rw[xD fn.ntmps [v0] (upd u0 0 v0) hl (fun t _=>by cases t<;>rfl)];exact h
theorem cC0 {F:FuncId}{fn:Func}{c:Code}{m:Nat}{R:Ending->World->Prop}{v0 v1 v2:Value}(hf:P.funcs[F]? = some fn) (hb:fn.body=some c) (hm:fn.ntmps=m) (hl:3<=m) (h:c.wp P (bodyPost P fn R) (act m (upd (upd (upd u0 0 v0) 1 v1) 2 v2)) W):Calls P F #[v0,v1,v2] W R:=by
 subst hm;refine calls_of_wp hf hb ?_;rw[xD fn.ntmps [v0,v1,v2] (upd (upd (upd u0 0 v0) 1 v1) 2 v2) hl (fun t _=>by rcases t with _ | _ | _ | t<;>rfl)];exact h
theorem bU5 {fn:Func}{t:Tmp}{v:Value}{R:Ending->World->Prop}(hr:fn.results = #[.tmp t]) (hv:ev n f (.tmp t)=v) (h:R (.returned v) W):bodyPost P fn R .ret (act n f) W:=
 ⟨rfl,v,by rw[results_tmp hr,aV8];exact congrArg (fun z=>Result.ok z W) hv,h⟩
end
def Res.own {α:Type}[Shape α] [Agg α] (v:Value) (x:α) (fp:List Nat):Res where
 fp:=fp
 holds:=fun W=>V W v x fp/\∀b∈fp,Wr W b
 loc:=fun hs hb ⟨⟨cs,h1,h2⟩,h3⟩=>⟨⟨cs,h1,Shape.loc hs (fun b hm o=>fM (hb b hm) o) h2⟩,fun b hm=>(h3 b hm).loc (hb b hm)⟩
 wr:=fun h=>h.2
abbrev rB_ (b:Bool) (w:World) (e:Ending) (w':World):Prop:=e = .returned (.bool b)/\St w w' []
abbrev rI_ (n:Int) (w:World) (e:Ending) (w':World):Prop:=e = .returned (I n)/\St w w' []
abbrev rO_ {α:Type}[Shape α] [Agg α] (x:α) (w:World) (e:Ending) (w':World):Prop:=∃(cs':List Value) (fp':List Nat),e = .returned (.agg cs'.toArray)/\St w w' [Res.own (.agg cs'.toArray) x fp']
abbrev rS_ {α:Type}[Shape α] [Agg α] (x:α) (w:World) (e:Ending) (w':World):Prop:=∃(v':Value) (fp':List Nat),e = .returned v'/\St w w' [Res.own v' x fp']
theorem gQ {α:Type}[Shape α] {v:Value}{x:List α}{fp:List Nat}{W:World}(h:(Res.own v x fp).holds W):Sl W v x fp:=V_sl h.1
theorem own_C {α:Type}[Shape α] [Agg α] {cs:List Value}{x:α}{fp:List Nat}{W:World}(h:(Res.own (.agg cs.toArray) x fp).holds W) (ha:Agg.agg α=true):Shape.C W cs x fp:=by
 obtain⟨ds,h1,h2⟩:=h.1;simp only[val,ha,cond_true]at h1;have:cs=ds:=by injection h1 with h1;simpa using h1
 subst this;exact h2

section
variable {α:Type}[Shape α]
def Elems (W:World):List Value->List α->List Nat->Prop
 | cells,[],fp=>cells=[]/\fp=[]
 | cells,x::xs,fp=>∃cs rest f1 f2,cells=cs++rest/\Shape.C W cs x f1/\Elems W rest xs f2/\fp=f1++f2
theorem Elems.loc {W W':World}(hs:W.heap.size<=W'.heap.size):∀{xs:List α}{cells:List Value}{fp:List Nat},(∀b∈fp,W'.heap[b]? = W.heap[b]?)->Elems W cells xs fp->Elems W' cells xs fp
 | [],_,_,_,h=>h
 | x::xs,_,_,hb,⟨cs,rest,f1,f2,h1,h2,h3,h4⟩=>by
  subst h4;exact⟨cs,rest,f1,f2,h1,Shape.loc hs (fun b hm o=>fM (hb b (by simp[hm])) o) h2,Elems.loc hs (fun b hm=>hb b (by simp[hm])) h3,rfl⟩
theorem Elems.len {W:World}:∀{xs:List α}{cells:List Value}{fp:List Nat},Elems W cells xs fp->cells.length=xs.length*Shape.size α
 | [],_,_,⟨h,_⟩=>by simp[h]
 | x::xs,_,_,⟨cs,rest,f1,f2,h1,h2,h3,h4⟩=>by
  rw[h1,length_append,Shape.len h2,Elems.len h3,length_cons,Nat.add_mul];omega
theorem Elems.one {W:World}:∀{xs:List α}{cells:List Value}{fp:List Nat},Elems W cells xs fp->∀v∈cells,v.oneCell'=true
 | [],_,_,⟨h,_⟩,v,hv=>by simp[h]at hv
 | x::xs,_,_,⟨cs,rest,f1,f2,h1,h2,h3,h4⟩,v,hv=>by
  rw[h1]at hv;rcases mem_append.1 hv with hv | hv
  ·exact Shape.one h2 v hv
  ·exact Elems.one h3 v hv
theorem Elems.append {W:World}:∀{xs:List α}{cells:List Value}{fp:List Nat}{ys:List α}{cells':List Value}{fp':List Nat},Elems W cells xs fp->Elems W cells' ys fp'->Elems W (cells++cells') (xs++ys) (fp++fp')
 | [],_,_,_,_,_,⟨h,h0⟩,k=>by subst h h0;exact k
 | x::xs,_,_,_,_,_,⟨cs,rest,f1,f2,h1,h2,h3,h4⟩,k=>by
  subst h1 h4;exact⟨cs,rest++_,f1,f2++_,by simp,h2,Elems.append h3 k,by simp⟩
theorem Elems.single {W:World}{x:α}{cs:List Value}{fp:List Nat}(h:Shape.C W cs x fp):Elems W cs [x] fp:=⟨cs,[],fp,[],by simp,h,⟨rfl,rfl⟩,by simp⟩
theorem Elems.at {W:World}{b:Nat}:∀{xs:List α}{cells:List Value}{fp:List Nat}(o:Nat),Elems W cells xs fp->W.rangeAt b o cells->SlAt W b o xs fp
 | [],_,_,_,⟨_,h⟩,_=>h
 | x::xs,_,_,o,⟨cs,rest,f1,f2,h1,h2,h3,h4⟩,hr=>by
  subst h1;refine⟨cs,f1,f2,fun j v hj=>hr j v ?_,h2,Elems.at (o+Shape.size α) h3 (fun j v hj=>?_),h4⟩
  ·rw[getElem?_append_left (List.getElem?_eq_some_iff.1 hj).1];exact hj
  ·rw[Nat.add_assoc];refine hr _ v ?_;rw[<- Shape.len h2,getElem?_append_right aA];simpa using hj
theorem Elems.of_at {W:World}{b:Nat}:∀{xs:List α}{fp:List Nat}(o:Nat),SlAt W b o xs fp->∃cells,Elems W cells xs fp/\W.rangeAt b o cells
 | [],_,_,h=>⟨[],⟨rfl,h⟩,fun j v hj=>by simp at hj⟩
 | x::xs,_,o,⟨cs,f1,f2,hr,hc,ht,hf⟩=>by
  obtain⟨rest,h1,h2⟩:=Elems.of_at (o+Shape.size α) ht;refine⟨cs++rest,⟨cs,rest,f1,f2,rfl,hc,h1,hf⟩,fun j v hj=>?_⟩;by_cases hl:j<cs.length
  ·rw[getElem?_append_left hl]at hj;exact hr j v hj
  ·rw[getElem?_append_right aA]at hj;have:=h2 (j-cs.length) v hj;rw[Shape.len hc]at this;rw[<- this];congr 2;have:=Shape.len hc;omega

def Res.row (e:TypeId) (v:Value) (xs:List α) (fe:List Nat):Res where
 fp:=v.ownBlock.toList++fe
 holds:=fun W=>(∃cells,W.ownsRow 0 e (Shape.size α) v xs.length cells/\Elems W cells xs fe)/\∀b∈fe,Wr W b
 loc:=by
  rintro W W' hs hb ⟨⟨cells,⟨h1,h2⟩,h3⟩,h4⟩;refine⟨⟨cells,⟨h1,?_⟩,h3.loc hs (fun b hm=>hb b (by simp[hm]))⟩,fun b hm=>(h4 b hm).loc (hb b (by simp[hm]))⟩;rcases h2 with h2 | ⟨g,cap,cur,rfl,h5,h6,r⟩
  ·exact .inl h2
  exact .inr ⟨g,cap,cur,rfl,h5,by rw[hb g (by simp[Value.ownBlock])];exact h6,r⟩
 wr:=by
  rintro W ⟨⟨cells,⟨h1,h2⟩,h3⟩,h4⟩ b hb;rcases mem_append.1 hb with hb | hb
  ·rcases h2 with⟨rfl,_⟩ | ⟨g,cap,cur,rfl,h5,h6,r⟩
   ·simp[Value.ownBlock]at hb
   simp[Value.ownBlock]at hb;subst hb;exact⟨_,_,h6⟩
  exact h4 b hb
theorem row_nil (W:World) (e:TypeId):(Res.row (α:=α) e (.slice none 0 0) [] []).holds W:=⟨⟨[],World.ownsRow_nil _ _ _ _,rfl,rfl⟩,by simp⟩
theorem St.row_nil {w0 W:World}{rs:List Res}(h:St w0 W rs) (e:TypeId):St w0 W (Res.row (α:=α) e (.slice none 0 0) [] []::rs):=
 ⟨h.below,by simpa [Res.row,Value.ownBlock] using h.nodup,fun r hr=>by
  rcases mem_cons.1 hr with rfl | hr
  ·simp[Res.row,Value.ownBlock]
  ·exact h.fresh r hr,fun r hr=>by
  rcases mem_cons.1 hr with rfl | hr
  ·exact Go.Proofs.YtpdgdnpajmcaeaaGreat.row_nil W e
  ·exact h.holds r hr⟩
theorem row_empty {W:World}{e:TypeId}{b:Nat}(h:(Res.bx b [] e).holds W):(Res.row (α:=α) e (.slice (some ⟨b,0,none⟩) 0 0) [] []).holds W:=
 ⟨⟨[],⟨by simp,.inr ⟨b,0,#[],rfl,Nat.zero_le _,h,Nat.le_refl _,by decide,by simp,by simp⟩⟩,rfl,rfl⟩,by simp⟩
theorem St.row_empty {w0 W:World}{rs:List Res}{e:TypeId}{b:Nat}(h:St w0 W (Res.bx b [] e::rs)):St w0 W (Res.row (α:=α) e (.slice (some ⟨b,0,none⟩) 0 0) [] []::rs):=
 h.turn rfl rfl rfl (Nat.le_refl _) (fun _ _ _=>rfl) (Go.Proofs.YtpdgdnpajmcaeaaGreat.row_empty (h.get 0 rfl)) (by simp[Res.row,Value.ownBlock]) (fun b hb=>.inl (by simpa [Res.row,Res.bx,Value.ownBlock] using hb))
theorem gO {W:World}{e:TypeId}{v:Value}{xs:List α}{fe:List Nat}(h:(Res.row e v xs fe).holds W):Sl W v xs (if xs=[] then [] else v.ownBlock.toList++fe):=by
 obtain⟨⟨cells,ho,he⟩,_⟩:=h;by_cases hx:xs=[]
 ·rw[if_pos hx];subst hx;rcases ho.2 with⟨rfl,_⟩ | ⟨g,cap,cur,rfl,_,_,h1,h2,_⟩
  ·exact⟨none,0,rfl,Nat.le_refl _,by omega,.inl ⟨rfl,rfl⟩⟩
  exact⟨_,cap,rfl,h1,by unfold maxLen at h2;omega,.inl ⟨rfl,rfl⟩⟩
 rw[if_neg hx];have hlen:0<xs.length:=length_pos_iff.2 hx;rcases ho.2 with⟨_,h0⟩ | ⟨g,cap,cur,rfl,_,hg,h1,h2,_⟩
 ·omega
 refine⟨_,cap,rfl,h1,by unfold maxLen at h2;omega,.inr ⟨g,0,fe,hx,rfl,rfl,(Array.getElem?_eq_some_iff.1 hg).1,he.at 0 ?_⟩⟩;intro j u hj;have:=ho.cells rfl j u hj;rw[Addr.add_mid]at this;exact this
theorem St.shut {w0 W:World}{rs:List Res}{e:TypeId}{v:Value}{xs:List α}{fe:List Nat}(h:St w0 W (Res.row e v xs fe::rs)):∃fp,St w0 W (Res.own v xs fp::rs):=by
 have hr:=h.get 0 rfl;have hs:=gO hr;have hnd:=h.nodup;rw[flatMap_cons,nodup_append]at hnd;refine⟨_,h.turn (r':=Res.own v xs (if xs=[] then [] else v.ownBlock.toList++fe)) rfl rfl rfl (Nat.le_refl _) (fun _ _ _=>rfl) ⟨hs.v,?_⟩ ?_ ?_⟩
 ·intro b hb;split at hb
  ·simp at hb
  exact(Res.row e v xs fe).wr hr b hb
 ·show (if xs=[] then [] else v.ownBlock.toList++fe).Nodup;split
  ·simp
  exact hnd.1
 intro b hb;refine .inl ?_;have hb:b∈(if xs=[] then [] else v.ownBlock.toList++fe):=hb;split at hb
 ·simp at hb
 exact hb
end

structure ApOk (P:Program) (t e:TypeId) (α:Type) [Shape α] (bytes:Nat):Prop where
 desc:P.underlying t=some (.slice e)
 info:∃i z,P.info? e=some i/\i.zero=some z/\i.size=Shape.size α/\i.bytes=bytes/\z.cells.size=Shape.size α
 pos:0<Shape.size α
theorem apOk {P:Program}{t e:TypeId}{α:Type}[Shape α] {bytes:Nat}(h1:P.underlying t=some (.slice e)) (h2:(P.info? e).bind (fun i=>i.zero.map (fun z=>(i.size,i.bytes,z.cells.size)))=some (Shape.size α,bytes,Shape.size α)) (h3:0<Shape.size α):ApOk P t e α bytes:=by
 refine⟨h1,?_,h3⟩;cases hq:P.info? e with
 | none=>simp[hq]at h2
 | some i=>
  cases hz:i.zero with
  | none=>simp[hq,hz]at h2
  | some z=>
   simp[hq,hz]at h2;exact⟨i,z,rfl,hz,h2.1,h2.2.1,h2.2.2⟩

section
variable {P:Program}{n:Nat}{f:Nat->Value}{W w0:World}{rs:List Res}{Q:Exit->Act->World->Prop}{K:Value->World->Prop}
 {d:Option Tmp}{ty:TypeId}{pos:String}{af:Array Edge}{g:Option (Nat×Bool)}{α:Type}[Shape α]

theorem append_block {base:Nat}(t ty e:TypeId) (i:TypeInfo) (z:Value) (ht:P.underlying t=some (.slice e)) (hi:P.info? e=some i) (hz:i.zero=some z)
  (hzs:z.cells.size=i.size) (hsz:0<i.size) {v:Value}{n:Nat}{xs:List Value}(hown:W.ownsRow 0 e i.size v n xs)
  (a:Addr) (m c:Nat) (news:List Value) (hl:news.length=m*i.size) (hnews:∀j u,news[j]? = some u->W.cell? (a.add j)=some u) (h1:∀u∈news,u.oneCell'=true)
  (h63:n+m<=maxLen) (hbytes:(n+m)*i.bytes<=140737488355328) {v':Value}{W':World}(hr:(Builtin.append_ #[t,t] ty #[v,.slice (some a) m c]).run P W = .ok v' W') :
  ∀b,v'.ownBlock=some b->v.ownBlock=some b∨W.heap.size<=b:=by
 have hsmall:n+m<=9223372036854775807:=by simp only[maxLen]at h63;omega
 rcases hown.2 with⟨rfl,rfl⟩ | ⟨g,cap,cur,rfl,hbg,hg,hnc,hcm,hcs,htake⟩
 ·have ho:W.ownsRow W.heap.size e i.size (.slice none 0 0) 0 xs:=⟨hown.1,.inl ⟨rfl,rfl⟩⟩;obtain⟨v2,w2,hr2,ho2,_,_⟩:=run_append_own (P:=P) W W.heap.size t ty e i z i.size i.bytes ht hi hz rfl rfl hzs hsz _ 0 xs ho a m c news hl hnews h1 h63 hbytes (Nat.le_refl _);rw[hr]at hr2
  injection hr2 with e1 e2
  subst e1;intro b hb;exact .inr (ho2.lt b hb).1
 by_cases hroom:n+m<=cap
 ·have hfit:n*i.size+news.length<=cur.size:=by rw[hl,hcs,<- Nat.add_mul];exact Nat.mul_le_mul_right _ hroom
  have hr2:=run_append_room (P:=P) W t ty e i ht hi g n cap cur hg a m c news hl hnews h1 hroom hfit;rw[hr]at hr2
  injection hr2 with e1 e2
  subst e1;intro b hb;exact .inl hb
 have holds:∀j u,xs[j]? = some u->W.cell? ((⟨g,0,none⟩:Addr).add j)=some u:=hown.cells (g:=g) rfl;have hr2:=run_append_grow (P:=P) W t ty e i z ht hi hz ⟨g,0,none⟩ n cap xs hown.1 holds a m c news hl hnews aA aA (growslice_fits aA hbytes);rw[hr]at hr2
 injection hr2 with e1 e2
 subst e1;intro b hb;simp[Value.ownBlock]at hb;exact .inr aA
theorem xR {t e:TypeId}{bytes:Nat}{s x:Operand}{v:Value}{xs ys:List α}{fe fy:List Nat}{ad:Addr}{c m:Nat}{news:List Value}(hT:ApOk P t e α bytes) (hs:ev n f s=v) (hx:ev n f x = .slice (some ad) m c) (hm:ys.length=m)
  (hst:St w0 W (Res.row e v xs fe::rs)) (hn:Elems W news ys fy) (hr:∀j u,news[j]? = some u->W.cell? (ad.add j)=some u) (hfy:∀b∈fy,Wr W b) (hfn:fy.Nodup) (hfr:∀b∈fy,b∉(Res.row e v xs fe).fp/\b∉rs.flatMap Res.fp/\w0.heap.size<=b)
  (h63:xs.length+m<=maxLen) (hby:(xs.length+m)*bytes<=140737488355328)
  (k:∀v' W',St w0 W' (Res.row e v' (xs++ys) (fe++fy)::rs)->W.heap.size<=W'.heap.size->(∀b∈fy,W'.heap[b]? = W.heap[b]?)->K v' W') :
  Stp P n ⟨d,.call { callee := .builtin .append,args := #[s,x],argTypes := #[t,t] },ty,pos,af,g⟩ f W Q K:=by
 subst hm;obtain⟨⟨cells,ho,he⟩,hw⟩:=hst.get 0 rfl;obtain⟨i,z,hi,hz,h1,h2,h3⟩:=hT.info;obtain⟨v',W',hrun,ho',hg,_⟩:=run_append_own (P:=P) W 0 t ty e i z (Shape.size α) bytes hT.desc hi hz h1 h2 h3 hT.pos v xs.length cells ho ad ys.length c news hn.len hr hn.one h63 hby (Nat.zero_le _);have hblk:=append_block (P:=P) (base:=0) t ty e i z hT.desc hi hz (by rw[h1,h3]) (by rw[h1];exact hT.pos) (by rw[h1];exact ho) ad ys.length c news (by rw[h1];exact hn.len) hr hn.one h63 (by rw[h2];exact hby) hrun;refine Stp.run (v:=v') (W':=W') ?_ (k v' W' ?_ hg.size fun b hb=>hg.block b (hfy b hb).lt (fun hv=>(hfr b hb).1 (by simp only[Res.row];rw[<- hv];simp)))
 ·simp only[execOp,resolve,invoke,builtin,Sem.run_bind,Sem.run_pure,Result.andThen_ok,map_toArray,map_cons,map_nil,hs,hx,hrun]
 have hnd:=hst.nodup;rw[flatMap_cons,nodup_append]at hnd;have hnd1:(v.ownBlock.toList++fe).Nodup:=hnd.1;rw[nodup_append]at hnd1;have hnot:∀b∈fe++fy,some b≠v.ownBlock:=by
  intro b hb hv;rcases mem_append.1 hb with hb | hb
  ·exact hnd1.2.2 b (by rw[<- hv];simp) b hb rfl
  exact(hfr b hb).1 (by simp only[Res.row];rw[<- hv];simp)
 have hltE:∀b∈fe++fy,b<W.heap.size:=by
  intro b hb;rcases mem_append.1 hb with hb | hb
  ·exact(hw b hb).lt
  exact(hfy b hb).lt
 have hkeep:∀b∈fe++fy,W'.heap[b]? = W.heap[b]? := fun b hb=>hg.block b (hltE b hb) (hnot b hb)
 have hrow:(Res.row e v' (xs++ys) (fe++fy)).holds W':=by
  refine⟨⟨cells++news,by rw[length_append];exact ho',?_⟩,?_⟩
  ·exact(he.loc hg.size (fun b hb=>hkeep b (by simp[hb]))).append (hn.loc hg.size (fun b hb=>hkeep b (by simp[hb])))
  intro b hb;refine Wr.loc ?_ (hkeep b hb);rcases mem_append.1 hb with hb | hb
  ·exact hw b hb
  exact hfy b hb
 have hst2:St w0 W ({ fp:=v.ownBlock.toList++fe++fy,holds:=fun W=>(Res.row e v xs fe).holds W/\∀b∈fy,Wr W b,loc:=fun hs hb h=>⟨(Res.row e v xs fe).loc hs (fun b hm=>hb b (mem_append_left _ hm)) h.1,fun b hm=>(h.2 b hm).loc (hb b (mem_append_right _ hm))⟩,wr:=fun h b hb=>(mem_append.1 hb).elim (fun hb=>(Res.row e v xs fe).wr h.1 b hb) (fun hb=>h.2 b hb) }::rs):=by
  refine⟨hst.below,?_,?_,?_⟩
  ·rw[flatMap_cons,nodup_append];refine⟨?_,hnd.2.1,?_⟩
   ·show ((v.ownBlock.toList++fe)++fy).Nodup;rw[nodup_append];exact⟨hnd.1,hfn,fun a ha b hb e=>(hfr b hb).1 (by rw[<- e];exact ha)⟩
   intro a ha b hb e;rcases mem_append.1 ha with ha | ha
   ·exact hnd.2.2 a ha b hb e
   exact(hfr a ha).2.1 (by rw[e];exact hb)
  ·intro r hr b hb;rcases mem_cons.1 hr with rfl | hr
   ·rcases mem_append.1 hb with hb | hb
    ·exact hst.fresh (Res.row e v xs fe) (by simp) b hb
    exact(hfr b hb).2.2
   exact hst.fresh r (by simp[hr]) b hb
  intro r hr;rcases mem_cons.1 hr with rfl | hr
  ·exact⟨hst.get 0 rfl,hfy⟩
  exact hst.holds r (by simp[hr])
 refine hst2.turn hg.os hg.tape hg.output hg.size (fun k hk hne=>hg.block k hk (fun e=>hne (by simp[<- e]))) hrow ?_ ?_
 ·show (v'.ownBlock.toList++(fe++fy)).Nodup;rw[nodup_append];refine⟨by cases v'.ownBlock<;>simp,?_,?_⟩
  ·rw[nodup_append];exact⟨hnd1.2.1,hfn,fun a ha b hb e=>(hfr b hb).1 (by rw[<- e];exact mem_append_right _ ha)⟩
  intro a ha b hb e;subst e;have ha':v'.ownBlock=some a:=by simpa using ha
  rcases hblk a ha' with h | h
  ·exact hnot a hb h.symm
  have:=hltE a hb;omega
 intro b hb;have hb:b∈v'.ownBlock.toList++(fe++fy):=hb;rcases mem_append.1 hb with hb | hb
 ·have hb':v'.ownBlock=some b:=by simpa using hb
  rcases hblk b hb' with h | h
  ·exact .inl (by simp[h])
  exact .inr h
 exact .inl (show b∈v.ownBlock.toList++fe++fy by rw[append_assoc];exact mem_append_right _ hb)

theorem jX {t e:TypeId}{bytes:Nat}{s x:Operand}{v:Value}{xs ys:List α}{fe fy:List Nat}{ad:Addr}{c m:Nat}{news:List Value}(hT:ApOk P t e α bytes) (hs:ev n f s=v) (hx:ev n f x = .slice (some ad) m c) (hm:ys.length=m)
  (hst:St w0 W (Res.row e v xs fe::rs)) (hn:Elems W news ys fy) (hr:∀j u,news[j]? = some u->W.cell? (ad.add j)=some u) (hfy:∀b∈fy,Wr W b) (hfn:fy.Nodup) (hfr:∀b∈fy,b∉(Res.row e v xs fe).fp/\b∉rs.flatMap Res.fp/\w0.heap.size<=b)
  (h63:xs.length+m<=maxLen) (hby:(xs.length+m)*bytes<=140737488355328)
  (k:∀v' W',St w0 W' (Res.row e v' (xs++ys) (fe++fy)::rs)->K v' W') :
  Stp P n ⟨d,.call { callee := .builtin .append,args := #[s,x],argTypes := #[t,t] },ty,pos,af,g⟩ f W Q K:=
 xR hT hs hx hm hst hn hr hfy hfn hfr h63 hby (fun v' W' h _ _=>k v' W' h)
theorem fE {t e:TypeId}{len:Nat}{parts:List (Nat×Operand)}{vs:List (Nat×Value)}{cs:List Value}(hv:parts.map (fun (i,x)=>(i,ev n f x))=vs) (hb:(Instr.buildSlice t len vs.toArray).run P W = .ok (.slice (some ⟨W.heap.size,0,none⟩) len len) (W.alloc (.cells cs.toArray e)))
  (hst:St w0 W rs) (k:∀b W',Below W.heap.size W W'->St w0 W' (Res.bx b cs e::rs)->K (.slice (some ⟨b,0,none⟩) len len) W'):Stp P n ⟨d,.buildSlice t len parts.toArray,ty,pos,af,g⟩ f W Q K:=
 Stp.run (v := .slice (some ⟨W.heap.size,0,none⟩) len len) (W':=W.alloc (.cells cs.toArray e)) (by
  have e1:parts.toArray.map (fun (i,x)=>(i,ev n f x))=vs.toArray:=by rw[<- hv];simp
  simp only[execOp,Sem.run_bind,e1,hb];rfl) (k _ _ (fH (Below.refl _ _)) (hst.alloc cs e))
theorem stp_append_bx {t e:TypeId}{bytes:Nat}{s x:Operand}{v:Value}{xs ys:List α}{fe:List Nat}{b m:Nat}{news:List Value}(hT:ApOk P t e α bytes) (hs:ev n f s=v) (hx:ev n f x = .slice (some ⟨b,0,none⟩) m m) (hm:ys.length=m)
  (hst:St w0 W (Res.row e v xs fe::Res.bx b news e::rs)) (hn:Elems W news ys []) (h63:xs.length+m<=maxLen) (hby:(xs.length+m)*bytes<=140737488355328)
  (k:∀v' W',St w0 W' (Res.row e v' (xs++ys) fe::rs)->K v' W') :
  Stp P n ⟨d,.call { callee := .builtin .append,args := #[s,x],argTypes := #[t,t] },ty,pos,af,g⟩ f W Q K:=by
 refine jX hT hs hx hm hst hn ?_ (by simp) (by simp) (by simp) h63 hby ?_
 ·intro j u hj;rw[Addr.add_mid];exact bE (hst.get 1 rfl) j u hj
 intro v' W' h;rw[append_nil]at h;exact k v' W' (h.sub (.cons_cons _ (.cons _ (List.Sublist.refl _))))
end
def yl:Value->Option Bool
 | .bool b=>some b
 | _=>none
structure Pl where
 p:Value->World->Prop
 b:Option Bool
 up:∀{v W W'},p v W->Below W.heap.size W W'->p v W'
 yld:∀{v W},p v W->yl v=b
def Pl.is (u:Value) (h:yl u=none:=by rfl):Pl:=⟨fun v _=>v=u,none,fun h _=>h,fun {_ _} e=>by rw[e];exact h⟩
def Pl.bool (x:Bool):Pl:=⟨fun v _=>v = .bool x,some x,fun h _=>h,fun {_ _} e=>by rw[e];rfl⟩
def Pl.off:Pl:=Pl.is undef
def Pl.val {α:Type}[Shape α] [Agg α] (x:α) (fp:List Nat) (h:Agg.agg α=true:=by rfl):Pl:=
 ⟨fun v W=>V W v x fp,none,fun h hb=>h.below hb,fun {_ _} e=>by obtain⟨cs,rfl,_⟩:=e;simp[Go.Proofs.YtpdgdnpajmcaeaaGreat.val,h,yl]⟩
def Pl.sl {α:Type}[Shape α] (xs:List α) (fp:List Nat):Pl:=
 ⟨fun v W=>Sl W v xs fp,none,fun h hb=>h.below hb,fun {_ _} e=>by obtain⟨_,_,rfl,_⟩:=e;rfl⟩
def Pl.at {α:Type}[Shape α] (x:α) (fp:List Nat):Pl:=
 ⟨fun v W=>∃b o f1,v = .pointer (some ⟨b,o,none⟩)/\At W b o x f1/\∀c∈b::f1,c∈fp,none,fun ⟨b,o,f1,h,h2,h3⟩ hb=>⟨b,o,f1,h,h2.below hb,h3⟩,fun {_ _} e=>by obtain⟨_,_,_,rfl,_⟩:=e;rfl⟩

theorem St.add {w0 W W':World}{rs:List Res}{b:Nat}{cs:List Value}{e:TypeId}(h:St w0 W rs) (h':St w0 W' rs) (hb:W'.heap[b]? = some (.cells cs.toArray e (0,0))) (hN:W.heap.size<=b):St w0 W' (Res.bx b cs e::rs):=by
 refine⟨h'.below,?_,?_,?_⟩
 ·rw[flatMap_cons,nodup_append];refine⟨by simp[Res.bx],h'.nodup,?_⟩;intro a ha c hc e;simp only[Res.bx,mem_singleton]at ha;subst ha e;obtain⟨r,hr,hrc⟩:=mem_flatMap.1 hc;have:=h.lt hr _ hrc;omega
 ·intro r hr c hc;rcases mem_cons.1 hr with rfl | hr
  ·simp only[Res.bx,mem_singleton]at hc;subst hc;exact Nat.le_trans h.below.size hN
  exact h'.fresh r hr c hc
 intro r hr;rcases mem_cons.1 hr with rfl | hr
 ·exact hb
 exact h'.holds r hr
def aW (l:List Oper) (i:Nat):Option Tmp:=(l[i]?).bind (·.dst)
def dep (l:List Oper) (i j:Nat):Bool:=((l[i]?).map (fun o=>o.after.toList.any (fun e=>Nat.beq e.on j && Region.binds .any e))).getD false
def kY (l:List Oper) (i t:Nat):Bool:=(List.range l.length).all (fun j=>Nat.beq j i || (match aW l j with | some d=> !Nat.beq d t | none=>true) || dep l j i)
def gL (l:List Oper) (t:Nat):Bool:=l.all (fun o=>match o.dst with | some d=> !Nat.beq d t | none=>true)
def bU6 (l:List Oper) (F:List Pl) (o:Oper):Bool:=
 match o.guard with
 | none=>true
 | some (j,w)=>(F.getD j Pl.off).b == some w

section
variable {P:Program}{n:Nat}{w0:World}{rs:List Res}{Q:Exit->Act->World->Prop}
def cF2 (P:Program) (n:Nat) (Ws w0:World) (rs:List Res) (Q:Exit->Act->World->Prop) (l:List Oper) (F:List Pl) (f0:Nat->Value) (i:Nat) (o:Oper) (p:Pl):Prop:=
 ∀f W,St w0 W rs->Below Ws.heap.size Ws W->(∀j d,dep l i j=true->aW l j=some d->(F.getD j Pl.off).p (f d) W)->(∀t,kY l i t=true->f t=f0 t) ->
  cond (bU6 l F o) (Stp P n o f W Q (fun v W'=>Below W.heap.size W W'/\p.p v W')) (p.p undef W)
def AllSteps (P:Program) (n:Nat) (Ws w0:World) (rs:List Res) (Q:Exit->Act->World->Prop) (l:List Oper) (F:List Pl) (f0:Nat->Value):Nat->List Oper->List Pl->Prop
 | _,[],[]=>True
 | i,o::os,p::ps=>cF2 P n Ws w0 rs Q l F f0 i o p/\AllSteps P n Ws w0 rs Q l F f0 (i+1) os ps
 | _,_,_=>False
theorem AllSteps.get {Ws:World}{l:List Oper}{F:List Pl}{f0:Nat->Value}:∀{os:List Oper}{ps:List Pl}{k:Nat},AllSteps P n Ws w0 rs Q l F f0 k os ps->∀i o,os[i]? = some o->∃p,ps[i]? = some p/\cF2 P n Ws w0 rs Q l F f0 (k+i) o p
 | o::os,p::ps,k,h,0,o',hi=>by simp at hi;subst hi;exact⟨p,rfl,h.1⟩
 | o::os,p::ps,k,h,i+1,o',hi=>by
  obtain⟨q,hq,hs⟩:=AllSteps.get h.2 i o' (by simpa using hi);exact⟨q,by simpa using hq,by rw[<- Nat.add_assoc,Nat.add_right_comm];exact hs⟩
 | [],_,_,_,i,o',hi=>by simp at hi
 | o::os,[],_,h,_,_,_=>h.elim

def sC (n:Nat) (l:List Oper):Bool:=
 (List.range l.length).all (fun i=>(List.range l.length).all (fun j=>(!dep l i j || Nat.blt j i) && (Nat.beq i j || (match aW l i,aW l j with | some a,some b=> !Nat.beq a b | _,_=>true)))) &&
 l.all (fun o=>o.after.toList.all (fun e=> !Region.binds .any e || Nat.blt e.on l.length) && (match o.dst with | some d=>Nat.blt d n | none=>true)) &&
 (List.range l.length).all (fun i=>match (l[i]?).bind (·.guard) with | some (j,_)=>dep l i j && (aW l j).isSome | none=>true)
structure OrdOk (n:Nat) (l:List Oper):Prop where
 lt:∀i j,i<l.length->dep l i j=true->j<i
 ne:∀i j a,i<l.length->j<l.length->i≠j->aW l i=some a->aW l j=some a->False
 dst:∀i d,i<l.length->aW l i=some d->d<n
 guard:∀i o j w,l[i]? = some o->o.guard=some (j,w)->dep l i j=true/\∃d,aW l j=some d
theorem dep_lt {l:List Oper}{i j:Nat}(hb:∀o∈l,∀e∈o.after,Region.binds .any e=true->e.on<l.length) (h:dep l i j=true):j<l.length:=by
 unfold dep at h;cases hi:l[i]? with
 | none=>simp[hi]at h
 | some o=>
  simp only[hi,Option.map_some,Option.getD_some,any_eq_true]at h;obtain⟨e,he,h⟩:=h;simp only[Bool.and_eq_true]at h;have:=hb o (mem_of_getElem? hi) e (by simpa using he) h.2;rw[Nat.eq_of_beq_eq_true h.1]at this;exact this
theorem mF {a b:Nat}(h:Nat.blt a b=true):a<b:=Nat.le_of_ble_eq_true h
theorem iP {a b:Nat}(h:a≠b):Nat.beq a b=false:=by
 cases e:Nat.beq a b
 ·rfl
 exact absurd (Nat.eq_of_beq_eq_true e) h
theorem eG (a:Nat):Nat.beq a a=true:=Nat.beq_refl a
theorem OrdOk.of {n:Nat}{l:List Oper}(h:sC n l=true):OrdOk n l:=by
 simp only[sC,Bool.and_eq_true,all_eq_true,mem_range,Bool.or_eq_true,Bool.not_eq_true']at h;obtain⟨⟨h1,h2⟩,h3⟩:=h;have hb:∀o∈l,∀e∈o.after,Region.binds .any e=true->e.on<l.length:=by
  intro o ho e he hbn;have:=(h2 o ho).1 e (by simpa using he);rw[hbn]at this;simpa using mF (by simpa using this)
 refine⟨?_,?_,?_,?_⟩
 ·intro i j hi hd;have:=(h1 i hi j (dep_lt hb hd)).1;rw[hd]at this;exact mF (by simpa using this)
 ·intro i j a hi hj hne ha hb';have:=(h1 i hi j hj).2;rw[iP hne,ha,hb']at this;simp at this
 ·intro i d hi hd;obtain⟨o,ho⟩:∃o,l[i]? = some o:=⟨_,getElem?_eq_getElem hi⟩;have h4:=(h2 o (mem_of_getElem? ho)).2;have:o.dst=some d:=by simpa [aW,ho] using hd
  rw[this]at h4;exact mF h4
 intro i o j w hi hg;have hlt:=(List.getElem?_eq_some_iff.1 hi).1;have h4:=h3 i hlt;simp only[hi,Option.bind_some,hg,Bool.and_eq_true]at h4;exact⟨h4.1,Option.isSome_iff_exists.1 h4.2⟩

structure Inv (Ws w0:World) (rs:List Res) (l:List Oper) (m:Nat) (F:List Pl) (f0:Nat->Value) (L:Array Bool) (f:Nat->Value) (W:World):Prop where
 size:L.size=l.length+m
 tail:∀i,l.length<=i->i<L.size->L[i]? = some false
 st:St w0 W rs
 bl:Below Ws.heap.size Ws W
 vals:∀i d,i<l.length->L[i]? = some true->aW l i=some d->(F.getD i Pl.off).p (f d) W
 keep:∀t,(∀i,i<l.length->L[i]? = some true->aW l i≠some t)->f t=f0 t
 down:∀i j,i<l.length->L[i]? = some true->dep l i j=true->L[j]? = some true

theorem getD_t {L:Array Bool}{i:Nat}:L.getD i false=true↔L[i]? = some true:=by
 rw[Array.getD_eq_getD_getElem?];cases L[i]?<;>simp
theorem dep_of {l:List Oper}{i:Nat}{o:Oper}(hi:l[i]? = some o) {e:Edge}(he:e∈o.after) (hb:Region.binds .any e=true):dep l i e.on=true:=by
 unfold dep;simp only[hi,Option.map_some,Option.getD_some];rw[any_eq_true];exact⟨e,by simpa using he,by rw[hb,eG];rfl⟩
theorem aT4 {l:List Oper}{i j:Nat}{o:Oper}(hi:l[i]? = some o) (h:dep l i j=true):∃e∈o.after,e.on=j/\Region.binds .any e=true:=by
 unfold dep at h;simp only[hi,Option.map_some,Option.getD_some]at h;rw[any_eq_true]at h;obtain⟨e,he,h⟩:=h;simp only[Bool.and_eq_true]at h;exact⟨e,by simpa using he,Nat.eq_of_beq_eq_true h.1,h.2⟩

theorem aP3:∀(ls:List Bool) (i:Nat),ls[i]? = some false->(ls.set i true).countP (fun b=> !b)+1=ls.countP (fun b=> !b)
 | [],i,h=>by simp at h
 | b::ls,0,h=>by simp at h;subst h;simp
 | b::ls,i+1,h=>by
  have:=aP3 ls i (by simpa using h);rw[set_cons_succ,countP_cons,countP_cons];omega
theorem oH {l:List Oper}{t:Nat}(h:gL l t=true):∀i,i<l.length->aW l i≠some t:=by
 intro i hi hd;unfold gL at h;rw[all_eq_true]at h;have:=h l[i] (by simp);have e:l[i].dst=some t:=by simpa [aW,getElem?_eq_getElem hi] using hd
 rw[e]at this;simp[eG]at this
def pJ (l tl:List Oper):Bool:=
 (List.range l.length).all (fun j=>dep (l++tl) l.length j || (List.range l.length).any (fun m=>Nat.blt j m && dep l m j)) &&
 (List.range tl.length).all (fun k=>(List.range k).all (fun j=>dep (l++tl) (l.length+k) (l.length+j)) && ((tl[k]?).map (fun o=>o.after.toList.all (fun e=> !Region.binds .any e || Nat.blt e.on (l.length+k)))).getD true)
theorem any_tail {l tl:List Oper}(hT:pJ l tl=true):∀(m k fuel:Nat) (L:Array Bool) (a:Act) (W:World),tl.length-k=m->k<=tl.length->m<=fuel->L.size=l.length+tl.length->(∀j,j<l.length+k->L[j]? = some true)->(∀j,l.length+k<=j->j<L.size->L[j]? = some false) ->
  wpList P (l++tl).toArray Q (tl.drop k) a W->wpAny P .any (l++tl).toArray Q fuel L a W:=by
 intro m
 induction m with
 | zero=>
  intro k fuel L a W hm hk _ hsz hall _ h;have hk':k=tl.length:=by omega
  rw[hk',drop_length]at h;have hr:Region.ready .any (l++tl).toArray L=[]:=by
   unfold Region.ready;rw[filter_eq_nil_iff];intro i hi;rw[mem_range,size_toArray,length_append]at hi;rw[Array.getD_eq_getD_getElem?,hall i aA];simp
  cases fuel with
  | zero=>exact⟨hr,h⟩
  | succ fuel=>exact⟨fun _=>h,by rw[hr];simp⟩
 | succ m ih=>
  intro k fuel L a W hm hk hf hsz hall hno h;have hklt:k<tl.length:=by omega
  rw[drop_eq_getElem_cons hklt]at h;unfold pJ at hT;rw[Bool.and_eq_true]at hT;replace hT:=hT.2;rw[all_eq_true]at hT;have hTk:=hT k (by simpa using hklt);rw[getElem?_eq_getElem hklt]at hTk;simp only[Option.map_some,Option.getD_some,Bool.and_eq_true,all_eq_true]at hTk;obtain⟨hT1,hT2⟩:=hTk;have hat:(l++tl)[l.length+k]? = some tl[k]:=by rw[getElem?_append_right aA,Nat.add_sub_cancel_left,getElem?_eq_getElem hklt]
  have hin:l.length+k∈Region.ready .any (l++tl).toArray L:=by
   unfold Region.ready;rw[mem_filter];refine⟨by simp;omega,?_⟩;rw[Array.getD_eq_getD_getElem?,hno _ (Nat.le_refl _) aA];simp only[Option.getD_some,Bool.not_false,Bool.true_and,getElem?_toArray,hat,Option.map_some];rw[Array.all_eq_true_iff_forall_mem];intro e he;have h1:=hT2 e (by simpa using he);cases hb:Region.binds .any e with
   | false=>rfl
   | true=>
    rw[hb]at h1;rw[getD_t.2 (hall e.on (mF (by simpa using h1)))];simp
  have hready:∀i∈Region.ready .any (l++tl).toArray L,i=l.length+k:=by
   intro i hi;unfold Region.ready at hi;rw[mem_filter,mem_range,size_toArray,length_append]at hi;obtain⟨hlt,hi⟩:=hi;simp only[Bool.and_eq_true,Bool.not_eq_true']at hi;obtain⟨h1,h2⟩:=hi;by_cases hc:i<l.length+k
   ·rw[Array.getD_eq_getD_getElem?,hall i hc]at h1;cases h1
   apply Classical.byContradiction;intro hne;have hik:i-l.length<tl.length:=by omega
   have hTi:=hT (i-l.length) (by simpa using hik);rw[show l.length+(i-l.length)=i by omega]at hTi;simp only[Bool.and_eq_true,all_eq_true]at hTi;have hd:=hTi.1 k (by rw[mem_range];omega);have hi2:(l++tl)[i]? = some tl[i-l.length]:=by rw[getElem?_append_right aA,getElem?_eq_getElem hik]
   obtain⟨e,he,heq,hb⟩:=aT4 hi2 hd;simp only[getElem?_toArray,hi2,Option.map_some,Option.getD_some]at h2;rw[Array.all_eq_true_iff_forall_mem]at h2;have:=h2 e he;rw[hb,heq]at this;have h3:=getD_t.1 (by simpa using this);rw[hno _ (Nat.le_refl _) aA]at h3;cases h3
  have next:∀a' W',wpList P (l++tl).toArray Q (tl.drop (k+1)) a' W'->∀fuel',m<=fuel'->wpAny P .any (l++tl).toArray Q fuel' (L.setIfInBounds (l.length+k) true) a' W':=by
   intro a' W' h' fuel' hf';refine ih (k+1) fuel' _ a' W' aA hklt hf' (by simpa using hsz) ?_ ?_ h'
   ·intro j hj;rw[Array.getElem?_setIfInBounds];by_cases e:l.length+k=j
    ·subst e;simp[show l.length+k<L.size by omega]
    rw[if_neg e];exact hall j aA
   intro j hj hjs;rw[Array.getElem?_setIfInBounds,if_neg aA];exact hno j aA (by simpa using hjs)
  cases fuel with
  | zero=>omega
  | succ fuel=>
   refine⟨fun h'=>(by rw[h']at hin;cases hin),fun i hi=>?_⟩;obtain rfl:=hready i hi;unfold wpOp;simp only[getElem?_toArray,hat];unfold wpList at h;by_cases hw:Region.wanted tl[k] (yielded (l++tl).toArray a.tmps)=true
   ·rw[if_pos hw]at h ⊢;rcases h with h | h
    ·exact .inl (Oper.wp_mono (fun a' w' h'=>next a' w' h' fuel aA) h)
    exact .inr h
   rw[if_neg hw]at h ⊢;exact next _ _ h fuel aA
theorem tail_ht {l tl:List Oper}(hT:pJ l tl=true):∀i o,l.length<=i->(l++tl)[i]? = some o->(∃j,l.length<=j/\dep (l++tl) i j=true)∨∀j,j<l.length->dep (l++tl) i j=true∨∃m,j<m/\m<l.length/\dep l m j=true:=by
 intro i o hi h;have hlt:i<(l++tl).length:=(List.getElem?_eq_some_iff.1 h).1;rw[length_append]at hlt;unfold pJ at hT;rw[Bool.and_eq_true]at hT;by_cases h0:i=l.length
 ·subst h0;refine .inr fun j hj=>?_
  have h1:=hT.1;rw[all_eq_true]at h1;have h2:=h1 j (by simpa using hj);rw[Bool.or_eq_true]at h2;rcases h2 with h2 | h2
  ·exact .inl h2
  rw[any_eq_true]at h2;obtain⟨m,hm,h3⟩:=h2;rw[Bool.and_eq_true]at h3;exact .inr ⟨m,mF h3.1,by simpa using hm,h3.2⟩
 refine .inl ⟨l.length,Nat.le_refl _,?_⟩;have h1:=hT.2;rw[all_eq_true]at h1;have:=h1 (i-l.length) (by rw[mem_range];omega);rw[show l.length+(i-l.length)=i by omega]at this;simp only[Bool.and_eq_true,all_eq_true]at this;exact this.1 0 (by rw[mem_range];omega)

end
theorem inB_iff' {n a b:Int}:inB n a b=true↔(a<=n/\n<=b):=by simp[inB]
theorem Sl.one {α:Type}[Shape α] {w:World}{v:Value}{xs:List α}{fp:List Nat}(h:Sl w v xs fp):v.oneCell'=true:=by obtain⟨_,_,rfl,_⟩:=h;rfl
theorem Sl.yl {α:Type}[Shape α] {w:World}{v:Value}{xs:List α}{fp:List Nat}(h:Sl w v xs fp):Go.Proofs.YtpdgdnpajmcaeaaGreat.yl v=none:=by obtain⟨_,_,rfl,_⟩:=h;rfl
theorem Sl.cells {α:Type}[Shape α] {w:World}{v:Value}{xs:List α}{fp:List Nat}(h:Sl w v xs fp):v.cells = #[v]:=by obtain⟨_,_,rfl,_⟩:=h;rfl
theorem bH9 {α:Type}[Shape α] {w:World}:Sl w (.slice none 0 0) ([]:List α) []:=⟨none,0,rfl,Nat.le_refl _,by omega,.inl ⟨rfl,rfl⟩⟩
theorem Elems.ints {W:World}:∀(ys:List Int),(∀y∈ys,I64 y)->Elems W (ys.map I) ys []
 | [],_=>⟨rfl,rfl⟩
 | y::ys,h=>⟨[I y],ys.map I,[],[],rfl,⟨rfl,rfl,h y (by simp)⟩,Elems.ints ys (fun z hz=>h z (by simp[hz])),rfl⟩
theorem Elems.one1 {α:Type}[Shape α] {W:World}{x:α}{cs:List Value}(h:Shape.C W cs x []):Elems W cs [x] []:=⟨cs,[],[],[],by simp,h,⟨rfl,rfl⟩,by simp⟩

section
variable {P:Program}{n:Nat}{f:Nat->Value}{W:World}{Q:Exit->Act->World->Prop}{K:Value->World->Prop}{d:Option Tmp}{ty:TypeId}{pos:String}{af:Array Edge}{g:Option (Nat×Bool)}{x y:Operand}{t t':TypeId}
theorem stp_beql {a b:Bool}(hu:P.underlying t=some .bool) (hx:ev n f x = .bool a) (hy:ev n f y = .bool b) (k:K (.bool (a == b)) W):Stp P n ⟨d,.binOp .eql t x y t',ty,pos,af,g⟩ f W Q K:=
 Stp.run (v := .bool (a == b)) (by simp only[execOp,hx,hy,eqGuard_at_bool,Sem.run_bind,Sem.run_pure,Result.andThen_ok,run_eql_bool (h:=hu)]) k
theorem stp_bneq {a b:Bool}(hu:P.underlying t=some .bool) (hx:ev n f x = .bool a) (hy:ev n f y = .bool b) (k:K (.bool (!(a == b))) W):Stp P n ⟨d,.binOp .neq t x y t',ty,pos,af,g⟩ f W Q K:=
 Stp.run (v := .bool (!(a == b))) (by simp only[execOp,hx,hy,eqGuard_at_bool,Sem.run_bind,Sem.run_pure,Result.andThen_ok,run_neq_bool (h:=hu)]) k
end
theorem Sl.len_le {α:Type}[Shape α] {w:World}{v:Value}{xs:List α}{fp:List Nat}(h:Sl w v xs fp):xs.length<=9223372036854775807:=by obtain⟨_,_,_,h1,h2,_⟩:=h;omega
theorem then_ret {K:Act->World->Prop}{Q:Exit->Act->World->Prop}{a:Act}{w:World}(h:Q .ret a w):Exit.then K Q .ret a w:=h
theorem blk_ret {id:Nat}{Q:Exit->Act->World->Prop}{a:Act}{w:World}(h:Q .ret a w):Exit.inBlock id Q .ret a w:=h
theorem run_buildSlice0 {P:Program}{t e:TypeId}{α:Type}[Shape α] {bytes:Nat}(hT:ApOk P t e α bytes) (W:World) :
  (Instr.buildSlice t 0 #[]).run P W = .ok (.slice (some ⟨W.heap.size,0,none⟩) 0 0) (W.alloc (.cells [].toArray e)):=by
 obtain⟨i,z,hi,hz,h1,h2,h3⟩:=hT.info;simp[Instr.buildSlice,Sem.run_bind,run_underlying hT.desc,Result.andThen_ok,sizeOf,typeInfo,run_program,hi,Sem.run_pure,Instr.fill,newRow,run_newObj];congr 1;simp[Array.range_zero']
theorem St.trade {w0 W:World}{rs1 rs2 rs:List Res}(h:St w0 W (rs1++rs)) (hn:(rs2.flatMap Res.fp).Nodup) (hs:∀b∈rs2.flatMap Res.fp,b∈rs1.flatMap Res.fp) (hb:∀r∈rs2,r.holds W):St w0 W (rs2++rs):=by
 have hnd:=h.nodup;rw[flatMap_append,nodup_append]at hnd;refine⟨h.below,?_,?_,?_⟩
 ·rw[flatMap_append,nodup_append];exact⟨hn,hnd.2.1,fun a ha b hb'=>hnd.2.2 a (hs a ha) b hb'⟩
 ·intro r hr b hb';rcases mem_append.1 hr with hr | hr
  ·obtain⟨s,hs',hsb⟩:=mem_flatMap.1 (hs b (mem_flatMap.2 ⟨r,hr,hb'⟩));exact h.fresh s (mem_append_left _ hs') b hsb
  exact h.fresh r (mem_append_right _ hr) b hb'
 intro r hr;rcases mem_append.1 hr with hr | hr
 ·exact hb r hr
 exact h.holds r (mem_append_right _ hr)
theorem St.trade1 {w0 W:World}{r r':Res}{rs:List Res}(h:St w0 W (r::rs)) (hf:r'.fp=r.fp) (hb:r.holds W->r'.holds W):St w0 W (r'::rs):=by
 refine St.trade (rs1:=[r]) (rs2:=[r']) h ?_ ?_ ?_
 ·have:=h.nodup;rw[flatMap_cons,nodup_append]at this;simpa [hf] using this.1
 ·intro b hb';simpa [hf] using hb'
 intro s hs;simp at hs;subst hs;exact hb (h.get 0 rfl)
def Res.cs {α:Type}[Shape α] (cs:List Value) (z:α) (fz:List Nat):Res where
 fp:=fz
 holds:=fun W=>Shape.C W cs z fz/\∀b∈fz,Wr W b
 loc:=fun hs hb h=>⟨Shape.loc hs (fun c hc o=>fM (hb c hc) o) h.1,fun c hc=>(h.2 c hc).loc (hb c hc)⟩
 wr:=fun h=>h.2
theorem St.cs {α:Type}[Shape α] [Agg α] {w0 W:World}{cs:List Value}{x:α}{fp:List Nat}{rs:List Res}(h:St w0 W (Res.own (.agg cs.toArray) x fp::rs)) (ha:Agg.agg α=true):St w0 W (Res.cs cs x fp::rs):=
 h.trade1 rfl (fun h=>⟨own_C h ha,h.2⟩)
theorem St.cs0 {α:Type}[Shape α] {w0 W:World}{cs:List Value}{x:α}{rs:List Res}(h:St w0 W rs) (hc:Shape.C W cs x []):St w0 W (Res.cs cs x []::rs):=
 h.trade (rs1:=[]) (rs2:=[Res.cs cs x []]) (show ([]:List Nat).Nodup from nodup_nil) (fun b hb=>absurd (show b∈([]:List Nat) from hb) (by simp)) (by intro r hr;simp at hr;subst hr;exact⟨hc,by simp⟩)
section
variable {α:Type}[Shape α]
def Res.fill (e:TypeId) (b N:Nat) (xs:List α) (fe:List Nat):Res where
 fp:=b::fe
 holds:=fun W=>(∃C:Array Value,W.heap[b]? = some (.cells C e (0,0))/\C.size=N*Shape.size α)/\SlAt W b 0 xs fe/\xs.length<=N/\∀c∈fe,Wr W c
 loc:=by
  rintro W W' hs hb ⟨⟨C,h1,h2⟩,h3,h4,h5⟩;refine⟨⟨C,by rw[hb b (by simp)];exact h1,h2⟩,SlAt.loc hs (fun c hc o=>fM (hb c (by simpa using hc)) o) h3,h4,fun c hc=>(h5 c hc).loc (hb c (by simp[hc]))⟩
 wr:=by
  rintro W ⟨⟨C,h1,h2⟩,h3,h4,h5⟩ c hc;rcases mem_cons.1 hc with rfl | hc
  ·exact⟨_,_,h1⟩
  exact h5 c hc
theorem St.fill {w0 W:World}{rs:List Res}{e:TypeId}{b N:Nat}{C:List Value}(h:St w0 W (Res.bx b C e::rs)) (hl:C.length=N*Shape.size α):St w0 W (Res.fill (α:=α) e b N [] []::rs):=
 h.trade1 rfl (fun hb=>⟨⟨C.toArray,hb,by simpa using hl⟩,rfl,Nat.zero_le _,by simp⟩)
end

section
variable {P:Program}{n:Nat}{f:Nat->Value}{W w0:World}{rs:List Res}{Q:Exit->Act->World->Prop}{K:Value->World->Prop}
 {d:Option Tmp}{ty:TypeId}{pos:String}{af:Array Edge}{g:Option (Nat×Bool)}{α:Type}[Shape α]

end
section
variable {P:Program}{n:Nat}{f:Nat->Value}{W w0:World}{rs:List Res}{Q:Exit->Act->World->Prop}{K:Value->World->Prop}
 {d:Option Tmp}{ty:TypeId}{pos:String}{af:Array Edge}{g:Option (Nat×Bool)}{α:Type}[Shape α] [Agg α]
theorem stp_store_all {t t':TypeId}{x y:Operand}{b:Nat}{cs C:List Value}{w:World}{z:α}{fp:List Nat}(hT:TyOk P t α) (hc:Shape.C w cs z fp) (hx:ev n f x = .pointer (some ⟨b,0,none⟩)) (hy:ev n f y = .agg cs.toArray)
  (hst:St w0 W (Res.bx b C t'::rs)) (hl:C.length=Shape.size α) (k:∀W',St w0 W' (Res.bx b cs t'::rs)->K undef W') :
  Stp P n ⟨d,.store t x y,ty,pos,af,g⟩ f W Q K:=
 rX (by rw[Shape.len hc];exact hT.size) hx hy (Shape.one hc) hst (by rw[Shape.len hc,hl];omega) (jY C cs (by rw[Shape.len hc,hl])) k
theorem stp_load_rga {t:TypeId}{w:World}{x:Operand}{b o:Nat}{C:List Value}(hT:TyOk P t α) (ha:Agg.agg α=true) (hx:ev n f x = .pointer (some ⟨b,o,none⟩)) (hr:w.rangeAt b o C) (hb:Below w.heap.size w W) (hl:C.length=Shape.size α) (k:K (.agg C.toArray) W) :
  Stp P n ⟨d,.load t x,ty,pos,af,g⟩ f W Q K:=
 stp_load_rgs (i:=0) hT ha hx hr hb rfl (by rw[drop_zero,take_of_length_le aA]) hl k
end
section
variable {P:Program}{n:Nat}{f:Nat->Value}{W w0:World}{α:Type}[Shape α] [Agg α]
end
theorem bd (b:Bool):b=false∨b=true:=by cases b<;>simp
theorem pnil {n:Nat}{f:Nat->Value}:([]:List (Nat×Operand)).map (fun (i,x)=>(i,ev n f x))=[]:=rfl
theorem Res.below {r:Res}{W W':World}(h:r.holds W) (hb:Below W.heap.size W W'):r.holds W':=r.loc hb.size (fun b hm=>hb.block b (r.wr h b hm).lt) h
section
variable {P:Program}{n:Nat}{f:Nat->Value}{W:World}{Q:Exit->Act->World->Prop}{K:Value->World->Prop}
 {d:Option Tmp}{ty:TypeId}{pos:String}{af:Array Edge}{g:Option (Nat×Bool)}{F:FuncId}{ats:Array TypeId}{fn:Func}
theorem qQ {t:Tmp}{xs:List Operand}{av first capt:List Value}(hfn:P.funcs[F]? = some fn) (hok:((fn.name == "runtime.NumGoroutine") || fn.body.isNone)=false) (hf:ev n f (.tmp t) = .func (.func F) first.toArray capt.toArray) (hav:xs.map (ev n f)=av)
  (h:Calls P F (first++av++capt).toArray W fun e W'=>∃v,e = .returned v/\K v W'):Stp P n ⟨d,.call { callee := .value (.tmp t),args:=xs.toArray,argTypes:=ats },ty,pos,af,g⟩ f W Q K:=by
 refine⟨?_⟩;unfold Oper.wp;rw[qK];have hrun:(execOp (ev n f) ⟨d,.call { callee := .value (.tmp t),args:=xs.toArray,argTypes:=ats },ty,pos,af,g⟩).run P W = .ok (.enter F (first++av++capt).toArray) W:=by
  have e2:xs.toArray.map (ev n f)=av.toArray:=by rw[<- hav];simp
  simp only[Bool.or_eq_false_iff]at hok;have h1:fn.name ≠ "runtime.NumGoroutine" := by simpa using hok.1
  have h2:fn.body≠none:=by intro h;rw[h]at hok;cases hok.2
  simp only[execOp,resolve,e2,hf,Deferred.ofValue,Sem.run_bind,Sem.run_pure,Result.andThen_ok,invoke];simp[callFunc,hfn,h1,h2]
 rw[hrun];refine h.mono ?_;rintro e W' ⟨v,rfl,hk⟩;exact⟨v,by rw[rH],hk⟩
theorem stp_makeFunc {fnn:Fn}{first captured:List Operand}{fv cv:List Value}(h1:first.map (ev n f)=fv) (h2:captured.map (ev n f)=cv) (k:K (.func fnn fv.toArray cv.toArray) W):Stp P n ⟨d,.makeFunc fnn first.toArray captured.toArray,ty,pos,af,g⟩ f W Q K:=
 Stp.run (v := .func fnn fv.toArray cv.toArray) (by
  have e1:first.toArray.map (ev n f)=fv.toArray:=by rw[<- h1];simp
  have e2:captured.toArray.map (ev n f)=cv.toArray:=by rw[<- h2];simp
  simp only[execOp,e1,e2,Instr.makeFunc,Sem.run_bind,Sem.run_pure,Result.andThen_ok]) k
theorem xP {x:Operand}{i:Nat}{vs:Array Value}{v:Value}(hx:ev n f x = .tuple vs) (hi:vs[i]? = some v) (k:K v W):Stp P n ⟨d,.extract x i,ty,pos,af,g⟩ f W Q K:=
 Stp.run (v:=v) (by simp[execOp,hx,Instr.extract,Sem.run_bind,hi]) k
theorem bW3 {o:Oper}{ops:Array Oper}{rest:List Oper}{j dd:Nat}{w:Bool}(hg:o.guard=some (j,w)) (hd:(ops[j]?).bind (·.dst)=some dd) (hn:dd<n) (hy:yl (f dd)=some w) (h:Stp P n o f W Q (fun v W'=>Wl P ops Q rest n (dF f o.dst v) W')):Wl P ops Q (o::rest) n f W:=by
 refine⟨?_⟩;unfold wpList;have hw:Region.wanted o (yielded ops (act n f).tmps)=true:=by
  have e2:(act n f).tmps[dd]? = some (f dd):=by simp[act,hn]
  simp only[Region.wanted,hg,yielded,hd,Option.bind_some,e2];revert hy;cases f dd<;>simp[yl]
 rw[if_pos hw];exact .inl (Oper.wp_mono (fun _ _ ⟨v,e,k⟩=>by rw[e];exact k.out) h.out)
theorem bG6 {o:Oper}{ops:Array Oper}{rest:List Oper}{j dd:Nat}{w:Bool}(hg:o.guard=some (j,w)) (hd:(ops[j]?).bind (·.dst)=some dd) (hn:dd<n) (hy:(yl (f dd) == some w)=false) (h:Wl P ops Q rest n (dF f o.dst undef) W):Wl P ops Q (o::rest) n f W:=by
 refine⟨?_⟩;unfold wpList;have hw:Region.wanted o (yielded ops (act n f).tmps)=false:=by
  have e2:(act n f).tmps[dd]? = some (f dd):=by simp[act,hn]
  simp only[Region.wanted,hg,yielded,hd,Option.bind_some,e2];revert hy;cases f dd<;>simp[yl]
 rw[if_neg (by simp[hw]),rH];exact h.out
end
section
variable {P:Program}{n:Nat}{f:Nat->Value}{W w0:World}{Q:Exit->Act->World->Prop}{d:Option Tmp}{op:Op}{ty:TypeId}{pos:String}{af:Array Go.Edge}{ops:Array Oper}{rest:List Oper}
theorem sg (h:Stp P n ⟨d,op,ty,pos,af,none⟩ f W Q (fun v W'=>Wl P ops Q rest n (dF f d v) W')):Wl P ops Q (⟨d,op,ty,pos,af,none⟩::rest) n f W:=sx rfl h
theorem sgn (h:Stp P n ⟨none,op,ty,pos,af,none⟩ f W Q (fun _ W'=>Wl P ops Q rest n f W')):Wl P ops Q (⟨none,op,ty,pos,af,none⟩::rest) n f W:=sxn rfl rfl h
theorem brq {k:Nat}{v:Value}:Below k W W/\v=v:=⟨Below.refl _ _,rfl⟩
end
structure Edge where
 from_:Int
 to_:Int
 deriving DecidableEq
def Edge.ok (x:Edge):Prop:=I64 x.from_/\I64 x.to_
def Edge.cells (x:Edge):List Value:=[I x.from_,I x.to_]
instance:Shape Edge:=Shape.flat 2 Edge.cells Edge.ok (fun _=>rfl) (fun _ v hv=>by simp[Edge.cells]at hv;rcases hv with rfl | rfl<;>rfl)
structure Plan where
 prio:Int
 most:Int
 wait:Int
 tasks:Int
 edges:List Edge
 deriving DecidableEq
def Plan.ok (x:Plan):Prop:=I64 x.prio/\I64 x.most/\I64 x.wait/\I64 x.tasks
instance:Shape Plan where
 size:=5
 C:=fun w cs x fp=>∃(v1:Value) (f1:List Nat),cs=[I x.prio,I x.most,I x.wait,I x.tasks,v1]/\x.ok/\Sl w v1 x.edges f1/\fp=f1
 len:=fun ⟨v1,f1,h,hok,h1,hfp⟩=>by rw[h];rfl
 loc:=fun hs hk ⟨v1,f1,h,hok,h1,hfp⟩=>⟨v1,f1,h,hok,h1.loc (fun b hb=>hk b (by rw[hfp];simp[hb])) hs,hfp⟩
 one:=fun ⟨v1,f1,h,hok,h1,hfp⟩ u hu=>by
  obtain⟨ao0,cap0,rfl,_⟩:=h1;subst h;simp at hu;rcases hu with rfl | rfl | rfl | rfl | rfl<;>rfl
 lt:=fun ⟨v1,f1,h,hok,h1,hfp⟩ b hb=>by
  subst hfp;exact h1.lt b hb
structure Entry where
 prio:Int
 seq:Int
 run:Int
 task:Int
 deriving DecidableEq
def Entry.ok (x:Entry):Prop:=I64 x.prio/\I64 x.seq/\I64 x.run/\I64 x.task
def Entry.cells (x:Entry):List Value:=[I x.prio,I x.seq,I x.run,I x.task]
instance:Shape Entry:=Shape.flat 4 Entry.cells Entry.ok (fun _=>rfl) (fun _ v hv=>by simp[Entry.cells]at hv;rcases hv with rfl | rfl | rfl | rfl<;>rfl)
structure Task where
 state:Int
 need:Int
 try_:Int
 until_:Int
 deriving DecidableEq
def Task.ok (x:Task):Prop:=I64 x.state/\I64 x.need/\I64 x.try_/\I64 x.until_
def Task.cells (x:Task):List Value:=[I x.state,I x.need,I x.try_,I x.until_]
instance:Shape Task:=Shape.flat 4 Task.cells Task.ok (fun _=>rfl) (fun _ v hv=>by simp[Task.cells]at hv;rcases hv with rfl | rfl | rfl | rfl<;>rfl)
structure Run where
 id:Int
 plan:Plan
 state:Int
 tasks:List Task
 deriving DecidableEq
def Run.ok (x:Run):Prop:=I64 x.id/\x.plan.ok/\I64 x.state
instance:Shape Run where
 size:=8
 C:=fun w cs x fp=>∃(v1 v2:Value) (f1 f2:List Nat),cs=[I x.id,I x.plan.prio,I x.plan.most,I x.plan.wait,I x.plan.tasks,v1,I x.state,v2]/\x.ok/\Sl w v1 x.plan.edges f1/\Sl w v2 x.tasks f2/\fp=f1++(f2)
 len:=fun ⟨v1,v2,f1,f2,h,hok,h1,h2,hfp⟩=>by rw[h];rfl
 loc:=fun hs hk ⟨v1,v2,f1,f2,h,hok,h1,h2,hfp⟩=>⟨v1,v2,f1,f2,h,hok,h1.loc (fun b hb=>hk b (by rw[hfp];simp[hb])) hs,h2.loc (fun b hb=>hk b (by rw[hfp];simp[hb])) hs,hfp⟩
 one:=fun ⟨v1,v2,f1,f2,h,hok,h1,h2,hfp⟩ u hu=>by
  obtain⟨ao0,cap0,rfl,_⟩:=h1;obtain⟨ao1,cap1,rfl,_⟩:=h2;subst h;simp at hu;rcases hu with rfl | rfl | rfl | rfl | rfl | rfl | rfl | rfl<;>rfl
 lt:=fun ⟨v1,v2,f1,f2,h,hok,h1,h2,hfp⟩ b hb=>by
  subst hfp;simp only[mem_append]at hb;rcases hb with hb | hb
  ·exact h1.lt b hb
  ·exact h2.lt b hb
structure Yard where
 now:Int
 seq:Int
 shelf:List (List Entry)
 runs:List Run
 deriving DecidableEq
def Yard.ok (x:Yard):Prop:=I64 x.now/\I64 x.seq
instance:Shape Yard where
 size:=4
 C:=fun w cs x fp=>∃(v1 v2:Value) (f1 f2:List Nat),cs=[I x.now,I x.seq,v1,v2]/\x.ok/\Sl w v1 x.shelf f1/\Sl w v2 x.runs f2/\fp=f1++(f2)
 len:=fun ⟨v1,v2,f1,f2,h,hok,h1,h2,hfp⟩=>by rw[h];rfl
 loc:=fun hs hk ⟨v1,v2,f1,f2,h,hok,h1,h2,hfp⟩=>⟨v1,v2,f1,f2,h,hok,h1.loc (fun b hb=>hk b (by rw[hfp];simp[hb])) hs,h2.loc (fun b hb=>hk b (by rw[hfp];simp[hb])) hs,hfp⟩
 one:=fun ⟨v1,v2,f1,f2,h,hok,h1,h2,hfp⟩ u hu=>by
  obtain⟨ao0,cap0,rfl,_⟩:=h1;obtain⟨ao1,cap1,rfl,_⟩:=h2;subst h;simp at hu;rcases hu with rfl | rfl | rfl | rfl<;>rfl
 lt:=fun ⟨v1,v2,f1,f2,h,hok,h1,h2,hfp⟩ b hb=>by
  subst hfp;simp only[mem_append]at hb;rcases hb with hb | hb
  ·exact h1.lt b hb
  ·exact h2.lt b hb
structure Reply where
 code:Int
 run:Int
 task:Int
 try_:Int
 deriving DecidableEq
def Reply.ok (x:Reply):Prop:=I64 x.code/\I64 x.run/\I64 x.task/\I64 x.try_
def Reply.cells (x:Reply):List Value:=[I x.code,I x.run,I x.task,I x.try_]
instance:Shape Reply:=Shape.flat 4 Reply.cells Reply.ok (fun _=>rfl) (fun _ v hv=>by simp[Reply.cells]at hv;rcases hv with rfl | rfl | rfl | rfl<;>rfl)
structure Deed where
 kind:Int
 run:Int
 plan:Plan
 task:Int
 try_:Int
 worker:Int
 draw:Int
 deriving DecidableEq
def Deed.ok (x:Deed):Prop:=I64 x.kind/\I64 x.run/\x.plan.ok/\I64 x.task/\I64 x.try_/\I64 x.worker/\I64 x.draw
instance:Shape Deed where
 size:=11
 C:=fun w cs x fp=>∃(v1:Value) (f1:List Nat),cs=[I x.kind,I x.run,I x.plan.prio,I x.plan.most,I x.plan.wait,I x.plan.tasks,v1,I x.task,I x.try_,I x.worker,I x.draw]/\x.ok/\Sl w v1 x.plan.edges f1/\fp=f1
 len:=fun ⟨v1,f1,h,hok,h1,hfp⟩=>by rw[h];rfl
 loc:=fun hs hk ⟨v1,f1,h,hok,h1,hfp⟩=>⟨v1,f1,h,hok,h1.loc (fun b hb=>hk b (by rw[hfp];simp[hb])) hs,hfp⟩
 one:=fun ⟨v1,f1,h,hok,h1,hfp⟩ u hu=>by
  obtain⟨ao0,cap0,rfl,_⟩:=h1;subst h;simp at hu;rcases hu with rfl | rfl | rfl | rfl | rfl | rfl | rfl | rfl | rfl | rfl | rfl<;>rfl
 lt:=fun ⟨v1,f1,h,hok,h1,hfp⟩ b hb=>by
  subst hfp;exact h1.lt b hb
structure Note where
 seq:Int
 deed:Deed
 deriving DecidableEq
def Note.ok (x:Note):Prop:=I64 x.seq/\x.deed.ok
instance:Shape Note where
 size:=12
 C:=fun w cs x fp=>∃(v1:Value) (f1:List Nat),cs=[I x.seq,I x.deed.kind,I x.deed.run,I x.deed.plan.prio,I x.deed.plan.most,I x.deed.plan.wait,I x.deed.plan.tasks,v1,I x.deed.task,I x.deed.try_,I x.deed.worker,I x.deed.draw]/\x.ok/\Sl w v1 x.deed.plan.edges f1/\fp=f1
 len:=fun ⟨v1,f1,h,hok,h1,hfp⟩=>by rw[h];rfl
 loc:=fun hs hk ⟨v1,f1,h,hok,h1,hfp⟩=>⟨v1,f1,h,hok,h1.loc (fun b hb=>hk b (by rw[hfp];simp[hb])) hs,hfp⟩
 one:=fun ⟨v1,f1,h,hok,h1,hfp⟩ u hu=>by
  obtain⟨ao0,cap0,rfl,_⟩:=h1;subst h;simp at hu;rcases hu with rfl | rfl | rfl | rfl | rfl | rfl | rfl | rfl | rfl | rfl | rfl | rfl<;>rfl
 lt:=fun ⟨v1,f1,h,hok,h1,hfp⟩ b hb=>by
  subst hfp;exact h1.lt b hb
structure Wait where
 call:Int
 reply:Reply
 deriving DecidableEq
def Wait.ok (x:Wait):Prop:=I64 x.call/\x.reply.ok
def Wait.cells (x:Wait):List Value:=[I x.call,I x.reply.code,I x.reply.run,I x.reply.task,I x.reply.try_]
instance:Shape Wait:=Shape.flat 5 Wait.cells Wait.ok (fun _=>rfl) (fun _ v hv=>by simp[Wait.cells]at hv;rcases hv with rfl | rfl | rfl | rfl | rfl<;>rfl)
structure File where
 name:ByteArray
 data:ByteArray
 safe:Int
 deriving DecidableEq
def File.ok (x:File):Prop:=x.name.size<=maxLen/\x.data.size<=maxLen/\I64 x.safe
def File.cells (x:File):List Value:=[.string x.name,.string x.data,I x.safe]
instance:Shape File:=Shape.flat 3 File.cells File.ok (fun _=>rfl) (fun _ v hv=>by simp[File.cells]at hv;rcases hv with rfl | rfl | rfl<;>rfl)
structure Disk where
 files:List File
 deriving DecidableEq
def Disk.ok (x:Disk):Prop:=True
instance:Shape Disk where
 size:=1
 C:=fun w cs x fp=>∃(v1:Value) (f1:List Nat),cs=[v1]/\x.ok/\Sl w v1 x.files f1/\fp=f1
 len:=fun ⟨v1,f1,h,hok,h1,hfp⟩=>by rw[h];rfl
 loc:=fun hs hk ⟨v1,f1,h,hok,h1,hfp⟩=>⟨v1,f1,h,hok,h1.loc (fun b hb=>hk b (by rw[hfp];simp[hb])) hs,hfp⟩
 one:=fun ⟨v1,f1,h,hok,h1,hfp⟩ u hu=>by
  obtain⟨ao0,cap0,rfl,_⟩:=h1;subst h;simp at hu;rcases hu with rfl<;>rfl
 lt:=fun ⟨v1,f1,h,hok,h1,hfp⟩ b hb=>by
  subst hfp;exact h1.lt b hb
structure Engine where
 yard:Yard
 disk:Disk
 next:Int
 calls:Int
 waits:List Wait
 state:Int
 broken:Bool
 deriving DecidableEq
def Engine.ok (x:Engine):Prop:=x.yard.ok/\I64 x.next/\I64 x.calls/\I64 x.state
instance:Shape Engine where
 size:=10
 C:=fun w cs x fp=>∃(v1 v2 v3 v4:Value) (f1 f2 f3 f4:List Nat),cs=[I x.yard.now,I x.yard.seq,v1,v2,v3,I x.next,I x.calls,v4,I x.state,.bool x.broken]/\x.ok/\Sl w v1 x.yard.shelf f1/\Sl w v2 x.yard.runs f2/\Sl w v3 x.disk.files f3/\Sl w v4 x.waits f4/\fp=f1++(f2++(f3++(f4)))
 len:=fun ⟨v1,v2,v3,v4,f1,f2,f3,f4,h,hok,h1,h2,h3,h4,hfp⟩=>by rw[h];rfl
 loc:=fun hs hk ⟨v1,v2,v3,v4,f1,f2,f3,f4,h,hok,h1,h2,h3,h4,hfp⟩=>⟨v1,v2,v3,v4,f1,f2,f3,f4,h,hok,h1.loc (fun b hb=>hk b (by rw[hfp];simp[hb])) hs,h2.loc (fun b hb=>hk b (by rw[hfp];simp[hb])) hs,h3.loc (fun b hb=>hk b (by rw[hfp];simp[hb])) hs,h4.loc (fun b hb=>hk b (by rw[hfp];simp[hb])) hs,hfp⟩
 one:=fun ⟨v1,v2,v3,v4,f1,f2,f3,f4,h,hok,h1,h2,h3,h4,hfp⟩ u hu=>by
  obtain⟨ao0,cap0,rfl,_⟩:=h1;obtain⟨ao1,cap1,rfl,_⟩:=h2;obtain⟨ao2,cap2,rfl,_⟩:=h3;obtain⟨ao3,cap3,rfl,_⟩:=h4;subst h;simp at hu;rcases hu with rfl | rfl | rfl | rfl | rfl | rfl | rfl | rfl | rfl | rfl<;>rfl
 lt:=fun ⟨v1,v2,v3,v4,f1,f2,f3,f4,h,hok,h1,h2,h3,h4,hfp⟩ b hb=>by
  subst hfp;simp only[mem_append]at hb;rcases hb with hb | hb | hb | hb
  ·exact h1.lt b hb
  ·exact h2.lt b hb
  ·exact h3.lt b hb
  ·exact h4.lt b hb
structure WorldD where
 engine:Engine
 deeds:List Deed
 replies:List Reply
 told:Int
 fell:Int
 deriving DecidableEq
def WorldD.ok (x:WorldD):Prop:=x.engine.ok/\I64 x.told/\I64 x.fell
instance:Shape WorldD where
 size:=14
 C:=fun w cs x fp=>∃(v1 v2 v3 v4 v5 v6:Value) (f1 f2 f3 f4 f5 f6:List Nat),cs=[I x.engine.yard.now,I x.engine.yard.seq,v1,v2,v3,I x.engine.next,I x.engine.calls,v4,I x.engine.state,.bool x.engine.broken,v5,v6,I x.told,I x.fell]/\x.ok/\Sl w v1 x.engine.yard.shelf f1/\Sl w v2 x.engine.yard.runs f2/\Sl w v3 x.engine.disk.files f3/\Sl w v4 x.engine.waits f4/\Sl w v5 x.deeds f5/\Sl w v6 x.replies f6/\fp=f1++(f2++(f3++(f4++(f5++(f6)))))
 len:=fun ⟨v1,v2,v3,v4,v5,v6,f1,f2,f3,f4,f5,f6,h,hok,h1,h2,h3,h4,h5,h6,hfp⟩=>by rw[h];rfl
 loc:=fun hs hk ⟨v1,v2,v3,v4,v5,v6,f1,f2,f3,f4,f5,f6,h,hok,h1,h2,h3,h4,h5,h6,hfp⟩=>⟨v1,v2,v3,v4,v5,v6,f1,f2,f3,f4,f5,f6,h,hok,h1.loc (fun b hb=>hk b (by rw[hfp];simp[hb])) hs,h2.loc (fun b hb=>hk b (by rw[hfp];simp[hb])) hs,h3.loc (fun b hb=>hk b (by rw[hfp];simp[hb])) hs,h4.loc (fun b hb=>hk b (by rw[hfp];simp[hb])) hs,h5.loc (fun b hb=>hk b (by rw[hfp];simp[hb])) hs,h6.loc (fun b hb=>hk b (by rw[hfp];simp[hb])) hs,hfp⟩
 one:=fun ⟨v1,v2,v3,v4,v5,v6,f1,f2,f3,f4,f5,f6,h,hok,h1,h2,h3,h4,h5,h6,hfp⟩ u hu=>by
  obtain⟨ao0,cap0,rfl,_⟩:=h1;obtain⟨ao1,cap1,rfl,_⟩:=h2;obtain⟨ao2,cap2,rfl,_⟩:=h3;obtain⟨ao3,cap3,rfl,_⟩:=h4;obtain⟨ao4,cap4,rfl,_⟩:=h5;obtain⟨ao5,cap5,rfl,_⟩:=h6;subst h;simp at hu;rcases hu with rfl | rfl | rfl | rfl | rfl | rfl | rfl | rfl | rfl | rfl | rfl | rfl | rfl | rfl<;>rfl
 lt:=fun ⟨v1,v2,v3,v4,v5,v6,f1,f2,f3,f4,f5,f6,h,hok,h1,h2,h3,h4,h5,h6,hfp⟩ b hb=>by
  subst hfp;simp only[mem_append]at hb;rcases hb with hb | hb | hb | hb | hb | hb
  ·exact h1.lt b hb
  ·exact h2.lt b hb
  ·exact h3.lt b hb
  ·exact h4.lt b hb
  ·exact h5.lt b hb
  ·exact h6.lt b hb
structure ActD where
 kind:Int
 deed:Deed
 n:Int
 keep:List Int
 deriving DecidableEq
def ActD.ok (x:ActD):Prop:=I64 x.kind/\x.deed.ok/\I64 x.n
instance:Shape ActD where
 size:=14
 C:=fun w cs x fp=>∃(v1 v2:Value) (f1 f2:List Nat),cs=[I x.kind,I x.deed.kind,I x.deed.run,I x.deed.plan.prio,I x.deed.plan.most,I x.deed.plan.wait,I x.deed.plan.tasks,v1,I x.deed.task,I x.deed.try_,I x.deed.worker,I x.deed.draw,I x.n,v2]/\x.ok/\Sl w v1 x.deed.plan.edges f1/\Sl w v2 x.keep f2/\fp=f1++(f2)
 len:=fun ⟨v1,v2,f1,f2,h,hok,h1,h2,hfp⟩=>by rw[h];rfl
 loc:=fun hs hk ⟨v1,v2,f1,f2,h,hok,h1,h2,hfp⟩=>⟨v1,v2,f1,f2,h,hok,h1.loc (fun b hb=>hk b (by rw[hfp];simp[hb])) hs,h2.loc (fun b hb=>hk b (by rw[hfp];simp[hb])) hs,hfp⟩
 one:=fun ⟨v1,v2,f1,f2,h,hok,h1,h2,hfp⟩ u hu=>by
  obtain⟨ao0,cap0,rfl,_⟩:=h1;obtain⟨ao1,cap1,rfl,_⟩:=h2;subst h;simp at hu;rcases hu with rfl | rfl | rfl | rfl | rfl | rfl | rfl | rfl | rfl | rfl | rfl | rfl | rfl | rfl<;>rfl
 lt:=fun ⟨v1,v2,f1,f2,h,hok,h1,h2,hfp⟩ b hb=>by
  subst hfp;simp only[mem_append]at hb;rcases hb with hb | hb
  ·exact h1.lt b hb
  ·exact h2.lt b hb
structure Hand where
 run:Int
 task:Int
 try_:Int
 at_:Int
 deriving DecidableEq
def Hand.ok (x:Hand):Prop:=I64 x.run/\I64 x.task/\I64 x.try_/\I64 x.at_
def Hand.cells (x:Hand):List Value:=[I x.run,I x.task,I x.try_,I x.at_]
instance:Shape Hand:=Shape.flat 4 Hand.cells Hand.ok (fun _=>rfl) (fun _ v hv=>by simp[Hand.cells]at hv;rcases hv with rfl | rfl | rfl | rfl<;>rfl)
structure Span where
 deed:Deed
 begin_:Int
 end_:Int
 reply:Reply
 deriving DecidableEq
def Span.ok (x:Span):Prop:=x.deed.ok/\I64 x.begin_/\I64 x.end_/\x.reply.ok
instance:Shape Span where
 size:=17
 C:=fun w cs x fp=>∃(v1:Value) (f1:List Nat),cs=[I x.deed.kind,I x.deed.run,I x.deed.plan.prio,I x.deed.plan.most,I x.deed.plan.wait,I x.deed.plan.tasks,v1,I x.deed.task,I x.deed.try_,I x.deed.worker,I x.deed.draw,I x.begin_,I x.end_,I x.reply.code,I x.reply.run,I x.reply.task,I x.reply.try_]/\x.ok/\Sl w v1 x.deed.plan.edges f1/\fp=f1
 len:=fun ⟨v1,f1,h,hok,h1,hfp⟩=>by rw[h];rfl
 loc:=fun hs hk ⟨v1,f1,h,hok,h1,hfp⟩=>⟨v1,f1,h,hok,h1.loc (fun b hb=>hk b (by rw[hfp];simp[hb])) hs,hfp⟩
 one:=fun ⟨v1,f1,h,hok,h1,hfp⟩ u hu=>by
  obtain⟨ao0,cap0,rfl,_⟩:=h1;subst h;simp at hu;rcases hu with rfl | rfl | rfl | rfl | rfl | rfl | rfl | rfl | rfl | rfl | rfl | rfl | rfl | rfl | rfl | rfl | rfl<;>rfl
 lt:=fun ⟨v1,f1,h,hok,h1,hfp⟩ b hb=>by
  subst hfp;exact h1.lt b hb
structure Crew where
 yard:Yard
 holds:List Reply
 turns:Int
 did:Int
 deriving DecidableEq
def Crew.ok (x:Crew):Prop:=x.yard.ok/\I64 x.turns/\I64 x.did
instance:Shape Crew where
 size:=7
 C:=fun w cs x fp=>∃(v1 v2 v3:Value) (f1 f2 f3:List Nat),cs=[I x.yard.now,I x.yard.seq,v1,v2,v3,I x.turns,I x.did]/\x.ok/\Sl w v1 x.yard.shelf f1/\Sl w v2 x.yard.runs f2/\Sl w v3 x.holds f3/\fp=f1++(f2++(f3))
 len:=fun ⟨v1,v2,v3,f1,f2,f3,h,hok,h1,h2,h3,hfp⟩=>by rw[h];rfl
 loc:=fun hs hk ⟨v1,v2,v3,f1,f2,f3,h,hok,h1,h2,h3,hfp⟩=>⟨v1,v2,v3,f1,f2,f3,h,hok,h1.loc (fun b hb=>hk b (by rw[hfp];simp[hb])) hs,h2.loc (fun b hb=>hk b (by rw[hfp];simp[hb])) hs,h3.loc (fun b hb=>hk b (by rw[hfp];simp[hb])) hs,hfp⟩
 one:=fun ⟨v1,v2,v3,f1,f2,f3,h,hok,h1,h2,h3,hfp⟩ u hu=>by
  obtain⟨ao0,cap0,rfl,_⟩:=h1;obtain⟨ao1,cap1,rfl,_⟩:=h2;obtain⟨ao2,cap2,rfl,_⟩:=h3;subst h;simp at hu;rcases hu with rfl | rfl | rfl | rfl | rfl | rfl | rfl<;>rfl
 lt:=fun ⟨v1,v2,v3,f1,f2,f3,h,hok,h1,h2,h3,hfp⟩ b hb=>by
  subst hfp;simp only[mem_append]at hb;rcases hb with hb | hb | hb
  ·exact h1.lt b hb
  ·exact h2.lt b hb
  ·exact h3.lt b hb
structure View where
 state:Int
 waits:Int
 ready:Int
 runs:Int
 done:Int
 failed:Int
 left:Int
 deriving DecidableEq
def View.ok (x:View):Prop:=I64 x.state/\I64 x.waits/\I64 x.ready/\I64 x.runs/\I64 x.done/\I64 x.failed/\I64 x.left
def View.cells (x:View):List Value:=[I x.state,I x.waits,I x.ready,I x.runs,I x.done,I x.failed,I x.left]
instance:Shape View:=Shape.flat 7 View.cells View.ok (fun _=>rfl) (fun _ v hv=>by simp[View.cells]at hv;rcases hv with rfl | rfl | rfl | rfl | rfl | rfl | rfl<;>rfl)
instance:Agg Edge:=⟨true⟩
instance:Agg Plan:=⟨true⟩
instance:Agg Entry:=⟨true⟩
instance:Agg Task:=⟨true⟩
instance:Agg Run:=⟨true⟩
instance:Agg Yard:=⟨true⟩
instance:Agg Reply:=⟨true⟩
instance:Agg Deed:=⟨true⟩
instance:Agg Note:=⟨true⟩
instance:Agg Wait:=⟨true⟩
instance:Agg File:=⟨true⟩
instance:Agg Disk:=⟨true⟩
instance:Agg Engine:=⟨true⟩
instance:Agg WorldD:=⟨true⟩
instance:Agg ActD:=⟨true⟩
instance:Agg Hand:=⟨true⟩
instance:Agg Span:=⟨true⟩
instance:Agg Crew:=⟨true⟩
instance:Agg View:=⟨true⟩
theorem mix:prog.follows .mixedOrders=true:=by kernel_rfl
theorem wL:TyOk prog 3 Int:=⟨by kernel_rfl,fun _=>rfl,_,underlying3,rfl⟩
theorem aS4:SlOk prog 39 3 Int:=⟨underlying39,by kernel_rfl⟩
theorem ap_IntS:ApOk prog 39 3 Int 8:=apOk underlying39 aB eZ
theorem bP4:TyOk prog 148 Edge:=⟨by kernel_rfl,(fun h=>by cases h),_,underlying148,_,rfl⟩
theorem zz_Edge:aV9 prog 148 [I 0,I 0]:=by unfold aV9;kernel_rfl
theorem fa_Edge_0:oW prog 148 0 0:=uX underlying148 rfl rfl aB
theorem aO9:oW prog 148 1 1:=uX underlying148 rfl rfl aB
theorem fa_Plan_3:oW prog 44 3 3:=uX underlying44 rfl rfl aB
theorem wS:oW prog 27 3 3:=uX underlying27 rfl rfl aB
theorem sl_EdgeS:SlOk prog 42 148 Edge:=⟨underlying42,by kernel_rfl⟩
theorem sl_EntryS:SlOk prog 117 121 Entry:=⟨underlying117,by kernel_rfl⟩
theorem aQ4:ApOk prog 117 121 Entry 32:=apOk underlying117 aB eZ
theorem bP3:TyOk prog 25 (List Run):=⟨by kernel_rfl,fun _=>rfl,_,underlying25,rfl⟩
theorem jA:SlOk prog 25 125 Run:=⟨underlying25,by kernel_rfl⟩
theorem aV6:ApOk prog 25 125 Run 96:=apOk underlying25 aB eZ
section
variable {α:Type}[Shape α]
theorem SlAt.takeN {w:World}{b:Nat}:∀{xs:List α}{o:Nat}{fp:List Nat}(k:Nat),SlAt w b o xs fp->∃f',SlAt w b o (xs.take k) f'/\∀c∈f',c∈fp
 | _,_,_,0,_=>⟨[],by simp[SlAt],by simp⟩
 | [],_,_,k+1,h=>⟨[],by simp[SlAt],by simp⟩
 | x::xs,o,fp,k+1,⟨cs,f1,f2,h1,h2,h3,h4⟩=>by
  obtain⟨f',h5,h6⟩:=SlAt.takeN k h3;subst h4;exact⟨f1++f',⟨cs,f1,f',h1,h2,h5,rfl⟩,fun c hc=>by
   rcases mem_append.1 hc with hc | hc
   ·simp[hc]
   ·simp[h6 c hc]⟩
theorem SlAt.dropN {w:World}{b:Nat}:∀{xs:List α}{o:Nat}{fp:List Nat}(k:Nat),k<=xs.length->SlAt w b o xs fp->∃f',SlAt w b (o+k*Shape.size α) (xs.drop k) f'/\∀c∈f',c∈fp
 | _,_,fp,0,_,h=>⟨fp,by simpa using h,fun _ h=>h⟩
 | [],_,_,k+1,hk,h=>by simp at hk
 | x::xs,o,fp,k+1,hk,⟨cs,f1,f2,h1,h2,h3,h4⟩=>by
  obtain⟨f',h5,h6⟩:=SlAt.dropN k (by simpa using hk) h3;subst h4;refine⟨f',?_,fun c hc=>by simp[h6 c hc]⟩;rw[show o+(k+1)*Shape.size α=o+Shape.size α+k*Shape.size α by rw[Nat.add_mul];omega];exact h5
theorem Sl.part {w:World}{v:Value}{xs:List α}{fp:List Nat}(h:Sl w v xs fp) (lo hi:Nat) (hlo:lo<=hi) (hhi:hi<=xs.length):∃ao cap fp',v = .slice ao xs.length cap/\hi<=cap/\Sl w (sliced ao lo hi cap (Shape.size α)) ((xs.take hi).drop lo) fp'/\∀c∈fp',c∈fp:=by
 obtain⟨ao,cap,rfl,h1,h2,h3⟩:=h;have hlen:((xs.take hi).drop lo).length=hi-lo:=by simp;omega
 by_cases he:hi=lo
 ·have hnil:(xs.take hi).drop lo=[]:=eq_nil_of_length_eq_zero aA;refine⟨ao,cap,[],rfl,by omega,?_,by simp⟩;rw[hnil];exact⟨if cap=lo then ao else ao.map (·.add (lo*Shape.size α)),cap-lo,by simp[sliced,he],by simp,by omega,.inl ⟨rfl,rfl⟩⟩
 rcases h3 with⟨rfl,_⟩ | ⟨b,off,f,hne,rfl,rfl,hb,h3⟩
 ·simp at hhi;omega
 obtain⟨f1,a1,a2⟩:=SlAt.takeN hi h3;obtain⟨f2,b1,b2⟩:=SlAt.dropN lo (by simp;omega) a1;refine⟨_,cap,b::f2,rfl,by omega,⟨some ⟨b,off+lo*Shape.size α,none⟩,cap-lo,?_,by omega,by omega,.inr ⟨b,_,f2,fun h0=>by rw[h0]at hlen;simp at hlen;omega,rfl,rfl,hb,b1⟩⟩,?_⟩
 ·have:¬cap=lo:=by omega
  simp[sliced,this,Addr.add,hlen]
 intro c hc;rcases mem_cons.1 hc with rfl | hc
 ·simp
 simp[a2 c (b2 c hc)]
end
section
variable {P:Program}{n:Nat}{f:Nat->Value}{W w0:World}{rs:List Res}{Q:Exit->Act->World->Prop}{K:Value->World->Prop}
 {d:Option Tmp}{ty:TypeId}{pos:String}{af:Array Go.Edge}{g:Option (Nat×Bool)}{α:Type}[Shape α]
theorem eT {e:TypeId}{k:Nat}(h:(P.info? e).map (·.size)=some k) (W:World):(sizeOf e).run P W = .ok k W:=by
 cases hq:P.info? e with
 | none=>simp[hq]at h
 | some i=>simp[hq]at h;simp[sizeOf,typeInfo,hq,h]
theorem stp_slice_l {w:World}{t t':TypeId}{x y:Operand}{v:Value}{xs:List α}{fp:List Nat}{e:Int}{l:Nat}(hT:SlOk P t t' α) (hx:ev n f x=v) (hs:Sl w v xs fp) (hy:ev n f y=I e) (he:e=l) (hh:l<=xs.length)
  (k:∀v' fp',Sl w v' (xs.drop l) fp'->(∀c∈fp',c∈fp)->K v' W):Stp P n ⟨d,.slice t x (some y) none none,ty,pos,af,g⟩ f W Q K:=by
 subst he;obtain⟨ao,cap,fp',rfl,hcap,hs',hf⟩:=hs.part l xs.length hh (Nat.le_refl _);have hel:P.elem t=t':=by simp[Program.elem,hT.desc]
 have hu:P.underlying t=some (.slice (P.elem t)):=by rw[hel];exact hT.desc
 refine Stp.run (v:=sliced ao l xs.length cap (Shape.size α)) ?_ (k _ fp' (by simpa using hs') hf);simp only[execOp,hx,hy,Sem.run_bind,Option.map_none,Option.map_some];rw[run_sliceAt_slice (h:=hu),run_slice_l (ht:=hu) (h0:=by omega) (h1:=by omega),hel,eT hT.size];simp
def lF (α:Type) [Shape α]:Prop:=∀(w:World) cs (x:α) fp,Shape.C w cs x fp->fp=[]
theorem SlAt.plain (hp:lF α) {w:World}{b:Nat}:∀{xs:List α}{o:Nat}{fp:List Nat},SlAt w b o xs fp->fp=[]
 | [],_,_,h=>h
 | x::xs,o,fp,⟨cs,f1,f2,h1,h2,h3,h4⟩=>by rw[h4,hp _ _ _ _ h2,SlAt.plain hp h3];rfl
theorem stp_append_sl {w:World}{t e:TypeId}{bytes:Nat}{s x:Operand}{v u:Value}{xs ys:List α}{fy:List Nat}(hp:lF α) (hT:ApOk P t e α bytes) (hs:ev n f s=v) (hx:ev n f x=u) (hu:Sl w u ys fy) (hb:Below w.heap.size w W)
  (hst:St w0 W (Res.row e v xs []::rs)) (h63:xs.length+ys.length<=maxLen) (hby:(xs.length+ys.length)*bytes<=140737488355328)
  (k:∀v' W',St w0 W' (Res.row e v' (xs++ys) []::rs)->K v' W') :
  Stp P n ⟨d,.call { callee := .builtin .append,args := #[s,x],argTypes := #[t,t] },ty,pos,af,g⟩ f W Q K:=by
 have hu':=hu.below hb;obtain⟨ao,cap,rfl,h1,h2,h3⟩:=hu';cases ao with
 | none=>
  have hys:ys=[]:=by
   rcases h3 with⟨h,_⟩ | ⟨b,off,f,_,h,_⟩
   ·exact h
   cases h
  subst hys;obtain⟨⟨cells,ho,he⟩,hw⟩:=hst.get 0 rfl;obtain⟨i,z,hi,hz,g1,g2,g3⟩:=hT.info;have hw0:W.ownsRow 0 e (Shape.size α) v xs.length cells:=ho;refine Stp.run (v:=v) (W':=W) ?_ (by have:=k v W;rw[append_nil]at this;exact this hst);simp only[execOp,resolve,invoke,builtin,Sem.run_bind,Sem.run_pure,Result.andThen_ok,map_toArray,map_cons,map_nil,hs,hx];have hr:(Builtin.append_ #[t,t] ty #[v,.slice none 0 cap]).run P W = .ok v W:=by
   rcases ho.2 with⟨rfl,_⟩ | ⟨gg,cap',cur,rfl,_,hg,hn,_,_,_⟩
   ·simp[Builtin.append_,run_underlying hT.desc,sizeOf,typeInfo,hi,Builtin.lenOf,Builtin.firstCells,loadCells,loadCellsFrom]
   simp[Builtin.append_,run_underlying hT.desc,sizeOf,typeInfo,hi,Builtin.lenOf,Builtin.firstCells,loadCells,loadCellsFrom,hn,storeCells,Addr.add]
  simp only[length_nil]at hr ⊢;rw[hr];rfl
 | some ad=>
  rcases h3 with⟨hys,_⟩ | ⟨b,off,f',_,hao,_,hbl,hat⟩
  ·subst hys;refine jX hT hs hx rfl hst (news:=[]) (fy:=[]) ⟨rfl,rfl⟩ (by simp) (by simp) (by simp) (by simp) h63 hby ?_;intro v' W' h;exact k v' W' h
  injection hao with hao
  subst hao;obtain⟨cells,hel,hr⟩:=Elems.of_at off hat;have hf0:=SlAt.plain hp hat;subst hf0;refine jX hT hs hx rfl hst hel ?_ (by simp) (by simp) (by simp) h63 hby ?_
  ·intro j u hj;rw[Addr.add_mid];exact hr j u hj
  intro v' W' h;exact k v' W' h
end
theorem gK:lF Int:=fun _ _ _ _ h=>h.2.1
section
variable {α:Type}[Shape α]
theorem Elems.split {W:World}:∀{xs:List α}{cells:List Value}{fp:List Nat}(i:Nat) (hi:i<xs.length),Elems W cells xs fp->∃c1 cs c2 f1 fi f2,cells=c1++cs++c2/\fp=f1++fi++f2/\c1.length=i*Shape.size α/\Elems W c1 (xs.take i) f1/\Shape.C W cs xs[i] fi/\Elems W c2 (xs.drop (i+1)) f2
 | x::xs,cells,fp,0,_,⟨cs,rest,f1,f2,h1,h2,h3,h4⟩=>⟨[],cs,rest,[],f1,f2,by simpa using h1,by simpa using h4,by simp,⟨rfl,rfl⟩,h2,by simpa using h3⟩
 | x::xs,cells,fp,i+1,hi,⟨cs,rest,f1,f2,h1,h2,h3,h4⟩=>by
  obtain⟨c1,cs',c2,g1,gi,g2,a1,a2,a3,a4,a5,a6⟩:=Elems.split i (by simpa using hi) h3;subst h1 h4 a1 a2;refine⟨cs++c1,cs',c2,f1++g1,gi,g2,by simp,by simp,?_,⟨cs,c1,f1,g1,rfl,h2,a4,rfl⟩,a5,by simpa using a6⟩;rw[length_append,Shape.len h2,a3,Nat.add_mul];omega
theorem Elems.join {W:World}{xs:List α}{i:Nat}(hi:i<xs.length) {c1 cs c2:List Value}{f1 fi f2:List Nat}{y:α}(h1:Elems W c1 (xs.take i) f1) (h2:Shape.C W cs y fi) (h3:Elems W c2 (xs.drop (i+1)) f2):Elems W (c1++cs++c2) (xs.set i y) (f1++fi++f2):=by
 have:=(h1.append (Elems.single h2)).append h3;have e:xs.set i y=xs.take i++[y]++xs.drop (i+1):=by
  rw[set_eq_take_append_cons_drop,if_pos hi,append_assoc];rfl
 rw[e];exact this
theorem block_at {W:World}{b off:Nat}{C:Array Value}{e:TypeId}{fr:Nat×Nat}{cells:List Value}(hC:W.heap[b]? = some (.cells C e fr)) (hr:W.rangeAt b off cells):cells=[]∨C.toList=C.toList.take off++cells++C.toList.drop (off+cells.length):=by
 by_cases hn:cells=[]
 ·exact .inl hn
 refine .inr ?_;have hcell:∀j v,cells[j]? = some v->C.toList[off+j]? = some v:=by
  intro j v hj;have:=hr j v hj;simp[World.cell?,hC]at this;simpa using this
 have hlen:off+cells.length<=C.toList.length:=by
  have hp:0<cells.length:=length_pos_iff.2 hn;have:=hcell (cells.length-1) _ (getElem?_eq_getElem aA);have:=(gsi_.1 this).1;omega
 apply ext_getElem?;intro j;by_cases h1:j<off
 ·rw[append_assoc,getElem?_append_left (by rw[length_take];omega),getElem?_take,if_pos h1]
 rw[append_assoc,getElem?_append_right (by rw[length_take];omega),length_take,Nat.min_eq_left aA];by_cases h2:j-off<cells.length
 ·rw[getElem?_append_left h2];have:=hcell (j-off) _ (getElem?_eq_getElem h2);rw[show off+(j-off)=j by omega]at this;rw[this,getElem?_eq_getElem h2]
 rw[getElem?_append_right aA,getElem?_drop];congr 1;omega

def Res.rest (v:Value) (b:Nat) (pre post:List Value) (xs:List α) (i:Nat) (fr:List Nat):Res where
 fp:=fr
 holds:=fun W=>(∃off cap f1 f2 p0 c1 c2 q0,v = .slice (some ⟨b,off,none⟩) xs.length cap/\xs.length<=cap/\cap<=9223372036854775807/\i<xs.length/\pre=p0++c1/\p0.length=off/\post=c2++q0/\Elems W c1 (xs.take i) f1/\Elems W c2 (xs.drop (i+1)) f2/\fr=f1++f2)/\∀c∈fr,Wr W c
 loc:=by
  rintro W W' hs hb ⟨⟨off,cap,f1,f2,p0,c1,c2,q0,h1,h2,h3,h4,h5,h6,h7,h8,h9,rfl⟩,hw⟩;exact⟨⟨off,cap,f1,f2,p0,c1,c2,q0,h1,h2,h3,h4,h5,h6,h7,h8.loc hs (fun b hm=>hb b (mem_append_left _ hm)),h9.loc hs (fun b hm=>hb b (mem_append_right _ hm)),rfl⟩,fun c hc=>(hw c hc).loc (hb c hc)⟩
 wr:=fun h=>h.2

theorem St.lend (hp:0<Shape.size α) {w0 W:World}{rs:List Res}{v:Value}{xs:List α}{fp:List Nat}(h:St w0 W (Res.own v xs fp::rs)) {i:Nat}(hi:i<xs.length):∃b e pre cs post fi fr,PA v (Shape.size α) i b pre.length/\Shape.C W cs xs[i] fi /\
  St w0 W (Res.bx b (pre++cs++post) e::Res.cs cs xs[i] fi::Res.rest v b pre post xs i fr::rs):=by
 have hown:=h.get 0 rfl;have hsl:=gQ hown;have hwr:=hown.2;obtain⟨ao,cap,rfl,h1,h2,h3⟩:=hsl;rcases h3 with⟨rfl,_⟩ | ⟨b,off,f,hne,rfl,rfl,hb,h3⟩
 ·simp at hi
 obtain⟨cells,he,hr⟩:=Elems.of_at off h3;have hcl:=he.len;have hxl:0<xs.length:=by omega
 have hcpos:0<cells.length:=by rw[hcl];exact Nat.mul_pos hxl hp
 obtain⟨c1,cs,c2,f1,fi,f2,e1,e2,e3,e4,e5,e6⟩:=he.split i hi;obtain⟨C,e,hC⟩:=hwr b (by simp);have hnd:=h.nodup;rw[flatMap_cons,nodup_append]at hnd;have hnd1:(b::f).Nodup:=hnd.1;have hperm:(fi++(f1++f2)).Perm f:=by
  rw[e2,<- append_assoc];exact(perm_append_comm).append_right _
 have h0:C.toList=C.toList.take off++cells++C.toList.drop (off+cells.length):=by
  rcases block_at hC hr with h0 | h0
  ·rw[h0]at hcpos;simp at hcpos
  exact h0
 have hp0:(C.toList.take off).length=off:=by
  have hl:=congrArg List.length h0;simp only[length_append,length_take,length_drop]at hl;rw[length_take];omega
 generalize C.toList.take off=p0 at h0 hp0;generalize C.toList.drop (off+cells.length)=q0 at h0;have hC3:W.heap[b]? = some (.cells ((p0++c1)++cs++(c2++q0)).toArray e (0,0)):=by
  rw[hC];congr 2;apply Array.ext';rw[h0,e1];simp
 have hlen:(p0++c1).length=off+i*Shape.size α:=by rw[length_append,hp0,e3]
 refine⟨b,e,p0++c1,cs,c2++q0,fi,f1++f2,⟨off,xs.length,cap,rfl,hi,hlen⟩,e5,?_⟩;refine St.trade (rs1:=[Res.own (.slice (some ⟨b,off,none⟩) xs.length cap) xs (b::f)]) (rs2:=[Res.bx b _ e,Res.cs cs xs[i] fi,Res.rest _ b _ _ xs i (f1++f2)]) h ?_ ?_ ?_
 ·show (b::(fi++((f1++f2)++[]))).Nodup;rw[append_nil];exact((hperm.cons b).nodup_iff).2 hnd1
 ·intro c hc;have hc:c∈b::(fi++((f1++f2)++[])):=hc;rw[append_nil]at hc;have:=(hperm.cons b).mem_iff.1 hc;simpa [Res.own] using this
 intro r hr';simp only[mem_cons,not_mem_nil,or_false]at hr';have hmem:∀c,c∈fi++(f1++f2)->Wr W c:=fun c hc=>hwr c (mem_cons_of_mem _ (hperm.mem_iff.1 hc))
 rcases hr' with rfl | rfl | rfl
 ·exact hC3
 ·exact⟨e5,fun c hc=>hmem c (mem_append_left _ hc)⟩
 exact⟨⟨off,cap,f1,f2,p0,c1,c2,q0,rfl,h1,h2,hi,rfl,hp0,rfl,e4,e6,rfl⟩,fun c hc=>hmem c (mem_append_right _ hc)⟩
theorem St.give {w0 W:World}{rs:List Res}{v:Value}{xs:List α}{b i:Nat}{e:TypeId}{pre cs post:List Value}{y:α}{fi fr:List Nat}
  (h:St w0 W (Res.bx b (pre++cs++post) e::Res.cs cs y fi::Res.rest v b pre post xs i fr::rs)):∃fp,St w0 W (Res.own v (xs.set i y) fp::rs):=by
 have hb:W.heap[b]? = some (.cells (pre++cs++post).toArray e (0,0)):=h.get 0 rfl;obtain⟨hc,hcw⟩:=h.get 1 rfl;obtain⟨⟨off,cap,f1,f2,p0,c1,c2,q0,rfl,h2,h3,hi,rfl,rfl,rfl,h8,h9,rfl⟩,hw⟩:=h.get 2 rfl;have hnd:=h.nodup;have hfp:((Res.bx b (p0++c1++cs++(c2++q0)) e::Res.cs cs y fi::Res.rest (.slice (some ⟨b,p0.length,none⟩) xs.length cap) b (p0++c1) (c2++q0) xs i (f1++f2)::rs).flatMap Res.fp)=(b::(fi++(f1++f2)))++rs.flatMap Res.fp:=by
  simp[flatMap_cons,Res.bx,Res.cs,Res.rest]
 rw[hfp,nodup_append]at hnd;have hperm:(f1++fi++f2).Perm (fi++(f1++f2)):=by
  rw[<- append_assoc];exact(perm_append_comm).append_right _
 refine⟨b::(f1++fi++f2),St.trade (rs1:=[Res.bx b (p0++c1++cs++(c2++q0)) e,Res.cs cs y fi,Res.rest (.slice (some ⟨b,p0.length,none⟩) xs.length cap) b (p0++c1) (c2++q0) xs i (f1++f2)]) (rs2:=[Res.own _ _ _]) h ?_ ?_ ?_⟩
 ·show (b::(f1++fi++f2)++[]).Nodup;rw[append_nil];exact((hperm.cons b).nodup_iff).2 hnd.1
 ·intro c hc';have hc':c∈b::(f1++fi++f2)++[]:=hc';rw[append_nil]at hc';have:=(hperm.cons b).mem_iff.1 hc';simp only[flatMap_cons,flatMap_nil,append_nil,Res.bx,Res.cs,Res.rest];simpa using this
 intro r hr;rw[mem_singleton]at hr;subst hr;have hbl:b<W.heap.size:=(Array.getElem?_eq_some_iff.1 hb).1;refine⟨Sl.v ⟨some ⟨b,p0.length,none⟩,cap,by rw[length_set],by rw[length_set];exact h2,h3,.inr ⟨b,p0.length,f1++fi++f2,?_,rfl,rfl,hbl,?_⟩⟩,?_⟩
 ·intro h0;have:=congrArg List.length h0;rw[length_set]at this;simp at this;rw[this]at hi;simp at hi
 ·refine(Elems.join hi h8 hc h9).at p0.length ?_;intro j u hj;have hr:=bE hb (p0.length+j) u;rw[Nat.zero_add]at hr;refine hr ?_;have:(p0++c1++cs++(c2++q0))=p0++((c1++cs++c2)++q0):=by simp
  rw[this,getElem?_append_right aA,Nat.add_sub_cancel_left,getElem?_append_left ((gsi_.1 hj).1)];exact hj
 intro c hc';rcases mem_cons.1 hc' with rfl | hc'
 ·exact⟨_,_,hb⟩
 rcases mem_append.1 hc' with hc' | hc'
 ·rcases mem_append.1 hc' with hc' | hc'
  ·exact hw c (mem_append_left _ hc')
  exact hcw c hc'
 exact hw c (mem_append_right _ hc')
theorem St.lendx (hp:0<Shape.size α) {w0 W:World}{rs:List Res}{v:Value}{xs:List α}{fp:List Nat}(h:St w0 W (Res.own v xs fp::rs)) {i:Nat}{x:α}(hi:xs[i]? = some x):∃b e pre cs post fi fr,PA v (Shape.size α) i b pre.length/\Shape.C W cs x fi /\
  St w0 W (Res.bx b (pre++cs++post) e::Res.cs cs x fi::Res.rest v b pre post xs i fr::rs):=by
 obtain⟨hl,rfl⟩:=gsi_.1 hi;exact h.lend hp hl
end
theorem sR:∀(C:List Value) (o:Nat),aK C o []=C
 | [],0=>rfl
 | [],_+1=>rfl
 | c::C,0=>rfl
 | c::C,o+1=>by show c::aK C o []=c::C;rw[sR C o]
theorem pL:∀(cs post vs:List Value) (j:Nat),j+vs.length<=cs.length->aK (cs++post) j vs=aK cs j vs++post
 | cs,post,[],j,h=>by rw[sR,sR]
 | [],post,v::vs,j,h=>by simp at h
 | c::cs,post,v::vs,0,h=>by
  show v::aK (cs++post) 0 vs=v::(aK cs 0 vs++post);rw[pL cs post vs 0 (by simpa using h)]
 | c::cs,post,v::vs,j+1,h=>by
  show c::aK (cs++post) j (v::vs)=c::(aK cs j (v::vs)++post);rw[pL cs post (v::vs) j (by simp at h ⊢;omega)]
theorem iC:∀(pre cs post vs:List Value) (j:Nat),j+vs.length<=cs.length->aK (pre++cs++post) (pre.length+j) vs=pre++aK cs j vs++post
 | [],cs,post,vs,j,h=>by
  simp only[nil_append,length_nil,Nat.zero_add];exact pL cs post vs j h
 | p::pre,cs,post,vs,j,h=>by
  have e:(p::pre).length+j=(pre.length+j)+1:=by simp;omega
  rw[e];show p::aK (pre++cs++post) (pre.length+j) vs=p::(pre++aK cs j vs++post);rw[iC pre cs post vs j h]
theorem dX:∀(C vs:List Value) (o:Nat),(aK C o vs).length=C.length
 | [],vs,o=>by cases o<;>cases vs<;>rfl
 | c::C,[],0=>rfl
 | c::C,v::vs,0=>by show (aK C 0 vs).length+1=_;rw[dX C vs 0];rfl
 | c::C,vs,o+1=>by show (aK C o vs).length+1=_;rw[dX C vs o];rfl
section
variable {P:Program}{n:Nat}{f:Nat->Value}{W w0:World}{rs:List Res}{Q:Exit->Act->World->Prop}{K:Value->World->Prop}
 {d:Option Tmp}{ty:TypeId}{pos:String}{af:Array Go.Edge}{g:Option (Nat×Bool)}
theorem stp_store_bps {t t':TypeId}{x y:Operand}{b o i:Nat}{pre cs C C' post:List Value}(hi:(P.info? t).map (·.size)=some cs.length) (hx:ev n f x = .pointer (some ⟨b,o,none⟩)) (hy:ev n f y = .agg cs.toArray) (h1:∀v∈cs,v.oneCell'=true)
  (hst:St w0 W (Res.bx b (pre++C++post) t'::rs)) (ho:o=pre.length+i) (hle:i+cs.length<=C.length) (hC:aK C i cs=C') (k:∀W',St w0 W' (Res.bx b (pre++C'++post) t'::rs)->K undef W') :
  Stp P n ⟨d,.store t x y,ty,pos,af,g⟩ f W Q K:=
 rX hi hx hy h1 hst (by subst ho;simp;omega) (by subst ho;rw[iC _ _ _ _ _ hle,hC]) k
theorem tX {t t':TypeId}{x y:Operand}{b o i:Nat}{v:Value}{pre C C' post:List Value}(hi:(P.info? t).map (·.size)=some 1) (hx:ev n f x = .pointer (some ⟨b,o,none⟩)) (hy:ev n f y=v) (h1:v.cells = #[v]) (h2:v.oneCell'=true)
  (hst:St w0 W (Res.bx b (pre++C++post) t'::rs)) (ho:o=pre.length+i) (hle:i+1<=C.length) (hC:aK C i [v]=C') (k:∀W',St w0 W' (Res.bx b (pre++C'++post) t'::rs)->K undef W') :
  Stp P n ⟨d,.store t x y,ty,pos,af,g⟩ f W Q K:=
 rW hi hx hy h1 h2 hst (by subst ho;simp;omega) (by subst ho;rw[iC _ _ _ _ _ (by simpa using hle),hC]) k
end
section
variable {P:Program}{n:Nat}{w0:World}{rs:List Res}{Q:Exit->Act->World->Prop}
def wix:List Nat->Nat->Nat->Option Nat
 | [],_,_=>none
 | w::ws,i,q=>cond (Nat.beq i w) (some q) (wix ws i (q+1))
def wsOk (l:List Oper) (ws:List Nat):Bool:=
 (List.range ws.length).all (fun q=>Nat.blt (ws.getD q 0) l.length && (List.range q).all (fun p=>dep l (ws.getD q 0) (ws.getD p 0) && !Nat.beq (ws.getD q 0) (ws.getD p 0)))
structure WsOk (l:List Oper) (ws:List Nat):Prop where
 lt:∀q i:Nat,ws[q]? = some i->i<l.length
 dep:∀q p i j:Nat,ws[q]? = some i->ws[p]? = some j->p<q->Go.Proofs.YtpdgdnpajmcaeaaGreat.dep l i j=true
 ne:∀q p i:Nat,ws[q]? = some i->ws[p]? = some i->p=q
theorem WsOk.of {l:List Oper}{ws:List Nat}(h:wsOk l ws=true):WsOk l ws:=by
 unfold wsOk at h;rw[all_eq_true]at h;have key:∀q i:Nat,ws[q]? = some i->Nat.blt i l.length=true/\∀p j:Nat,p<q->ws[p]? = some j->Go.Proofs.YtpdgdnpajmcaeaaGreat.dep l i j=true/\Nat.beq i j=false:=by
  intro q i hq;have hl:=(gsi_.1 hq).1;have h1:=h q (by simpa using hl);have e:ws.getD q 0=i:=by rw[getD_eq_getElem?_getD,hq];rfl
  rw[e,Bool.and_eq_true,all_eq_true]at h1;refine⟨h1.1,fun p j hp hj=>?_⟩;have h2:=h1.2 p (by simpa using hp);have e2:ws.getD p 0=j:=by rw[getD_eq_getElem?_getD,hj];rfl
  rw[e2,Bool.and_eq_true]at h2;exact⟨h2.1,by simpa using h2.2⟩
 refine⟨fun q i hq=>mF (key q i hq).1,fun q p i j hq hp hlt=>((key q i hq).2 p j hlt hp).1,?_⟩;intro q p i hq hp;rcases Nat.lt_trichotomy p q with hlt | he | hgt
 ·have:=((key q i hq).2 p i hlt hp).2;rw[eG]at this;cases this
 ·exact he
 have:=((key p i hp).2 q i hgt hq).2;rw[eG]at this;cases this
structure InvW (w0:World) (rs:List Res) (ws:List Nat) (R:Nat->Res) (l:List Oper) (m:Nat) (F:List Pl) (f0:Nat->Value) (L:Array Bool) (f:Nat->Value) (W:World):Prop where
 size:L.size=l.length+m
 tail:∀i,l.length<=i->i<L.size->L[i]? = some false
 ex:∃c,c<=ws.length/\(∀q i:Nat,ws[q]? = some i->(L[i]? = some true↔q<c))/\St w0 W (R c::rs)
 vals:∀i d,i<l.length->L[i]? = some true->aW l i=some d->(F.getD i Pl.off).p (f d) W
 keep:∀t,(∀i,i<l.length->L[i]? = some true->aW l i≠some t)->f t=f0 t
 down:∀i j,i<l.length->L[i]? = some true->dep l i j=true->L[j]? = some true
end
theorem St.row_lit {α:Type}[Shape α] {w0 W:World}{rs:List Res}{b m:Nat}{cells:List Value}{e:TypeId}{ys:List α}(h:St w0 W (Res.bx b cells e::rs)) (hl:ys.length=m) (hm:m<=maxLen) (hn:Elems W cells ys []) :
  St w0 W (Res.row e (.slice (some ⟨b,0,none⟩) m m) ys []::rs):=by
 subst hl;have hb:W.heap[b]? = some (.cells cells.toArray e (0,0)):=h.get 0 rfl;have hlen:=hn.len;refine h.turn rfl rfl rfl (Nat.le_refl _) (fun _ _ _=>rfl) ⟨⟨cells,⟨by rw[hlen],.inr ⟨b,ys.length,cells.toArray,rfl,Nat.zero_le _,hb,Nat.le_refl _,hm,by simp[hlen],by rw[<- hlen];simp⟩⟩,hn⟩,by simp⟩ (by simp[Res.row,Value.ownBlock]) (fun c hc=>.inl (by simpa [Res.row,Res.bx,Value.ownBlock] using hc))

theorem Elems.i0 {W:World}:Elems W [] ([]:List Int) []:=⟨rfl,rfl⟩
def SEq (P:Program) (t:TypeId) (cs ds:List Value) (b:Bool):Prop:=∀W,(Op.equalIn 10000 t (.agg cs.toArray) (.agg ds.toArray)).run P W = .ok b W
section
variable {P:Program}{n:Nat}{f:Nat->Value}{W:World}{Q:Exit->Act->World->Prop}{K:Value->World->Prop}{d:Option Tmp}{ty:TypeId}{pos:String}{af:Array Go.Edge}{g:Option (Nat×Bool)}{x y:Operand}{t t':TypeId}
theorem stp_aeql {cs ds:List Value}{b:Bool}(hs:SEq P t cs ds b) (hg:P.eqGuardType P.depth t=false) (hx:ev n f x = .agg cs.toArray) (hy:ev n f y = .agg ds.toArray) (k:K (.bool b) W):Stp P n ⟨d,.binOp .eql t x y t',ty,pos,af,g⟩ f W Q K:=
 Stp.run (v := .bool b) (by simp only[execOp,hx,hy,Sem.run_bind,run_eqGuard_agg (hm:=hg),Result.andThen_ok,run_eql_struct,hs W];rfl) k
theorem stp_aneq {cs ds:List Value}{b:Bool}(hs:SEq P t cs ds b) (hg:P.eqGuardType P.depth t=false) (hx:ev n f x = .agg cs.toArray) (hy:ev n f y = .agg ds.toArray) (k:K (.bool (!b)) W):Stp P n ⟨d,.binOp .neq t x y t',ty,pos,af,g⟩ f W Q K:=
 Stp.run (v := .bool (!b)) (by simp only[execOp,hx,hy,Sem.run_bind,run_eqGuard_agg (hm:=hg),Result.andThen_ok,run_neq_struct,hs W];rfl) k
end
set_option maxHeartbeats 1000000 in
theorem uD (x y:Edge):SEq prog 148 x.cells y.cells (eqB x y):=by
 intro W;rw[run_equalIn_agg (d:=9999) (ht:=underlying148) (hp:=by kernel_rfl)];cases x;cases y;simp[Op.eqFields,Program.fieldsOf,underlying148,go_sem,part,Edge.cells,eqB]
 (repeat' split)<;>simp_all
set_option maxHeartbeats 1000000 in
theorem se_Task (x y:Task):SEq prog 141 x.cells y.cells (eqB x y):=by
 intro W;rw[run_equalIn_agg (d:=9999) (ht:=underlying141) (hp:=by kernel_rfl)];cases x;cases y;simp[Op.eqFields,Program.fieldsOf,underlying141,go_sem,part,Task.cells,eqB]
 (repeat' split)<;>simp_all
set_option maxHeartbeats 1000000 in
theorem se_Entry (x y:Entry):SEq prog 121 x.cells y.cells (eqB x y):=by
 intro W;rw[run_equalIn_agg (d:=9999) (ht:=underlying121) (hp:=by kernel_rfl)];cases x;cases y;simp[Op.eqFields,Program.fieldsOf,underlying121,go_sem,part,Entry.cells,eqB]
 (repeat' split)<;>simp_all
theorem aA4 (a b:ByteArray):(a.toList == b.toList)=decide (a=b):=by
 by_cases h:a=b
 ·subst h;simp
 have:¬a.toList=b.toList:=fun e=>h (by
  rw[ByteArray.toList_eq,ByteArray.toList_eq]at e;obtain⟨⟨x⟩⟩:=a;obtain⟨⟨y⟩⟩:=b;simp at e;subst e;rfl)
 simp[h,this]
section
variable {P:Program}{n:Nat}{f:Nat->Value}{W:World}{Q:Exit->Act->World->Prop}{K:Value->World->Prop}{d:Option Tmp}{ty:TypeId}{pos:String}{af:Array Go.Edge}{g:Option (Nat×Bool)}{x y:Operand}{t t':TypeId}{a b:ByteArray}
theorem stp_slen (hu:P.underlying t=some .string) (hx:ev n f x = .string a) (k:K (I (a.size:Int)) W):Stp P n ⟨d,.call { callee := .builtin .len,args := #[x],argTypes := #[t] },ty,pos,af,g⟩ f W Q K:=
 Stp.run (v:=I (a.size:Int)) (by simp[execOp,hx,resolve,invoke,builtin,Sem.run_bind,run_len_string (h:=hu),goInt]) k
theorem stp_seql (hx:ev n f x = .string a) (hy:ev n f y = .string b) (k:K (.bool (decide (a=b))) W):Stp P n ⟨d,.binOp .eql t x y t',ty,pos,af,g⟩ f W Q K:=
 Stp.run (v := .bool (decide (a=b))) (by simp[execOp,hx,hy,go_sem,aA4]) k
theorem stp_sneq (hx:ev n f x = .string a) (hy:ev n f y = .string b) (k:K (.bool (!decide (a=b))) W):Stp P n ⟨d,.binOp .neq t x y t',ty,pos,af,g⟩ f W Q K:=
 Stp.run (v := .bool (!decide (a=b))) (by simp[execOp,hx,hy,go_sem,aA4]) k
theorem stp_sadd (hx:ev n f x = .string a) (hy:ev n f y = .string b) (h:a.size+b.size<=9223372036854775807) (k:K (.string (a++b)) W):Stp P n ⟨d,.binOp .add t x y t',ty,pos,af,g⟩ f W Q K:=
 Stp.run (v := .string (a++b)) (by
  have h':¬((a.size:Int)+(b.size:Int)>IntKind.i64.max):=by simp[IntKind.max,IntKind.bits,IntKind.signed];omega
  simp[execOp,hx,hy,go_sem,Op.stringOp];omega) k
end
end Go.Proofs.YtpdgdnpajmcaeaaGreat
namespace Go.Proofs.YtpdgdnpajmcaeaaGreat
set_option maxHeartbeats 2000000
open Go.RowKit Go.Proofs.Tryz List Go.Lib
instance:Shape UInt8:=Shape.flat 1 (fun b=>[.int .u8 (b.toNat:Int)]) (fun _=>True) (fun _=>rfl) (fun _ v hv=>by simp at hv;subst hv;rfl)
instance:Agg UInt8:=⟨false⟩
section
variable {P:Program}{n:Nat}{f:Nat->Value}{W w:World}{Q:Exit->Act->World->Prop}{K:Value->World->Prop}{d:Option Tmp}{ty:TypeId}{pos:String}{af:Array Go.Edge}{g:Option (Nat×Bool)}{x y:Operand}{t e t':TypeId}
theorem aF7 (hd:P.underlying t=some (.int .u8)):P.intKind t = .u8:=by simp[Program.intKind,hd]
theorem conv_none (hs:P.underlying t=some (.slice e)) (he:P.underlying e=some (.int .u8)) (hd:P.underlying t'=some .string) (p:Option Addr) (c:Nat) (W:World):(convert t t' (.slice p 0 c)).run P W = .ok (.string ⟨#[]⟩) W:=by
 rw[run_convert_bytes_string W t t' e _ 0 c hs he hd];cases p
 ·simp[Conv.bytesToString,loadCells];rfl
 simp[Conv.bytesToString,loadCells];rfl
theorem bytes_of {v:Value}{bs:List UInt8}{fp:List Nat}(h:Sl W v bs fp) (hne:bs≠[]):∃b o cap,v = .slice (some ⟨b,o,none⟩) bs.length cap/\Bytes W b o ⟨bs.toArray⟩:=by
 obtain⟨ao,cap,rfl,h1,h2,h3⟩:=h.openk 1 rfl;obtain⟨b,o,rfl,hb,hm,he⟩:=h3 (length_pos_iff.2 hne);refine⟨b,o,cap,rfl,?_⟩;intro i hi;have hi':i<bs.length:=by simpa [ByteArray.size] using hi
 obtain⟨cs,f1,hr,⟨hc,_,_⟩,_⟩:=he i hi';subst hc;have:=hr 0 _ rfl;rw[Nat.mul_one,Nat.add_zero]at this;rw[this];rfl
theorem aL2 {bs:List UInt8}{v:Value}{fp:List Nat}(hs:P.underlying t=some (.slice e)) (he:P.underlying e=some (.int .u8)) (hd:P.underlying t'=some .string) (hx:ev n f x=v) (h:Sl w v bs fp) (hb:Below w.heap.size w W) (k:K (.string ⟨bs.toArray⟩) W):Stp P n ⟨d,.convert t t' x,ty,pos,af,g⟩ f W Q K:=by
 have h':=h.below hb;by_cases hne:bs=[]
 ·subst hne;obtain⟨ao,cap,rfl,_⟩:=h';refine Stp.run (v := .string ⟨#[]⟩) ?_ k;have:=conv_none (P:=P) hs he hd ao cap W;simp only[execOp,hx,Sem.run_bind,length_nil,this,Result.andThen_ok];rfl
 obtain⟨b,o,cap,rfl,hB⟩:=bytes_of h' hne;refine Stp.run (v := .string ⟨bs.toArray⟩) ?_ k;have hsz:(⟨bs.toArray⟩:ByteArray).size=bs.length:=by simp[ByteArray.size]
 have:=run_convert_whole (P:=P) W t e t' hs he hd b o ⟨bs.toArray⟩ hB cap;rw[hsz]at this;simp only[execOp,hx,Sem.run_bind,this,Result.andThen_ok];rfl
theorem aN8 {a b:Int}(h1:0<=a) (hb:a<=b) (h2:b<=9223372036854775807):IntKind.i64.wrap a=a:=gS ⟨by omega,by omega⟩
theorem bL4 {ty2:TypeId}{a b:Int}(hx:ev n f x=I a) (hy:ev n f y=I b) (h13:0<=a/\a<=9223372036854775807) (h2:0<b) (k:K (I (a % b)) W):Stp P n ⟨d,.binOp .rem t x y ty2,ty,pos,af,g⟩ f W Q K:=
 Stp.run (v:=I (a % b)) (by
  obtain⟨h1,h3⟩:=h13;have e1:a.tmod b=a % b:=Int.tmod_eq_emod_of_nonneg h1;have e2:0<=a % b:=Int.emod_nonneg a aA;have e3:a % b<=a:=by
   rcases Int.lt_or_le a b with h | h
   ·rw[Int.emod_eq_of_lt h1 h];omega
   have:=Int.emod_lt_of_pos a h2;omega
  have e4:IntKind.i64.wrap (a % b)=a % b:=aN8 e2 e3 h3;have hb:¬b=0:=by omega
  simp[execOp,hx,hy,go_sem,Op.intArith,hb,e1,e4]) k
theorem bL5 {ty2:TypeId}{a b:Int}(hx:ev n f x=I a) (hy:ev n f y=I b) (h13:0<=a/\a<=9223372036854775807) (h2:0<b) (k:K (I (a / b)) W):Stp P n ⟨d,.binOp .quo t x y ty2,ty,pos,af,g⟩ f W Q K:=
 Stp.run (v:=I (a / b)) (by
  obtain⟨h1,h3⟩:=h13;have e1:a.tdiv b=a / b:=Int.tdiv_eq_ediv_of_nonneg h1;have e2:0<=a / b:=Int.ediv_nonneg h1 aA;have e3:a / b<=a:=Int.ediv_le_self _ h1;have e4:IntKind.i64.wrap (a / b)=a / b:=aN8 e2 e3 h3;have hb:¬b=0:=by omega
  simp[execOp,hx,hy,go_sem,Op.intArith,hb,e1,e4]) k
end
end Go.Proofs.YtpdgdnpajmcaeaaGreat
namespace Go.Proofs.YtpdgdnpajmcaeaaGreat
set_option maxHeartbeats 2000000
open Go.RowKit Go.Proofs.Tryz List Go.Lib
section
variable {P:Program}{n:Nat}{f:Nat->Value}{W:World}{Q:Exit->Act->World->Prop}{K:Value->World->Prop}{d:Option Tmp}{ty:TypeId}{pos:String}{af:Array Go.Edge}{g:Option (Nat×Bool)}{x y:Operand}{t t':TypeId}
theorem iM (a:Nat) (h:a<2 ^ 32):(BitVec.ofInt 64 (a:Int)).toNat=a:=by
 simp[BitVec.toNat_ofInt];omega
theorem stp_or {a b:Nat}(hx:ev n f x=I (a:Int)) (hy:ev n f y=I (b:Int)) (ha:a<2 ^ 32) (hb:b<2 ^ 32) (k:K (I ((a ||| b:Nat):Int)) W):Stp P n ⟨d,.binOp .or t x y t',ty,pos,af,g⟩ f W Q K:=
 Stp.run (v:=I ((a ||| b:Nat):Int)) (by
  have h:=Nat.or_lt_two_pow ha hb;have hw:IntKind.i64.wrap ((BitVec.ofInt 64 (a:Int) ||| BitVec.ofInt 64 (b:Int)).toNat:Int)=((a ||| b:Nat):Int):=by
   rw[BitVec.toNat_or,iM a ha,iM b hb];exact gS ⟨by omega,by omega⟩
  simp[execOp,hx,hy,go_sem];exact hw) k
theorem stp_and {a b:Nat}(hx:ev n f x=I (a:Int)) (hy:ev n f y=I (b:Int)) (ha:a<2 ^ 32) (hb:b<2 ^ 32) (k:K (I ((a &&& b:Nat):Int)) W):Stp P n ⟨d,.binOp .and t x y t',ty,pos,af,g⟩ f W Q K:=
 Stp.run (v:=I ((a &&& b:Nat):Int)) (by
  have h:a &&& b<2 ^ 32:=Nat.and_lt_two_pow _ hb;have hw:IntKind.i64.wrap ((BitVec.ofInt 64 (a:Int) &&& BitVec.ofInt 64 (b:Int)).toNat:Int)=((a &&& b:Nat):Int):=by
   rw[BitVec.toNat_and,iM a ha,iM b hb];exact gS ⟨by omega,by omega⟩
  simp[execOp,hx,hy,go_sem];exact hw) k
end
end Go.Proofs.YtpdgdnpajmcaeaaGreat
namespace Go.Proofs.YtpdgdnpajmcaeaaGreat
set_option maxHeartbeats 2000000
open Go.RowKit Go.Proofs.Tryz List Go.Lib
section
variable {P:Program}{n:Nat}{f:Nat->Value}{W:World}{Q:Exit->Act->World->Prop}{K:Value->World->Prop}{d:Option Tmp}{ty:TypeId}{pos:String}{af:Array Go.Edge}{g:Option (Nat×Bool)}{x y:Operand}{t t':TypeId}
theorem pow_fin:∀s:Fin 60,IntKind.i64.wrap (1*2 ^ min s.val 64)=((1 <<< s.val:Nat):Int):=by decide +kernel
theorem stp_shl1 {s:Nat}(hx:ev n f x=I 1) (hy:ev n f y=I (s:Int)) (hs:s<60) (k:K (I ((1 <<< s:Nat):Int)) W):Stp P n ⟨d,.binOp .shl t x y t',ty,pos,af,g⟩ f W Q K:=
 Stp.run (v:=I ((1 <<< s:Nat):Int)) (by
  have h:=pow_fin ⟨s,hs⟩;have hn:¬((s:Int)<0):=by omega
  simp only[execOp,hx,hy,Sem.run_bind,binOp,Op.shift,hn,if_false,Int.toNat_natCast,Sem.run_pure,Result.andThen_ok];simp only[show IntKind.i64.bits=64 from rfl,h];rfl) k
theorem stp_shr {a s:Nat}(hx:ev n f x=I (a:Int)) (hy:ev n f y=I (s:Int)) (hs:s<60) (k:K (I ((a >>> s:Nat):Int)) W):Stp P n ⟨d,.binOp .shr t x y t',ty,pos,af,g⟩ f W Q K:=
 Stp.run (v:=I ((a >>> s:Nat):Int)) (by
  have hn:¬((s:Int)<0):=by omega
  have hm:min s 64=s:=by omega
  have h:Int.fdiv (a:Int) (2 ^ s)=((a >>> s:Nat):Int):=by
   rw[Nat.shiftRight_eq_div_pow,Int.fdiv_eq_ediv_of_nonneg _ (by exact Int.le_of_lt (Int.pow_pos aA))]
   push_cast;rfl
  simp only[execOp,hx,hy,Sem.run_bind,binOp,Op.shift,hn,if_false,Int.toNat_natCast,Sem.run_pure,Result.andThen_ok];simp only[show IntKind.i64.bits=64 from rfl,hm,h];rfl) k
end
end Go.Proofs.YtpdgdnpajmcaeaaGreat
namespace Go.Proofs.YtpdgdnpajmcaeaaGreat
set_option maxHeartbeats 2000000
open Go.RowKit Go.Proofs.Tryz List Go.Lib
def orI (a b:Int):Int:=((a.toNat ||| b.toNat:Nat):Int)
def bJ1 (a b:Int):Int:=((a.toNat &&& b.toNat:Nat):Int)
def aS5 (s:Int):Int:=((1 <<< s.toNat:Nat):Int)
def aB5 (a s:Int):Int:=((a.toNat >>> s.toNat:Nat):Int)
section
variable {P:Program}{n:Nat}{f:Nat->Value}{W:World}{Q:Exit->Act->World->Prop}{K:Value->World->Prop}{d:Option Tmp}{ty:TypeId}{pos:String}{af:Array Go.Edge}{g:Option (Nat×Bool)}{x y:Operand}{t t':TypeId}
theorem uZ {x:Operand}{a:Int}(h:ev n f x=I a) (h0:0<=a):ev n f x=I ((a.toNat:Nat):Int):=by rw[Int.toNat_of_nonneg h0];exact h
theorem bL6 {a b:Int}(hx:ev n f x=I a) (hy:ev n f y=I b) (ha:0<=a/\a<4294967296) (hb:0<=b/\b<4294967296) (k:K (I (orI a b)) W):Stp P n ⟨d,.binOp .or t x y t',ty,pos,af,g⟩ f W Q K:=
 stp_or (uZ hx ha.1) (uZ hy hb.1) aA aA k
theorem stp_andI {a b:Int}(hx:ev n f x=I a) (hy:ev n f y=I b) (ha:0<=a/\a<4294967296) (hb:0<=b/\b<4294967296) (k:K (I (bJ1 a b)) W):Stp P n ⟨d,.binOp .and t x y t',ty,pos,af,g⟩ f W Q K:=
 stp_and (uZ hx ha.1) (uZ hy hb.1) aA aA k
theorem stp_shlI {s:Int}(hx:ev n f x=I 1) (hy:ev n f y=I s) (hs:0<=s/\s<60) (k:K (I (aS5 s)) W):Stp P n ⟨d,.binOp .shl t x y t',ty,pos,af,g⟩ f W Q K:=
 stp_shl1 hx (uZ hy hs.1) aA k
theorem stp_shrI {a s:Int}(hx:ev n f x=I a) (hy:ev n f y=I s) (ha:0<=a) (hs:0<=s/\s<60) (k:K (I (aB5 a s)) W):Stp P n ⟨d,.binOp .shr t x y t',ty,pos,af,g⟩ f W Q K:=
 stp_shr (uZ hx ha) (uZ hy hs.1) aA k
end
theorem aT2 {a b:Int}(ha:0<=a/\a<4294967296) (hb:0<=b/\b<4294967296):0<=orI a b/\orI a b<4294967296:=by
 have h:=Nat.or_lt_two_pow (n:=32) (x:=a.toNat) (y:=b.toNat) aA aA;unfold orI;generalize a.toNat ||| b.toNat=m at h ⊢
 omega
theorem aB6 {s:Int}(hs:0<=s/\s<32):0<=aS5 s/\aS5 s<4294967296:=by
 have h:1 <<< s.toNat<2 ^ 32:=by
  rw[Nat.one_shiftLeft];exact Nat.pow_lt_pow_right aA aA
 unfold aS5;generalize 1 <<< s.toNat=m at h ⊢;omega
theorem shrI_rng {a s:Int}(ha:0<=a/\a<4294967296):0<=aB5 a s/\aB5 a s<4294967296:=by
 have h:=Nat.shiftRight_le a.toNat s.toNat;unfold aB5;generalize a.toNat >>> s.toNat=m at h ⊢;omega
theorem andI_one (a s:Int):bJ1 (aB5 a s) 1=if a.toNat.testBit s.toNat then 1 else 0:=by
 unfold bJ1 aB5;simp only[Int.toNat_natCast,Int.toNat_one];rw[Nat.testBit,Nat.and_comm 1,];have h:=Nat.and_one_is_mod (a.toNat >>> s.toNat);rw[h];have:a.toNat >>> s.toNat % 2=0∨a.toNat >>> s.toNat % 2=1:=by omega
 rcases this with h | h<;>simp[h]
def dL (ms:List Nat):List Int:=ms.map (fun m:Nat=>(m:Int))
theorem aP6 (ms:List Nat):(dL ms).length=ms.length:=by simp[dL]
theorem lP {ms:List Nat}(hB:∀m∈ms,m<4294967296) (i:Nat) (h:i<(dL ms).length):0<=(dL ms)[i]/\(dL ms)[i]<4294967296:=by
 simp only[dL,getElem_map];have:=hB (ms[i]'(by simpa [dL] using h)) (getElem_mem _);omega
theorem aH8 {ms:List Nat}{i:Nat}(h:i<(dL ms).length):(dL ms)[i].toNat=ms.getD i 0:=by
 have h':i<ms.length:=by simpa [dL] using h
 simp[dL,List.getD,h']
theorem castL_set (ms:List Nat) (i:Nat) (m:Nat):(dL ms).set i (m:Int)=dL (ms.set i m):=by
 simp[dL,map_set]
theorem castL_rep (n:Nat):List.replicate n (0:Int)=dL (List.replicate n 0):=by simp[dL]
end Go.Proofs.YtpdgdnpajmcaeaaGreat
namespace Go.Proofs.YtpdgdnpajmcaeaaGreat
set_option maxHeartbeats 2000000
open Go.RowKit Go.Proofs.Tryz List Go.Lib
def mT (a b:Int):Int:=((a.toNat ^^^ b.toNat:Nat):Int)
theorem pF {a b:Int}(ha:0<=a/\a<4294967296) (hb:0<=b/\b<4294967296):0<=mT a b/\mT a b<4294967296:=by
 have h:=Nat.xor_lt_two_pow (n:=32) (x:=a.toNat) (y:=b.toNat) aA aA;unfold mT;generalize a.toNat ^^^ b.toNat=m at h ⊢;omega
section
variable {P:Program}{n:Nat}{f:Nat->Value}{W:World}{Q:Exit->Act->World->Prop}{K:Value->World->Prop}{d:Option Tmp}{ty:TypeId}{pos:String}{af:Array Go.Edge}{g:Option (Nat×Bool)}{x y:Operand}{t t':TypeId}
theorem stp_xor {a b:Nat}(hx:ev n f x=I (a:Int)) (hy:ev n f y=I (b:Int)) (ha:a<2 ^ 32) (hb:b<2 ^ 32) (k:K (I ((a ^^^ b:Nat):Int)) W):Stp P n ⟨d,.binOp .xor t x y t',ty,pos,af,g⟩ f W Q K:=
 Stp.run (v:=I ((a ^^^ b:Nat):Int)) (by
  have h:=Nat.xor_lt_two_pow ha hb;have hw:IntKind.i64.wrap ((BitVec.ofInt 64 (a:Int) ^^^ BitVec.ofInt 64 (b:Int)).toNat:Int)=((a ^^^ b:Nat):Int):=by
   rw[BitVec.toNat_xor,iM a ha,iM b hb];exact gS ⟨by omega,by omega⟩
  simp[execOp,hx,hy,go_sem];exact hw) k
theorem stp_xorI {a b:Int}(hx:ev n f x=I a) (hy:ev n f y=I b) (ha:0<=a/\a<4294967296) (hb:0<=b/\b<4294967296) (k:K (I (mT a b)) W):Stp P n ⟨d,.binOp .xor t x y t',ty,pos,af,g⟩ f W Q K:=
 stp_xor (uZ hx ha.1) (uZ hy hb.1) aA aA k
end
theorem byte_rng (b:UInt8):0<=(b.toNat:Int)/\(b.toNat:Int)<256:=by have:=b.toNat_lt;omega
def aM (n:Nat):List UInt8:=if 128<=n then UInt8.ofNat (128+n % 128)::aM (n / 128) else [UInt8.ofNat n]
termination_by n
decreasing_by omega
theorem mI {n:Nat}(h:128<=n):aM n=UInt8.ofNat (128+n % 128)::aM (n / 128):=by rw[aM,if_pos h]
theorem gH {n:Nat}(h:¬128<=n):aM n=[UInt8.ofNat n]:=by rw[aM,if_neg h]
theorem rS:∀(d n:Nat),n<128 ^ (d+1)->(aM n).length<=d+1:=by
 intro d
 induction d with
 | zero=>intro n h;rw[gH (by simpa using h)];simp
 | succ d ih=>
  intro n h;by_cases h1:128<=n
  ·rw[mI h1,length_cons];have:=ih (n / 128) (by rw[Nat.div_lt_iff_lt_mul aA];rw[Nat.pow_succ]at h;exact h);omega
  rw[gH h1];simp
def aR (n:Int):ByteArray:=if inB n 0 1000000000 then ⟨(aM n.toNat).toArray⟩ else ⟨#[]⟩
def qB (s:Int):Int:=if s % 2=1 then mT (s / 2) 3988292384 else s / 2
def rP:Nat->Int->Int
 | 0,s=>s
 | k+1,s=>qB (rP k s)
theorem crcBit_rng {s:Int}(h:0<=s/\s<4294967296):0<=qB s/\qB s<4294967296:=by
 unfold qB;split
 ·exact pF aA aA
 omega
theorem vK {s:Int}(h:0<=s/\s<4294967296):∀k,0<=rP k s/\rP k s<4294967296
 | 0=>h
 | k+1=>crcBit_rng (vK h k)
def wA (l:List UInt8):Int:=l.foldl (fun s b=>rP 8 (mT s (b.toNat:Int))) 4294967295
theorem aB2 (l:List UInt8):0<=wA l/\wA l<4294967296:=by
 unfold wA;have:∀(l:List UInt8) (s:Int),0<=s/\s<4294967296->0<=l.foldl (fun s b=>rP 8 (mT s (b.toNat:Int))) s/\l.foldl (fun s b=>rP 8 (mT s (b.toNat:Int))) s<4294967296:=by
  intro l
  induction l with
  | nil=>intro s h;exact h
  | cons b l ih=>intro s h;exact ih _ (vK (pF h (by have:=byte_rng b;omega)) 8)
 exact this l _ aA
theorem sumL_to {l:List UInt8}{i:Nat}(h:i<l.length):wA (l.take (i+1))=rP 8 (mT (wA (l.take i)) (l[i].toNat:Int)):=by
 unfold wA;rw[take_succ_eq_append_getElem h,foldl_append];rfl
def cL (t:ByteArray):Int:=mT (wA t.data.toList) 4294967295
theorem vZ (t:ByteArray):0<=cL t/\cL t<4294967296:=pF (aB2 _) aA
def aU (id:Int):Int:=if aR id=⟨#[]⟩ then 0 else cL (aR id) % 4
theorem eQ (id:Int):0<=aU id/\aU id<4:=by unfold aU;split<;>omega
theorem cZ (id:Int):(aR id).size<=5:=by
 unfold aR;split
 ·rename_i h;rw[inB_iff']at h;show (aM id.toNat).toArray.size<=5;rw[size_toArray];exact rS 4 _ aA
 exact Nat.zero_le _
end Go.Proofs.YtpdgdnpajmcaeaaGreat
namespace Go.Proofs.YtpdgdnpajmcaeaaGreat
set_option maxRecDepth 100000
set_option maxHeartbeats 2000000
open Go.RowKit Go.Proofs.Tryz List
def mV:List UInt8->Nat
 | []=>0
 | b::l=>b.toNat % 128+128*mV l
def xK:List UInt8->Prop
 | []=>False
 | [b]=>b.toNat<128
 | b::c::l=>128<=b.toNat/\xK (c::l)
theorem zX {l:List UInt8}(h:xK l):l≠[]:=by
 cases l with
 | nil=>exact h.elim
 | cons=>simp
theorem u8_mk {n:Nat}(h:n<256):(UInt8.ofNat n).toNat=n:=by
 rw[UInt8.toNat_ofNat'];omega
theorem u8_of (b:UInt8):UInt8.ofNat b.toNat=b:=by simp
theorem bZ (n:Nat):xK (aM n)/\mV (aM n)=n:=by
 induction n using Nat.strongRecOn with
 | ind n ih=>
  by_cases h:128<=n
  ·obtain⟨h1,h2⟩:=ih (n / 128) aA;rw[mI h];have e:(UInt8.ofNat (128+n % 128)).toNat=128+n % 128:=u8_mk aA;refine⟨?_,?_⟩
   ·cases hv:aM (n / 128) with
    | nil=>rw[hv]at h1;exact h1.elim
    | cons c l=>rw[hv]at h1;exact⟨by rw[e];omega,h1⟩
   show (UInt8.ofNat (128+n % 128)).toNat % 128+128*mV (aM (n / 128))=n;rw[h2,e];omega
  rw[gH h];have e:(UInt8.ofNat n).toNat=n:=u8_mk aA;refine⟨?_,?_⟩
  ·show (UInt8.ofNat n).toNat<128;rw[e];omega
  show (UInt8.ofNat n).toNat % 128+128*0=n;rw[e];omega
theorem zY:∀{l:List UInt8},xK l->(aM (mV l)).length<=l.length/\((aM (mV l)).length=l.length->aM (mV l)=l)
 | [],h=>h.elim
 | [b],h=>by
  have hb:b.toNat<128:=h;have e:mV [b]=b.toNat:=by show b.toNat % 128+128*0=_;omega
  rw[e,gH aA,u8_of];exact⟨Nat.le_refl _,fun _=>rfl⟩
 | b::c::l,h=>by
  obtain⟨hb,hg⟩:=h;obtain⟨h1,h2⟩:=zY hg;have hb2:=b.toNat_lt;have e:mV (b::c::l)=b.toNat % 128+128*mV (c::l):=rfl;by_cases h0:mV (c::l)=0
  ·rw[e,h0,gH aA];exact⟨by simp,fun h=>by simp at h⟩
  rw[e,mI aA];have e1:(b.toNat % 128+128*mV (c::l)) % 128=b.toNat % 128:=by omega
  have e2:(b.toNat % 128+128*mV (c::l)) / 128=mV (c::l):=by omega
  have e3:128+b.toNat % 128=b.toNat:=by omega
  rw[e1,e2,e3,u8_of];refine⟨by simp only[length_cons]at *;omega,fun h=>?_⟩;rw[h2 (by simp only[length_cons]at *;omega)]
theorem lG:∀{a b l:List UInt8},xK a->xK b->a <+: l->b <+: l->a=b
 | [],_,_,h,_,_,_=>h.elim
 | _::_,[],_,_,h,_,_=>h.elim
 | x::a,y::b,[],_,_,h,_=>by simp at h
 | x::a,y::b,z::l,ha,hb,h1,h2=>by
  obtain⟨e1,h3⟩:=cons_prefix_cons.1 h1;obtain⟨e2,h4⟩:=cons_prefix_cons.1 h2;have e:y=x:=e2.trans e1.symm;subst e;cases a with
  | nil=>
   cases b with
   | nil=>rfl
   | cons c b=>exact absurd (show y.toNat<128 from ha) (Nat.not_lt.2 hb.1)
  | cons c a=>
   cases b with
   | nil=>exact absurd (show y.toNat<128 from hb) (Nat.not_lt.2 ha.1)
   | cons d b=>rw[lG ha.2 hb.2 h3 h4]
noncomputable def fI (l:List UInt8):Option (Nat×Nat) := @dite _ (∃n:Nat,n<=1000000000/\aM n <+: l) (Classical.propDecidable _) (fun h=>some (Classical.choose h,(aM (Classical.choose h)).length)) (fun _=>none)
theorem tT {l:List UInt8}{n:Nat}(h:n<=1000000000) (hp:aM n <+: l):fI l=some (n,(aM n).length):=by
 have hx:∃n:Nat,n<=1000000000/\aM n <+: l:=⟨n,h,hp⟩;unfold fI;rw[dif_pos hx];have hc:=Classical.choose_spec hx;have e:=lG (bZ _).1 (bZ n).1 hc.2 hp;have e2:Classical.choose hx=n:=by rw[<- (bZ (Classical.choose hx)).2,e,(bZ n).2]
 rw[e2]
theorem varHead_none {l:List UInt8}(h:∀n:Nat,n<=1000000000->¬aM n <+: l):fI l=none:=by
 unfold fI;rw[dif_neg fun ⟨n,h1,h2⟩=>h n h1 h2]
theorem iV {l:List UInt8}{n k:Nat}(h:fI l=some (n,k)):n<=1000000000/\aM n <+: l/\k=(aM n).length:=by
 unfold fI at h;split at h
 ·next hx=>
  simp only[Option.some.injEq,Prod.mk.injEq]at h;have hc:=Classical.choose_spec hx;obtain⟨h1,h2⟩:=h;rw[h1]at hc h2;exact⟨hc.1,hc.2,h2.symm⟩
 cases h
structure VJ (l:List UInt8) (i:Nat):Prop where
 le:i<=l.length
 up:∀j (h:j<l.length),j<i->128<=l[j].toNat
theorem aK5:∀{l:List UInt8}{b:UInt8},(∀c∈l,128<=c.toNat)->b.toNat<128->xK (l++[b])
 | [],b,_,hb=>hb
 | [c],b,h,hb=>⟨h c (by simp),hb⟩
 | c::d::l,b,h,hb=>⟨h c (by simp),aK5 (l:=d::l) (fun x hx=>h x (mem_cons_of_mem _ hx)) hb⟩
theorem VJ.mem {l:List UInt8}{i:Nat}(h:VJ l i):∀c∈l.take i,128<=c.toNat:=by
 intro c hc;obtain⟨j,hj,rfl⟩:=getElem_of_mem hc;rw[length_take]at hj;rw[getElem_take];exact h.up j aA aA
theorem VJ.good {l:List UInt8}{i:Nat}{b:UInt8}(h:VJ l i) (hb:l[i]? = some b) (h2:b.toNat<128):xK (l.take (i+1)):=by
 obtain⟨hi,rfl⟩:=gsi_.1 hb;rw[take_succ_eq_append_getElem hi];exact aK5 h.mem h2
theorem VJ.next {l:List UInt8}{i:Nat}{b:UInt8}(h:VJ l i) (hb:l[i]? = some b) (h2:¬b.toNat<128):VJ l (i+1):=by
 obtain⟨hi,rfl⟩:=gsi_.1 hb;refine⟨hi,fun j hj hlt=>?_⟩;rcases Nat.lt_succ_iff_lt_or_eq.1 hlt with h3 | rfl
 ·exact h.up j hj h3
 omega
theorem VJ.not {l:List UInt8}{i:Nat}{b:UInt8}(h:VJ l i) (hb:l[i]? = some b) (h2:b.toNat<128) (hn:¬(mV (l.take (i+1))<=1000000000/\(aM (mV (l.take (i+1)))).length=i+1)):fI l=none:=by
 refine varHead_none fun n h1 hp=>hn ?_
 have hi:=(gsi_.1 hb).1;have hg:=h.good hb h2;have hl:(l.take (i+1)).length=i+1:=by rw[length_take];omega
 have e:=lG hg (bZ n).1 (take_prefix _ _) hp;have e2:=(bZ n).2;rw[<- e]at e2;rw[e2];exact⟨h1,by rw[<- e,hl]⟩
section
variable {P:Program}{n:Nat}{f:Nat->Value}{W:World}{Q:Exit->Act->World->Prop}{K:Value->World->Prop}{d:Option Tmp}{ty:TypeId}{pos:String}{af:Array Go.Edge}{g:Option (Nat×Bool)}{x y:Operand}{ats:Array TypeId}
theorem bL8 {a b:Int}(hx:ev n f x=I a) (hy:ev n f y=I b) (k:K (I (min a b)) W):Stp P n ⟨d,.call { callee := .builtin .min,args := #[x,y],argTypes:=ats },ty,pos,af,g⟩ f W Q K:=
 Stp.run (v:=I (min a b)) (by
  simp[execOp,hx,hy,resolve,invoke,builtin,go_sem]
  try omega) k
theorem stp_max {a b:Int}(hx:ev n f x=I a) (hy:ev n f y=I b) (k:K (I (max a b)) W):Stp P n ⟨d,.call { callee := .builtin .max,args := #[x,y],argTypes:=ats },ty,pos,af,g⟩ f W Q K:=
 Stp.run (v:=I (max a b)) (by
  simp[execOp,hx,hy,resolve,invoke,builtin,go_sem]
  try omega) k
end
structure Pq where
 p:(Nat->Value)->Value->Prop
 b:Option Bool
 jQ:List Nat
 fr:∀{f f':Nat->Value}{v},(∀t∈jQ,f t=f' t)->p f v->p f' v
 yld:∀{f v},p f v->yl v=b
def Pq.is (u:Value) (h:yl u=none:=by rfl):Pq:=⟨fun _ v=>v=u,none,[],fun _ h=>h,fun {_ _} e=>by rw[e];exact h⟩
def Pq.bool (x:Bool):Pq:=⟨fun _ v=>v = .bool x,some x,[],fun _ h=>h,fun {_ _} e=>by rw[e];rfl⟩
def Pq.off:Pq:=Pq.is undef
def Pq.none:Pq:=⟨fun _ v=>yl v = .none,.none,[],fun _ h=>h,fun {_ _} e=>e⟩
def Pq.ext (t k:Nat) (u:Value) (h:yl u = .none):Pq:=⟨fun _ v=>v=u,.none,[],fun _ h=>h,fun {_ _} e=>by rw[e];exact h⟩
structure Cp (w0 w1:World) (rc:List Res) where
 p:List Value->World->Prop
 st:∀{u W},p u W->St w0 W rc
 bl:∀{u W},p u W->Below w1.heap.size w1 W
 up:∀{u W W'},p u W->Below W.heap.size W W'->p u W'
theorem St.dropn {w0 W:World}{rs:List Res}(k:Nat) (h:St w0 W rs):St w0 W (rs.drop k):=h.sub (drop_sublist k rs)
def Cp.of {w0 w1:World}{rc:List Res}{ι:Type}(us:ι->List Value) (R:ι->List Res) (pr:∀g W,St w0 W (R g)->St w0 W rc):Cp w0 w1 rc:=
 ⟨fun u W=>∃g,u=us g/\St w0 W (R g)/\Below w1.heap.size w1 W,fun ⟨g,_,h,_⟩=>pr g _ h,fun ⟨_,_,_,h⟩=>h,fun ⟨g,e,h,h2⟩ hb=>⟨g,e,by simpa using h.call (St.of_below hb),h2.trans (hb.mono h2.size)⟩⟩
def Cp.fr {w0 w1:World}{rc:List Res}{ι:Type}(us:ι->List Value) (R:ι->List Res):Cp w0 w1 rc:=
 Cp.of us (fun g=>R g++rc) (fun g W h=>by have h2:=h.dropn (R g).length;rwa [drop_left]at h2)
theorem cap_ (a:Res) (l t:List Res):a::l++t=a::(l++t):=rfl
theorem bB4 (l:List Res):[]++l=l:=rfl
theorem ce {a b:Value}{l l':List Value}(h:a=b) (t:l=l'):a::l=b::l':=by rw[h,t]
def uAt (l:List Oper) (f:Nat->Value) (i:Nat):Value:=match aW l i with | some d=>f d | none=>undef
def grOk (l:List Oper) (ws:List Nat) (ds:List (List Nat)) (tr:List (List (Nat×Nat))):Bool:=
 ws.all (fun i=>Nat.blt i l.length) && Nat.blt 0 ds.length && (ds.getD 0 []).isEmpty &&
 (List.range ds.length).all (fun s=>(ds.getD s []).all (fun j=>ws.contains j) && (!ws.all (fun j=>(ds.getD s []).contains j) || Nat.beq (s+1) ds.length) &&
  ws.all (fun i=>(ds.getD s []).contains i || ws.any (fun j=>dep l i j && !(ds.getD s []).contains j) ||
   (match wix ws i 0 with | some q=>(tr.getD q []).any (fun t=>Nat.beq t.1 s && Nat.blt t.2 ds.length && ws.all (fun j=>(ds.getD t.2 []).contains j == ((ds.getD s []).contains j || Nat.beq j i))) | none=>false)))
structure GrOk (l:List Oper) (ws:List Nat) (ds:List (List Nat)) (tr:List (List (Nat×Nat))):Prop where
 lt:∀i,i∈ws->i<l.length
 pos:0<ds.length
 zero:ds.getD 0 []=[]
 sub:∀s,s<ds.length->∀j,j∈ds.getD s []->j∈ws
 last:∀s,s<ds.length->(∀j,j∈ws->j∈ds.getD s [])->s+1=ds.length
 go:∀s i q,s<ds.length->i∈ws->wix ws i 0=some q->i∉ds.getD s []->(∀j,j∈ws->dep l i j=true->j∈ds.getD s [])->∃s2,(s,s2)∈tr.getD q []/\s2<ds.length/\∀j,j∈ws->(j∈ds.getD s2 []↔j∈ds.getD s []∨j=i)
theorem GrOk.of {l:List Oper}{ws:List Nat}{ds:List (List Nat)}{tr:List (List (Nat×Nat))}(h:grOk l ws ds tr=true):GrOk l ws ds tr:=by
 unfold grOk at h;simp only[Bool.and_eq_true,all_eq_true,mem_range]at h;obtain⟨⟨⟨h1,h2⟩,h3⟩,h4⟩:=h;refine⟨fun i hi=>mF (h1 i hi),mF h2,isEmpty_iff.1 h3,fun s hs j hj=>by have:=(h4 s hs).1.1 j hj;simpa using this,?_,?_⟩
 ·intro s hs hall;have h5:=(h4 s hs).1.2;have h6:ws.all (fun j=>(ds.getD s []).contains j)=true:=by rw[all_eq_true];intro j hj;simpa using hall j hj
  rw[h6]at h5;exact Nat.eq_of_beq_eq_true (by simpa using h5)
 intro s i q hs hi hq hni hd;have h5:=(h4 s hs).2 i hi;rw[hq]at h5;simp only[Bool.or_eq_true]at h5;rcases h5 with (h5 | h5) | h5
 ·exact absurd (by simpa using h5) hni
 ·rw[any_eq_true]at h5;obtain⟨j,hj,h6⟩:=h5;rw[Bool.and_eq_true]at h6;have:=hd j hj h6.1;have h7:=h6.2;rw[show (ds.getD s []).contains j=true by simpa using this]at h7;cases h7
 rw[any_eq_true]at h5;obtain⟨⟨t1,t2⟩,ht,h6⟩:=h5;simp only[Bool.and_eq_true,all_eq_true]at h6;obtain⟨⟨h7,h8⟩,h9⟩:=h6;have e:=Nat.eq_of_beq_eq_true h7;subst e;refine⟨t2,ht,mF h8,fun j hj=>?_⟩;have h10:=h9 j hj;simp only[beq_iff_eq]at h10;have e1:(j∈ds.getD t2 [])↔(ds.getD t2 []).contains j=true:=by simp
 have e2:(j∈ds.getD t1 [])↔(ds.getD t1 []).contains j=true:=by simp
 rw[e1,e2,h10,Bool.or_eq_true];exact or_congr Iff.rfl ⟨fun h=>Nat.eq_of_beq_eq_true h,fun h=>by rw[h];exact eG _⟩
section
variable {P:Program}{n:Nat}{w0 w1:World}{rs:List Res}{Q:Exit->Act->World->Prop}
structure InvG (w0 w1:World) (rs:List Res) (ws:List Nat) (ds:List (List Nat)) (C:Nat->Cp w0 w1 rs) (l:List Oper) (m:Nat) (F:List Pq) (f0:Nat->Value) (L:Array Bool) (f:Nat->Value) (W:World):Prop where
 size:L.size=l.length+m
 tail:∀i,l.length<=i->i<L.size->L[i]? = some false
 ex:∃s,s<ds.length/\(∀i,i∈ws->(L[i]? = some true↔i∈ds.getD s []))/\(C s).p ((ds.getD s []).map (uAt l f)) W
 vals:∀i d,i<l.length->L[i]? = some true->aW l i=some d->(F.getD i Pq.off).p f (f d)
 keep:∀t,(∀i,i<l.length->L[i]? = some true->aW l i≠some t)->f t=f0 t
 down:∀i j,i<l.length->L[i]? = some true->dep l i j=true->L[j]? = some true
theorem any_tail0 {l:List Oper}:∀(fuel:Nat) (L:Array Bool) (a:Act) (W:World),(∀j,j<l.length->L[j]? = some true)->Q .normal a W->wpAny P .any l.toArray Q fuel L a W:=by
 intro fuel L a W hall h;have hr:Region.ready .any l.toArray L=[]:=by
  unfold Region.ready;rw[filter_eq_nil_iff];intro i hi;rw[mem_range,size_toArray]at hi;rw[Array.getD_eq_getD_getElem?,hall i hi];simp
 cases fuel with
 | zero=>exact⟨hr,h⟩
 | succ fuel=>exact⟨fun _=>h,by rw[hr];simp⟩
end
section
variable {P:Program}{n:Nat}{f:Nat->Value}{w0 W:World}{rs:List Res}{Q:Exit->Act->World->Prop}{d:Option Tmp}{ty:TypeId}{pos:String}{af:Array Go.Edge}{g:Option (Nat×Bool)}{K:Value->World->Prop}{α:Type}[Shape α]
def Res.rowz (e:TypeId) (v:Value) (xs:List α) (fe:List Nat) (cs:List Value) (z:α) (fz:List Nat):Res where
 fp:=(Res.row e v (xs++[z]) (fe++fz)).fp
 holds:=fun W=>(Res.row e v (xs++[z]) (fe++fz)).holds W/\Shape.C W cs z fz
 loc:=fun hs hb h=>⟨(Res.row e v (xs++[z]) (fe++fz)).loc hs hb h.1,Shape.loc hs (fun b hm o=>fM (hb b (mem_append_right _ (mem_append_right _ hm))) o) h.2⟩
 wr:=fun h=>(Res.row e v (xs++[z]) (fe++fz)).wr h.1
theorem St.rowz {e:TypeId}{v:Value}{xs:List α}{fe fz:List Nat}{cs:List Value}{z:α}(h:St w0 W (Res.row e v (xs++[z]) (fe++fz)::rs)) (hc:Shape.C W cs z fz):St w0 W (Res.rowz e v xs fe cs z fz::rs):=
 ⟨h.below,h.nodup,fun r hr=>by
  rcases mem_cons.1 hr with rfl | hr
  ·exact h.fresh (Res.row e v (xs++[z]) (fe++fz)) (mem_cons_self ..)
  ·exact h.fresh r (mem_cons_of_mem _ hr),fun r hr=>by
  rcases mem_cons.1 hr with rfl | hr
  ·exact⟨h.get 0 rfl,hc⟩
  ·exact h.holds r (mem_cons_of_mem _ hr)⟩
theorem St.zrow {e:TypeId}{v:Value}{xs:List α}{fe fz:List Nat}{cs:List Value}{z:α}(h:St w0 W (Res.rowz e v xs fe cs z fz::rs)):St w0 W (Res.row e v (xs++[z]) (fe++fz)::rs):=
 ⟨h.below,h.nodup,fun r hr=>by
  rcases mem_cons.1 hr with rfl | hr
  ·exact h.fresh (Res.rowz e v xs fe cs z fz) (mem_cons_self ..)
  ·exact h.fresh r (mem_cons_of_mem _ hr),fun r hr=>by
  rcases mem_cons.1 hr with rfl | hr
  ·exact(h.get 0 rfl).1
  ·exact h.holds r (mem_cons_of_mem _ hr)⟩
theorem stp_append_ownz {t e:TypeId}{bytes:Nat}{s x:Operand}{v:Value}{xs:List α}{z:α}{fe fz:List Nat}{b:Nat}{cs:List Value}(hT:ApOk P t e α bytes) (hs:ev n f s=v) (hx:ev n f x = .slice (some ⟨b,0,none⟩) 1 1)
  (hst:St w0 W (Res.row e v xs fe::Res.bx b cs e::Res.cs cs z fz::rs)) (h63:xs.length+1<=maxLen) (hby:(xs.length+1)*bytes<=140737488355328)
  (k:∀v' W',St w0 W' (Res.rowz e v' xs fe cs z fz::rs)->K v' W') :
  Stp P n ⟨d,.call { callee := .builtin .append,args := #[s,x],argTypes := #[t,t] },ty,pos,af,g⟩ f W Q K:=by
 have hc:=hst.get 2 rfl;have hb:=hst.get 1 rfl;have hnd:=hst.nodup;simp only[flatMap_cons,nodup_append]at hnd;refine xR hT hs hx (m:=1) rfl hst.d2 (Elems.single hc.1) ?_ hc.2 ?_ ?_ h63 hby ?_
 ·intro j u hj;rw[Addr.add_mid];exact bE hb j u hj
 ·exact hnd.2.1.2.1.1
 ·intro c hcz;refine⟨fun hm=>?_,fun hm=>?_,hst.fresh _ (mem_cons_of_mem _ (mem_cons_of_mem _ (mem_cons_self ..))) c hcz⟩
  ·exact hnd.2.2 c hm c (mem_append_right _ (mem_append_left _ hcz)) rfl
  rw[flatMap_cons]at hm;rcases mem_append.1 hm with hm | hm
  ·exact hnd.2.1.2.2 c hm c (mem_append_left _ hcz) rfl
  exact hnd.2.1.2.1.2.2 c hcz c hm rfl
 intro v' W' h hsz hkp;exact k v' W' (h.rowz (Shape.loc hsz (fun b hm o=>fM (hkp b hm) o) hc.1)).d1
end
section
variable {P:Program}{n:Nat}{f:Nat->Value}{w0 W:World}{rs:List Res}{Q:Exit->Act->World->Prop}{d:Option Tmp}{ty:TypeId}{pos:String}{af:Array Go.Edge}{g:Option (Nat×Bool)}{K:Value->World->Prop}
theorem tY {x:Operand}{a:Addr}(hx:ev n f x = .pointer (some a)) (k:K (.pointer (some a)) W):Stp P n ⟨d,.nilCheck x,ty,pos,af,g⟩ f W Q K:=
 Stp.run (v := .pointer (some a)) (by simp only[execOp,hx];rfl) k
end
def jQ:List (Nat×Value)->Nat->Option Value
 | [],_=>none
 | (t,v)::E,x=>cond (Nat.beq x t) (some v) (jQ E x)
def Ag (E:List (Nat×Value)) (f:Nat->Value):Prop:=∀t v,jQ E t=some v->f t=v
section
variable {E E':List (Nat×Value)}{f:Nat->Value}{d t:Nat}{v:Value}
theorem Ag.at (h:Ag E f) (t:Nat) {v:Value}(e:jQ E t=some v:=by rfl):f t=v:=h t v e
theorem Ag.nil:Ag [] f:=fun _ _ h=>by cases h
theorem Ag.cons (e:f t=v) (h:Ag E f):Ag ((t,v)::E) f:=by
 intro x u hx;unfold jQ at hx;cases hb:Nat.beq x t with
 | true=>rw[hb]at hx;simp only[cond_true,Option.some.injEq]at hx;rw[Nat.eq_of_beq_eq_true hb,e,hx]
 | false=>rw[hb]at hx;exact h x u hx
def aJ9 (t:Nat):List (Nat×Value)->List (Nat×Value)
 | []=>[]
 | (x,v)::E=>cond (Nat.beq x t) (aJ9 t E) ((x,v)::aJ9 t E)
theorem nR {x:Nat}:∀{E:List (Nat×Value)}{u:Value},jQ (aJ9 t E) x=some u->Nat.beq x t=false/\jQ E x=some u
 | [],u,h=>by cases h
 | (y,w)::E,u,h=>by
  unfold aJ9 at h;cases hb:Nat.beq y t with
  | true=>
   rw[hb]at h;obtain⟨h1,h2⟩:=nR h;refine⟨h1,?_⟩;unfold jQ;have:Nat.beq x y=false:=by rw[Nat.eq_of_beq_eq_true hb];exact h1
   rw[this];exact h2
  | false=>
   rw[hb]at h;simp only[cond_false]at h;unfold jQ at h;cases hx:Nat.beq x y with
   | true=>
    rw[hx]at h;refine⟨by rw[Nat.eq_of_beq_eq_true hx];exact hb,?_⟩;unfold jQ;rw[hx];exact h
   | false=>
    rw[hx]at h;obtain⟨h1,h2⟩:=nR h;exact⟨h1,by unfold jQ;rw[hx];exact h2⟩
theorem Ag.up (e:f t=v) (h:Ag E f):Ag ((t,v)::aJ9 t E) f:=by
 refine Ag.cons e (fun x u hx=>h x u (nR hx).2)
theorem Ag.put (h:Ag E f):Ag ((d,v)::aJ9 d E) (dF f (some d) v):=by
 intro x u hx;unfold jQ at hx;simp only[dF,upd];cases hb:Nat.beq x d with
 | true=>rw[hb]at hx;simpa using hx
 | false=>rw[hb]at hx;exact h x u (nR hx).2
theorem Ag.kn {e r:Bool}(h:Ag E f) (t:Nat) (hk:e=r) (hl:jQ E t=some (.bool e):=by rfl):Ag ((t,.bool r)::aJ9 t E) f:=Ag.up (by rw[h t _ hl,hk]) h
theorem Ag.to (h:Ag E f) (e:E'.map (fun p=>jQ E p.1)=E'.map (fun p=>some p.2)):Ag E' f:=by
 induction E' with
 | nil=>exact Ag.nil
 | cons p E' ih=>
  obtain⟨t,v⟩:=p;simp only[map_cons,List.cons.injEq]at e;exact Ag.cons (h t v e.1) (ih e.2)
end
def lkO (n:Nat) (E:List (Nat×Value)):Operand->Option Value
 | .tmp t=>cond (Nat.ble (t+1) n) (jQ E t) none
 | .const v=>some v
 | .global g=>some (pt_ g)
 | .func g=>some (.func (.func g) #[] #[])
theorem lY {n:Nat}{E:List (Nat×Value)}{f:Nat->Value}(h:Ag E f) (x:Operand) (v:Value) (e:lkO n E x=some v):ev n f x=v:=by
 cases x with
 | tmp t=>
  simp only[lkO]at e;cases hb:Nat.ble (t+1) n with
  | true=>rw[hb]at e;simp only[ev,hb,cond_true];exact h t v e
  | false=>rw[hb]at e;cases e
 | const u=>simp only[lkO,Option.some.injEq]at e;exact e
 | global g=>simp only[lkO,Option.some.injEq]at e;exact e
 | func g=>simp only[lkO,Option.some.injEq]at e;exact e
def fOff (P:Program) (t i:Nat):Option Nat:=
 match P.underlying t with
 | some (.struct fs)=>(fs[i]?).bind fun fd=>(P.info? fd.type).bind fun j=>cond (Nat.beq j.size 0) none (some fd.offset)
 | _=>none
theorem bQ8 {P:Program}{t i off:Nat}(h:fOff P t i=some off):oW P t i off:=by
 unfold fOff at h;split at h
 ·next fs hu=>
  obtain⟨fd,hf,h⟩:=Option.bind_eq_some_iff.1 h;obtain⟨j,hj,h⟩:=Option.bind_eq_some_iff.1 h;cases hb:Nat.beq j.size 0 with
  | true=>rw[hb]at h;cases h
  | false=>
   rw[hb]at h;refine uX hu hf (by simpa using h) ?_;rw[hj];have:¬j.size=0:=fun e=>by rw[e]at hb;cases hb
   simp[this]
 cases h
def ldK (P:Program) (t:Nat):Option (Option Nat):=
 match P.underlying t with
 | some (.struct _)=>(P.info? t).bind fun j=>some (some j.size)
 | some ds=>(P.info? t).bind fun j=>cond (!ds.isRow && Nat.beq j.size 1) (some none) none
 | none=>none
def vof:Option Nat->List Value->Value
 | some _,cs=>.agg cs.toArray
 | none,cs=>cs.headD undef
theorem aF3 {P:Program}{t:Nat}{z:Option Nat}{W:World}{b o:Nat}{cs:List Value}(h:ldK P t=some z) (hr:W.rangeAt b o cs) (hl:cs.length=z.getD 1) :
  (Instr.loadAt t (.pointer (some ⟨b,o,none⟩))).run P W = .ok (vof z cs) W:=by
 unfold ldK at h;split at h
 ·next fs hu=>
  obtain⟨j,hj,h⟩:=Option.bind_eq_some_iff.1 h;simp only[Option.some.injEq]at h;subst h;rw[run_loadAt_mid W b o t cs _ hr hu rfl (by rw[hj,hl];rfl)];rfl
 ·next ds hns hu=>
  obtain⟨j,hj,h⟩:=Option.bind_eq_some_iff.1 h;cases hb:(!ds.isRow && Nat.beq j.size 1) with
  | false=>rw[hb]at h;cases h
  | true=>
   rw[hb]at h;simp only[cond_true,Option.some.injEq]at h;subst h;simp only[Bool.and_eq_true,Bool.not_eq_true']at hb;obtain⟨v,rfl⟩:∃v,cs=[v]:=by
    match cs,hl with
    | [v],_=>exact⟨v,rfl⟩
    | [],h=>simp at h
    | _::_::_,h=>simp at h
   have hc:=hr 0 v rfl;have hagg:(isAgg t).run P W = .ok false W:=by
    unfold isAgg;rw[Sem.run_bind,run_underlying hu W];have hd':ds.isRow=false:=hb.1;cases ds<;>simp_all[TypeDesc.isRow]
   simp only[Nat.add_zero]at hc;simp[Instr.loadAt,Instr.sureAddr,Sem.run_bind,loadVar,hagg,hc,vof]
 cases h
def elK (P:Program) (t:Nat):Option Nat:=
 match P.underlying t with
 | some (.slice e)=>(P.info? e).bind fun j=>some j.size
 | _=>none
def bC9 (P:Program) (t:Nat):Bool:=
 match P.underlying t with
 | some (.slice _)=>true
 | _=>false
def bU8 (P:Program) (t:Nat):Bool:=
 match P.underlying t with
 | some .bool=>true
 | _=>false
def Lis (v:Value) (N:Nat):Prop:=∃ao cap,v = .slice ao N cap
inductive Hn (P:Program) (w0 Ws:World) (rs:List Res):Type where
 | m (b o:Nat) (cs:List Value) (h:∀W,St w0 W rs->Below Ws.heap.size Ws W->W.rangeAt b o cs) (i:Nat)
 | w (b o:Nat) (cs:List Value) (h:∀W,St w0 W rs->Below Ws.heap.size Ws W->W.rangeAt b o cs) (z:Nat) (hl:cs.length=z)
 | x (v:Value) (k i b o:Nat) (h:PA v k i b o) (e:Int) (he:e=i)
 | l (v:Value) (N:Nat) (h:Lis v N)
 | ad (x y:Int) (h:I64 (x+y))
 | sb (x y:Int) (h:I64 (x-y))
 | ml (x y:Int) (h:I64 (x*y))
 | q (x y:Int) (h:(0<=x/\x<=9223372036854775807)/\0<y)
 | k (e r:Bool) (h:e=r)
 | o
 | c (F:FuncId) (fn:Func) (hf:P.funcs[F]? = some fn) (ho:((fn.name == "runtime.NumGoroutine") || fn.body.isNone)=false) (args:List Value) (v:Value) (h:∀W,St w0 W rs->Below Ws.heap.size Ws W->Calls P F args.toArray W fun e W'=>e = .returned v/\St W W' [])
abbrev R1 (P:Program) (w0 Ws:World) (rs:List Res):=Option (Value×(List Value×List Value)×List (Hn P w0 Ws rs))
section
variable {P:Program}{w0 Ws:World}{rs:List Res}
def r0 (v:Value) (hs:List (Hn P w0 Ws rs)):R1 P w0 Ws rs:=some (v,([],[]),hs)
def kb (e:Bool):List (Hn P w0 Ws rs)->R1 P w0 Ws rs
 | .k e' r _::hs=>some (.bool r,([.bool e],[.bool e']),hs)
 | .o::hs=>some (.bool e,([],[]),hs)
 | _=>none
def cmpI (a c:Int):BinOp->Option Bool
 | .eql=>some (decide (a=c))
 | .neq=>some (!decide (a=c))
 | .lss=>some (decide (a<c))
 | .leq=>some (decide (a<=c))
 | .gtr=>some (decide (c<a))
 | .geq=>some (decide (c<=a))
 | _=>none
def cmp (P:Program) (t:Nat) (b:BinOp):Value->Value->Option Bool
 | .int .i64 a,.int .i64 c=>cmpI a c b
 | .string a,.string c=>match b with
  | .eql=>some (decide (a=c))
  | .neq=>some (!decide (a=c))
  | _=>none
 | .bool a,.bool c=>match b with
  | .eql=>cond (bU8 P t) (some (a == c)) none
  | .neq=>cond (bU8 P t) (some (!(a == c))) none
  | _=>none
 | _,_=>none
def cE6 (vx vy:Value):BinOp->List (Hn P w0 Ws rs)->R1 P w0 Ws rs
 | .add,.ad x y _::hs=>some (I (x+y),([vx,vy],[I x,I y]),hs)
 | .sub,.sb x y _::hs=>some (I (x-y),([vx,vy],[I x,I y]),hs)
 | .mul,.ml x y _::hs=>some (I (x*y),([vx,vy],[I x,I y]),hs)
 | .quo,.q x y _::hs=>some (I (x / y),([vx,vy],[I x,I y]),hs)
 | .rem,.q x y _::hs=>some (I (x % y),([vx,vy],[I x,I y]),hs)
 | _,_=>none
def isAr:BinOp->Bool
 | .add | .sub | .mul | .quo | .rem=>true
 | _=>false
def bop (b:BinOp) (t:Nat) (vx vy:Value) (hs:List (Hn P w0 Ws rs)):R1 P w0 Ws rs:=
 cond (isAr b) (cE6 vx vy b hs) ((cmp P t b vx vy).bind fun e=>kb e hs)
def ldO (t:Nat) (p:Value):List (Hn P w0 Ws rs)->R1 P w0 Ws rs
 | .m b o cs _ i::hs=>(ldK P t).bind fun z=>match z with
  | none=>(cs[i]?).bind fun v=>some (v,([p],[.pointer (some ⟨b,o+i,none⟩)]),hs)
  | some z=>cond (Nat.beq ((cs.drop i).take z).length z) (some (.agg ((cs.drop i).take z).toArray,([p],[.pointer (some ⟨b,o+i,none⟩)]),hs)) none
 | .w b o cs _ z _::hs=>(ldK P t).bind fun z'=>match z' with
  | none=>none
  | some z'=>cond (Nat.beq z z') (some (.agg cs.toArray,([p],[.pointer (some ⟨b,o,none⟩)]),hs)) none
 | _=>none
def ixO (t:Nat) (vx vy:Value):List (Hn P w0 Ws rs)->R1 P w0 Ws rs
 | .x v k _ b o _ e _::hs=>(elK P t).bind fun k'=>cond (Nat.beq k k') (some (.pointer (some ⟨b,o,none⟩),([vx,vy],[v,I e]),hs)) none
 | _=>none
def lnO (t:Nat) (vx:Value):List (Hn P w0 Ws rs)->R1 P w0 Ws rs
 | .l v N _::hs=>cond (bC9 P t) (some (I N,([vx],[v]),hs)) none
 | _=>none
def biO (b:Builtin) (vs:List Value) (ts:List Nat) (hs:List (Hn P w0 Ws rs)):R1 P w0 Ws rs:=
 match b,vs,ts with
 | .len,[vx],[t]=>lnO t vx hs
 | .min,[.int .i64 a,.int .i64 c],_=>r0 (I (min a c)) hs
 | _,_,_=>none
def lks (lk:Operand->Option Value):List Operand->Option (List Value)
 | []=>some []
 | x::xs=>(lk x).bind fun v=>(lks lk xs).bind fun vs=>some (v::vs)
def op1 (lk:Operand->Option Value) (o:Op) (hs:List (Hn P w0 Ws rs)):R1 P w0 Ws rs:=
 match o with
 | .move x=>(lk x).bind fun v=>r0 v hs
 | .assign x=>(lk x).bind fun v=>r0 v hs
 | .pick c a b=>(lk c).bind fun vc=>match vc with
  | .bool true=>(lk a).bind fun v=>r0 v hs
  | .bool false=>(lk b).bind fun v=>r0 v hs
  | _=>none
 | .nilCheck x=>(lk x).bind fun v=>match v with
  | .pointer (some a)=>r0 (.pointer (some a)) hs
  | _=>none
 | .fieldAddr t x i=>(lk x).bind fun v=>match v with
  | .pointer (some ⟨b,o,none⟩)=>(fOff P t i).bind fun off=>r0 (.pointer (some ⟨b,o+off,none⟩)) hs
  | _=>none
 | .load t x=>(lk x).bind fun p=>ldO t p hs
 | .indexAddr t x y=>(lk x).bind fun vx=>(lk y).bind fun vy=>ixO t vx vy hs
 | .binOp b t x y _=>(lk x).bind fun vx=>(lk y).bind fun vy=>bop b t vx vy hs
 | .unOp .not _ x=>(lk x).bind fun v=>match v with
  | .bool b=>kb (!b) hs
  | _=>none
 | .extract x i=>(lk x).bind fun v=>match v with
  | .tuple vs=>(vs[i]?).bind fun u=>r0 u hs
  | _=>none
 | .call ⟨.builtin b,xs,ts⟩=>(lks lk xs.toList).bind fun vs=>biO b vs ts.toList hs
 | _=>none
end
section
variable {P:Program}{n:Nat}{f:Nat->Value}{W w0 Ws:World}{rs:List Res}{Q:Exit->Act->World->Prop}{K:Value->World->Prop}
 {d:Option Tmp}{ty:TypeId}{pos:String}{af:Array Go.Edge}{g:Option (Nat×Bool)}{hs hs':List (Hn P w0 Ws rs)}{v:Value}{L R:List Value}{lk:Operand->Option Value}
theorem uJ {u:Value}(h:r0 u hs=some (v,(L,R),hs')):u=v:=by
 simp only[r0,Option.some.injEq,Prod.mk.injEq]at h;exact h.1
theorem kb_ok {e:Bool}(h:kb e hs=some (v,(L,R),hs')) (hl:L=R):v = .bool e:=by
 unfold kb at h;split at h
 ·next e' r hk hs2=>
  simp only[Option.some.injEq,Prod.mk.injEq]at h;obtain⟨rfl,⟨rfl,rfl⟩,_⟩:=h;simp only[List.cons.injEq,Value.bool.injEq,and_true]at hl;rw[hl,hk]
 ·simp only[Option.some.injEq,Prod.mk.injEq]at h;exact h.1.symm
 cases h
theorem cmpI_ok {a c:Int}{b:BinOp}{t t':TypeId}{x y:Operand}{e:Bool}(h:cmpI a c b=some e) (hx:ev n f x=I a) (hy:ev n f y=I c) (k:K (.bool e) W):Stp P n ⟨d,.binOp b t x y t',ty,pos,af,g⟩ f W Q K:=by
 unfold cmpI at h;split at h<;>first | cases h | (simp only[Option.some.injEq]at h;subst h)
 ·exact bM0 hx hy k
 ·exact stp_neq hx hy k
 ·exact aS2 hx hy k
 ·exact stp_leq hx hy k
 ·exact bL9 hx hy k
 exact stp_geq hx hy k
theorem cD4 {vx vy:Value}{b:BinOp}{t t':TypeId}{x y:Operand}{e:Bool}(h:cmp P t b vx vy=some e) (hx:ev n f x=vx) (hy:ev n f y=vy) (k:K (.bool e) W):Stp P n ⟨d,.binOp b t x y t',ty,pos,af,g⟩ f W Q K:=by
 unfold cmp at h;split at h
 ·exact cmpI_ok h hx hy k
 ·split at h<;>first | cases h | (simp only[Option.some.injEq]at h;subst h)
  ·exact stp_seql hx hy k
  exact stp_sneq hx hy k
 ·split at h
  ·cases hb:bU8 P t with
   | false=>rw[hb]at h;cases h
   | true=>
    rw[hb]at h;simp only[cond_true,Option.some.injEq]at h;subst h;have hu:P.underlying t=some .bool:=by
     unfold bU8 at hb;split at hb
     ·next hu=>exact hu
     cases hb
    exact stp_beql hu hx hy k
  ·cases hb:bU8 P t with
   | false=>rw[hb]at h;cases h
   | true=>
    rw[hb]at h;simp only[cond_true,Option.some.injEq]at h;subst h;have hu:P.underlying t=some .bool:=by
     unfold bU8 at hb;split at hb
     ·next hu=>exact hu
     cases hb
    exact stp_bneq hu hx hy k
  cases h
 cases h
theorem arith_ok {vx vy:Value}{b:BinOp}{t t':TypeId}{x y:Operand}(h:cE6 vx vy b hs=some (v,(L,R),hs')) (hl:L=R) (hx:ev n f x=vx) (hy:ev n f y=vy) (k:K v W):Stp P n ⟨d,.binOp b t x y t',ty,pos,af,g⟩ f W Q K:=by
 unfold cE6 at h;split at h<;>first | cases h;done | skip
 all_goals
  simp only[Option.some.injEq,Prod.mk.injEq]at h;obtain⟨rfl,⟨rfl,rfl⟩,_⟩:=h;simp only[List.cons.injEq,and_true]at hl;obtain⟨rfl,rfl⟩:=hl
 ·exact nY hx hy (by assumption) k
 ·exact bL3 hx hy (by assumption) k
 ·exact bL7 hx hy (by assumption) k
 ·have hi := ‹(_/\_)/\_›;exact bL5 hx hy hi.1 hi.2 k
 have hi := ‹(_/\_)/\_›;exact bL4 hx hy hi.1 hi.2 k
theorem bop_ok {vx vy:Value}{b:BinOp}{t t':TypeId}{x y:Operand}(h:bop b t vx vy hs=some (v,(L,R),hs')) (hl:L=R) (hx:ev n f x=vx) (hy:ev n f y=vy) (k:K v W):Stp P n ⟨d,.binOp b t x y t',ty,pos,af,g⟩ f W Q K:=by
 unfold bop at h;cases hb:isAr b with
 | true=>rw[hb]at h;exact arith_ok h hl hx hy k
 | false=>
  rw[hb]at h;obtain⟨e,he,h⟩:=Option.bind_eq_some_iff.1 h;rw[kb_ok h hl]at k;exact cD4 he hx hy k
theorem nD {x:Operand}{t:TypeId}{z:Option Nat}{b o:Nat}{cs:List Value}(hz:ldK P t=some z) (hx:ev n f x = .pointer (some ⟨b,o,none⟩)) (hr:W.rangeAt b o cs) (hl:cs.length=z.getD 1) (k:K (vof z cs) W):Stp P n ⟨d,.load t x,ty,pos,af,g⟩ f W Q K:=
 Stp.run (v:=vof z cs) (by simp[execOp,hx,aF3 hz hr hl,Sem.run_bind]) k
theorem sU {b o i z:Nat}{cs:List Value}(hr:W.rangeAt b o cs):W.rangeAt b (o+i) ((cs.drop i).take z):=by
 intro j u hj;have hjl:=(gsi_.1 hj).1;rw[getElem?_take]at hj;split at hj
 ·rw[getElem?_drop]at hj;rw[Nat.add_assoc];exact hr (i+j) u hj
 cases hj
theorem ldO_ok {x:Operand}{t:TypeId}{p:Value}(h1:St w0 W rs) (h2:Below Ws.heap.size Ws W) (h:ldO t p hs=some (v,(L,R),hs')) (hl:L=R) (hx:ev n f x=p) (k:K v W):Stp P n ⟨d,.load t x,ty,pos,af,g⟩ f W Q K:=by
 unfold ldO at h;split at h
 ·next b o cs hr i hs2=>
  obtain⟨z,hz,h⟩:=Option.bind_eq_some_iff.1 h;split at h
  ·obtain⟨u,hu,h⟩:=Option.bind_eq_some_iff.1 h;simp only[Option.some.injEq,Prod.mk.injEq]at h;obtain⟨rfl,⟨rfl,rfl⟩,_⟩:=h;simp only[List.cons.injEq,and_true]at hl;subst hl;refine nD (cs:=[u]) hz hx ?_ rfl k;intro j w hj;cases j with
   | zero=>simp at hj;subst hj;exact hr W h1 h2 i u hu
   | succ j=>simp at hj
  next z'=>
  cases hb:Nat.beq ((cs.drop i).take z').length z' with
  | false=>rw[hb]at h;cases h
  | true=>
   rw[hb]at h;simp only[cond_true,Option.some.injEq,Prod.mk.injEq]at h;obtain⟨rfl,⟨rfl,rfl⟩,_⟩:=h;simp only[List.cons.injEq,and_true]at hl;subst hl;exact nD hz hx (sU (hr W h1 h2)) (Nat.eq_of_beq_eq_true hb) k
 ·next b o cs hr z hlz hs2=>
  obtain⟨z',hz,h⟩:=Option.bind_eq_some_iff.1 h;split at h
  ·cases h
  next z2=>
  cases hb:Nat.beq z z2 with
  | false=>rw[hb]at h;cases h
  | true=>
   rw[hb]at h;simp only[cond_true,Option.some.injEq,Prod.mk.injEq]at h;obtain⟨rfl,⟨rfl,rfl⟩,_⟩:=h;simp only[List.cons.injEq,and_true]at hl;subst hl;exact nD hz hx (hr W h1 h2) (by rw[hlz,Nat.eq_of_beq_eq_true hb];rfl) k
 cases h
theorem ixO_ok {x y:Operand}{t:TypeId}{vx vy:Value}(h:ixO t vx vy hs=some (v,(L,R),hs')) (hl:L=R) (hx:ev n f x=vx) (hy:ev n f y=vy) (k:K v W):Stp P n ⟨d,.indexAddr t x y,ty,pos,af,g⟩ f W Q K:=by
 unfold ixO at h;split at h
 ·next u kk i b o hp e he hs2=>
  obtain⟨k',hk',h⟩:=Option.bind_eq_some_iff.1 h;cases hb:Nat.beq kk k' with
  | false=>rw[hb]at h;cases h
  | true=>
   rw[hb]at h;simp only[cond_true,Option.some.injEq,Prod.mk.injEq]at h;obtain⟨rfl,⟨rfl,rfl⟩,_⟩:=h;simp only[List.cons.injEq,and_true]at hl;obtain⟨rfl,rfl⟩:=hl;have:=Nat.eq_of_beq_eq_true hb;subst this;unfold elK at hk';split at hk'
   ·next te hu=>
    obtain⟨j,hj,hk'⟩:=Option.bind_eq_some_iff.1 hk';simp only[Option.some.injEq]at hk';obtain⟨off,len,cap,rfl,hi,rfl⟩:=hp;subst he;refine Stp.run (v := .pointer (some ⟨b,off+i*kk,none⟩)) ?_ k;have hel:P.elem t=te:=by simp[Program.elem,hu]
    have hu2:P.underlying t=some (.slice (P.elem t)):=by rw[hel];exact hu
    have hlt:(i:Int)<len:=by omega
    simp[execOp,hx,hy,Sem.run_bind,run_indexAt_slice (h:=hu2),hel,hlt,sizeOf,typeInfo,hj,hk',Addr.add]
   cases hk'
 cases h
theorem lnO_ok {x:Operand}{t:TypeId}{vx:Value}(h:lnO t vx hs=some (v,(L,R),hs')) (hl:L=R) (hx:ev n f x=vx) (k:K v W):Stp P n ⟨d,.call { callee := .builtin .len,args := #[x],argTypes := #[t] },ty,pos,af,g⟩ f W Q K:=by
 unfold lnO at h;split at h
 ·next u N hu hs2=>
  cases hb:bC9 P t with
  | false=>rw[hb]at h;cases h
  | true=>
   rw[hb]at h;simp only[cond_true,Option.some.injEq,Prod.mk.injEq]at h;obtain⟨rfl,⟨rfl,rfl⟩,_⟩:=h;simp only[List.cons.injEq,and_true]at hl;subst hl;obtain⟨ao,cap,rfl⟩:=hu;unfold bC9 at hb;split at hb
   ·next te ht=>
    refine Stp.run (v:=I N) ?_ k;have he:P.elem t=te:=by simp[Program.elem,ht]
    have hu2:P.underlying t=some (.slice (P.elem t)):=by rw[he];exact ht
    simp[execOp,hx,resolve,invoke,builtin,Sem.run_bind,run_len_slice (h:=hu2),goInt]
   cases hb
 cases h
theorem bI2 (hl:∀x v,lk x=some v->ev n f x=v):∀{xs:List Operand}{vs:List Value},lks lk xs=some vs->xs.map (ev n f)=vs
 | [],vs,h=>by simp only[lks,Option.some.injEq]at h;subst h;rfl
 | x::xs,vs,h=>by
  simp only[lks]at h;obtain⟨v,hv,h⟩:=Option.bind_eq_some_iff.1 h;obtain⟨us,hu,h⟩:=Option.bind_eq_some_iff.1 h;simp only[Option.some.injEq]at h;subst h;rw[map_cons,hl x v hv,bI2 hl hu]
theorem bY8 (hl:∀x v,lk x=some v->ev n f x=v) (h1:St w0 W rs) (h2:Below Ws.heap.size Ws W) {o:Op}(h:op1 lk o hs=some (v,(L,R),hs')) (e:L=R) (k:K v W):Stp P n ⟨d,o,ty,pos,af,g⟩ f W Q K:=by
 unfold op1 at h;split at h
 ·obtain⟨u,hu,h⟩:=Option.bind_eq_some_iff.1 h;exact bY (hl _ _ hu) (by rw[uJ h];exact k)
 ·obtain⟨u,hu,h⟩:=Option.bind_eq_some_iff.1 h;exact cC (hl _ _ hu) (by rw[uJ h];exact k)
 ·obtain⟨u,hu,h⟩:=Option.bind_eq_some_iff.1 h;split at h
  ·obtain⟨u2,hu2,h⟩:=Option.bind_eq_some_iff.1 h;exact sN (hl _ _ hu) (hl _ _ hu2) (by rw[uJ h];exact k)
  ·obtain⟨u2,hu2,h⟩:=Option.bind_eq_some_iff.1 h;exact sO (hl _ _ hu) (hl _ _ hu2) (by rw[uJ h];exact k)
  cases h
 ·obtain⟨u,hu,h⟩:=Option.bind_eq_some_iff.1 h;split at h
  ·exact tY (hl _ _ hu) (by rw[uJ h];exact k)
  cases h
 ·obtain⟨u,hu,h⟩:=Option.bind_eq_some_iff.1 h;split at h
  ·obtain⟨off,ho,h⟩:=Option.bind_eq_some_iff.1 h;exact eV (bQ8 ho) (hl _ _ hu) (by rw[uJ h];exact k)
  cases h
 ·obtain⟨u,hu,h⟩:=Option.bind_eq_some_iff.1 h;exact ldO_ok h1 h2 h e (hl _ _ hu) k
 ·obtain⟨u,hu,h⟩:=Option.bind_eq_some_iff.1 h;obtain⟨u2,hu2,h⟩:=Option.bind_eq_some_iff.1 h;exact ixO_ok h e (hl _ _ hu) (hl _ _ hu2) k
 ·obtain⟨u,hu,h⟩:=Option.bind_eq_some_iff.1 h;obtain⟨u2,hu2,h⟩:=Option.bind_eq_some_iff.1 h;exact bop_ok h e (hl _ _ hu) (hl _ _ hu2) k
 ·obtain⟨u,hu,h⟩:=Option.bind_eq_some_iff.1 h;split at h
  ·rw[kb_ok h e]at k;exact zB (hl _ _ hu) k
  cases h
 ·obtain⟨u,hu,h⟩:=Option.bind_eq_some_iff.1 h;split at h
  ·obtain⟨u2,hu2,h⟩:=Option.bind_eq_some_iff.1 h;exact xP (hl _ _ hu) hu2 (by rw[uJ h];exact k)
  cases h
 ·next b xs ts=>
  obtain⟨vs,hvs,hz⟩:=Option.bind_eq_some_iff.1 h;clear h;have hm:=bI2 hl hvs;unfold biO at hz;split at hz
  ·next vx t hts=>
   obtain⟨x,hx⟩:∃x,xs = #[x]/\ev n f x=vx:=by
    match hq:xs.toList,hm with
    | [x],hm=>exact⟨x,by rw[<- Array.toArray_toList (xs:=xs),hq],by simpa using hm⟩
    | [],hm=>simp at hm
    | _::_::_,hm=>simp at hm
   obtain⟨rfl,hx⟩:=hx;have:ts = #[t]:=by rw[<- Array.toArray_toList (xs:=ts),hts]
   subst this;exact lnO_ok hz e hx k
  ·next _ a c=>
   obtain⟨x,y,rfl,hx,hy⟩:∃x y,xs = #[x,y]/\ev n f x=I a/\ev n f y=I c:=by
    match hq:xs.toList,hm with
    | [x,y],hm=>exact⟨x,y,by rw[<- Array.toArray_toList (xs:=xs),hq],by simpa using hm⟩
    | [],hm=>simp at hm
    | [_],hm=>simp at hm
    | _::_::_::_,hm=>simp at hm
   exact bL8 hx hy (by rw[uJ hz];exact k)
  cases hz
 cases h
end
def onR (l:List Oper) (f:Nat->Value) (o:Oper):Bool:=
 match o.guard with
 | none=>true
 | some (j,w)=>match aW l j with
  | some d=>yl (f d) == some w
  | none=>false
def eR (D:Nat->Bool) (i:Nat):Nat->Bool:=fun j=>cond (Nat.beq j i) true (D j)
section
variable {P:Program}{n:Nat}{Q:Exit->Act->World->Prop}
structure KeepI (P:Program) (n:Nat) (Q:Exit->Act->World->Prop) (l:List Oper) (I:(Nat->Bool)->(Nat->Value)->World->Prop):Prop where
 step:∀i o D f W,l[i]? = some o->D i=false->(∀j,dep l i j=true->D j=true)->(∀j k,D j=true->dep l j k=true->D k=true)->I D f W ->
  cond (onR l f o) (Stp P n o f W Q (fun v W'=>I (eR D i) (dF f o.dst v) W')) (I (eR D i) (dF f o.dst undef) W)
structure FlagI (l:List Oper) (m:Nat) (I:(Nat->Bool)->(Nat->Value)->World->Prop) (L:Array Bool) (f:Nat->Value) (W:World):Prop where
 size:L.size=l.length+m
 tail:∀i,l.length<=i->i<L.size->L[i]? = some false
 down:∀i j,L[i]? = some true->dep l i j=true->L[j]? = some true
 inv:I (fun i=>L.getD i false) f W
theorem any_mainI {I:(Nat->Bool)->(Nat->Value)->World->Prop}{l tl:List Oper}(ho:OrdOk n l) (hs:KeepI P n Q l I)
  (ht:∀i o,l.length<=i->(l++tl)[i]? = some o->(∃j,l.length<=j/\dep (l++tl) i j=true)∨∀j,j<l.length->dep (l++tl) i j=true∨∃m,j<m/\m<l.length/\dep l m j=true)
  (fin:∀fuel L f W,tl.length<=fuel->(∀i,i<l.length->L[i]? = some true)->FlagI l tl.length I L f W->wpAny P .any (l++tl).toArray Q fuel L (act n f) W) :
  ∀fuel L f W,FlagI l tl.length I L f W->(L.toList.countP (fun b=> !b))<=fuel->wpAny P .any (l++tl).toArray Q fuel L (act n f) W:=by
 intro fuel
 induction fuel with
 | zero=>
  intro L f W hI hc;have hall:∀i,i<L.size->L[i]? = some true:=by
   intro i hi;have h0:L.toList.countP (fun b=> !b)=0:=by omega
   rw[countP_eq_zero]at h0;have:=h0 L[i] (by simp);rw[Array.getElem?_eq_getElem hi];simpa using this
  have htl:tl.length=0:=by
   by_cases h:tl.length=0
   ·exact h
   have h1:=hI.tail l.length (Nat.le_refl _) (by rw[hI.size];omega);have h2:=hall l.length (by rw[hI.size];omega);rw[h1]at h2;cases h2
  exact fin 0 L f W aA (fun i hi=>hall i (by rw[hI.size];omega)) hI
 | succ fuel ih=>
  intro L f W hI hc;by_cases hall:∀i,i<l.length->L[i]? = some true
  ·refine fin (fuel+1) L f W ?_ hall hI;have:tl.length<=L.toList.countP (fun b=> !b):=by
    have e:L.toList=L.toList.take l.length++L.toList.drop l.length:=(take_append_drop _ _).symm;rw[e,countP_append];have:(L.toList.drop l.length).countP (fun b=> !b)=(L.toList.drop l.length).length:=by
     rw[countP_eq_length];intro b hb;obtain⟨j,hj⟩:=mem_iff_getElem?.1 hb;rw[getElem?_drop,Array.getElem?_toList]at hj;have hlt:l.length+j<L.size:=(Array.getElem?_eq_some_iff.1 hj).1;rw[hI.tail _ aA hlt]at hj;cases hj;rfl
    rw[this,length_drop];have h3:=hI.size;have h4:L.toList.length=L.size:=Array.length_toList;omega
   omega
  have hex:∃i,i<l.length/\L[i]? = some false:=by
   apply Classical.byContradiction;intro hn;apply hall;intro i hi;cases h:L[i]? with
   | none=>rw[Array.getElem?_eq_none_iff,hI.size]at h;omega
   | some b=>
    cases b
    ·exact absurd ⟨i,hi,h⟩ hn
    rfl
  obtain⟨i0,⟨hi0,hf0⟩,hmin⟩:=bP2 hex;have hlen:(l++tl).length=l.length+tl.length:=length_append;have hready:i0∈Region.ready .any (l++tl).toArray L:=by
   unfold Region.ready;rw[mem_filter];obtain⟨o,hoo⟩:∃o,l[i0]? = some o:=⟨_,getElem?_eq_getElem hi0⟩;have hoo':(l++tl)[i0]? = some o:=by rw[getElem?_append_left hi0];exact hoo
   refine⟨by rw[mem_range,size_toArray,hlen];omega,?_⟩;rw[Array.getD_eq_getD_getElem?,hf0];simp only[Option.getD_some,Bool.not_false,Bool.true_and,getElem?_toArray,hoo',Option.map_some];rw[Array.all_eq_true_iff_forall_mem];intro e he;by_cases hb:Region.binds .any e=true
   ·have hd:=dep_of hoo he hb;have hj:=ho.lt i0 e.on hi0 hd;have:L[e.on]? = some true:=by
     cases h:L[e.on]? with
     | none=>rw[Array.getElem?_eq_none_iff,hI.size]at h;omega
     | some b=>
      cases b
      ·have:=hmin e.on ⟨by omega,h⟩;omega
      rfl
    rw[getD_t.2 this];simp
   simp only[Bool.not_eq_true]at hb;rw[hb];rfl
  refine⟨fun h=>(by rw[h]at hready;cases hready),?_⟩;intro i hi;unfold Region.ready at hi;rw[mem_filter,mem_range,size_toArray,hlen]at hi;obtain⟨hilt,hi⟩:=hi;obtain⟨o,hoo⟩:∃o,(l++tl)[i]? = some o:=⟨_,getElem?_eq_getElem (by rw[hlen];exact hilt)⟩;simp only[getElem?_toArray,hoo,Option.map_some,Option.getD_some,Bool.and_eq_true,Bool.not_eq_true']at hi;obtain⟨hun,hdep⟩:=hi;have hun':L[i]? = some false:=by
   rw[Array.getD_eq_getD_getElem?]at hun;cases h:L[i]? with
   | none=>rw[Array.getElem?_eq_none_iff,hI.size]at h;omega
   | some b=>rw[h]at hun;simp at hun;rw[hun]
  rw[Array.all_eq_true_iff_forall_mem]at hdep;have hdep':∀e∈o.after,Region.binds .any e=true->L[e.on]? = some true:=by
   intro e he hb;have:=hdep e he;rw[hb]at this;exact getD_t.1 (by simpa using this)
  have hiN:i<l.length:=by
   by_cases h:i<l.length
   ·exact h
   exfalso;rcases ht i o aA hoo with⟨j,hj,hd⟩ | hcov
   ·obtain⟨e,he,heq,hb⟩:=aT4 hoo hd;have h1:=hdep' e he hb;rw[heq]at h1;rw[hI.tail j hj (Array.getElem?_eq_some_iff.1 h1).1]at h1;cases h1
   have key:∀m j,l.length-j=m->j<l.length->L[j]? = some true:=by
    intro m
    induction m using Nat.strongRecOn with
    | _ m ihm=>
     intro j hm hj;rcases hcov j hj with hd | ⟨m',h1,h2,h3⟩
     ·obtain⟨e,he,heq,hb⟩:=aT4 hoo hd;rw[<- heq];exact hdep' e he hb
     exact hI.down m' j (ihm (l.length-m') aA m' rfl h2) h3
   have:=key _ i0 rfl hi0;rw[hf0]at this;cases this
  have hol:l[i]? = some o:=by rw[getElem?_append_left hiN]at hoo;exact hoo
  have hdl:∀j,dep l i j=true->L[j]? = some true:=by
   intro j hj;obtain⟨e,he,heq,hb⟩:=aT4 hol hj;rw[<- heq];exact hdep' e he hb
  have hsz:i<L.size:=(Array.getElem?_eq_some_iff.1 hun').1;have hother:∀j,j≠i->(L.setIfInBounds i true)[j]? = L[j]? := fun j hj=>by rw[Array.getElem?_setIfInBounds,if_neg (fun e=>hj e.symm)]
  have hself:(L.setIfInBounds i true)[i]? = some true:=by rw[Array.getElem?_setIfInBounds];simp[hsz]
  have hDe:(fun j=>(L.setIfInBounds i true).getD j false)=eR (fun j=>L.getD j false) i:=by
   funext j
   unfold eR;cases hb:Nat.beq j i with
   | true=>rw[Nat.eq_of_beq_eq_true hb];exact getD_t.2 hself
   | false=>simp only[cond_false];rw[Array.getD_eq_getD_getElem?,Array.getD_eq_getD_getElem?,hother j (fun e=>by rw[e,eG]at hb;cases hb)]
  have next:∀v W',I (eR (fun j=>L.getD j false) i) (dF f o.dst v) W'->wpAny P .any (l++tl).toArray Q fuel (L.setIfInBounds i true) (act n (dF f o.dst v)) W':=by
   intro v W' hv;refine ih _ _ _ ⟨by simpa using hI.size,?_,?_,by rw[hDe];exact hv⟩ ?_
   ·intro j hj hjs;rw[hother j aA];exact hI.tail j hj (by simpa using hjs)
   ·intro j k hl hd;by_cases e:j=i
    ·subst e;have hk:=hdl k hd;by_cases e2:k=j
     ·subst e2;exact hself
     rw[hother k e2];exact hk
    rw[hother j e]at hl;have hk:=hI.down j k hl hd;by_cases e2:k=i
    ·subst e2;exact hself
    rw[hother k e2];exact hk
   have hcount:(L.setIfInBounds i true).toList.countP (fun b=> !b)+1=L.toList.countP (fun b=> !b):=by
    rw[Array.toList_setIfInBounds];exact aP3 _ _ (by rw[Array.getElem?_toList];exact hun')
   omega
  unfold wpOp;simp only[getElem?_toArray,hoo];have hw:Region.wanted o (yielded (l++tl).toArray (act n f).tmps)=onR l f o:=by
   unfold Region.wanted onR;cases hg:o.guard with
   | none=>rfl
   | some jw=>
    obtain⟨j,w⟩:=jw;obtain⟨hd,dd,hdd⟩:=ho.guard i o j w hol hg;have hjN:j<l.length:=by have:=ho.lt i j hiN hd;omega
    have hdn:=ho.dst j dd hjN hdd;have:yielded (l++tl).toArray (act n f).tmps j=yl (f dd):=by
     unfold yielded;have e1:(((l++tl).toArray[j]?).bind (·.dst))=some dd:=by
      rw[getElem?_toArray,getElem?_append_left hjN];exact hdd
     rw[e1];simp only[Option.bind_some];have e2:(act n f).tmps[dd]? = some (f dd):=by simp[act,hdn]
     rw[e2];cases f dd<;>rfl
    simp only[this,hdd]
  rw[hw];have h1:=hs.step i o (fun j=>L.getD j false) f W hol (by rw[Array.getD_eq_getD_getElem?,hun'];rfl) (fun j hj=>getD_t.2 (hdl j hj)) (fun j k hj hk=>getD_t.2 (hI.down j k (getD_t.1 hj) hk)) hI.inv;cases hon:onR l f o with
  | true=>
   rw[hon]at h1;simp only[cond_true]at h1;simp only[if_true];exact .inl (Oper.wp_mono (fun a' w' ⟨v,e,hv⟩=>by rw[e];exact next v w' hv) h1.out)
  | false=>
   rw[hon]at h1;simp only[cond_false]at h1;simp only[Bool.false_eq_true,if_false];rw[rH];exact next undef W h1
theorem inv_startI {I:(Nat->Bool)->(Nat->Value)->World->Prop}{l:List Oper}{m:Nat}{f0:Nat->Value}{W:World}(h:I (fun _=>false) f0 W):FlagI l m I (Array.replicate (l.length+m) false) f0 W:=by
 have hno:∀i:Nat,(Array.replicate (l.length+m) false)[i]? ≠ some true:=by
  intro i h;rw[Array.getElem?_replicate]at h;split at h<;>cases h
 refine⟨by simp,?_,fun i j h=>absurd h (hno i),?_⟩
 ·intro i _ h;rw[Array.getElem?_replicate,if_pos (by simpa using h)]
 have:(fun i=>(Array.replicate (l.length+m) false).getD i false)=fun _=>false:=by
  funext i
  cases hb:(Array.replicate (l.length+m) false).getD i false with
  | false=>rfl
  | true=>exact absurd (getD_t.1 hb) (hno i)
 rw[this];exact h
theorem zA {id:Nat}{l:List Oper}(k:Nat) (I:(Nat->Bool)->(Nat->Value)->World->Prop) {W:World}{f0:Nat->Value}(hm:P.follows .mixedOrders=true) (ho:sC n (l.take k)=true) (hT:((l.drop k).isEmpty || pJ (l.take k) (l.drop k))=true)
  (start:I (fun _=>false) f0 { W with drawn:=W.drawn+1 }) (hs:KeepI P n Q (l.take k) I)
  (fin:∀D f W',(∀i,i<(l.take k).length->D i=true)->I D f W'->Wl P l.toArray Q (l.drop k) n f W'):(Code.region id l.toArray true).wp P Q (act n f0) W:=by
 have e0:l.take k++l.drop k=l:=take_append_drop k l;generalize hl1:l.take k=l1 at *;generalize hl2:l.drop k=tl at *;rw[<- e0]at fin ⊢;refine wp_region_any hm ?_;have h:=any_mainI (I:=I) (tl:=tl) (OrdOk.of ho) hs ?_ ?_ (l1.length+tl.length) (Array.replicate (l1.length+tl.length) false) f0 { W with drawn:=W.drawn+1 } (inv_startI start) ?_
 ·simpa using h
 ·rw[Bool.or_eq_true]at hT;rcases hT with hT | hT
  ·intro i o hi h;rw[isEmpty_iff.1 hT,append_nil]at h;have:=(gsi_.1 h).1;omega
  exact tail_ht hT
 ·intro fuel L f W' hfuel hall hI;have hf:=fin _ f W' (fun i hi=>getD_t.2 (hall i hi)) hI.inv;rw[Bool.or_eq_true]at hT;rcases hT with hT | hT
  ·have ht0:=isEmpty_iff.1 hT;subst ht0;rw[append_nil]at hf ⊢;exact any_tail0 fuel L _ W' (fun j hj=>hall j hj) hf.out
  exact any_tail hT tl.length 0 fuel L _ W' aA (Nat.zero_le _) hfuel hI.size (fun j hj=>hall j aA) (fun j hj hjs=>hI.tail j aA hjs) (by simpa using hf.out)
 have:=countP_le_length (p:=fun b=> !b) (l:=(Array.replicate (l1.length+tl.length) false).toList);simpa using this
theorem bK9 {id:Nat}{l:List Oper}{w0 W:World}{rs:List Res}(k:Nat) {f0:Nat->Value}(F:List Pl) (hm:P.follows .mixedOrders=true) (ho:sC n (l.take k)=true) (hT:((l.drop k).isEmpty || pJ (l.take k) (l.drop k))=true)
  (hst:St w0 W rs) (hs:AllSteps P n W w0 rs Q (l.take k) F f0 0 (l.take k) F)
  (fin:∀f W',St w0 W' rs->Below W.heap.size W W'->(∀i d,i<(l.take k).length->aW (l.take k) i=some d->(F.getD i Pl.off).p (f d) W')->(∀t,gL (l.take k) t=true->f t=f0 t)->Wl P l.toArray Q (l.drop k) n f W') :
  (Code.region id l.toArray true).wp P Q (act n f0) W:=by
 have hO:=OrdOk.of ho;have hb0:Below W.heap.size W { W with drawn:=W.drawn+1 }:=(Below.refl _ _).drew;refine zA k (fun D f W'=>St w0 W' rs/\Below W.heap.size W W'/\(∀i d,i<(l.take k).length->D i=true->aW (l.take k) i=some d->(F.getD i Pl.off).p (f d) W')/\(∀t,(∀i,i<(l.take k).length->D i=true->aW (l.take k) i≠some t)->f t=f0 t)) hm ho hT ⟨by simpa using hst.call (St.of_below hb0),hb0,(fun _ _ _ h=>by cases h),fun _ _=>rfl⟩ ⟨?_⟩ ?_
 ·rintro i o D f W' hi hDi hdep hdown ⟨h1,h2,h3,h4⟩;have hiN:=(gsi_.1 hi).1;obtain⟨p,hp,hstep⟩:=hs.get i o hi;rw[Nat.zero_add]at hstep;have hpF:F.getD i Pl.off=p:=by rw[getD_eq_getElem?_getD,hp];rfl
  have hs1:=hstep f W' h1 h2 (fun j d hj hd=>h3 j d (by have:=hO.lt i j hiN hj;omega) (hdep j hj) hd) (fun t hk=>by
   refine h4 t (fun j hjN hj hd=>?_);unfold kY at hk;rw[all_eq_true]at hk;have:=hk j (by simpa using hjN);rw[hd]at this;simp only[eG,Bool.not_true,Bool.or_false,Bool.or_eq_true]at this;rcases this with h | h
   ·rw[Nat.eq_of_beq_eq_true h,hDi]at hj;cases hj
   have:=hdown j i hj h;rw[hDi]at this;cases this)
  have hdo:aW (l.take k) i=o.dst:=by simp[aW,hi]
  have hset:∀j,eR D i j=true->j=i∨D j=true:=fun j hj=>by
   unfold eR at hj;cases hb:Nat.beq j i with
   | true=>exact .inl (Nat.eq_of_beq_eq_true hb)
   | false=>rw[hb]at hj;exact .inr hj
  have hput:∀v t,o.dst≠some t->dF f o.dst v t=f t:=fun v t ht=>by
   cases hod:o.dst with
   | none=>rfl
   | some d'=>simp only[dF,upd];rw[iP (fun e'=>ht (by rw[hod,e']))];rfl
  have next:∀v W2,Below W'.heap.size W' W2->p.p v W2->St w0 W2 rs/\Below W.heap.size W W2/\(∀j d,j<(l.take k).length->eR D i j=true->aW (l.take k) j=some d->(F.getD j Pl.off).p (dF f o.dst v d) W2)/\(∀t,(∀j,j<(l.take k).length->eR D i j=true->aW (l.take k) j≠some t)->dF f o.dst v t=f0 t):=by
   intro v W2 hb hv;refine⟨by simpa using h1.call (St.of_below hb),h2.trans (hb.mono h2.size),fun j d hj hl hd=>?_,fun t hk=>?_⟩
   ·by_cases e:j=i
    ·subst e;rw[hpF];rw[hdo]at hd;rw[hd];simp only[dF,upd,eG,cond_true];exact hv
    rw[hput v d (fun hod=>hO.ne j i d hj hiN e hd (by rw[hdo,hod]))];exact(F.getD j Pl.off).up (h3 j d hj ((hset j hl).resolve_left e) hd) hb
   rw[hput v t (by rw[<- hdo];exact hk i hiN (by simp[eR]))];exact h4 t (fun j hj hl=>hk j hj (by unfold eR;cases Nat.beq j i<;>simp[hl]))
  have hon:onR (l.take k) f o=bU6 (l.take k) F o:=by
   unfold onR bU6;cases hg:o.guard with
   | none=>rfl
   | some jw=>
    obtain⟨j,w⟩:=jw;obtain⟨hd,dd,hdd⟩:=hO.guard i o j w hi hg;have hjN:j<(l.take k).length:=by have:=hO.lt i j hiN hd;omega
    have hy:=(F.getD j Pl.off).yld (h3 j dd hjN (hdep j hd) hdd);simp only[hdd,hy]
  rw[hon];cases honb:bU6 (l.take k) F o with
  | true=>rw[honb]at hs1;exact Stp.mono hs1 (fun v W2 hh=>next v W2 hh.1 hh.2)
  | false=>rw[honb]at hs1;exact next undef W' (Below.refl _ _) hs1
 rintro D f W' hD ⟨h1,h2,h3,h4⟩;exact fin f W' h1 h2 (fun i d hi hd=>h3 i d hi (hD i hi) hd) (fun t ht=>h4 t (fun i hi _=>oH ht i hi))
theorem sx_anyQ0 {id:Nat}{l:List Oper}{w0 W:World}{rs:List Res}{f0:Nat->Value}(F:List Pl) (hm:P.follows .mixedOrders=true) (ho:sC n l=true) (hst:St w0 W rs) (hs:AllSteps P n W w0 rs Q l F f0 0 l F)
  (fin:∀f W',St w0 W' rs->Below W.heap.size W W'->(∀i d,i<l.length->aW l i=some d->(F.getD i Pl.off).p (f d) W')->(∀t,gL l t=true->f t=f0 t)->Q .normal (act n f) W') :
  (Code.region id l.toArray true).wp P Q (act n f0) W:=by
 have h:=bK9 (P:=P) (n:=n) (Q:=Q) (id:=id) (l:=l) (f0:=f0) l.length F hm (by rw[take_length];exact ho) (by rw[drop_length];rfl) hst (by rw[take_length];exact hs) (by rw[take_length,drop_length];exact fun f W' a b c d=>bO (fin f W' a b c d));exact h
end
end Go.Proofs.YtpdgdnpajmcaeaaGreat
