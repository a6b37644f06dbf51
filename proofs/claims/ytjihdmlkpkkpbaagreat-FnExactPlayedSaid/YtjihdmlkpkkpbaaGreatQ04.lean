/-
  Shifts (a try).
  Bits of numbers that are no Nat by their form.
  Bytes of strings; xor; what stands for a number, and its sum.
  Numbers in bytes, read: the one number whose bytes stand at a place. Plain theory.
  A number's text, of both; told to the reader.
  Numbers in bytes, read, of the program and of the reference.
  Four bytes read as a number, of both.
  A number in four bytes, of both.
  A text's sum, of both; told to the reader.
  A mark's text, of both, given what a yard's text is.
  The laws' marks, told to the reader.
  TasksIn, of the program and of the reference.
  Slices of ints: what is their own is marked and held, two are compared, one is copied; small numbers within bounds.
  AllOver, LeftIn, EnoughFor, of the program and of the reference.
  DeedOk of the program, and what the reference looks at.
  DeedOk of the reference; SpanOk.
  The place of the first element that a test takes. Theory alone.
  When a shelf is right: of the program and of the reference.
  RunAt, Fresh, the entries, of the program and of the reference.
  ReadyOf, OldestOf, of the program and of the reference.
  Files found by their names and read, of the reference.
  Shelves in order, runs by their numbers, entries that are fresh, of both; told to the reader.
  Slots, and the entries of a run: of the program and of the reference.
  Slots that are taken, runs that stand in a yard as they should, of both; told to the reader.
  What waits for what: ways along edges, and that a short one is there where there is one. Theory alone.
  The reference's search: what it has met, while it goes on, and in the end. Theory alone.
  What is wrong with a plan. Theory alone.
  The tasks before and behind a task, in order. Theory alone.
  What is wrong with a plan: of the program and of the reference.
  What a sort leaves of an owned slice of numbers.
  slices.Sort over a slice of numbers of one's own.
  Plans that are right or not, what waits for what, of both; told to the reader.
  When a run is right. Theory alone.
  When a run is right: of the program and of the reference.
  Runs that are changed in place, of the program.
-/
import Derived.Laws.IdiomStrings
import Derived.Shelf.Sort.Plain
import Derived.Shelf.Slices.In.SortNone
import Derived.Test.YtjihdmlkpkkpbaaGreatQ01
import Derived.Test.YtjihdmlkpkkpbaaGreatQ02
import Derived.Test.YtjihdmlkpkkpbaaGreatQ03
set_option linter.unusedSimpArgs false
set_option linter.unusedVariables false
namespace Go.Proofs.YtjihdmlkpkkpbaaGreat
set_option maxHeartbeats 2000000
open Go.RowKit Go.Proofs.Tryz List Go.Lib
section
variable {P:Program}{n:Nat}{f:Nat->Value}{W:World}{Q:Exit->Act->World->Prop}{K:Value->World->Prop}{d:Option Tmp}{ty:TypeId}{pos:String}{af:Array Go.Edge}{g:Option (Nat×Bool)}{x y:Operand}{t t':TypeId}
theorem pow_fin:∀s:Fin 60,IntKind.i64.wrap (1*2 ^ min s.val 64)=((1 <<< s.val:Nat):Int):=by decide +kernel
theorem stp_shl1 {s:Nat}(hx:ev n f x=I 1) (hy:ev n f y=I (s:Int)) (hs:s<60) (k:K (I ((1 <<< s:Nat):Int)) W):Stp P n ⟨d,.binOp .shl t x y t',ty,pos,af,g⟩ f W Q K:=
 Stp.run (v:=I ((1 <<< s:Nat):Int)) (by
  have h:=pow_fin ⟨s,hs⟩;have hn:¬((s:Int)<0):=by omega
  simp only[execOp,hx,hy,Sem.run_bind,binOp,Op.shift,hn,if_false,Int.toNat_natCast,Sem.run_pure,Result.andThen_ok];simp only[show IntKind.i64.bits=64 from rfl,h];rfl) k
theorem stp_shr {a s:Nat}(hx:ev n f x=I (a:Int)) (hy:ev n f y=I (s:Int)) (hs:s<60) (k:K (I ((a >>> s:Nat):Int)) W):Stp P n ⟨d,.binOp .shr t x y t',ty,pos,af,g⟩ f W Q K:=
 Stp.run (v:=I ((a >>> s:Nat):Int)) (by
  have hn:¬((s:Int)<0):=by omega
  have hm:min s 64=s:=by omega
  have h:Int.fdiv (a:Int) (2 ^ s)=((a >>> s:Nat):Int):=by
   rw[Nat.shiftRight_eq_div_pow,Int.fdiv_eq_ediv_of_nonneg _ (by exact Int.le_of_lt (Int.pow_pos aA))]
   push_cast;rfl
  simp only[execOp,hx,hy,Sem.run_bind,binOp,Op.shift,hn,if_false,Int.toNat_natCast,Sem.run_pure,Result.andThen_ok];simp only[show IntKind.i64.bits=64 from rfl,hm,h];rfl) k
end
end Go.Proofs.YtjihdmlkpkkpbaaGreat
namespace Go.Proofs.YtjihdmlkpkkpbaaGreat
set_option maxHeartbeats 2000000
open Go.RowKit Go.Proofs.Tryz List Go.Lib
def orI (a b:Int):Int:=((a.toNat ||| b.toNat:Nat):Int)
def cE7 (a b:Int):Int:=((a.toNat &&& b.toNat:Nat):Int)
def bL3 (s:Int):Int:=((1 <<< s.toNat:Nat):Int)
def aR0 (a s:Int):Int:=((a.toNat >>> s.toNat:Nat):Int)
section
variable {P:Program}{n:Nat}{f:Nat->Value}{W:World}{Q:Exit->Act->World->Prop}{K:Value->World->Prop}{d:Option Tmp}{ty:TypeId}{pos:String}{af:Array Go.Edge}{g:Option (Nat×Bool)}{x y:Operand}{t t':TypeId}
theorem aA9 {x:Operand}{a:Int}(h:ev n f x=I a) (h0:0<=a):ev n f x=I ((a.toNat:Nat):Int):=by rw[Int.toNat_of_nonneg h0];exact h
theorem cH5 {a b:Int}(hx:ev n f x=I a) (hy:ev n f y=I b) (ha:0<=a/\a<4294967296) (hb:0<=b/\b<4294967296) (k:K (I (orI a b)) W):Stp P n ⟨d,.binOp .or t x y t',ty,pos,af,g⟩ f W Q K:=
 stp_or (aA9 hx ha.1) (aA9 hy hb.1) aA aA k
theorem stp_andI {a b:Int}(hx:ev n f x=I a) (hy:ev n f y=I b) (ha:0<=a/\a<4294967296) (hb:0<=b/\b<4294967296) (k:K (I (cE7 a b)) W):Stp P n ⟨d,.binOp .and t x y t',ty,pos,af,g⟩ f W Q K:=
 stp_and (aA9 hx ha.1) (aA9 hy hb.1) aA aA k
theorem stp_shlI {s:Int}(hx:ev n f x=I 1) (hy:ev n f y=I s) (hs:0<=s/\s<60) (k:K (I (bL3 s)) W):Stp P n ⟨d,.binOp .shl t x y t',ty,pos,af,g⟩ f W Q K:=
 stp_shl1 hx (aA9 hy hs.1) aA k
theorem stp_shrI {a s:Int}(hx:ev n f x=I a) (hy:ev n f y=I s) (ha:0<=a) (hs:0<=s/\s<60) (k:K (I (aR0 a s)) W):Stp P n ⟨d,.binOp .shr t x y t',ty,pos,af,g⟩ f W Q K:=
 stp_shr (aA9 hx ha) (aA9 hy hs.1) aA k
end
theorem bM7 {a b:Int}(ha:0<=a/\a<4294967296) (hb:0<=b/\b<4294967296):0<=orI a b/\orI a b<4294967296:=by
 have h:=Nat.or_lt_two_pow (n:=32) (x:=a.toNat) (y:=b.toNat) aA aA;unfold orI;generalize a.toNat ||| b.toNat=m at h ⊢
 omega
theorem aR1 {s:Int}(hs:0<=s/\s<32):0<=bL3 s/\bL3 s<4294967296:=by
 have h:1 <<< s.toNat<2 ^ 32:=by
  rw[Nat.one_shiftLeft];exact Nat.pow_lt_pow_right aA aA
 unfold bL3;generalize 1 <<< s.toNat=m at h ⊢;omega
theorem shrI_rng {a s:Int}(ha:0<=a/\a<4294967296):0<=aR0 a s/\aR0 a s<4294967296:=by
 have h:=Nat.shiftRight_le a.toNat s.toNat;unfold aR0;generalize a.toNat >>> s.toNat=m at h ⊢;omega
theorem andI_one (a s:Int):cE7 (aR0 a s) 1=if a.toNat.testBit s.toNat then 1 else 0:=by
 unfold cE7 aR0;simp only[Int.toNat_natCast,Int.toNat_one];rw[Nat.testBit,Nat.and_comm 1,];have h:=Nat.and_one_is_mod (a.toNat >>> s.toNat);rw[h];have:a.toNat >>> s.toNat % 2=0∨a.toNat >>> s.toNat % 2=1:=by omega
 rcases this with h | h<;>simp[h]
def eU (ms:List Nat):List Int:=ms.map (fun m:Nat=>(m:Int))
theorem bH3 (ms:List Nat):(eU ms).length=ms.length:=by simp[eU]
theorem oK {ms:List Nat}(hB:∀m∈ms,m<4294967296) (i:Nat) (h:i<(eU ms).length):0<=(eU ms)[i]/\(eU ms)[i]<4294967296:=by
 simp only[eU,getElem_map];have:=hB (ms[i]'(by simpa [eU] using h)) (getElem_mem _);omega
theorem aX6 {ms:List Nat}{i:Nat}(h:i<(eU ms).length):(eU ms)[i].toNat=ms.getD i 0:=by
 have h':i<ms.length:=by simpa [eU] using h
 simp[eU,List.getD,h']
theorem castL_set (ms:List Nat) (i:Nat) (m:Nat):(eU ms).set i (m:Int)=eU (ms.set i m):=by
 simp[eU,map_set]
theorem castL_rep (n:Nat):List.replicate n (0:Int)=eU (List.replicate n 0):=by simp[eU]
end Go.Proofs.YtjihdmlkpkkpbaaGreat
namespace Go.Proofs.YtjihdmlkpkkpbaaGreat
set_option maxHeartbeats 2000000
open Go.RowKit Go.Proofs.Tryz List Go.Lib
def qC (a b:Int):Int:=((a.toNat ^^^ b.toNat:Nat):Int)
theorem tH {a b:Int}(ha:0<=a/\a<4294967296) (hb:0<=b/\b<4294967296):0<=qC a b/\qC a b<4294967296:=by
 have h:=Nat.xor_lt_two_pow (n:=32) (x:=a.toNat) (y:=b.toNat) aA aA;unfold qC;generalize a.toNat ^^^ b.toNat=m at h ⊢;omega
section
variable {P:Program}{n:Nat}{f:Nat->Value}{W:World}{Q:Exit->Act->World->Prop}{K:Value->World->Prop}{d:Option Tmp}{ty:TypeId}{pos:String}{af:Array Go.Edge}{g:Option (Nat×Bool)}{x y:Operand}{t t':TypeId}
theorem stp_xor {a b:Nat}(hx:ev n f x=I (a:Int)) (hy:ev n f y=I (b:Int)) (ha:a<2 ^ 32) (hb:b<2 ^ 32) (k:K (I ((a ^^^ b:Nat):Int)) W):Stp P n ⟨d,.binOp .xor t x y t',ty,pos,af,g⟩ f W Q K:=
 Stp.run (v:=I ((a ^^^ b:Nat):Int)) (by
  have h:=Nat.xor_lt_two_pow ha hb;have hw:IntKind.i64.wrap ((BitVec.ofInt 64 (a:Int) ^^^ BitVec.ofInt 64 (b:Int)).toNat:Int)=((a ^^^ b:Nat):Int):=by
   rw[BitVec.toNat_xor,kS a ha,kS b hb];exact jU ⟨by omega,by omega⟩
  simp[execOp,hx,hy,go_sem];exact hw) k
theorem stp_xorI {a b:Int}(hx:ev n f x=I a) (hy:ev n f y=I b) (ha:0<=a/\a<4294967296) (hb:0<=b/\b<4294967296) (k:K (I (qC a b)) W):Stp P n ⟨d,.binOp .xor t x y t',ty,pos,af,g⟩ f W Q K:=
 stp_xor (aA9 hx ha.1) (aA9 hy hb.1) aA aA k
end
theorem byte_rng (b:UInt8):0<=(b.toNat:Int)/\(b.toNat:Int)<256:=by have:=b.toNat_lt;omega
def aP (n:Nat):List UInt8:=if 128<=n then UInt8.ofNat (128+n % 128)::aP (n / 128) else [UInt8.ofNat n]
termination_by n
decreasing_by omega
theorem pN {n:Nat}(h:128<=n):aP n=UInt8.ofNat (128+n % 128)::aP (n / 128):=by rw[aP,if_pos h]
theorem jH {n:Nat}(h:¬128<=n):aP n=[UInt8.ofNat n]:=by rw[aP,if_neg h]
theorem qF:∀(d n:Nat),n<128 ^ (d+1)->(aP n).length<=d+1:=by
 intro d
 induction d with
 | zero=>intro n h;rw[jH (by simpa using h)];simp
 | succ d ih=>
  intro n h;by_cases h1:128<=n
  ·rw[pN h1,length_cons];have:=ih (n / 128) (by rw[Nat.div_lt_iff_lt_mul aA];rw[Nat.pow_succ]at h;exact h);omega
  rw[jH h1];simp
def aU (n:Int):ByteArray:=if inB n 0 1000000000 then ⟨(aP n.toNat).toArray⟩ else ⟨#[]⟩
def uB (s:Int):Int:=if s % 2=1 then qC (s / 2) 3988292384 else s / 2
def wC:Nat->Int->Int
 | 0,s=>s
 | k+1,s=>uB (wC k s)
theorem crcBit_rng {s:Int}(h:0<=s/\s<4294967296):0<=uB s/\uB s<4294967296:=by
 unfold uB;split
 ·exact tH aA aA
 omega
theorem aB8 {s:Int}(h:0<=s/\s<4294967296):∀k,0<=wC k s/\wC k s<4294967296
 | 0=>h
 | k+1=>crcBit_rng (aB8 h k)
def aD2 (l:List UInt8):Int:=l.foldl (fun s b=>wC 8 (qC s (b.toNat:Int))) 4294967295
theorem aQ5 (l:List UInt8):0<=aD2 l/\aD2 l<4294967296:=by
 unfold aD2;have:∀(l:List UInt8) (s:Int),0<=s/\s<4294967296->0<=l.foldl (fun s b=>wC 8 (qC s (b.toNat:Int))) s/\l.foldl (fun s b=>wC 8 (qC s (b.toNat:Int))) s<4294967296:=by
  intro l
  induction l with
  | nil=>intro s h;exact h
  | cons b l ih=>intro s h;exact ih _ (aB8 (tH h (by have:=byte_rng b;omega)) 8)
 exact this l _ aA
theorem sumL_to {l:List UInt8}{i:Nat}(h:i<l.length):aD2 (l.take (i+1))=wC 8 (qC (aD2 (l.take i)) (l[i].toNat:Int)):=by
 unfold aD2;rw[take_succ_eq_append_getElem h,foldl_append];rfl
def cA (t:ByteArray):Int:=qC (aD2 t.data.toList) 4294967295
theorem aD1 (t:ByteArray):0<=cA t/\cA t<4294967296:=tH (aQ5 _) aA
def aX (id:Int):Int:=if aU id=⟨#[]⟩ then 0 else cA (aU id) % 4
theorem gE (id:Int):0<=aX id/\aX id<4:=by unfold aX;split<;>omega
theorem eW (id:Int):(aU id).size<=5:=by
 unfold aU;split
 ·rename_i h;rw[inB_iff']at h;show (aP id.toNat).toArray.size<=5;rw[size_toArray];exact qF 4 _ aA
 exact Nat.zero_le _
end Go.Proofs.YtjihdmlkpkkpbaaGreat
namespace Go.Proofs.YtjihdmlkpkkpbaaGreat
set_option maxRecDepth 100000
set_option maxHeartbeats 2000000
open Go.RowKit Go.Proofs.Tryz List
def fE:List UInt8->Nat
 | []=>0
 | b::l=>b.toNat % 128+128*fE l
def wD:List UInt8->Prop
 | []=>False
 | [b]=>b.toNat<128
 | b::c::l=>128<=b.toNat/\wD (c::l)
theorem qO {l:List UInt8}(h:wD l):l≠[]:=by
 cases l with
 | nil=>exact h.elim
 | cons=>simp
theorem u8_mk {n:Nat}(h:n<256):(UInt8.ofNat n).toNat=n:=by
 rw[UInt8.toNat_ofNat'];omega
theorem u8_of (b:UInt8):UInt8.ofNat b.toNat=b:=by simp
theorem bH (n:Nat):wD (aP n)/\fE (aP n)=n:=by
 induction n using Nat.strongRecOn with
 | ind n ih=>
  by_cases h:128<=n
  ·obtain⟨h1,h2⟩:=ih (n / 128) aA;rw[pN h];have e:(UInt8.ofNat (128+n % 128)).toNat=128+n % 128:=u8_mk aA;refine⟨?_,?_⟩
   ·cases hv:aP (n / 128) with
    | nil=>rw[hv]at h1;exact h1.elim
    | cons c l=>rw[hv]at h1;exact⟨by rw[e];omega,h1⟩
   show (UInt8.ofNat (128+n % 128)).toNat % 128+128*fE (aP (n / 128))=n;rw[h2,e];omega
  rw[jH h];have e:(UInt8.ofNat n).toNat=n:=u8_mk aA;refine⟨?_,?_⟩
  ·show (UInt8.ofNat n).toNat<128;rw[e];omega
  show (UInt8.ofNat n).toNat % 128+128*0=n;rw[e];omega
theorem wZ:∀{l:List UInt8},wD l->(aP (fE l)).length<=l.length/\((aP (fE l)).length=l.length->aP (fE l)=l)
 | [],h=>h.elim
 | [b],h=>by
  have hb:b.toNat<128:=h;have e:fE [b]=b.toNat:=by show b.toNat % 128+128*0=_;omega
  rw[e,jH aA,u8_of];exact⟨Nat.le_refl _,fun _=>rfl⟩
 | b::c::l,h=>by
  obtain⟨hb,hg⟩:=h;obtain⟨h1,h2⟩:=wZ hg;have hb2:=b.toNat_lt;have e:fE (b::c::l)=b.toNat % 128+128*fE (c::l):=rfl;by_cases h0:fE (c::l)=0
  ·rw[e,h0,jH aA];exact⟨by simp,fun h=>by simp at h⟩
  rw[e,pN aA];have e1:(b.toNat % 128+128*fE (c::l)) % 128=b.toNat % 128:=by omega
  have e2:(b.toNat % 128+128*fE (c::l)) / 128=fE (c::l):=by omega
  have e3:128+b.toNat % 128=b.toNat:=by omega
  rw[e1,e2,e3,u8_of];refine⟨by simp only[length_cons]at *;omega,fun h=>?_⟩;rw[h2 (by simp only[length_cons]at *;omega)]
theorem nS:∀{a b l:List UInt8},wD a->wD b->a <+: l->b <+: l->a=b
 | [],_,_,h,_,_,_=>h.elim
 | _::_,[],_,_,h,_,_=>h.elim
 | x::a,y::b,[],_,_,h,_=>by simp at h
 | x::a,y::b,z::l,ha,hb,h1,h2=>by
  obtain⟨e1,h3⟩:=cons_prefix_cons.1 h1;obtain⟨e2,h4⟩:=cons_prefix_cons.1 h2;have e:y=x:=e2.trans e1.symm;subst e;cases a with
  | nil=>
   cases b with
   | nil=>rfl
   | cons c b=>exact absurd (show y.toNat<128 from ha) (Nat.not_lt.2 hb.1)
  | cons c a=>
   cases b with
   | nil=>exact absurd (show y.toNat<128 from hb) (Nat.not_lt.2 ha.1)
   | cons d b=>rw[nS ha.2 hb.2 h3 h4]
noncomputable def fM (l:List UInt8):Option (Nat×Nat) := @dite _ (∃n:Nat,n<=1000000000/\aP n <+: l) (Classical.propDecidable _) (fun h=>some (Classical.choose h,(aP (Classical.choose h)).length)) (fun _=>none)
theorem sA {l:List UInt8}{n:Nat}(h:n<=1000000000) (hp:aP n <+: l):fM l=some (n,(aP n).length):=by
 have hx:∃n:Nat,n<=1000000000/\aP n <+: l:=⟨n,h,hp⟩;unfold fM;rw[dif_pos hx];have hc:=Classical.choose_spec hx;have e:=nS (bH _).1 (bH n).1 hc.2 hp;have e2:Classical.choose hx=n:=by rw[<- (bH (Classical.choose hx)).2,e,(bH n).2]
 rw[e2]
theorem nU {l:List UInt8}(h:∀n:Nat,n<=1000000000->¬aP n <+: l):fM l=none:=by
 unfold fM;rw[dif_neg fun ⟨n,h1,h2⟩=>h n h1 h2]
theorem jG {l:List UInt8}{n k:Nat}(h:fM l=some (n,k)):n<=1000000000/\aP n <+: l/\k=(aP n).length:=by
 unfold fM at h;split at h
 ·next hx=>
  simp only[Option.some.injEq,Prod.mk.injEq]at h;have hc:=Classical.choose_spec hx;obtain⟨h1,h2⟩:=h;rw[h1]at hc h2;exact⟨hc.1,hc.2,h2.symm⟩
 cases h
structure VJ (l:List UInt8) (i:Nat):Prop where
 le:i<=l.length
 up:∀j (h:j<l.length),j<i->128<=l[j].toNat
theorem vdec_app (l:List UInt8) (b:UInt8):fE (l++[b])=fE l+b.toNat % 128*128 ^ l.length:=by
 induction l with
 | nil=>simp[fE]
 | cons c l ih=>
  show c.toNat % 128+128*fE (l++[b])=c.toNat % 128+128*fE l+_;rw[ih,length_cons,Nat.pow_succ,Nat.mul_add,<- Nat.add_assoc,Nat.mul_comm 128 (b.toNat % 128*_),Nat.mul_assoc]
theorem bA8:∀{l:List UInt8}{b:UInt8},(∀c∈l,128<=c.toNat)->b.toNat<128->wD (l++[b])
 | [],b,_,hb=>hb
 | [c],b,h,hb=>⟨h c (by simp),hb⟩
 | c::d::l,b,h,hb=>⟨h c (by simp),bA8 (l:=d::l) (fun x hx=>h x (mem_cons_of_mem _ hx)) hb⟩
theorem VJ.mem {l:List UInt8}{i:Nat}(h:VJ l i):∀c∈l.take i,128<=c.toNat:=by
 intro c hc;obtain⟨j,hj,rfl⟩:=getElem_of_mem hc;rw[length_take]at hj;rw[getElem_take];exact h.up j aA aA
theorem VJ.good {l:List UInt8}{i:Nat}{b:UInt8}(h:VJ l i) (hb:l[i]? = some b) (h2:b.toNat<128):wD (l.take (i+1)):=by
 obtain⟨hi,rfl⟩:=gsi_.1 hb;rw[take_succ_eq_append_getElem hi];exact bA8 h.mem h2
theorem VJ.next {l:List UInt8}{i:Nat}{b:UInt8}(h:VJ l i) (hb:l[i]? = some b) (h2:¬b.toNat<128):VJ l (i+1):=by
 obtain⟨hi,rfl⟩:=gsi_.1 hb;refine⟨hi,fun j hj hlt=>?_⟩;rcases Nat.lt_succ_iff_lt_or_eq.1 hlt with h3 | rfl
 ·exact h.up j hj h3
 omega
theorem VJ.found {l:List UInt8}{i:Nat}{b:UInt8}(h:VJ l i) (hb:l[i]? = some b) (h2:b.toNat<128) (hn:fE (l.take (i+1))<=1000000000) (hlen:(aP (fE (l.take (i+1)))).length=i+1):fM l=some (fE (l.take (i+1)),i+1):=by
 have hi:=(gsi_.1 hb).1;have hg:=h.good hb h2;have hl:(l.take (i+1)).length=i+1:=by rw[length_take];omega
 have e:=(wZ hg).2 (by rw[hl];exact hlen);have:=sA hn (l:=l) (by rw[e];exact take_prefix _ _);rw[this,hlen]
theorem VJ.not {l:List UInt8}{i:Nat}{b:UInt8}(h:VJ l i) (hb:l[i]? = some b) (h2:b.toNat<128) (hn:¬(fE (l.take (i+1))<=1000000000/\(aP (fE (l.take (i+1)))).length=i+1)):fM l=none:=by
 refine nU fun n h1 hp=>hn ?_
 have hi:=(gsi_.1 hb).1;have hg:=h.good hb h2;have hl:(l.take (i+1)).length=i+1:=by rw[length_take];omega
 have e:=nS hg (bH n).1 (take_prefix _ _) hp;have e2:=(bH n).2;rw[<- e]at e2;rw[e2];exact⟨h1,by rw[<- e,hl]⟩
theorem VJ.five {l:List UInt8}(h:VJ l 5):fM l=none:=by
 refine nU fun n h1 hp=>?_
 have h3:=qF 4 n aA;have hg:=(bH n).1;have hle:=hp.length_le;obtain⟨t,ht⟩:=hp;have key:∀(g:List UInt8) (l:List UInt8) (t:List UInt8),wD g->g++t=l->∃j,j+1=g.length/\∃b,l[j]? = some b/\b.toNat<128:=by
  intro g
  induction g with
  | nil=>intro l t h _;exact h.elim
  | cons x g ih=>
   intro l t hg he;cases g with
   | nil=>exact⟨0,rfl,x,by rw[<- he];rfl,hg⟩
   | cons y g=>
    obtain⟨j,hj,b,hb,hlt⟩:=ih (y::g++t) t hg.2 rfl;exact⟨j+1,by rw[hj];rfl,b,by rw[<- he];exact hb,hlt⟩
 obtain⟨j,hj,b,hb,hlt⟩:=key _ l t hg ht;obtain⟨hjl,rfl⟩:=gsi_.1 hb;have:=h.up j hjl aA;omega
theorem VJ.ends {l:List UInt8}{i:Nat}(h:VJ l i) (hi:l.length<=i):fM l=none:=by
 refine nU fun n h1 hp=>?_
 have hg:=(bH n).1;obtain⟨t,ht⟩:=hp;have key:∀(g:List UInt8),wD g->∃b∈g,b.toNat<128:=by
  intro g
  induction g with
  | nil=>intro h;exact h.elim
  | cons x g ih=>
   intro hg;cases g with
   | nil=>exact⟨x,by simp,hg⟩
   | cons y g=>
    obtain⟨b,hb,hlt⟩:=ih hg.2;exact⟨b,mem_cons_of_mem _ hb,hlt⟩
 obtain⟨b,hb,hlt⟩:=key _ hg;have hb2:b∈l:=by rw[<- ht];exact mem_append_left _ hb
 obtain⟨j,hj,rfl⟩:=getElem_of_mem hb2;have:=h.up j hj aA;omega
def cC (x:Int):UInt8:=UInt8.ofNat (x % 256).toNat
theorem mH (x:Int):((cC x).toNat:Int)=x % 256:=by
 unfold cC;rw[UInt8.toNat_ofNat'];omega
theorem jJ {P:Program}{t t':TypeId}(x:Int) (hs:(P.underlying t).isSome=true) (hd:P.underlying t'=some (.int .u8)):COk P t t' (I x) (U (cC x)):=by
 intro n f W Q K d ty pos af g xo hx k;refine Stp.run (v:=U (cC x)) ?_ k;have hw:IntKind.u8.wrap x=x % 256:=by simp[IntKind.wrap,IntKind.bits,IntKind.signed]
 have hd':P.underlying t'=some (.int (P.intKind t')):=by rw[aV4 hd];exact hd
 have:=run_convert_int (P:=P) W t t' .i64 x hs hd';rw[aV4 hd,hw]at this;simp only[execOp,hx,Sem.run_bind,this,Result.andThen_ok];show Result.ok (Next.value (Value.int .u8 (x % 256))) W=Result.ok (Next.value (Value.int .u8 ((cC x).toNat:Int))) W;rw[mH]
theorem bL (x a b:Int):Ct1 prog 50 [.I x,.I a,.I b] [.B (inB x a b)]:=
 .one (inB x a b) (rk:=(fun a=>[.B a]))<|vc func50 (fun hg=>.s (a<=x) (fun h1=>.rt (decide (x<=b)) ⟨by unfold inB;simp[*],trivial⟩) (fun h1=>.rt false ⟨by unfold inB;simp[*],trivial⟩)) aB
theorem InV (x a b:Int):Ct1 prog 37 [.I x,.I a,.I b] [.B (inB x a b)]:=
 .one (inB x a b) (rk:=(fun a=>[.B a]))<|vc func37 (fun hg=>.s (a<=x) (fun h1=>.rt (decide (x<=b)) ⟨by unfold inB;simp[*],trivial⟩) (fun h1=>.rt false ⟨by unfold inB;simp[*],trivial⟩)) aB
structure VtJ (id:Int) (g:Int×List UInt8):Prop where
 rng:0<=g.1/\g.1<=1000000000
 vb:g.2++aP g.1.toNat=aP id.toNat
theorem VtJ.len {id:Int}{g:Int×List UInt8}(h:VtJ id g) (hb:inB id 0 1000000000=true):g.2.length<=5:=by
 have h1:=inB_iff'.1 hb;have h2:=qF 4 id.toNat aA;rw[<- h.vb,length_append]at h2;omega
theorem VtJ.step {id:Int}{g:Int×List UInt8}(h:VtJ id g) (h2:128<=g.1) {e:Int}(he:e=g.1 % 128+128):VtJ id (g.1 / 128,g.2++[cC e]):=by
 have h1:=h.rng;refine⟨⟨by show 0<=g.1 / 128;omega,by show g.1 / 128<=_;omega⟩,?_⟩;show g.2++[cC e]++aP (g.1 / 128).toNat=_;rw[<- h.vb,pN (n:=g.1.toNat) aA,append_assoc,he];unfold cC;rw[show ((g.1 % 128+128) % 256).toNat=128+g.1.toNat % 128 by omega,show (g.1 / 128).toNat=g.1.toNat / 128 by omega];rfl
theorem VtJ.all {id:Int}{g:Int×List UInt8}(h:VtJ id g) (h2:¬128<=g.1) (hb:inB id 0 1000000000=true):(⟨(g.2++[cC g.1]).toArray⟩:ByteArray)=aU id:=by
 have h1:=h.rng;unfold aU cC;rw[if_pos hb,<- h.vb,jH aA,show (g.1 % 256).toNat=g.1.toNat by omega]
theorem vt_no {n:Int}(h:inB n 0 1000000000=false):(⟨#[]⟩:ByteArray)=aU n:=by unfold aU;rw[h];rfl
theorem aH2 (id:Int):Ct1 prog 160 [.I id] [.T (aU id)]:=
 .one (aU id) (rk:=fun a=>[.T a])<|vc func160 (fun hg=>.c func50 (bL id 0 1000000000) fun _=>.v (inB id 0 1000000000)
  (fun hb=>.rt ⟨#[]⟩ ⟨vt_no hb,trivial⟩)
  (fun hb=>.w UInt8 5 3<|.la (Γ:=Int×List UInt8) (VtJ id) (fun g=>g.1.toNat) (fun g=>[vI 0 g.1,vR 3 0]) (fun g=>[oR 0 5 g.2]) (id,[]) (h:=⟨inB_iff'.1 hb,rfl⟩) fun g hJ t=>
   let hl:=hJ.len hb
   let hr:=hJ.rng
   .s (128<=g.1)
    (fun h=>.q g.1 128 (h:=by omega)<|.p (g.1 % 128) 128<|.pc (jJ (t:=3) (t':=5) (g.1 % 128+128) rfl underlying5)<|.a g.2 (cC (g.1 % 128+128)) 1 (hy:=trivial) (hby:=by omega) <|
     .q g.1 128 (h:=by omega)<|.n t (g.1 / 128,g.2++[cC (g.1 % 128+128)]) [] (h1:=hJ.step h rfl) (h2:=by show (g.1 / 128).toNat<_;omega))
    (fun h=>.pc (jJ (t:=3) (t':=5) g.1 rfl underlying5)<|.a g.2 (cC g.1) 1 (hy:=trivial) (hby:=by omega)<|.so (g.2++[cC g.1])<|.rt ⟨(g.2++[cC g.1]).toArray⟩ ⟨hJ.all h hb,trivial⟩))) aB
theorem aH1 (id:Int):Ct1 prog 127 [.I id] [.T (aU id)]:=
 .one (aU id) (rk:=fun a=>[.T a])<|vc func127 (fun hg=>.c func37 (InV id 0 1000000000) fun _=>.v (inB id 0 1000000000)
  (fun hb=>.rt ⟨#[]⟩ ⟨vt_no hb,trivial⟩)
  (fun hb=>.e UInt8<|.l (Γ:=Int×List UInt8) (VtJ id) (fun g=>g.1.toNat) [777777,7] [777777] [777777] (fun g=>[vI 0 g.1,vR 3 0]) (fun g=>[oR 0 5 g.2]) (id,[]) (h:=⟨inB_iff'.1 hb,rfl⟩) fun g hJ t=>
   let hl:=hJ.len hb
   let hr:=hJ.rng
   .s (127<g.1)
    (fun h=>.q g.1 128 (h:=by omega)<|.p 128 (g.1 % 128)<|.pc (jJ (t:=3) (t':=5) (128+g.1 % 128) rfl underlying5)<|.a g.2 (cC (128+g.1 % 128)) 1 (hy:=trivial) (hby:=by omega) <|
     .q g.1 128 (h:=by omega)<|.n t (g.1 / 128,g.2++[cC (128+g.1 % 128)]) [] (h1:=hJ.step aA (Int.add_comm _ _)) (h2:=by show (g.1 / 128).toNat<_;omega))
    (fun h=>.pc (jJ (t:=3) (t':=5) g.1 rfl underlying5)<|.a g.2 (cC g.1) 1 (hy:=trivial) (hby:=by omega)<|.so (g.2++[cC g.1])<|.rt ⟨(g.2++[cC g.1]).toArray⟩ ⟨hJ.all aA hb,trivial⟩))) aB
theorem pow_fin29:∀s:Fin 29,(2:Int) ^ s.val<=268435456/\0<(2:Int) ^ s.val:=by decide +kernel
theorem hk_shl {P:Program}{x y z:Int}(hx:0<=x/\x<128) (hy:0<=y/\y<=28) (hz:z=x*2 ^ y.toNat):BOk P .shl (I x) (I y) (I z):=by
 subst hz;intro n f W Q K d ty pos af g t t' xo yo h1 h2 k;refine Stp.run (v:=I (x*2 ^ y.toNat)) ?_ k;have hn:¬(y<0):=by omega
 have hm:min y.toNat 64=y.toNat:=by omega
 have hp:=pow_fin29 ⟨y.toNat,by omega⟩;simp only at hp;have hb:x*2 ^ y.toNat<=128*268435456:=Int.mul_le_mul aA hp.1 aA aA;have h0:0<=x*2 ^ y.toNat:=Int.mul_nonneg hx.1 aA;have hw:IntKind.i64.wrap (x*2 ^ y.toNat)=x*2 ^ y.toNat:=jU ⟨by omega,by omega⟩;simp only[execOp,h1,h2,Sem.run_bind,binOp,Op.shift,hn,if_false,Sem.run_pure,Result.andThen_ok];simp only[show IntKind.i64.bits=64 from rfl,hm,hw];rfl
noncomputable def vAt (s:ByteArray) (a:Nat):Int×Int:=
 match fM (s.data.toList.drop a) with
 | some (n,k)=>((n:Int),(a:Int)+k)
 | none=>(0,-1)
theorem iG {s:ByteArray}{a:Nat}(h:fM (s.data.toList.drop a)=none):(0,-1)=vAt s a:=by unfold vAt;rw[h]
theorem qP {s:ByteArray}{a n k:Nat}(h:fM (s.data.toList.drop a)=some (n,k)):((n:Int),(a:Int)+k)=vAt s a:=by unfold vAt;rw[h]
theorem mS {s:ByteArray}{a i:Nat}{c:UInt8}(h:s.data.toList[a+i]? = some c):(s.data.toList.drop a)[i]? = some c:=by rw[getElem?_drop];exact h
theorem at_lt {s:ByteArray}{a i:Nat}(h:(a:Int)+i<s.size):a+i<s.data.toList.length:=by
 have:s.data.toList.length=s.size:=rfl;omega
theorem jY (s:ByteArray) (a:Nat):(s.data.toList.drop a).length=s.size-a:=by rw[length_drop];rfl
theorem VJ.zero (l:List UInt8):VJ l 0:=⟨Nat.zero_le _,fun j _ h=>by omega⟩
theorem bB0 {l:List UInt8}{i:Nat}{c:UInt8}(h:l[i]? = some c):fE (l.take (i+1))=fE (l.take i)+c.toNat % 128*128 ^ i:=by
 obtain⟨hi,rfl⟩:=gsi_.1 h;rw[take_succ_eq_append_getElem hi,vdec_app,length_take,Nat.min_eq_left aA]
theorem cF4:∀l:List UInt8,fE l<128 ^ l.length
 | []=>by simp[fE]
 | b::l=>by
  have:=cF4 l;show b.toNat % 128+128*fE l<128 ^ (l.length+1);rw[Nat.pow_succ];omega
theorem cJ7 {i:Nat}(h:i<=5):128 ^ i<=34359738368:=by
 have:=Nat.pow_le_pow_right (n:=128) aA h;simpa using this
theorem bA9 (l:List UInt8) {i:Nat}(h:i<=5):fE (l.take i)<34359738368:=by
 have h1:=cF4 (l.take i);have h2:=Nat.pow_le_pow_right (n:=128) aA (show (l.take i).length<=i by rw[length_take];omega);have:=cJ7 h;omega
theorem cE1 (c:UInt8) {i:Nat}(h:i<=4):c.toNat % 128*128 ^ i<=127*268435456:=by
 have h1:128 ^ i<=268435456:=by
  have:=Nat.pow_le_pow_right (n:=128) aA h;simpa using this
 exact Nat.mul_le_mul aA h1
theorem shl_eq (c:UInt8) (i:Nat):((c.toNat % 128*128 ^ i:Nat):Int)=((c.toNat:Int) % 128)*2 ^ (7*(i:Int)).toNat:=by
 have e:(7*(i:Int)).toNat=7*i:=by omega
 rw[e,Int.natCast_mul,Int.natCast_pow,Int.pow_mul];rfl
theorem vt_len {n:Nat}{i:Nat}:((aU (n:Int)).size:Int)=(i:Int)+1↔n<=1000000000/\(aP n).length=i+1:=by
 unfold aU;by_cases h:inB (n:Int) 0 1000000000=true
 ·rw[if_pos h];have:=inB_iff'.1 h;have e:((⟨(aP (n:Int).toNat).toArray⟩:ByteArray).size)=(aP n).length:=by simp[ByteArray.size]
  rw[e];constructor
  ·intro h2;exact⟨by omega,by omega⟩
  intro h2;omega
 rw[if_neg h];have h2:¬n<=1000000000:=fun h3=>h (inB_iff'.2 ⟨by omega,by omega⟩)
 constructor
 ·intro h3;have:((⟨#[]⟩:ByteArray).size:Int)=0:=rfl;omega
 intro h3;exact absurd h3.1 h2
theorem cB0 (n:Int):Ct1 prog 160 [.I n] [.T (aU n)]:=aH2 n
theorem bI7 (n:Int):Ct1 prog 127 [.I n] [.T (aU n)]:=aH1 n
theorem cF0 (s:ByteArray) (a:Nat) (hs:s.size<=1048576) (ha:a<=1048576):Ct1 prog 310 [.T s,.I a] [.I (vAt s a).1,.I (vAt s a).2]:=
 .one (vAt s a) (rk:=fun a=>[.I a.1,.I a.2])<|vc func310 (fun hg=>.m s.size 1<|.c func50 (bL a 0 ((s.size:Int)-1)) fun _=>.v (inB (a:Int) 0 ((s.size:Int)-1))
  (fun hb=>.rt (0,-1) ⟨iG ((VJ.zero _).ends (by
   rw[jY];have h2:¬(0<=(a:Int)/\(a:Int)<=(s.size:Int)-1):=fun h=>by rw[inB_iff'.2 h]at hb;cases hb
   omega)),trivial⟩)
  (fun hb=>.l (Γ:=Nat) (fun i=>VJ (s.data.toList.drop a) i/\i<=5) (fun i=>5-i) [0,1] [] [] (fun i=>[vI 6 (fE ((s.data.toList.drop a).take i)),vI 7 i]) (fun _=>[]) 0 (h:=⟨VJ.zero _,by omega⟩) fun i hJ t=>
   .s ((i:Int)<5)
    (fun hi=>.p a i<|.s ((a:Int)+i<s.size)
     (fun h2=>.ex (p:=fun c=>s.data.toList[a+i]? = some c) ⟨_,getElem?_eq_getElem (at_lt h2)⟩ fun c hc=>
      .p a i<|.px (aA1 (t:=9) (i:=a+i) (e:=(a:Int)+i) underlying9 hc aA)<|.pc (sM (t:=5) (t':=3) c underlying5 underlying3) <|
      .q c.toNat 128 (h:=by have:=gH c;omega)<|.o 7 i (h:=by unfold I64;omega) <|
      .pb .shl (hk_shl (x:=(c.toNat:Int) % 128) (y:=7*(i:Int)) aA aA (shl_eq c i)) <|
      .p (fE ((s.data.toList.drop a).take i)) ((c.toNat % 128*128 ^ i:Nat):Int) (h:=by have:=bA9 (s.data.toList.drop a) hJ.2;have:=cE1 c (i:=i) aA;unfold I64;omega) <|
      .rv 39 (I (fE ((s.data.toList.drop a).take (i+1)))) (show I ((fE ((s.data.toList.drop a).take i):Int)+((c.toNat % 128*128 ^ i:Nat):Int))=I (fE ((s.data.toList.drop a).take (i+1))) from congrArg I (by rw[bB0 (mS hc)];omega)) <|
      .s ((c.toNat:Int)<128)
       (fun h3=>.c func160 (cB0 (fE ((s.data.toList.drop a).take (i+1)))) fun _=>.p i 1 (h:=by unfold I64;omega) <|
        .u (((aU (fE ((s.data.toList.drop a).take (i+1)):Int)).size:Int)=(i:Int)+1)
         (fun h4=>.rt (0,-1) ⟨iG (hJ.1.not (mS hc) aA (fun h=>h4 (vt_len.2 h))),trivial⟩)
         (fun h4=>.p a i<|.p ((a:Int)+i) 1 (h:=by unfold I64;omega) <|
          .rt ((fE ((s.data.toList.drop a).take (i+1)):Int),(a:Int)+i+1) ⟨by
           have h5:=vt_len.1 h4;rw[<- qP (hJ.1.found (mS hc) aA h5.1 h5.2)];exact Prod.ext rfl (by show (a:Int)+i+1=(a:Int)+((i+1:Nat):Int);omega),trivial⟩))
       (fun h3=>.p i 1<|.n t (i+1) [] ⟨hJ.1.next (mS hc) aA,by omega⟩ aA))
     (fun h2=>.rt (0,-1) ⟨iG (hJ.1.ends (by rw[jY];omega)),trivial⟩))
    (fun hi=>.rt (0,-1) ⟨iG (VJ.five (by have h5:i=5:=by { have:=hJ.2;omega };rw[<- h5];exact hJ.1)),trivial⟩))) aB
theorem ext_pre {s:ByteArray}{a k:Nat}(h:a+k<=s.size):(s.extract a (a+k)).data.toList=(s.data.toList.drop a).take k:=by
 rw[Lib.extract_data];congr 1;omega
theorem VJ.same {s:ByteArray}{a i:Nat}{c:UInt8}(h:VJ (s.data.toList.drop a) i) (hc:s.data.toList[a+i]? = some c) (h2:c.toNat<128) (hn:¬(1000000000:Int)<fE ((s.data.toList.drop a).take (i+1))):(s.extract a (a+(i+1))=aU (fE ((s.data.toList.drop a).take (i+1)):Int))↔(aP (fE ((s.data.toList.drop a).take (i+1)))).length=i+1:=by
 have hi:a+i<s.size:=(gsi_.1 hc).1;have hl:((s.data.toList.drop a).take (i+1)).length=i+1:=by
  have:=jY s a;rw[length_take];omega
 have e1:=ext_pre (s:=s) (a:=a) (k:=i+1) aA;have e2:aU (fE ((s.data.toList.drop a).take (i+1)):Int)=⟨(aP (fE ((s.data.toList.drop a).take (i+1)))).toArray⟩:=by
  unfold aU;rw[if_pos (inB_iff'.2 ⟨by omega,by omega⟩)];rfl
 rw[e2];constructor
 ·intro h3;have h4:(s.extract a (a+(i+1))).data.toList=aP (fE ((s.data.toList.drop a).take (i+1))):=by rw[h3]
  rw[<- h4,e1,hl]
 intro h3;have h4:=(wZ (h.good (mS hc) h2)).2 (by rw[hl];exact h3);rw[h4,<- e1]
theorem cE9 (s:ByteArray) (a:Nat) (hs:s.size<=1048576) (ha:a<=1048576):Ct1 prog 301 [.T s,.I a] [.I (vAt s a).1,.I (vAt s a).2]:=
 .one (vAt s a) (rk:=fun a=>[.I a.1,.I a.2])<|vc func301 (fun hg=>.kf ((a:Int)<0) aA <|
  .l (Γ:=Nat) (fun i=>VJ (s.data.toList.drop a) i/\i<=5) (fun i=>5-i) [0,1] [] [] (fun i=>[vI 6 (fE ((s.data.toList.drop a).take i)),vI 7 ((128 ^ i:Nat):Int),vI 8 ((a:Int)+i)]) (fun _=>[]) 0 (h:=⟨VJ.zero _,by omega⟩) fun i hJ t=>
   .s ((a:Int)+i<s.size)
    (fun h2=>.p a 5<|.s ((a:Int)+i<(a:Int)+5)
     (fun hi=>.ex (p:=fun c=>s.data.toList[a+i]? = some c) ⟨_,getElem?_eq_getElem (at_lt h2)⟩ fun c hc=>
      .px (aA1 (t:=9) (i:=a+i) (e:=(a:Int)+i) underlying9 hc aA)<|.pc (sM (t:=5) (t':=3) c underlying5 underlying3) <|
      .q c.toNat 128 (h:=by have:=gH c;omega) <|
      .o ((c.toNat:Int) % 128) ((128 ^ i:Nat):Int) (h:=by have:=cE1 c (i:=i) aA;have e:((c.toNat:Int) % 128)*((128 ^ i:Nat):Int)=((c.toNat % 128*128 ^ i:Nat):Int):=(by rw[Int.natCast_mul];rfl);rw[e];unfold I64;omega) <|
      .p (fE ((s.data.toList.drop a).take i)) (((c.toNat:Int) % 128)*((128 ^ i:Nat):Int)) (h:=by have:=bA9 (s.data.toList.drop a) hJ.2;have:=cE1 c (i:=i) aA;have e:((c.toNat:Int) % 128)*((128 ^ i:Nat):Int)=((c.toNat % 128*128 ^ i:Nat):Int):=(by rw[Int.natCast_mul];rfl);rw[e];unfold I64;omega) <|
      .rv 32 (I (fE ((s.data.toList.drop a).take (i+1)))) (show I ((fE ((s.data.toList.drop a).take i):Int)+((c.toNat:Int) % 128)*((128 ^ i:Nat):Int))=I (fE ((s.data.toList.drop a).take (i+1))) from congrArg I (by have e:((c.toNat:Int) % 128)*((128 ^ i:Nat):Int)=((c.toNat % 128*128 ^ i:Nat):Int):=(by rw[Int.natCast_mul];rfl);rw[e,bB0 (mS hc)];omega)) <|
      .px (aA1 (t:=9) (i:=a+i) (e:=(a:Int)+i) underlying9 hc aA)<|.pb .lss (hk_lt c.toNat 128) <|
      .s ((c.toNat:Int)<128)
       (fun h3=>.s ((1000000000:Int)<fE ((s.data.toList.drop a).take (i+1)))
        (fun hb=>.rt (0,-1) ⟨iG (hJ.1.not (mS hc) aA (fun h=>by omega)),trivial⟩)
        (fun hb=>.p ((a:Int)+i) 1 (h:=by unfold I64;omega)<|.pl (bO6 (t:=9) (s:=s) (a:=a) (b:=a+(i+1)) underlying9 aA aA) <|
         .c func127 (bI7 (fE ((s.data.toList.drop a).take (i+1)))) fun _=>
         .u (s.extract a (a+(i+1))=aU (fE ((s.data.toList.drop a).take (i+1)):Int))
          (fun h4=>.rt (0,-1) ⟨iG (hJ.1.not (mS hc) aA (fun h=>h4 ((VJ.same hJ.1 hc aA hb).2 h.2))),trivial⟩)
          (fun h4=>.p ((a:Int)+i) 1 (h:=by unfold I64;omega) <|
           .rt ((fE ((s.data.toList.drop a).take (i+1)):Int),(a:Int)+i+1) ⟨by
            rw[<- qP (hJ.1.found (mS hc) aA aA ((VJ.same hJ.1 hc aA hb).1 h4))];exact Prod.ext rfl (by show (a:Int)+i+1=(a:Int)+((i+1:Nat):Int);omega),trivial⟩)))
       (fun h3=>.o ((128 ^ i:Nat):Int) 128 (h:=by have h:=cJ7 hJ.2;revert h;generalize (128 ^ i:Nat)=q;intro h;unfold I64;omega) <|
        .rv 53 (I ((128 ^ (i+1):Nat):Int)) (show I (((128 ^ i:Nat):Int)*128)=I ((128 ^ (i+1):Nat):Int) from congrArg I (by rw[Nat.pow_succ];omega)) <|
        .p ((a:Int)+i) 1 (h:=by unfold I64;omega)<|.n t (i+1) [] ⟨hJ.1.next (mS hc) aA,by omega⟩ aA))
     (fun hi=>.rt (0,-1) ⟨iG (VJ.five (by have h5:i=5:=by { have:=hJ.2;omega };rw[<- h5];exact hJ.1)),trivial⟩))
    (fun h2=>.rt (0,-1) ⟨iG (hJ.1.ends (by rw[jY];omega)),trivial⟩)) aB
def jB (l:List UInt8):Nat:=l.foldl (fun n c=>256*n+c.toNat) 0
theorem oX {l:List UInt8}{i:Nat}{c:UInt8}(h:l[i]? = some c):jB (l.take (i+1))=256*jB (l.take i)+c.toNat:=by
 obtain⟨hi,rfl⟩:=gsi_.1 h;unfold jB;rw[take_succ_eq_append_getElem hi,foldl_append];rfl
theorem bY8:∀(l:List UInt8) (n:Nat),l.foldl (fun n c=>256*n+c.toNat) n<(n+1)*256 ^ l.length
 | [],n=>by simp
 | c::l,n=>by
  have h:=bY8 l (256*n+c.toNat);have hc:=gH c;rw[foldl_cons,length_cons,Nat.pow_succ];refine Nat.lt_of_lt_of_le h ?_;rw[Nat.mul_comm (256 ^ l.length) 256,<- Nat.mul_assoc];exact Nat.mul_le_mul_right _ aA
theorem sP (l:List UInt8) {i:Nat}(h:i<=4):jB (l.take i)<4294967296:=by
 have h1:=bY8 (l.take i) 0;have h2:=Nat.pow_le_pow_right (n:=256) aA (show (l.take i).length<=4 by rw[length_take];omega);have e:(256:Nat) ^ 4=4294967296:=by decide
 rw[e]at h2;unfold jB;omega
def bR (s:ByteArray) (a:Nat):Int×Bool:=if a+4<=s.size then ((jB ((s.data.toList.drop a).take 4):Int),true) else (0,false)
theorem bY6 {s:ByteArray}{a:Nat}(h:¬a+4<=s.size):(0,false)=bR s a:=by unfold bR;rw[if_neg h]
theorem bF7 {s:ByteArray}{a:Nat}(h:a+4<=s.size) {z:Int}(e:z=(jB ((s.data.toList.drop a).take 4):Int)):(z,true)=bR s a:=by unfold bR;rw[if_pos h,e]
theorem aA8 {s:ByteArray}{a:Nat}:(s.extract a (a+4)).data.toList=(s.data.toList.drop a).take 4:=by
 rw[Lib.extract_data];congr 1;omega
theorem aO1 {s:ByteArray}{a:Nat}(h:a+4<=s.size):(s.extract a (a+4)).data.toList.length=4:=by
 rw[aA8,length_take,jY];omega
theorem cQ2 (s:ByteArray) (a:Nat) (hs:s.size<=1048576) (ha:a<=1048576):Ct1 prog 308 [.T s,.I a] [.I (bR s a).1,.B (bR s a).2]:=
 .one (bR s a) (rk:=fun a=>[.I a.1,.B a.2])<|vc func308 (fun hg=>.m s.size 4<|.c func50 (bL a 0 ((s.size:Int)-4)) fun _=>.v (inB (a:Int) 0 ((s.size:Int)-4))
  (fun hb=>.rt (0,false) ⟨bY6 (fun h=>by rw[inB_iff'.2 ⟨by omega,by omega⟩]at hb;cases hb),trivial⟩)
  (fun hb=>let h4:a+4<=s.size:=by { have:=inB_iff'.1 hb;omega }
   .p a 4<|.pl (bO6 (t:=9) (s:=s) (a:=a) (b:=a+4) underlying9 aA h4) <|
   .by_ (s.extract a (a+4)) (by rw[ByteArray.size_extract];unfold maxLen;omega) <|
   .l (Γ:=Nat) (fun i=>i<=4) (fun i=>4-i) [20,21] [] [0] (fun i=>[vI 6 (jB ((s.extract a (a+4)).data.toList.take i)),vI 22 i]) (fun _=>[]) 0 (h:=by omega) fun i hJ t=>
   .s ((i:Int)<(s.extract a (a+4)).data.toList.length)
    (fun hi=>.x (s.extract a (a+4)).data.toList i (h:=by omega) fun c hc _=>.o 256 (jB ((s.extract a (a+4)).data.toList.take i)) (h:=by have:=sP (s.extract a (a+4)).data.toList hJ;unfold I64;omega) <|
     .pc (sM (t:=5) (t':=3) c underlying5 underlying3) <|
     .p (256*(jB ((s.extract a (a+4)).data.toList.take i):Int)) c.toNat (h:=by have:=sP (s.extract a (a+4)).data.toList hJ;have:=gH c;unfold I64;omega) <|
     .rv 30 (I (jB ((s.extract a (a+4)).data.toList.take (i+1)))) (show I (256*(jB ((s.extract a (a+4)).data.toList.take i):Int)+c.toNat)=I (jB ((s.extract a (a+4)).data.toList.take (i+1))) from congrArg I (by rw[oX hc];omega)) <|
     .p i 1<|.n t (i+1) [] (by have:=aO1 h4;omega) (by have:=aO1 h4;omega))
    (fun hi=>.rt ((jB ((s.extract a (a+4)).data.toList.take i):Int),true) ⟨bF7 h4 (by
     have:=aO1 h4;rw[take_of_length_le aA,aA8]),trivial⟩))) aB
theorem four_at {s:ByteArray}{a:Nat}{c0 c1 c2 c3:UInt8}(h0:s.data.toList[a]? = some c0) (h1:s.data.toList[a+1]? = some c1) (h2:s.data.toList[a+2]? = some c2) (h3:s.data.toList[a+3]? = some c3):jB ((s.data.toList.drop a).take 4)=((c0.toNat*256+c1.toNat)*256+c2.toNat)*256+c3.toNat:=by
 have e0:(s.data.toList.drop a)[0]? = some c0:=by rw[getElem?_drop];exact h0
 have e1:(s.data.toList.drop a)[1]? = some c1:=by rw[getElem?_drop];exact h1
 have e2:(s.data.toList.drop a)[2]? = some c2:=by rw[getElem?_drop];exact h2
 have e3:(s.data.toList.drop a)[3]? = some c3:=by rw[getElem?_drop];exact h3
 rw[oX e3,oX e2,oX e1,oX e0];simp[jB];omega
theorem bQ5 (s:ByteArray) (a:Nat) (hs:s.size<=1048576) (ha:a<=1048576):Ct1 prog 280 [.T s,.I a] [.I (bR s a).1,.B (bR s a).2]:=
 .one (bR s a) (rk:=fun a=>[.I a.1,.B a.2])<|vc func280 (fun hg=>.kf ((a:Int)<0) aA<|.m s.size 4<|.s ((s.size:Int)-4<a)
  (fun hb=>.rt (0,false) ⟨bY6 aA,trivial⟩)
  (fun hb=>let hl:s.data.toList.length=s.size:=rfl
   .ex (p:=fun c=>s.data.toList[a]? = some c) ⟨_,getElem?_eq_getElem aA⟩ fun c0 h0=>
   .ex (p:=fun c=>s.data.toList[a+1]? = some c) ⟨_,getElem?_eq_getElem aA⟩ fun c1 h1=>
   .ex (p:=fun c=>s.data.toList[a+2]? = some c) ⟨_,getElem?_eq_getElem aA⟩ fun c2 h2=>
   .ex (p:=fun c=>s.data.toList[a+3]? = some c) ⟨_,getElem?_eq_getElem aA⟩ fun c3 h3=>
   let b0:=gH c0
   let b1:=gH c1
   let b2:=gH c2
   let b3:=gH c3
   .px (aA1 (t:=9) (i:=a) (e:=(a:Int)) underlying9 h0 rfl)<|.pc (sM (t:=5) (t':=3) c0 underlying5 underlying3)<|.o c0.toNat 16777216 (h:=by unfold I64;omega) <|
   .p a 1<|.px (aA1 (t:=9) (i:=a+1) (e:=(a:Int)+1) underlying9 h1 rfl)<|.pc (sM (t:=5) (t':=3) c1 underlying5 underlying3)<|.o c1.toNat 65536 (h:=by unfold I64;omega) <|
   .p ((c0.toNat:Int)*16777216) ((c1.toNat:Int)*65536) (h:=by unfold I64;omega) <|
   .p a 2<|.px (aA1 (t:=9) (i:=a+2) (e:=(a:Int)+2) underlying9 h2 rfl)<|.pc (sM (t:=5) (t':=3) c2 underlying5 underlying3)<|.o c2.toNat 256 (h:=by unfold I64;omega) <|
   .p ((c0.toNat:Int)*16777216+(c1.toNat:Int)*65536) ((c2.toNat:Int)*256) (h:=by unfold I64;omega) <|
   .p a 3<|.px (aA1 (t:=9) (i:=a+3) (e:=(a:Int)+3) underlying9 h3 rfl)<|.pc (sM (t:=5) (t':=3) c3 underlying5 underlying3) <|
   .p ((c0.toNat:Int)*16777216+(c1.toNat:Int)*65536+(c2.toNat:Int)*256) c3.toNat (h:=by unfold I64;omega) <|
   .rt ((c0.toNat:Int)*16777216+(c1.toNat:Int)*65536+(c2.toNat:Int)*256+c3.toNat,true) ⟨bF7 aA (by rw[four_at h0 h1 h2 h3];omega),trivial⟩)) aB
theorem pow_fin60:∀s:Fin 60,0<(2:Int) ^ s.val:=by decide +kernel
theorem cD6 {P:Program}{x:Int}{k:IntKind}{s:Nat}(hx:0<=x/\x<=9223372036854775807) (hs:s<60):BOk P .shr (I x) (.int k s) (I (x / 2 ^ s)):=by
 intro n f W Q K d ty pos af g t t' xo yo h1 h2 kk;refine Stp.run (v:=I (x / 2 ^ s)) ?_ kk;have hn:¬((s:Int)<0):=by omega
 have hm:min s 64=s:=by omega
 have hp:=pow_fin60 ⟨s,hs⟩;simp only at hp;have h:Int.fdiv x (2 ^ s)=x / 2 ^ s:=Int.fdiv_eq_ediv_of_nonneg _ (Int.le_of_lt hp);have hle:x / 2 ^ s<=x:=Int.ediv_le_self _ hx.1;have h0:0<=x / 2 ^ s:=Int.ediv_nonneg hx.1 (Int.le_of_lt hp);have hw:IntKind.i64.wrap (x / 2 ^ s)=x / 2 ^ s:=jU ⟨by omega,by omega⟩;simp only[execOp,h1,h2,Sem.run_bind,binOp,Op.shift,hn,if_false,Int.toNat_natCast,Sem.run_pure,Result.andThen_ok];simp only[show IntKind.i64.bits=64 from rfl,hm,h,hw];rfl
def kT (n:Int):List UInt8:=[cC (n / 16777216),cC (n / 65536),cC (n / 256),cC n]
def bV (n:Int):ByteArray:=if inB n 0 4294967295 then ⟨(kT n).toArray⟩ else ⟨#[]⟩
theorem bF8 {n:Int}(h:inB n 0 4294967295=false):(⟨#[]⟩:ByteArray)=bV n:=by unfold bV;rw[h];rfl
theorem aW2 {n:Int}(h:inB n 0 4294967295=true):(⟨(kT n).toArray⟩:ByteArray)=bV n:=by unfold bV;rw[h];rfl
theorem cF7:∀(l:List UInt8),∀y∈l,(inferInstance:Dsh UInt8).good y:=fun _ _ _=>trivial
theorem bQ4 (n:Int):Ct1 prog 161 [.I n] [.T (bV n)]:=
 .one (bV n) (rk:=fun a=>[.T a])<|vc func161 (fun hg=>.c func50 (bL n 0 4294967295) fun _=>.v (inB n 0 4294967295)
  (fun hb=>.rt ⟨#[]⟩ ⟨bF8 hb,trivial⟩)
  (fun hb=>let hr:=inB_iff'.1 hb
   .pb .shr (cD6 (x:=n) (k := .u64) (s:=24) aA aA)<|.pc (jJ (t:=3) (t':=5) (n / 2 ^ 24) rfl underlying5) <|
   .pb .shr (cD6 (x:=n) (k := .u64) (s:=16) aA aA)<|.pc (jJ (t:=3) (t':=5) (n / 2 ^ 16) rfl underlying5) <|
   .pb .shr (cD6 (x:=n) (k := .u64) (s:=8) aA aA)<|.pc (jJ (t:=3) (t':=5) (n / 2 ^ 8) rfl underlying5) <|
   .pc (jJ (t:=3) (t':=5) n rfl underlying5) <|
   .li (inferInstance:Dsh UInt8) 17 (kT n) (by simp[kT]) (by simp[kT]) (cF7 _)<|.so (kT n)<|.rt ⟨(kT n).toArray⟩ ⟨aW2 hb,trivial⟩)) aB
theorem yB (x:Int):cC (x % 256)=cC x:=by
 unfold cC;rw[Int.emod_emod_of_dvd _ (Int.dvd_refl 256)]
def aW3 (n:Int):List UInt8:=[cC (n / 16777216),cC (n / 65536 % 256),cC (n / 256 % 256),cC (n % 256)]
theorem fourM_eq (n:Int):aW3 n=kT n:=by unfold aW3 kT;rw[yB,yB,yB]
theorem bQ3 (n:Int):Ct1 prog 128 [.I n] [.T (bV n)]:=
 .one (bV n) (rk:=fun a=>[.T a])<|vc func128 (fun hg=>.c func37 (InV n 0 4294967295) fun _=>.v (inB n 0 4294967295)
  (fun hb=>.rt ⟨#[]⟩ ⟨bF8 hb,trivial⟩)
  (fun hb=>let hr:=inB_iff'.1 hb
   .q n 16777216 (h:=by omega)<|.pc (jJ (t:=3) (t':=5) (n / 16777216) rfl underlying5) <|
   .q n 65536 (h:=by omega)<|.q (n / 65536) 256 (h:=by omega)<|.pc (jJ (t:=3) (t':=5) (n / 65536 % 256) rfl underlying5) <|
   .q n 256 (h:=by omega)<|.q (n / 256) 256 (h:=by omega)<|.pc (jJ (t:=3) (t':=5) (n / 256 % 256) rfl underlying5) <|
   .q n 256 (h:=by omega)<|.pc (jJ (t:=3) (t':=5) (n % 256) rfl underlying5) <|
   .li (inferInstance:Dsh UInt8) 20 (aW3 n) (by simp[aW3]) (by simp[aW3]) (cF7 _)<|.so (aW3 n)<|.rt ⟨(aW3 n).toArray⟩ ⟨by rw[fourM_eq];exact aW2 hb,trivial⟩)) aB
theorem vF {P:Program}(a b:Int) (ha:0<=a/\a<4294967296) (hb:0<=b/\b<4294967296):BOk P .xor (I a) (I b) (I (qC a b)):=fun hx hy k=>stp_xorI hx hy ha hb k
theorem crc_t {s:Int}{k:Nat}{g:Int}(h:g=wC k s) (h1:g % 2=1):qC (g / 2) 3988292384=wC (k+1) s:=by show _=uB (wC k s);rw[<- h];unfold uB;rw[if_pos h1]
theorem crc_f {s:Int}{k:Nat}{g:Int}(h:g=wC k s) (h1:¬g % 2=1):g / 2=wC (k+1) s:=by show _=uB (wC k s);rw[<- h];unfold uB;rw[if_neg h1]
theorem cT5 {l:List UInt8}{k:Nat}{c:UInt8}(hc:l[k]? = some c):aD2 (l.take (k+1))=wC 8 (qC (aD2 (l.take k)) (c.toNat:Int)):=by
 obtain⟨hk,rfl⟩:=gsi_.1 hc;exact sumL_to hk
theorem aO6 (t:ByteArray) (ht:t.size<=1048576):Ct1 prog 162 [.T t] [.I (cA t)]:=
 .one (cA t) (rk:=fun x=>[.I x])<|vc func162 (fun hg=>let hl:t.data.toList.length=t.size:=rfl
  .l (Γ:=Nat×Int) (fun g=>g.1<=t.size/\g.2=aD2 (t.data.toList.take g.1)) (fun g=>t.size-g.1) [0] [] [] (fun g=>[vI 3 g.2,vI 4 g.1]) (fun g=>[]) (0,4294967295) (h:=⟨Nat.zero_le _,rfl⟩) fun g hJ tk=>
   let hr:0<=g.2/\g.2<4294967296:=(by rw[hJ.2];exact aQ5 _)
   .s ((g.1:Int)<t.size)
    (fun h=>.ex (p:=fun c=>t.data.toList[g.1]? = some c) ⟨_,getElem?_eq_getElem (show g.1<t.data.toList.length by omega)⟩ fun c hc=>
     let hx:=tH hr (show 0<=(c.toNat:Int)/\(c.toNat:Int)<4294967296 by have:=gH c;omega)
     .px (aA1 (t:=9) (i:=g.1) (e:=(g.1:Int)) underlying9 hc rfl)<|.pc (sM (t:=5) (t':=3) c underlying5 underlying3)<|.pb .xor (vF g.2 (c.toNat:Int) hr (by have:=gH c;omega)) <|
     .l (Γ:=Nat×Int) (fun q=>q.1<=8/\q.2=wC q.1 (qC g.2 (c.toNat:Int))) (fun q=>8-q.1) [0,4] [] [] (fun q=>[vI 3 q.2,vI 5 q.1]) (fun q=>[]) (0,qC g.2 (c.toNat:Int)) (h:=⟨Nat.zero_le _,rfl⟩) fun q hq tq=>
      let hr2:0<=q.2/\q.2<4294967296:=(by rw[hq.2];exact aB8 hx q.1)
      .s ((q.1:Int)<8)
       (fun h2=>.q q.2 2 (h:=by omega)<|.q q.2 2 (h:=by omega)<|.s (q.2 % 2=1)
        (fun h3=>.pb .xor (vF (q.2 / 2) 3988292384 aA aA)<|.p q.1 1<|.n tq (q.1+1,qC (q.2 / 2) 3988292384) [] (h1:=⟨by show q.1+1<=8;omega,crc_t hq.2 h3⟩) (h2:=by show 8-(q.1+1)<_;omega))
        (fun h3=>.p q.1 1<|.n tq (q.1+1,q.2 / 2) [] (h1:=⟨by show q.1+1<=8;omega,crc_f hq.2 h3⟩) (h2:=by show 8-(q.1+1)<_;omega)))
       (fun h2=>.p g.1 1<|.n tk (g.1+1,q.2) [] (h1:=⟨by show g.1+1<=_;omega,by show q.2=aD2 (t.data.toList.take (g.1+1));rw[cT5 hc,<- hJ.2,hq.2,show q.1=8 by omega]⟩) (h2:=by show t.size-(g.1+1)<_;omega)))
    (fun h=>.pb .xor (vF g.2 4294967295 hr aA)<|.rt (qC g.2 4294967295) ⟨by unfold cA;rw[hJ.2,take_of_length_le aA],trivial⟩)) aB
theorem aO5 (t:ByteArray) (ht:t.size<=1048576):Ct1 prog 129 [.T t] [.I (cA t)]:=
 .one (cA t) (rk:=fun x=>[.I x])<|vc func129 (fun hg=>let hl:t.data.toList.length=t.size:=rfl
  .l (Γ:=Nat×Int) (fun g=>g.1<=t.size/\g.2=aD2 (t.data.toList.take g.1)) (fun g=>t.size-g.1) [0] [] [] (fun g=>[vI 3 g.2,vI 4 g.1]) (fun g=>[]) (0,4294967295) (h:=⟨Nat.zero_le _,rfl⟩) fun g hJ tk=>
   let hr:0<=g.2/\g.2<4294967296:=(by rw[hJ.2];exact aQ5 _)
   .s ((g.1:Int)<t.size)
    (fun h=>.ex (p:=fun c=>t.data.toList[g.1]? = some c) ⟨_,getElem?_eq_getElem (show g.1<t.data.toList.length by omega)⟩ fun c hc=>
     let hx:=tH hr (show 0<=(c.toNat:Int)/\(c.toNat:Int)<4294967296 by have:=gH c;omega)
     .px (aA1 (t:=9) (i:=g.1) (e:=(g.1:Int)) underlying9 hc rfl)<|.pc (sM (t:=5) (t':=3) c underlying5 underlying3)<|.pb .xor (vF g.2 (c.toNat:Int) hr (by have:=gH c;omega)) <|
     .l (Γ:=Nat×Int) (fun q=>q.1<=8/\q.2=wC q.1 (qC g.2 (c.toNat:Int))) (fun q=>8-q.1) [0,4] [] [] (fun q=>[vI 3 q.2,vI 5 q.1]) (fun q=>[]) (0,qC g.2 (c.toNat:Int)) (h:=⟨Nat.zero_le _,rfl⟩) fun q hq tq=>
      let hr2:0<=q.2/\q.2<4294967296:=(by rw[hq.2];exact aB8 hx q.1)
      .s ((q.1:Int)<8)
       (fun h2=>.q q.2 2 (h:=by omega)<|.q q.2 2 (h:=by omega)<|.s (q.2 % 2=1)
        (fun h3=>.pb .xor (vF (q.2 / 2) 3988292384 aA aA)<|.p q.1 1<|.n tq (q.1+1,qC (q.2 / 2) 3988292384) [] (h1:=⟨by show q.1+1<=8;omega,crc_t hq.2 h3⟩) (h2:=by show 8-(q.1+1)<_;omega))
        (fun h3=>.p q.1 1<|.n tq (q.1+1,q.2 / 2) [] (h1:=⟨by show q.1+1<=8;omega,crc_f hq.2 h3⟩) (h2:=by show 8-(q.1+1)<_;omega)))
       (fun h2=>.p g.1 1<|.n tk (g.1+1,q.2) [] (h1:=⟨by show g.1+1<=_;omega,by show q.2=aD2 (t.data.toList.take (g.1+1));rw[cT5 hc,<- hJ.2,hq.2,show q.1=8 by omega]⟩) (h2:=by show t.size-(g.1+1)<_;omega)))
    (fun h=>.pb .xor (vF g.2 4294967295 hr aA)<|.rt (qC g.2 4294967295) ⟨by unfold cA;rw[hJ.2,take_of_length_le aA],trivial⟩)) aB
theorem iD {P:Program}(x y:ByteArray) (h:x.size+y.size<=9223372036854775807):BOk P .add (.string x) (.string y) (.string (x++y)):=by
 intro n f W Q K d ty pos af g t t' xo yo h1 h2 k;exact stp_sadd h1 h2 h k
theorem fR (n:Int):(bV n).size<=4:=by
 unfold bV;split
 ·show (kT n).toArray.size<=4;simp[kT]
 decide
def iP (n:Int) (t:ByteArray):ByteArray:=if inB n 0 1000000000=true/\¬t=⟨#[]⟩/\t.size+8<=60000 then bV n++bV (cA t)++t else ⟨#[]⟩
theorem nD {n:Int}{t:ByteArray}(h:¬(inB n 0 1000000000=true/\¬t=⟨#[]⟩/\t.size+8<=60000)):(⟨#[]⟩:ByteArray)=iP n t:=by unfold iP;rw[if_neg h]
theorem rF {n:Int}{t:ByteArray}(h1:inB n 0 1000000000=true) (h2:¬t=⟨#[]⟩) (h3:t.size+8<=60000):bV n++bV (cA t)++t=iP n t:=by unfold iP;rw[if_pos ⟨h1,h2,h3⟩]
theorem SumOfD (t:ByteArray) (ht:t.size<=1048576):Ct1 prog 162 [.T t] [.I (cA t)]:=aO6 t ht
theorem cP2 (t:ByteArray) (ht:t.size<=1048576):Ct1 prog 129 [.T t] [.I (cA t)]:=aO5 t ht
theorem bJ5 (n:Int) (y:Yard) (t:ByteArray) (hn:I64 n) (hy:Ct1 prog 256 [.S y] [.T t]) (ht:t.size<=1000000000):Ct1 prog 177 [.I n,.S y] [.T (iP n t)]:=
 .one (iP n t) (rk:=fun a=>[.T a])<|vc func177 (fun hg=>.c func256 hy (hg:=⟨hg.1.1,trivial⟩) fun _=>.c func50 (bL n 0 1000000000) fun _=>.v (inB n 0 1000000000)
  (fun hb=>.rt ⟨#[]⟩ ⟨nD (fun h=>by rw[h.1]at hb;cases hb),trivial⟩)
  (fun hb=>.s (t=⟨#[]⟩)
   (fun h1=>.rt ⟨#[]⟩ ⟨nD (fun h=>h.2.1 h1),trivial⟩)
   (fun h1=>.p t.size 8<|.s ((60000:Int)<(t.size:Int)+8)
    (fun h2=>.rt ⟨#[]⟩ ⟨nD (fun h=>by omega),trivial⟩)
    (fun h2=>.c func161 (bQ4 n) fun _=>.c func162 (SumOfD t aA) fun _=>.c func161 (bQ4 (cA t)) fun _=>
     .pb .add (iD (bV n) (bV (cA t))<|by have:=fR n;have:=fR (cA t);omega) <|
     .pb .add (iD (bV n++bV (cA t)) t<|by have:=fR n;have:=fR (cA t);rw[ByteArray.size_append];omega) <|
     .rt (bV n++bV (cA t)++t) ⟨rF hb h1 aA,trivial⟩)))) aB
theorem cB1 (n:Int):Ct1 prog 197 [.I n] [.B (inB n 0 1000000000)]:=
 .one (inB n 0 1000000000) (rk:=fun a=>[.B a])<|vc func197 (fun hg=>.c func37 (InV n 0 1000000000) fun _=>.rt (inB n 0 1000000000) ⟨rfl,trivial⟩) aB
theorem MarkTextS (n:Int) (y:Yard) (t:ByteArray) (hn:I64 n) (hy:Ct1 prog 215 [.S y] [.T t]) (ht:t.size<=1000000000):Ct1 prog 141 [.I n,.S y] [.T (iP n t)]:=
 .one (iP n t) (rk:=fun a=>[.T a])<|vc func141 (fun hg=>.c func215 hy (hg:=⟨hg.1.1,trivial⟩) fun _=>.c func197 (cB1 n) fun _=>.v (inB n 0 1000000000)
  (fun hb=>.rt ⟨#[]⟩ ⟨nD (fun h=>by rw[h.1]at hb;cases hb),trivial⟩)
  (fun hb=>.s (t=⟨#[]⟩)
   (fun h1=>.rt ⟨#[]⟩ ⟨nD (fun h=>h.2.1 h1),trivial⟩)
   (fun h1=>.s ((59992:Int)<t.size)
    (fun h2=>.rt ⟨#[]⟩ ⟨nD (fun h=>by omega),trivial⟩)
    (fun h2=>.c func128 (bQ3 n) fun _=>.c func129 (cP2 t aA) fun _=>.c func128 (bQ3 (cA t)) fun _=>
     .pb .add (iD (bV n) (bV (cA t))<|by have:=fR n;have:=fR (cA t);omega) <|
     .pb .add (iD (bV n++bV (cA t)) t<|by have:=fR n;have:=fR (cA t);rw[ByteArray.size_append];omega) <|
     .rt (bV n++bV (cA t)++t) ⟨rF hb h1 aA,trivial⟩)))) aB
theorem bW5 {α:Type}{n:α->Nat}(k:Int) (xs:List α):0<=xs.length/\k=k+(cL n (xs.take 0):Nat):=⟨Nat.zero_le _,by simp[cL]⟩
section
variable {α:Type}{n:α->Nat}{xs:List α}{k K:Int}{i:Nat}{y:α}
theorem mk_at (f:α->Int->α) (n:α->Nat) (h:(i:Int)<(mkL f n xs k).length):∃y,xs[i]? = some y:=cI2 (by rw[pT]at h;omega)
theorem cX8 {f:α->Int->α}(h:(i:Int)<(mkL f n xs k).length):i+1<=xs.length:=by rw[pT]at h;omega
theorem mk_getz (f:α->Int->α) (n:α->Nat) (hK:K=k+(cL n (xs.take i):Nat)) (h:xs[i]? = some y):(mkL f n xs k)[i]? = some (f y K):=by
 obtain⟨hl,rfl⟩:=gsi_.1 h;rw[mk_get hl,hK]
theorem mk_bd (n:α->Nat) (h:xs[i]? = some y) (hK:K=k+(cL n (xs.take i):Nat)) {T:Int}(hk:k+(cL n xs:Nat)<=T):K+(n y:Nat)<=T:=by
 have h1:=aX7 n h;have h2:=cL_take_le n xs (i+1);omega
theorem mk_fin (f:α->Int->α) (n:α->Nat) (hK:K=k+(cL n (xs.take i):Nat)) (h:¬(i:Int)<(mkL f n xs k).length):K=k+(cL n xs:Nat):=by
 rw[pT]at h;rw[hK,take_of_length_le aA]
theorem aN4 {f:α->Int->α}(hi:i<=xs.length):(mkL f n (xs.take i) k++xs.drop i).length=xs.length:=by rw[length_append,pT,length_take,length_drop];omega
theorem mk_atx (f:α->Int->α) (n:α->Nat) (hi:i<=xs.length) (h:(i:Int)<(mkL f n (xs.take i) k++xs.drop i).length):∃y,xs[i]? = some y:=cI2 (by rw[aN4 hi]at h;omega)
theorem cD3 {f:α->Int->α}(hi:i<=xs.length) (h:(i:Int)<(mkL f n (xs.take i) k++xs.drop i).length):i+1<=xs.length:=by rw[aN4 hi]at h;omega
theorem mk_finx {f:α->Int->α}(hi:i<=xs.length) (h:¬(i:Int)<(mkL f n (xs.take i) k++xs.drop i).length):i=xs.length:=by rw[aN4 hi]at h;omega
theorem mk_finv {f:α->Int->α}(hi:i<=xs.length) (hK:K=k+(cL n (xs.take i):Nat)) (h:¬(i:Int)<(mkL f n (xs.take i) k++xs.drop i).length):K=k+(cL n xs:Nat):=by
 rw[aN4 hi]at h;rw[hK,take_of_length_le aA]
end
theorem tQ {α:Type}{n:α->Nat}(h:∀y,1<=n y):∀xs:List α,xs.length<=cL n xs
 | []=>Nat.zero_le _
 | y::xs=>by
  have:=tQ h xs;have:=h y;unfold cL at *;simp only[map_cons,sum_cons,length_cons];omega
structure MtJ (k:Int) (g:Int×ByteArray):Prop where
 lo:0<=g.1
 eq:bA2 g.1.toNat g.2=bA2 k.toNat ⟨#[]⟩
 sz:(g.2.size:Int)+g.1<=k
theorem MtJ.next {k:Int}{g:Int×ByteArray}(h:MtJ k g) (h0:0<g.1):MtJ k (g.1 / 10,dch g.1.toNat++g.2):=by
 have h1:=h.sz;refine⟨by show 0<=g.1 / 10;omega,?_,?_⟩
 ·rw[<- h.eq,cZ4 (k:=g.1.toNat) aA];rw[show (g.1 / 10).toNat=g.1.toNat / 10 by omega]
 show ((dch g.1.toNat++g.2).size:Int)+g.1 / 10<=k;rw[ByteArray.size_append];have:(dch g.1.toNat).size=1:=rfl;omega
theorem mt_dch {g:Int}(h:0<g):(⟨#[cC (48+g % 10)]⟩:ByteArray)=dch g.toNat:=by
 unfold cC dch;rw[show ((48+g % 10) % 256).toNat=48+g.toNat % 10 by omega]
theorem mt_all {k:Int}{g:Int×ByteArray}(h:MtJ k g) (h0:¬0<g.1) (hk:¬k<=0):bM++g.2=pS k:=by
 unfold pS;rw[if_neg hk,<- h.eq,show g.1.toNat=0 by have:=h.lo;omega,cZ5]
theorem mt_no {k:Int}(hk:k<=0):bM0=pS k:=by unfold pS;rw[if_pos hk]
def uP:Nat->Int->Int
 | 0,z=>z
 | m+1,z=>uP m (z+1)
theorem cU:∀(m:Nat) (z:Int),uP m z=z+m
 | 0,z=>by simp[uP]
 | m+1,z=>by unfold uP;rw[cU m];omega
section
variable {P:Program}{A:Type}{R:A->Prop}{α:Type}[Dsh α]
noncomputable def hqs {ys:List α}{i:Nat}{x:α}(hm:ys[i]? = some x):(m:Nat)->(z:Int)->0<=z->z+(m:Nat)<=4611686018427387904->D P R->D P R
 | 0,_,_,_,r=>r
 | m+1,z,h0,hk,r=>.y hm fun _=>.uf (z=z) rfl<|.p z 1<|hqs hm m (z+1) aA aA r
noncomputable def mqs (i:Nat):(m:Nat)->(z:Int)->0<=z->z+(m:Nat)<=4611686018427387904->D P R->D P R
 | 0,_,_,_,r=>r
 | m+1,z,h0,hk,r=>.i i<|.p z 1<|mqs i m (z+1) aA aA r
noncomputable def mP (f:α->Int->α) (n:α->Nat) (xs:List α) (k:Int) (h0:0<=k) (hk:k+(cL n xs:Nat)<=4611686018427387904) (hcap:(mkL f n xs k).length<=9223372036854775807) (fin:α->Int->Int) (hf:∀y z,fin y z=z+(n y:Nat))
  (body:∀(i:Nat) (y:α) (z:Int),(mkL f n xs k)[i]? = some (f y z)->0<=z->z+(n y:Nat)<=4611686018427387904->D P (fun b:Int=>b=k+(cL n xs:Nat)/\rgd [Rk.I b])->D P (fun b:Int=>b=k+(cL n xs:Nat)/\rgd [Rk.I b])):D P (fun b:Int=>b=k+(cL n xs:Nat)/\rgd [Rk.I b]):=
 .l (Γ:=Nat×Int) (fun g=>g.1<=xs.length/\g.2=k+(cL n (xs.take g.1):Nat)) (fun g=>xs.length-g.1) [0] [] [0] (fun g=>[vI 5 g.1,vI 1 g.2]) (fun g=>[]) (0,k) (h:=bW5 k xs) fun g hJ tk=>.s ((g.1:Int)<(mkL f n xs k).length)
  (fun h2=>.ex (mk_at f n h2) fun y hy=>body g.1 y g.2 (mk_getz f n hJ.2 hy) (by have:=hJ.2;omega) (mk_bd n hy hJ.2 hk)<|.p g.1 1 (h:=by have:=cX8 h2;unfold I64;omega) <|
   .n tk (g.1+1,fin y g.2) [] (h1:=⟨cX8 h2,by have:=aX7 n hy;have:=hJ.2;have:=hf y g.2;show fin y g.2=k+(cL n (xs.take (g.1+1)):Nat);omega⟩) (h2:=by have:=cX8 h2;show xs.length-(g.1+1)<_;omega))
  (fun h2=>.rt g.2 ⟨mk_fin f n hJ.2 h2,trivial⟩)
noncomputable def tR (j:Nat) (f:α->Int->α) (n:α->Nat) (xs:List α) (k:Int) (h0:0<=k) (hk:k+(cL n xs:Nat)<=4611686018427387904) (hln:xs.length<=4611686018427387904)
  (good:∀y (z:Int),(inferInstance:Dsh α).good y->0<=z->z+(n y:Nat)<=4611686018427387904->(inferInstance:Dsh α).good (f y z)) (fin:α->Int->Int) (hf:∀y z,fin y z=z+(n y:Nat))
  (body:∀(i:Nat) (y:α) (z:Int),0<=z->z+(n y:Nat)<=4611686018427387904->D P (fun _:Unit=>True)->D P (fun _:Unit=>True)):D P (fun _:Unit=>True):=
 .la (Γ:=Nat×Int) (fun g=>g.1<=xs.length/\g.2=k+(cL n (xs.take g.1):Nat)) (fun g=>xs.length-g.1) (fun g=>[vI 5 g.1,vI 1 g.2]) (fun g=>[oH j (mkL f n (xs.take g.1) k++xs.drop g.1)]) (0,k) (h:=bW5 k xs) fun g hJ tk=>.s ((g.1:Int)<(mkL f n (xs.take g.1) k++xs.drop g.1).length)
  (fun h2=>.ex (mk_atx f n hJ.1 h2) fun y hy=>
   let hz:0<=g.2:=by { have:=hJ.2;omega }
   let hb:=mk_bd n hy hJ.2 hk
   .d j (mk_gety (f:=f) (n:=n) (k:=k) hy) fun gy=>body g.1 y g.2 hz hb<|.f j (mkL f n (xs.take g.1) k++xs.drop g.1) (f y g.2) (h:=good y g.2 gy hz hb)<|.g j (mk_stepy (f:=f) (n:=n) (k:=k) hy hJ.2)<|.p g.1 1 (h:=by have:=cD3 hJ.1 h2;unfold I64;omega) <|
   .n tk (g.1+1,fin y g.2) [] (h1:=⟨cD3 hJ.1 h2,by have:=aX7 n hy;have:=hJ.2;have:=hf y g.2;show fin y g.2=k+(cL n (xs.take (g.1+1)):Nat);omega⟩) (h2:=by have:=cD3 hJ.1 h2;show xs.length-(g.1+1)<_;omega))
  (fun h2=>.g j (mk_all (f:=f) (n:=n) (k:=k) (mk_finx hJ.1 h2))<|.rv 1 (I (k+(cL n xs:Nat))) (congrArg I (mk_finv hJ.1 hJ.2 h2))<|.rt () trivial)
end
theorem sL (k:Int) (hk:k<=4611686018427387904):Ct1 prog 188 [.I k] [.T (pS k)]:=
 .one (pS k) (rk:=fun t=>[.T t])<|vc func188 (fun hg=>.s (k<=0) (fun h=>.rt bM0 ⟨mt_no h,trivial⟩) (fun h=>
  .l (Γ:=Int×ByteArray) (MtJ k) (fun g=>g.1.toNat) [] [] [] (fun g=>[vI 0 g.1,vT 3 g.2]) (fun g=>[]) (k,⟨#[]⟩) (h:=⟨by show 0<=k;omega,rfl,by show ((0:Nat):Int)+k<=k;omega⟩) fun g hJ tk=>let hlo:=hJ.lo
   let hsz:=hJ.sz
   .s (0<g.1)
    (fun h0=>.q g.1 10 (h:=by omega)<|.p 48 (g.1 % 10)<|.pc (jJ (t:=3) (t':=5) (48+g.1 % 10) rfl underlying5)<|.lo (inferInstance:Dsh UInt8) [cC (48+g.1 % 10)] (by simp) (by simp) (fun _ _=>trivial)<|.so [cC (48+g.1 % 10)] <|
     .pb .add (iD (⟨#[cC (48+g.1 % 10)]⟩:ByteArray) g.2 (by have:(⟨#[cC (48+g.1 % 10)]⟩:ByteArray).size=1:=rfl;omega))<|.rv 15 (.string (dch g.1.toNat++g.2)) (y := .string ((⟨#[cC (48+g.1 % 10)]⟩:ByteArray)++g.2)) (by rw[mt_dch h0])<|.q g.1 10 (h:=by omega)<|.n tk (g.1 / 10,dch g.1.toNat++g.2) [] (h1:=hJ.next h0) (h2:=by show (g.1 / 10).toNat<_;omega))
    (fun h0=>.pb .add (iD bM g.2 (by have:bM.size=1:=rfl;omega))<|.rt (bM++g.2) ⟨mt_all hJ h0 h,trivial⟩))) aB
theorem aV5 (xs:List (Int)) (k:Int) (h0:0<=k) (hk:k+(cL neI xs:Nat)<=4611686018427387904):Ct1 prog 15 [.L (mkL mkI neI xs k),.I k] [.I (k+(cL neI xs:Nat))]:=
 .one (k+(cL neI xs:Nat)) (rk:=fun b=>[.I b])<|vc func15 (fun hg=>mP mkI neI xs k h0 hk hg.1 (fun y z=>uP 1 z) (fun y z=>cU 1 z) fun i y z hm h0 hk r=>let hc:neI y=1:=rfl
  hqs hm 1 z aA aA<|r) aB
noncomputable def bW6 (nx j:Nat) (xs:List (Int)) (k:Int) (h0:0<=k) (hk:k+(cL neI xs:Nat)<=4611686018427387904):D prog (fun _:Unit=>True):=
 tR j mkI neI xs k h0 hk (by have:=tQ (n:=neI) (fun y=>by simp[neI]) xs;omega) (fun y z _ a b=>(by have b:z+((1:Nat):Int)<=4611686018427387904:=b;show I64 z;unfold I64;omega)) (fun y z=>uP 1 z) (fun y z=>cU 1 z) fun i y z h0 hk r=>let hc:neI y=1:=rfl
  mqs i 1 z aA aA<|r
theorem mkgEdge {y:Edge}{k:Int}(g:(inferInstance:Dsh Edge).good y) (h0:0<=k) (hk:k+(aF y:Nat)<=4611686018427387904):(inferInstance:Dsh Edge).good (nC y k):=by
 have hc:aF y=2:=rfl;show Edge.ok _;simp only[nC,Edge.ok]
 repeat' first | (unfold I64;omega) | omega | trivial | (exact iC aA) | apply And.intro
theorem aK7 (xs:List (Edge)) (k:Int) (h0:0<=k) (hk:k+(cL aF xs:Nat)<=4611686018427387904):Ct1 prog 70 [.L (mkL nC aF xs k),.I k] [.I (k+(cL aF xs:Nat))]:=
 .one (k+(cL aF xs:Nat)) (rk:=fun b=>[.I b])<|vc func70 (fun hg=>mP nC aF xs k h0 hk hg.1 (fun y z=>uP 2 z) (fun y z=>cU 2 z) fun i y z hm h0 hk r=>let hc:aF y=2:=rfl
  hqs hm 2 z aA aA<|r) aB
noncomputable def aE5 (nx j:Nat) (xs:List (Edge)) (k:Int) (h0:0<=k) (hk:k+(cL aF xs:Nat)<=4611686018427387904):D prog (fun _:Unit=>True):=
 tR j nC aF xs k h0 hk (by have:=tQ (n:=aF) (fun y=>by simp[aF]) xs;omega) (fun _ _ g a b=>mkgEdge g a b) (fun y z=>uP 2 z) (fun y z=>cU 2 z) fun i y z h0 hk r=>let hc:aF y=2:=rfl
  mqs i 2 z aA aA<|r
theorem mkgEntry {y:Entry}{k:Int}(g:(inferInstance:Dsh Entry).good y) (h0:0<=k) (hk:k+(aJ y:Nat)<=4611686018427387904):(inferInstance:Dsh Entry).good (jI y k):=by
 have hc:aJ y=4:=rfl;show Entry.ok _;simp only[jI,Entry.ok]
 repeat' first | (unfold I64;omega) | omega | trivial | (exact iC aA) | apply And.intro
theorem heldEntryS_d (xs:List (Entry)) (k:Int) (h0:0<=k) (hk:k+(cL aJ xs:Nat)<=4611686018427387904):Ct1 prog 189 [.L (mkL jI aJ xs k),.I k] [.I (k+(cL aJ xs:Nat))]:=
 .one (k+(cL aJ xs:Nat)) (rk:=fun b=>[.I b])<|vc func189 (fun hg=>mP jI aJ xs k h0 hk hg.1 (fun y z=>uP 4 z) (fun y z=>cU 4 z) fun i y z hm h0 hk r=>let hc:aJ y=4:=rfl
  hqs hm 4 z aA aA<|r) aB
noncomputable def mkEntryS_D (nx j:Nat) (xs:List (Entry)) (k:Int) (h0:0<=k) (hk:k+(cL aJ xs:Nat)<=4611686018427387904):D prog (fun _:Unit=>True):=
 tR j jI aJ xs k h0 hk (by have:=tQ (n:=aJ) (fun y=>by simp[aJ]) xs;omega) (fun _ _ g a b=>mkgEntry g a b) (fun y z=>uP 4 z) (fun y z=>cU 4 z) fun i y z h0 hk r=>let hc:aJ y=4:=rfl
  mqs i 4 z aA aA<|r
theorem mkgTask {y:Task}{k:Int}(g:(inferInstance:Dsh Task).good y) (h0:0<=k) (hk:k+(cE y:Nat)<=4611686018427387904):(inferInstance:Dsh Task).good (rC y k):=by
 have hc:cE y=4:=rfl;show Task.ok _;simp only[rC,Task.ok]
 repeat' first | (unfold I64;omega) | omega | trivial | (exact iC aA) | apply And.intro
theorem heldTaskS_d (xs:List (Task)) (k:Int) (h0:0<=k) (hk:k+(cL cE xs:Nat)<=4611686018427387904):Ct1 prog 190 [.L (mkL rC cE xs k),.I k] [.I (k+(cL cE xs:Nat))]:=
 .one (k+(cL cE xs:Nat)) (rk:=fun b=>[.I b])<|vc func190 (fun hg=>mP rC cE xs k h0 hk hg.1 (fun y z=>uP 4 z) (fun y z=>cU 4 z) fun i y z hm h0 hk r=>let hc:cE y=4:=rfl
  hqs hm 4 z aA aA<|r) aB
noncomputable def mkTaskS_D (nx j:Nat) (xs:List (Task)) (k:Int) (h0:0<=k) (hk:k+(cL cE xs:Nat)<=4611686018427387904):D prog (fun _:Unit=>True):=
 tR j rC cE xs k h0 hk (by have:=tQ (n:=cE) (fun y=>by simp[cE]) xs;omega) (fun _ _ g a b=>mkgTask g a b) (fun y z=>uP 4 z) (fun y z=>cU 4 z) fun i y z h0 hk r=>let hc:cE y=4:=rfl
  mqs i 4 z aA aA<|r
theorem mkgRun {y:Run}{k:Int}(g:(inferInstance:Dsh Run).good y) (h0:0<=k) (hk:k+(eA y:Nat)<=4611686018427387904):(inferInstance:Dsh Run).good (vC y k):=by
 have hc:eA y=6+cL aF y.plan.edges+cL cE y.tasks:=rfl;show Run.ok _;simp only[vC,Plan.ok,Run.ok]
 repeat' first | (unfold I64;omega) | omega | trivial | (exact iC aA) | apply And.intro
theorem heldRunS_d (xs:List (Run)) (k:Int) (h0:0<=k) (hk:k+(cL eA xs:Nat)<=4611686018427387904):Ct1 prog 114 [.L (mkL vC eA xs k),.I k] [.I (k+(cL eA xs:Nat))]:=
 .one (k+(cL eA xs:Nat)) (rk:=fun b=>[.I b])<|vc func114 (fun hg=>mP vC eA xs k h0 hk hg.1 (fun y z=>(uP 1 ((uP 5 z)+(cL aF y.plan.edges:Nat)))+(cL cE y.tasks:Nat)) (fun y z=>by show (uP 1 ((uP 5 z)+(cL aF y.plan.edges:Nat)))+(cL cE y.tasks:Nat)=z+((6+cL aF y.plan.edges+cL cE y.tasks:Nat):Int);simp only[cU];omega) fun i y z hm h0 hk r=>let hc:eA y=6+cL aF y.plan.edges+cL cE y.tasks:=rfl
  hqs hm 5 z aA aA<|.y hm fun _=>.c func70 (aK7 y.plan.edges (uP 5 z) (by simp only[cU];omega) (by simp only[cU];omega)) fun _=>.kf (uP 5 z+(cL aF y.plan.edges:Nat)<0) (by simp only[cU];omega)<|hqs hm 1 ((uP 5 z)+(cL aF y.plan.edges:Nat)) (by simp only[cU];omega) (by simp only[cU];omega)<|.y hm fun _=>.c func190 (heldTaskS_d y.tasks (uP 1 ((uP 5 z)+(cL aF y.plan.edges:Nat))) (by simp only[cU];omega) (by simp only[cU];omega)) fun _=>.kf (uP 1 ((uP 5 z)+(cL aF y.plan.edges:Nat))+(cL cE y.tasks:Nat)<0) (by simp only[cU];omega)<|r) aB
noncomputable def mkRunS_D (nx j:Nat) (xs:List (Run)) (k:Int) (h0:0<=k) (hk:k+(cL eA xs:Nat)<=4611686018427387904):D prog (fun _:Unit=>True):=
 tR j vC eA xs k h0 hk (by have:=tQ (n:=eA) (fun y=>by unfold eA;omega) xs;omega) (fun _ _ g a b=>mkgRun g a b) (fun y z=>(uP 1 ((uP 5 z)+(cL aF y.plan.edges:Nat)))+(cL cE y.tasks:Nat)) (fun y z=>by show (uP 1 ((uP 5 z)+(cL aF y.plan.edges:Nat)))+(cL cE y.tasks:Nat)=z+((6+cL aF y.plan.edges+cL cE y.tasks:Nat):Int);simp only[cU];omega) fun i y z h0 hk r=>let hc:eA y=6+cL aF y.plan.edges+cL cE y.tasks:=rfl
  mqs i 5 z aA aA<|.i i<|.in_ (R':=fun _:Unit=>True) func26 (aE5 (nx+3) (nx+1) y.plan.edges (uP 5 z) (by simp only[cU];omega) (by simp only[cU];omega)) fun _ _=>mqs i 1 ((uP 5 z)+(cL aF y.plan.edges:Nat)) (by simp only[cU];omega) (by simp only[cU];omega)<|.i i<|.in_ (R':=fun _:Unit=>True) func187 (mkTaskS_D (nx+3) (nx+2) y.tasks (uP 1 ((uP 5 z)+(cL aF y.plan.edges:Nat))) (by simp only[cU];omega) (by simp only[cU];omega)) fun _ _=>r
theorem heldEntrySS_d (xs:List (List Entry)) (k:Int) (h0:0<=k) (hk:k+(cL (cL aJ) xs:Nat)<=4611686018427387904):Ct1 prog 113 [.L (mkL (mkL jI aJ) (cL aJ) xs k),.I k] [.I (k+(cL (cL aJ) xs:Nat))]:=
 .one (k+(cL (cL aJ) xs:Nat)) (rk:=fun b=>[.I b])<|vc func113 (fun hg=>mP (mkL jI aJ) (cL aJ) xs k h0 hk hg.1 (fun y z=>z+(cL aJ y:Nat)) (fun y z=>by show z+(cL aJ y:Nat)=z+((cL aJ y:Nat):Int);omega) fun i y z hm h0 hk r=>let hc:(cL aJ) y=cL aJ y:=rfl
  .y hm fun _=>.c func189 (heldEntryS_d y z aA aA) fun _=>.kf (z+(cL aJ y:Nat)<0) aA<|r) aB
noncomputable def mkEntrySS_D (nx j:Nat) (xs:List (List Entry)) (hl:xs.length<=4611686018427387904) (k:Int) (h0:0<=k) (hk:k+(cL (cL aJ) xs:Nat)<=4611686018427387904):D prog (fun _:Unit=>True):=
 tR j (mkL jI aJ) (cL aJ) xs k h0 hk hl (fun _ _ _ _ _=>trivial) (fun y z=>z+(cL aJ y:Nat)) (fun y z=>by show z+(cL aJ y:Nat)=z+((cL aJ y:Nat):Int);omega) fun i y z h0 hk r=>let hc:(cL aJ) y=cL aJ y:=rfl
  .i i<|.in_ (R':=fun _:Unit=>True) func186 (mkEntryS_D (nx+2) (nx+1) y z aA aA) fun _ _=>r
noncomputable def mkYard_D (nx j0 j1:Nat) (x:Yard) (hl:x.shelf.length<=4611686018427387904) (k:Int) (h0:0<=k) (hk:k+(dD x:Nat)<=4611686018427387904):D prog (fun _:Unit=>True):=
 let hc:dD x=cL (cL aJ) x.shelf+cL eA x.runs:=rfl
 .in_ (R':=fun _:Unit=>True) func110 (mkEntrySS_D (nx+1) j0 x.shelf hl k aA aA) fun _ _=>.in_ (R':=fun _:Unit=>True) func111 (mkRunS_D (nx+1) j1 x.runs (k+(cL (cL aJ) x.shelf:Nat)) aA aA) fun _ _=>.rv 12 (I (k+(dD x:Nat))) (y:=I ((k+(cL (cL aJ) x.shelf:Nat))+(cL eA x.runs:Nat))) (congrArg I aA)<|.rt () trivial
theorem heldYard_d (x:Yard) (k:Int) (h0:0<=k) (hk:k+(dD x:Nat)<=4611686018427387904):Ct1 prog 67 [.S (aU0 x k),.I k] [.I (k+(dD x:Nat))]:=
 .one (k+(dD x:Nat)) (rk:=fun b=>[.I b])<|vc func67 (fun (hg:gin [Par.S (aU0 x k),Par.I k])=>let hc:dD x=cL (cL aJ) x.shelf+cL eA x.runs:=rfl
  .c func113 (heldEntrySS_d x.shelf k aA aA) fun _=>.kf (k+(cL (cL aJ) x.shelf:Nat)<0) aA<|.c func114 (heldRunS_d x.runs (k+(cL (cL aJ) x.shelf:Nat)) aA aA) fun _=>.kf (k+(cL (cL aJ) x.shelf:Nat)+(cL eA x.runs:Nat)<0) aA<|.rt ((k+(cL (cL aJ) x.shelf:Nat))+(cL eA x.runs:Nat)) ⟨by omega,trivial⟩) aB
theorem mkgReply {y:Reply}{k:Int}(g:(inferInstance:Dsh Reply).good y) (h0:0<=k) (hk:k+(cK y:Nat)<=4611686018427387904):(inferInstance:Dsh Reply).good (oF y k):=by
 have hc:cK y=4:=rfl;show Reply.ok _;simp only[oF,Reply.ok]
 repeat' first | (unfold I64;omega) | omega | trivial | (exact iC aA) | apply And.intro
theorem heldReplyS_d (xs:List (Reply)) (k:Int) (h0:0<=k) (hk:k+(cL cK xs:Nat)<=4611686018427387904):Ct1 prog 32 [.L (mkL oF cK xs k),.I k] [.I (k+(cL cK xs:Nat))]:=
 .one (k+(cL cK xs:Nat)) (rk:=fun b=>[.I b])<|vc func32 (fun hg=>mP oF cK xs k h0 hk hg.1 (fun y z=>uP 4 z) (fun y z=>cU 4 z) fun i y z hm h0 hk r=>let hc:cK y=4:=rfl
  hqs hm 4 z aA aA<|r) aB
noncomputable def mkReplyS_D (nx j:Nat) (xs:List (Reply)) (k:Int) (h0:0<=k) (hk:k+(cL cK xs:Nat)<=4611686018427387904):D prog (fun _:Unit=>True):=
 tR j oF cK xs k h0 hk (by have:=tQ (n:=cK) (fun y=>by simp[cK]) xs;omega) (fun _ _ g a b=>mkgReply g a b) (fun y z=>uP 4 z) (fun y z=>cU 4 z) fun i y z h0 hk r=>let hc:cK y=4:=rfl
  mqs i 4 z aA aA<|r
theorem mkgDeed {y:Deed}{k:Int}(g:(inferInstance:Dsh Deed).good y) (h0:0<=k) (hk:k+(cF y:Nat)<=4611686018427387904):(inferInstance:Dsh Deed).good (rE y k):=by
 have hc:cF y=10+cL aF y.plan.edges:=rfl;show Deed.ok _;simp only[rE,Deed.ok,Plan.ok]
 repeat' first | (unfold I64;omega) | omega | trivial | (exact iC aA) | apply And.intro
theorem heldDeedS_d (xs:List (Deed)) (k:Int) (h0:0<=k) (hk:k+(cL cF xs:Nat)<=4611686018427387904):Ct1 prog 31 [.L (mkL rE cF xs k),.I k] [.I (k+(cL cF xs:Nat))]:=
 .one (k+(cL cF xs:Nat)) (rk:=fun b=>[.I b])<|vc func31 (fun hg=>mP rE cF xs k h0 hk hg.1 (fun y z=>uP 4 ((uP 6 z)+(cL aF y.plan.edges:Nat))) (fun y z=>by show uP 4 ((uP 6 z)+(cL aF y.plan.edges:Nat))=z+((10+cL aF y.plan.edges:Nat):Int);simp only[cU];omega) fun i y z hm h0 hk r=>let hc:cF y=10+cL aF y.plan.edges:=rfl
  hqs hm 6 z aA aA<|.y hm fun _=>.c func70 (aK7 y.plan.edges (uP 6 z) (by simp only[cU];omega) (by simp only[cU];omega)) fun _=>.kf (uP 6 z+(cL aF y.plan.edges:Nat)<0) (by simp only[cU];omega)<|hqs hm 4 ((uP 6 z)+(cL aF y.plan.edges:Nat)) (by simp only[cU];omega) (by simp only[cU];omega)<|r) aB
noncomputable def mkDeedS_D (nx j:Nat) (xs:List (Deed)) (k:Int) (h0:0<=k) (hk:k+(cL cF xs:Nat)<=4611686018427387904):D prog (fun _:Unit=>True):=
 tR j rE cF xs k h0 hk (by have:=tQ (n:=cF) (fun y=>by unfold cF;omega) xs;omega) (fun _ _ g a b=>mkgDeed g a b) (fun y z=>uP 4 ((uP 6 z)+(cL aF y.plan.edges:Nat))) (fun y z=>by show uP 4 ((uP 6 z)+(cL aF y.plan.edges:Nat))=z+((10+cL aF y.plan.edges:Nat):Int);simp only[cU];omega) fun i y z h0 hk r=>let hc:cF y=10+cL aF y.plan.edges:=rfl
  mqs i 6 z aA aA<|.i i<|.in_ (R':=fun _:Unit=>True) func26 (aE5 (nx+2) (nx+1) y.plan.edges (uP 6 z) (by simp only[cU];omega) (by simp only[cU];omega)) fun _ _=>mqs i 4 ((uP 6 z)+(cL aF y.plan.edges:Nat)) (by simp only[cU];omega) (by simp only[cU];omega)<|r
theorem mkgWait {y:Wait}{k:Int}(g:(inferInstance:Dsh Wait).good y) (h0:0<=k) (hk:k+(dE y:Nat)<=4611686018427387904):(inferInstance:Dsh Wait).good (rB y k):=by
 have hc:dE y=5:=rfl;show Wait.ok _;simp only[rB,Reply.ok,Wait.ok]
 repeat' first | (unfold I64;omega) | omega | trivial | (exact iC aA) | apply And.intro
theorem heldWaitS_d (xs:List (Wait)) (k:Int) (h0:0<=k) (hk:k+(cL dE xs:Nat)<=4611686018427387904):Ct1 prog 69 [.L (mkL rB dE xs k),.I k] [.I (k+(cL dE xs:Nat))]:=
 .one (k+(cL dE xs:Nat)) (rk:=fun b=>[.I b])<|vc func69 (fun hg=>mP rB dE xs k h0 hk hg.1 (fun y z=>uP 5 z) (fun y z=>cU 5 z) fun i y z hm h0 hk r=>let hc:dE y=5:=rfl
  hqs hm 5 z aA aA<|r) aB
noncomputable def mkWaitS_D (nx j:Nat) (xs:List (Wait)) (k:Int) (h0:0<=k) (hk:k+(cL dE xs:Nat)<=4611686018427387904):D prog (fun _:Unit=>True):=
 tR j rB dE xs k h0 hk (by have:=tQ (n:=dE) (fun y=>by simp[dE]) xs;omega) (fun _ _ g a b=>mkgWait g a b) (fun y z=>uP 5 z) (fun y z=>cU 5 z) fun i y z h0 hk r=>let hc:dE y=5:=rfl
  mqs i 5 z aA aA<|r
theorem mkgFile {y:File}{k:Int}(g:(inferInstance:Dsh File).good y) (h0:0<=k) (hk:k+(cV y:Nat)<=4611686018427387904):(inferInstance:Dsh File).good (rD y k):=by
 have hc:cV y=3:=rfl;show File.ok _;simp only[rD,File.ok]
 repeat' first | (unfold I64;omega) | omega | trivial | (exact iC aA) | apply And.intro
theorem heldFileS_d (xs:List (File)) (k:Int) (h0:0<=k) (hk:k+(cL cV xs:Nat)<=4611686018427387904):Ct1 prog 115 [.L (mkL rD cV xs k),.I k] [.I (k+(cL cV xs:Nat))]:=
 .one (k+(cL cV xs:Nat)) (rk:=fun b=>[.I b])<|vc func115 (fun hg=>mP rD cV xs k h0 hk hg.1 (fun y z=>uP 1 ((z+1)+1)) (fun y z=>by show uP 1 ((z+1)+1)=z+((3:Nat):Int);simp only[cU];omega) fun i y z hm h0 hk r=>let hc:cV y=3:=rfl
  .y hm fun _=>.c func188 (sL z aA) fun _=>.uf (pS z=pS z) rfl<|.p (z) 1<|.y hm fun _=>.c func188 (sL (z+1) aA) fun _=>.uf (pS (z+1)=pS (z+1)) rfl<|.p (z+1) 1<|hqs hm 1 ((z+1)+1) aA aA<|r) aB
noncomputable def mkFileS_D (nx j:Nat) (xs:List (File)) (k:Int) (h0:0<=k) (hk:k+(cL cV xs:Nat)<=4611686018427387904):D prog (fun _:Unit=>True):=
 tR j rD cV xs k h0 hk (by have:=tQ (n:=cV) (fun y=>by simp[cV]) xs;omega) (fun _ _ g a b=>mkgFile g a b) (fun y z=>uP 1 ((z+1)+1)) (fun y z=>by show uP 1 ((z+1)+1)=z+((3:Nat):Int);simp only[cU];omega) fun i y z h0 hk r=>let hc:cV y=3:=rfl
  .c func188 (sL z aA) fun _=>.i i<|.p (z) 1<|.c func188 (sL (z+1) aA) fun _=>.i i<|.p (z+1) 1<|mqs i 1 ((z+1)+1) aA aA<|r
noncomputable def mkDisk_D (nx j0:Nat) (x:Disk) (k:Int) (h0:0<=k) (hk:k+(eJ x:Nat)<=4611686018427387904):D prog (fun _:Unit=>True):=
 let hc:eJ x=cL cV x.files:=rfl
 .in_ (R':=fun _:Unit=>True) func112 (mkFileS_D (nx+1) j0 x.files k aA aA) fun _ _=>.rv 8 (I (k+(eJ x:Nat))) (y:=I (k+(cL cV x.files:Nat))) (congrArg I aA)<|.rt () trivial
theorem heldDisk_d (x:Disk) (k:Int) (h0:0<=k) (hk:k+(eJ x:Nat)<=4611686018427387904):Ct1 prog 68 [.S (aU1 x k),.I k] [.I (k+(eJ x:Nat))]:=
 .one (k+(eJ x:Nat)) (rk:=fun b=>[.I b])<|vc func68 (fun (hg:gin [Par.S (aU1 x k),Par.I k])=>let hc:eJ x=cL cV x.files:=rfl
  .c func115 (heldFileS_d x.files k aA aA) fun _=>.kf (k+(cL cV x.files:Nat)<0) aA<|.rt (k+(cL cV x.files:Nat)) ⟨by omega,trivial⟩) aB
noncomputable def mkEngine_D (nx j0 j1 j2 j3:Nat) (x:Engine) (hl:x.yard.shelf.length<=4611686018427387904) (k:Int) (h0:0<=k) (hk:k+(bT x:Nat)<=4611686018427387904):D prog (fun _:Unit=>True):=
 let hc:bT x=dD x.yard+eJ x.disk+cL dE x.waits:=rfl
 .in_ (R':=fun _:Unit=>True) func64 (mkYard_D (nx+1) j0 j1 x.yard hl k aA aA) fun _ _=>.in_ (R':=fun _:Unit=>True) func65 (mkDisk_D (nx+2) j2 x.disk (k+(dD x.yard:Nat)) aA aA) fun _ _=>.in_ (R':=fun _:Unit=>True) func66 (mkWaitS_D (nx+3) j3 x.waits ((k+(dD x.yard:Nat))+(eJ x.disk:Nat)) aA aA) fun _ _=>.rv 16 (I (k+(bT x:Nat))) (y:=I (((k+(dD x.yard:Nat))+(eJ x.disk:Nat))+(cL dE x.waits:Nat))) (congrArg I aA)<|.rt () trivial
theorem heldEngine_d (x:Engine) (k:Int) (h0:0<=k) (hk:k+(bT x:Nat)<=4611686018427387904):Ct1 prog 30 [.S (xO x k),.I k] [.I (k+(bT x:Nat))]:=
 .one (k+(bT x:Nat)) (rk:=fun b=>[.I b])<|vc func30 (fun (hg:gin [Par.S (xO x k),Par.I k])=>let hc:bT x=dD x.yard+eJ x.disk+cL dE x.waits:=rfl
  .c func67 (heldYard_d x.yard k aA aA) (hg:=⟨(show Engine.ok _ from hg.1.1).1,trivial⟩) fun _=>.kf (k+(dD x.yard:Nat)<0) aA<|.c func68 (heldDisk_d x.disk (k+(dD x.yard:Nat)) aA aA) (hg:=⟨trivial,trivial⟩) fun _=>.kf (k+(dD x.yard:Nat)+(eJ x.disk:Nat)<0) aA<|.c func69 (heldWaitS_d x.waits ((k+(dD x.yard:Nat))+(eJ x.disk:Nat)) aA aA) fun _=>.kf ((k+(dD x.yard:Nat))+(eJ x.disk:Nat)+(cL dE x.waits:Nat)<0) aA<|.rt (((k+(dD x.yard:Nat))+(eJ x.disk:Nat))+(cL dE x.waits:Nat)) ⟨by omega,trivial⟩) aB
noncomputable def mkWorld_D (nx j0 j1 j2 j3 j4 j5:Nat) (x:WorldD) (hl:x.engine.yard.shelf.length<=4611686018427387904) (k:Int) (h0:0<=k) (hk:k+(cY x:Nat)<=4611686018427387904):D prog (fun _:Unit=>True):=
 let hc:cY x=bT x.engine+cL cF x.deeds+cL cK x.replies:=rfl
 .in_ (R':=fun _:Unit=>True) func27 (mkEngine_D (nx+1) j0 j1 j2 j3 x.engine hl k aA aA) fun _ _=>.in_ (R':=fun _:Unit=>True) func28 (mkDeedS_D (nx+4) j4 x.deeds (k+(bT x.engine:Nat)) aA aA) fun _ _=>.in_ (R':=fun _:Unit=>True) func29 (mkReplyS_D (nx+4) j5 x.replies ((k+(bT x.engine:Nat))+(cL cF x.deeds:Nat)) aA aA) fun _ _=>.rv 16 (I (k+(cY x:Nat))) (y:=I (((k+(bT x.engine:Nat))+(cL cF x.deeds:Nat))+(cL cK x.replies:Nat))) (congrArg I aA)<|.rt () trivial
theorem aK6 (x:WorldD) (k:Int) (h0:0<=k) (hk:k+(cY x:Nat)<=4611686018427387904):Ct1 prog 14 [.S (vB x k),.I k] [.I (k+(cY x:Nat))]:=
 .one (k+(cY x:Nat)) (rk:=fun b=>[.I b])<|vc func14 (fun (hg:gin [Par.S (vB x k),Par.I k])=>let hc:cY x=bT x.engine+cL cF x.deeds+cL cK x.replies:=rfl
  .c func30 (heldEngine_d x.engine k aA aA) (hg:=⟨(show WorldD.ok _ from hg.1.1).1,trivial⟩) fun _=>.kf (k+(bT x.engine:Nat)<0) aA<|.c func31 (heldDeedS_d x.deeds (k+(bT x.engine:Nat)) aA aA) fun _=>.kf (k+(bT x.engine:Nat)+(cL cF x.deeds:Nat)<0) aA<|.c func32 (heldReplyS_d x.replies ((k+(bT x.engine:Nat))+(cL cF x.deeds:Nat)) aA aA) fun _=>.kf ((k+(bT x.engine:Nat))+(cL cF x.deeds:Nat)+(cL cK x.replies:Nat)<0) aA<|.rt (((k+(bT x.engine:Nat))+(cL cF x.deeds:Nat))+(cL cK x.replies:Nat)) ⟨by omega,trivial⟩) aB
theorem mkgAct {y:ActD}{k:Int}(g:(inferInstance:Dsh ActD).good y) (h0:0<=k) (hk:k+(kB y:Nat)<=4611686018427387904):(inferInstance:Dsh ActD).good (bO0 y k):=by
 have hc:kB y=12+cL aF y.deed.plan.edges+cL neI y.keep:=rfl;show ActD.ok _;simp only[bO0,ActD.ok,Deed.ok,Plan.ok]
 repeat' first | (unfold I64;omega) | omega | trivial | (exact iC aA) | apply And.intro
noncomputable def mkActS_D (nx j:Nat) (xs:List (ActD)) (k:Int) (h0:0<=k) (hk:k+(cL kB xs:Nat)<=4611686018427387904):D prog (fun _:Unit=>True):=
 tR j bO0 kB xs k h0 hk (by have:=tQ (n:=kB) (fun y=>by unfold kB;omega) xs;omega) (fun _ _ g a b=>mkgAct g a b) (fun y z=>(uP 5 ((uP 7 z)+(cL aF y.deed.plan.edges:Nat)))+(cL neI y.keep:Nat)) (fun y z=>by show (uP 5 ((uP 7 z)+(cL aF y.deed.plan.edges:Nat)))+(cL neI y.keep:Nat)=z+((12+cL aF y.deed.plan.edges+cL neI y.keep:Nat):Int);simp only[cU];omega) fun i y z h0 hk r=>let hc:kB y=12+cL aF y.deed.plan.edges+cL neI y.keep:=rfl
  mqs i 7 z aA aA<|.i i<|.in_ (R':=fun _:Unit=>True) func26 (aE5 (nx+3) (nx+1) y.deed.plan.edges (uP 7 z) (by simp only[cU];omega) (by simp only[cU];omega)) fun _ _=>mqs i 5 ((uP 7 z)+(cL aF y.deed.plan.edges:Nat)) (by simp only[cU];omega) (by simp only[cU];omega)<|.i i<|.in_ (R':=fun _:Unit=>True) func13 (bW6 (nx+3) (nx+2) y.keep (uP 5 ((uP 7 z)+(cL aF y.deed.plan.edges:Nat))) (by simp only[cU];omega) (by simp only[cU];omega)) fun _ _=>r
def eF (ts:List Task) (s:Int) (k:Nat):List Int:=(List.range k).filterMap (fun i:Nat=>if (ts[i]?).map Task.state=some s then some (i:Int) else none)
def aK (ts:List Task) (s:Int):List Int:=eF ts s ts.length
theorem iY (ts:List Task) (s:Int) (k:Nat):(eF ts s k).length<=k:=by
 unfold eF;have:=length_filterMap_le (fun i:Nat=>if (ts[i]?).map Task.state=some s then some (i:Int) else none) (List.range k)
 rwa [length_range]at this
theorem uM {ts:List Task}{s:Int}{k:Nat}(h:k<ts.length) (hs:ts[k].state=s):eF ts s (k+1)=eF ts s k++[(k:Int)]:=by
 unfold eF;rw[range_succ,filterMap_append];simp[h,hs]
theorem aC7 {ts:List Task}{s:Int}{k:Nat}(h:k<ts.length) (hs:¬ts[k].state=s):eF ts s (k+1)=eF ts s k:=by
 unfold eF;rw[range_succ,filterMap_append];simp[h,hs]
theorem inB_t {n a b:Int}(h:a<=n/\n<=b):inB n a b=true:=by simp[inB,h]
theorem inB_iff {n a b:Int}:inB n a b=true↔(a<=n/\n<=b):=by simp[inB]
theorem bS5 {α:Type}(f:α->Nat) (xs:List α) (k:Nat) (h:k<xs.length):((xs.take (k+1)).map f).sum=((xs.take k).map f).sum+f xs[k]:=yR f xs k h
theorem cT4 {α:Type}{f g:α->Nat}(h:∀x,f x<=g x):∀xs:List α,(xs.map f).sum<=(xs.map g).sum
 | []=>by simp
 | x::xs=>by simp only[map_cons,sum_cons];have:=h x;have:=cT4 h xs;omega
theorem yard_run {y:Yard}{k:Nat}(h:k<y.runs.length):y.runs[k].wt+y.runs.length<=y.wt:=by
 have:=cF2 (fun y:Run=>y.wt) y.runs k h;unfold Yard.wt wtL;omega
def num (n:Int):Bool:=inB n 0 1000000000
def zP:Plan:=⟨0,0,0,0,[]⟩
def nM (d:Deed):Deed:=
 if d.kind=1 then ⟨d.kind,d.run,d.plan,0,0,0,0⟩
 else if d.kind=2 then ⟨d.kind,0,zP,0,0,d.worker,d.draw⟩
 else if d.kind=3∨d.kind=4 then ⟨d.kind,d.run,zP,d.task,d.try_,0,0⟩
 else if d.kind=6∨d.kind=7 then ⟨d.kind,d.run,zP,0,0,0,0⟩
 else ⟨d.kind,0,zP,0,0,0,0⟩
def dF (es:List Edge):List Int:=es.flatMap (fun e=>[e.from_,e.to_])
theorem edgeNums_s {es:List Edge}{k:Nat}(h:k<es.length):dF (es.take (k+1))=dF (es.take k)++[es[k].from_,es[k].to_]:=by
 unfold dF;rw[take_succ_eq_append_getElem h,flatMap_append];rfl
theorem oA:∀(es:List Edge),(dF es).length=2*es.length
 | []=>rfl
 | e::es=>by have:=oA es;unfold dF at *;simp only[flatMap_cons,length_append,length_cons,length_nil,this];omega
def bC (d:Deed):List Int:=
 if d.kind=1 then [d.run,d.plan.prio,d.plan.most,d.plan.wait,d.plan.tasks,(d.plan.edges.length:Int)]++dF d.plan.edges
 else if d.kind=2 then [d.worker,d.draw]
 else if d.kind=3∨d.kind=4 then [d.run,d.task,d.try_]
 else if d.kind=6∨d.kind=7 then [d.run]
 else []
theorem sW (d:Deed):(bC d).length<=6+2*d.plan.edges.length:=by
 unfold bC;have:=oA d.plan.edges;split
 ·simp only[length_append,length_cons,length_nil,this];omega
 split
 ·simp;omega
 split
 ·simp;omega
 split<;>simp<;>omega
def aV (d:Deed):Bool:=inB d.kind 1 8 && decide (d.plan.edges.length<=31) && eqB d (nM d) && !((bC d).any (fun n=> !num n))
def gU (p:Plan):Bool:=num p.prio && num p.most && num p.wait && num p.tasks && decide (p.edges.length<=31) && !(p.edges.any (fun e:Edge=> !(num e.from_ && num e.to_)))
def kI (p:Plan):Bool:=decide (p.prio=0) && decide (p.most=0) && decide (p.wait=0) && decide (p.tasks=0) && decide (p.edges.length=0)
theorem sJ {p:Plan}:kI p=true↔p=zP:=by
 cases p;simp[kI,zP,length_eq_zero_iff,and_assoc]
theorem any_edges (es:List Edge):(dF es).any (fun n=> !num n)=es.any (fun e:Edge=> !(num e.from_ && num e.to_)):=by
 unfold dF;rw[any_flatMap];congr 1
 funext e
 simp
theorem deedOk_0 {d:Deed}(h:inB d.kind 1 8=false):aV d=false:=by unfold aV;rw[h];rfl
theorem vX:num 0=true:=rfl
theorem num_len {n:Nat}(h:n<=31):num (n:Int)=true:=by unfold num;rw[inB_iff'];omega
theorem bZ9 {d:Deed}(h:d.kind=1):aV d=(num d.run && decide (d.task=0) && decide (d.try_=0) && decide (d.worker=0) && decide (d.draw=0) && gU d.plan):=by
 obtain⟨k,r,p,t,y,w,dr⟩:=d;simp only at h;subst h;have h1:eqB (⟨1,r,p,t,y,w,dr⟩:Deed) (nM ⟨1,r,p,t,y,w,dr⟩)=(decide (t=0) && decide (y=0) && decide (w=0) && decide (dr=0)):=by
  rw[Bool.eq_iff_iff];simp[eqB,nM,and_assoc]
 have h2:inB (⟨1,r,p,t,y,w,dr⟩:Deed).kind 1 8=true:=rfl;unfold aV gU;rw[h1,h2];by_cases hl:p.edges.length<=31
 ·have hn:=num_len hl;simp only[bC,if_true,any_append,any_cons,any_nil,any_edges,hn,decide_eq_true hl,Bool.not_true,Bool.or_false,Bool.not_or,Bool.not_not,Bool.true_and,Bool.and_true]
  ac_rfl
 simp[hl]
theorem bZ8 {d:Deed}(h:d.kind=2):aV d=(decide (d.run=0) && decide (d.task=0) && decide (d.try_=0) && num d.worker && num d.draw && kI d.plan):=by
 obtain⟨k,r,p,t,y,w,dr⟩:=d;simp only at h;subst h;rw[Bool.eq_iff_iff];simp only[aV,nM,bC,Bool.and_eq_true,sJ,eqB,decide_eq_true_eq,Deed.mk.injEq];simp[inB];constructor
 ·rintro⟨⟨h1,h2,h3,h4,h5⟩,h6⟩;simp_all
 rintro h;simp_all[zP]
theorem aB6 {d:Deed}(h:d.kind=3∨d.kind=4):aV d=(num d.run && num d.task && num d.try_ && decide (d.worker=0) && decide (d.draw=0) && kI d.plan):=by
 obtain⟨k,r,p,t,y,w,dr⟩:=d;simp only at h;rw[Bool.eq_iff_iff];have h1:¬k=1:=by omega
 have h2:¬k=2:=by omega
 have h8:inB k 1 8=true:=by rw[inB_iff'];omega
 simp only[aV,nM,bC,Bool.and_eq_true,sJ,eqB,decide_eq_true_eq,Deed.mk.injEq,if_neg h1,if_neg h2,if_pos h,h8];simp;constructor
 ·rintro⟨⟨h1,h2,h3,h4⟩,h6⟩;simp_all
 rintro h;simp_all[zP]
theorem aB4 {d:Deed}(h:d.kind=6∨d.kind=7):aV d=(num d.run && decide (d.task=0) && decide (d.try_=0) && decide (d.worker=0) && decide (d.draw=0) && kI d.plan):=by
 obtain⟨k,r,p,t,y,w,dr⟩:=d;simp only at h;rw[Bool.eq_iff_iff];have h1:¬k=1:=by omega
 have h2:¬k=2:=by omega
 have h3:¬(k=3∨k=4):=by omega
 have h8:inB k 1 8=true:=by rw[inB_iff'];omega
 simp only[aV,nM,bC,Bool.and_eq_true,sJ,eqB,decide_eq_true_eq,Deed.mk.injEq,if_neg h1,if_neg h2,if_neg h3,if_pos h,h8];simp;constructor
 ·rintro⟨⟨h1,h2,h3,h4⟩,h6⟩;simp_all
 rintro h;simp_all[zP]
theorem aB5 {d:Deed}(h:d.kind=5∨d.kind=8):aV d=(decide (d.run=0) && decide (d.task=0) && decide (d.try_=0) && decide (d.worker=0) && decide (d.draw=0) && kI d.plan):=by
 obtain⟨k,r,p,t,y,w,dr⟩:=d;simp only at h;rw[Bool.eq_iff_iff];have h1:¬k=1:=by omega
 have h2:¬k=2:=by omega
 have h3:¬(k=3∨k=4):=by omega
 have h4:¬(k=6∨k=7):=by omega
 have h8:inB k 1 8=true:=by rw[inB_iff'];omega
 simp only[aV,nM,bC,Bool.and_eq_true,sJ,eqB,decide_eq_true_eq,Deed.mk.injEq,if_neg h1,if_neg h2,if_neg h3,if_neg h4,h8];simp;constructor
 ·rintro⟨h1,h2,h3,h4⟩;simp_all
 rintro h;simp_all[zP]

def sV (d:Deed):Bool:=((((((((!decide (d.kind=2)) && (!decide (d.kind=5))) && (!decide (d.kind=8))) && (!(num d.run))) || ((!(((!decide (d.kind=2)) && (!decide (d.kind=5))) && (!decide (d.kind=8)))) && (!decide (d.run=0)))) || (((decide (d.kind=3)) || (decide (d.kind=4))) && ((!(num d.task)) || (!(num d.try_))))) || ((!((decide (d.kind=3)) || (decide (d.kind=4)))) && ((!decide (d.task=0)) || (!decide (d.try_=0))))) || ((decide (d.kind=2)) && ((!(num d.worker)) || (!(num d.draw))))) || ((!decide (d.kind=2)) && ((!decide (d.worker=0)) || (!decide (d.draw=0))))
theorem deedS_f {d:Deed}(hi:1<=d.kind/\d.kind<=8) (he:sV d=true):aV d=false:=by
 unfold sV at he;have hkk:d.kind=1∨d.kind=2∨d.kind=3∨d.kind=4∨d.kind=5∨d.kind=6∨d.kind=7∨d.kind=8:=by omega
 rcases hkk with hk | hk | hk | hk | hk | hk | hk | hk
 ·rw[bZ9 hk];simp[hk]at he ⊢;first | done | grind | (simp_all[vX];done)
 ·rw[bZ8 hk];simp[hk]at he ⊢;first | done | grind | (simp_all[vX];done)
 ·rw[aB6 (.inl hk)];simp[hk]at he ⊢;first | done | grind | (simp_all[vX];done)
 ·rw[aB6 (.inr hk)];simp[hk]at he ⊢;first | done | grind | (simp_all[vX];done)
 ·rw[aB5 (.inl hk)];simp[hk]at he ⊢;first | done | grind | (simp_all[vX];done)
 ·rw[aB4 (.inl hk)];simp[hk]at he ⊢;first | done | grind | (simp_all[vX];done)
 ·rw[aB4 (.inr hk)];simp[hk]at he ⊢;first | done | grind | (simp_all[vX];done)
 rw[aB5 (.inr hk)];simp[hk]at he ⊢;first | done | grind | (simp_all[vX];done)
theorem tq1_ {P:Prop}(h:P:=by
 unfold sV at he;have hkk:d.kind=1∨d.kind=2∨d.kind=3∨d.kind=4∨d.kind=5∨d.kind=6∨d.kind=7∨d.kind=8:=by omega
 rcases hkk with hk | hk | hk | hk | hk | hk | hk | hk
 ·rw[bZ9 hk];simp[hk]at he hx ⊢;first | done | grind | (simp_all[vX];done)
 ·rw[bZ8 hk];simp[hk]at he hx ⊢;first | done | grind | (simp_all[vX];done)
 ·rw[aB6 (.inl hk)];simp[hk]at he hx ⊢;first | done | grind | (simp_all[vX];done)
 ·rw[aB6 (.inr hk)];simp[hk]at he hx ⊢;first | done | grind | (simp_all[vX];done)
 ·rw[aB5 (.inl hk)];simp[hk]at he hx ⊢;first | done | grind | (simp_all[vX];done)
 ·rw[aB4 (.inl hk)];simp[hk]at he hx ⊢;first | done | grind | (simp_all[vX];done)
 ·rw[aB4 (.inr hk)];simp[hk]at he hx ⊢;first | done | grind | (simp_all[vX];done)
 rw[aB5 (.inr hk)];simp[hk]at he hx ⊢;first | done | grind | (simp_all[vX];done)):P:=h
theorem deedS_1 {d:Deed}(hi:1<=d.kind/\d.kind<=8) (he:sV d=false) (hx:d.kind=1):aV d=gU d.plan:=by exact tq1_
theorem deedS_n {d:Deed}(hi:1<=d.kind/\d.kind<=8) (he:sV d=false) (hx:¬d.kind=1):aV d=kI d.plan:=by exact tq1_
def kV {α:Type}(p:α->Bool):List α->Option Nat
 | []=>none
 | x::xs=>if p x then some 0 else (kV p xs).map (· + 1)
theorem rI {α:Type}{p:α->Bool}:∀{xs:List α}{k:Nat}(hk:k<xs.length),(xs.take k).any p=false->p xs[k]=true->kV p xs=some k
 | x::xs,0,_,_,hp=>by simp at hp;simp[kV,hp]
 | x::xs,k+1,hk,h,hp=>by
  simp only[take_succ_cons,any_cons,Bool.or_eq_false_iff]at h;rw[kV,h.1,if_neg (by simp),rI (xs:=xs) (k:=k) (by simpa using hk) h.2 (by simpa using hp)];rfl
theorem vE {α:Type}{p:α->Bool}:∀{xs:List α},xs.any p=false->kV p xs=none
 | [],_=>rfl
 | x::xs,h=>by
  simp only[any_cons,Bool.or_eq_false_iff]at h;rw[kV,h.1,if_neg (by simp),vE h.2];rfl
theorem aA0 {α:Type}{p:α->Bool}:∀{xs:List α}{k:Nat},kV p xs=some k->∃h:k<xs.length,p xs[k]=true
 | x::xs,k,h=>by
  unfold kV at h;by_cases hx:p x=true
  ·rw[if_pos hx]at h;cases h;exact⟨by simp,hx⟩
  ·rw[if_neg hx]at h;cases hq:kV p xs with
   | none=>rw[hq]at h;cases h
   | some j=>
    rw[hq]at h;cases h;obtain⟨h1,h2⟩:=aA0 hq;exact⟨by simpa using h1,by simpa using h2⟩
def ixI:Option Nat->Int
 | some k=>k
 | none=> -1
theorem yE {α:Type}{p:α->Bool}{xs:List α}{k:Nat}(hk:k<xs.length) (h:(xs.take k).any p=false) (hx:p xs[k]=false):(xs.take (k+1)).any p=false:=by
 rw[take_succ_eq_append_getElem hk,any_append,h];simp[hx]
def cP (a b:Entry):Bool:=decide (b.prio<a.prio) || (decide (a.prio=b.prio) && decide (a.seq<b.seq))
def zC (xs:List Entry) (k:Nat):Prop:=∀i,i+1<k->∀h:i+1<xs.length,cP xs[i] xs[i+1]=true
noncomputable def dL (xs:List Entry):Bool:=pB (xs.length<=80/\zC xs xs.length)
theorem shelfTo_step {xs:List Entry}{k:Nat}(hk:1<=k) (h:k<xs.length) (h0:zC xs k) (h1:cP (xs[k-1]'(by omega)) xs[k]=true):zC xs (k+1):=by
 intro i hi hx;by_cases h2:i+1<k
 ·exact h0 i h2 hx
 have e:i=k-1:=by omega
 subst e;have e2:k-1+1=k:=by omega
 simp only[e2];exact h1
theorem shelfTo_bad {xs:List Entry}{k:Nat}(hk:1<=k) (h:k<xs.length) (h1:cP (xs[k-1]'(by omega)) xs[k]=false):¬zC xs xs.length:=by
 intro h0;have:=h0 (k-1) aA aA;have e2:k-1+1=k:=by omega
 simp only[e2]at this;rw[h1]at this;cases this

def cJ (y:Yard) (id:Int):Option Nat:=if y.runs.length<=8 then kV (fun r=>decide (r.id=id)) y.runs else none
def aI (y:Yard) (id:Int):Int:=ixI (cJ y id)
theorem aR6 {y:Yard}{id:Int}{k:Nat}(h:cJ y id=some k):k<y.runs.length:=by
 unfold cJ at h;split at h
 ·exact(aA0 h).1
 cases h
def fresh (y:Yard) (e:Entry):Bool:=
 match cJ y e.run with
 | none=>false
 | some k=>match y.runs[k]? with
  | none=>false
  | some r=>inB e.task 0 ((r.tasks.length:Int)-1) && (match r.tasks[e.task.toNat]? with | some t=>decide (t.state=2) | none=>false)
theorem flat_to {α:Type}{xss:List (List α)}{k:Nat}(h:k<xss.length):(xss.take (k+1)).flatten=(xss.take k).flatten++xss[k]:=by
 rw[take_succ_eq_append_getElem h,flatten_append,flatten_cons,flatten_nil,append_nil]
theorem bZ0 {α:Type}:∀(xss:List (List α)),xss.flatten.length=(xss.map (fun y=>y.length)).sum
 | []=>rfl
 | x::xss=>by simp[bZ0 xss]
theorem cM6 (y:Yard) (k:Nat):((y.shelf.take k).flatten).length<=y.wt:=by
 have h1:=bZ0 (y.shelf.take k);have h2:=kL (fun y:List Entry=>y.length) y.shelf k;unfold Yard.wt wtL;omega
theorem aR9 {y:Yard}{id:Int}(h:cJ y id=none):aI y id = -1:=by unfold aI;rw[h];rfl
theorem dC {y:Yard}{id:Int}{k:Nat}(h:cJ y id=some k):aI y id=k:=by unfold aI;rw[h];rfl

theorem bO7 (y:Yard):y.shelf.flatten.length<=y.wt:=by
 have h3:=cM6 y y.shelf.length
 rwa [take_length]at h3
def zE:Entry:=⟨0,0,0,0⟩
theorem zE_ok:zE.ok:=by simp[Entry.ok,zE,I64]

def fAt (fs:List File) (nm:ByteArray):Int:=
 match fs.findIdx? (fun f=>decide (f.name=nm)) with
 | some i=>(i:Int)
 | none=> -1
def FAJ (fs:List File) (nm:ByteArray) (k:Nat):Prop:=k<=fs.length/\∀j (h:j<fs.length),j<k->¬fs[j].name=nm
theorem fAt_hit {fs:List File}{nm:ByteArray}{k:Nat}{f:File}(h:FAJ fs nm k) (hf:fs[k]? = some f) (e:f.name=nm):(k:Int)=fAt fs nm:=by
 obtain⟨hk,rfl⟩:=gsi_.1 hf;have:fs.findIdx? (fun f=>decide (f.name=nm))=some k:=by
  rw[findIdx?_eq_some_iff_getElem];refine⟨hk,by simpa using e,fun j hj=>?_⟩;have:=h.2 j aA hj;simpa using this
 unfold fAt;rw[this]
theorem fAt_none {fs:List File}{nm:ByteArray}{k:Nat}(h:FAJ fs nm k) (hk:¬(k:Int)<fs.length):(-1:Int)=fAt fs nm:=by
 have:fs.findIdx? (fun f=>decide (f.name=nm))=none:=by
  rw[findIdx?_eq_none_iff];intro f hf;obtain⟨j,hj,rfl⟩:=getElem_of_mem hf;have:=h.2 j hj aA;simpa using this
 unfold fAt;rw[this]
theorem FAJ.next {fs:List File}{nm:ByteArray}{k:Nat}{f:File}(h:FAJ fs nm k) (hf:fs[k]? = some f) (e:¬f.name=nm):FAJ fs nm (k+1):=by
 obtain⟨hk,rfl⟩:=gsi_.1 hf;refine⟨hk,fun j hj hlt=>?_⟩;rcases Nat.lt_succ_iff_lt_or_eq.1 hlt with h3 | rfl
 ·exact h.2 j hj h3
 exact e
theorem jK {fs:List File}{nm:ByteArray}(h:¬fAt fs nm<0):∃k:Nat,fAt fs nm=(k:Int)/\k<fs.length:=by
 unfold fAt at *;cases hf:fs.findIdx? (fun f=>decide (f.name=nm)) with
 | none=>rw[hf]at h;simp at h
 | some k=>
  exact⟨k,rfl,(findIdx?_eq_some_iff_getElem.1 hf).1⟩
theorem mT (d:Disk) (nm:ByteArray) (hl:d.files.length<=1048576):Ct1 prog 126 [.S d,.T nm] [.I (fAt d.files nm)]:=
 .one (fAt d.files nm) (rk:=fun a=>[.I a])<|vc func126 (fun hg=>.lp (Γ:=Nat) (fun k=>FAJ d.files nm k) (fun k=>d.files.length-k) [1,2] [1] [0] (fun k=>[vI 5 k]) (fun _=>[]) 0 ⟨Nat.zero_le _,fun _ _ h=>by omega⟩ [] fun k hJ t=>
  .s ((k:Int)<d.files.length)
   (fun h=>.x d.files k (h:=by omega) fun f hf _=>.s (f.name=nm)
    (fun he=>.rt k ⟨fAt_hit hJ hf he,trivial⟩)
    (fun he=>.p k 1<|.n t (k+1) [] (hJ.next hf he) aA))
   (fun h=>.rt (-1) ⟨fAt_none hJ h,trivial⟩)) aB
def cX (fs:List File) (nm:ByteArray):ByteArray:=if fAt fs nm<0 then ⟨#[]⟩ else ((fs[(fAt fs nm).toNat]?).map (·.data)).getD ⟨#[]⟩
theorem aH3 (d:Disk) (nm:ByteArray) (hl:d.files.length<=1048576):Ct1 prog 144 [.S d,.T nm] [.T (cX d.files nm)]:=
 .one (cX d.files nm) (rk:=fun a=>[.T a])<|vc func144 (fun hg=>.c func126 (mT d nm hl) fun _=>.s (fAt d.files nm<0)
  (fun h=>.rt ⟨#[]⟩ ⟨by unfold cX;rw[if_pos h],trivial⟩)
  (fun h=>.ex (jK h) fun k hk=>.ex (p:=fun f=>d.files[k]? = some f) ⟨_,getElem?_eq_getElem hk.2⟩ fun f hf=>.ye hf (fAt d.files nm) (fun _=>.rt f.data ⟨by
   unfold cX;rw[if_neg h,hk.1,Int.toNat_natCast,hf];rfl,trivial⟩) (he:=hk.1))) aB
theorem gD:nR Entry:=fun _ _ _ _ h=>h.2.1
theorem fC (y:Yard) (h:y.wt<=1048576):y.shelf.flatten.length<=1048576/\y.shelf.length<=1048576/\y.runs.length<=1048576:=by
 have h1:=bO7 y;unfold Yard.wt at h;unfold Yard.wt at h1;simp only[wtL]at h h1;omega
theorem kA {y:Yard}{k:Nat}{r:Run}(h:y.wt<=1048576) (hr:y.runs[k]? = some r):r.wt<=1048576/\r.tasks.length<=1048576/\r.plan.edges.length<=1048576:=by
 obtain⟨hk,rfl⟩:=gsi_.1 hr;have h1:=yard_run hk;have h2:y.runs[k].tasks.length+y.runs[k].plan.edges.length<=y.runs[k].wt:=by unfold Run.wt Plan.wt;omega
 omega
theorem cQ6 (a b:Entry):Ct1 prog 223 [.S a,.S b] [.B (cP a b)]:=
 .one (cP a b) (rk:=fun x=>[.B x])<|vc func223 (fun hg=>.s (b.prio<a.prio)
  (fun h=>.rt true ⟨by unfold cP;simp[h],trivial⟩)
  (fun h=>.s (a.prio=b.prio)
   (fun h2=>.rt (decide (a.seq<b.seq)) ⟨by unfold cP;simp[h,h2],trivial⟩)
   (fun h2=>.rt false ⟨by unfold cP;simp[h,h2],trivial⟩))) aB
theorem cQ5 (a b:Entry):Ct1 prog 266 [.S a,.S b] [.B (cP a b)]:=
 .one (cP a b) (rk:=fun x=>[.B x])<|vc func266 (fun hg=>.s (b.prio<a.prio)
  (fun h=>.rt true ⟨by unfold cP;simp[h],trivial⟩)
  (fun h=>.s (a.prio=b.prio)
   (fun h2=>.rt (decide (a.seq<b.seq)) ⟨by unfold cP;simp[h,h2],trivial⟩)
   (fun h2=>.rt false ⟨by unfold cP;simp[h,h2],trivial⟩))) aB
structure ShfJ (xs:List Entry) (k:Nat):Prop where
 pos:1<=k
 le:k<=xs.length∨k=1
 ok:zC xs k
theorem ShfJ.start (xs:List Entry):ShfJ xs 1:=⟨Nat.le_refl _,.inr rfl,fun i hi=>by omega⟩
theorem ShfJ.step {xs:List Entry}{k:Nat}{a b:Entry}(h:ShfJ xs k) (hk:k<xs.length) (ha:xs[k-1]? = some a) (hb:xs[k]? = some b) (hab:cP a b=true):ShfJ xs (k+1):=by
 refine⟨by omega,.inl aA,shelfTo_step h.pos hk h.ok ?_⟩;obtain⟨_,rfl⟩:=gsi_.1 ha;obtain⟨_,rfl⟩:=gsi_.1 hb;exact hab
theorem ShfJ.bad {xs:List Entry}{k:Nat}{a b:Entry}(h:ShfJ xs k) (hk:k<xs.length) (ha:xs[k-1]? = some a) (hb:xs[k]? = some b) (hab:cP a b=false):false=dL xs:=by
 obtain⟨_,rfl⟩:=gsi_.1 ha;obtain⟨_,rfl⟩:=gsi_.1 hb;unfold dL;rw[nJ (fun hz=>shelfTo_bad h.pos hk hab hz.2)]
theorem ShfJ.all {xs:List Entry}{k:Nat}(h:ShfJ xs k) (hk:¬(k:Int)<xs.length):decide ((xs.length:Int)<=80)=dL xs:=by
 unfold dL;by_cases h8:xs.length<=80
 ·rw[tK ⟨h8,fun i hi hx=>h.ok i aA hx⟩];simp;omega
 rw[nJ (fun hz=>h8 hz.1)];simp;omega
theorem ShfJ.long {xs:List Entry}(h:(80:Int)<xs.length):false=dL xs:=by
 unfold dL;rw[nJ (fun hz=>by omega)]
theorem ShelfOk_i (xs:List Entry):Ct1 prog 151 [.L xs] [.B (dL xs)]:=
 .one (dL xs) (rk:=fun x=>[.B x])<|vc func151 (fun (hg:gin [Par.L xs])=>let hl:=hg.1
  .l (Γ:=Nat) (fun k=>ShfJ xs k) (fun k=>xs.length-k) [0] [] [0] (fun k=>[vI 3 k]) (fun _=>[]) 1 (h:=ShfJ.start xs) fun k hJ t=>let hp:=hJ.pos
   .s ((k:Int)<xs.length)
    (fun h=>.m (k:Int) 1 (h:=by unfold I64;omega)<|.xe xs (k-1) ((k:Int)-1) (h:=by omega) (he:=by omega) fun a ha ga=>.x xs k (h:=by omega) fun b hb gb=>
     .c func223 (cQ6 a b) fun _=>.v (cP a b)
      (fun h1=>.rt false ⟨hJ.bad aA ha hb h1,trivial⟩)
      (fun h1=>.p k 1<|.n t (k+1) [] (hJ.step aA ha hb h1) aA))
    (fun h=>.rt (decide ((xs.length:Int)<=80)) ⟨hJ.all h,trivial⟩)) aB
theorem ShelfOk_s (xs:List Entry):Ct1 prog 192 [.L xs] [.B (dL xs)]:=
 .one (dL xs) (rk:=fun x=>[.B x])<|vc func192 (fun hg=>.s ((80:Int)<xs.length)
  (fun h=>.rt false ⟨ShfJ.long h,trivial⟩)
  (fun h8=>.l (Γ:=Nat) (fun k=>ShfJ xs k) (fun k=>xs.length-k) [0] [] [0] (fun k=>[vI 3 k]) (fun _=>[]) 1 (h:=ShfJ.start xs) fun k hJ t=>let hp:=hJ.pos
   .s ((k:Int)<xs.length)
    (fun h=>.m (k:Int) 1 (h:=by unfold I64;omega)<|.xe xs (k-1) ((k:Int)-1) (h:=by omega) (he:=by omega) fun a ha ga=>.x xs k (h:=by omega) fun b hb gb=>
     .c func266 (cQ5 a b) fun _=>.v (cP a b)
      (fun h1=>.rt false ⟨hJ.bad aA ha hb h1,trivial⟩)
      (fun h1=>.p k 1<|.n t (k+1) [] (hJ.step aA ha hb h1) aA))
    (fun h=>.rt true ⟨by rw[<- hJ.all h];simp;omega,trivial⟩))) aB
structure RaJ (y:Yard) (id:Int) (k:Nat):Prop where
 le:k<=y.runs.length
 no:(y.runs.take k).any (fun r=>decide (r.id=id))=false
theorem RaJ.next {y:Yard}{id:Int}{k:Nat}{r:Run}(h:RaJ y id k) (hr:y.runs[k]? = some r) (hn:¬r.id=id):RaJ y id (k+1):=by
 obtain⟨hk,rfl⟩:=gsi_.1 hr;exact⟨hk,yE hk h.no (by simp[hn])⟩
theorem RaJ.hit {y:Yard}{id:Int}{k:Nat}{r:Run}(h:RaJ y id k) (hr:y.runs[k]? = some r) (h8:(y.runs.length:Int)<=8) (hn:r.id=id):(k:Int)=aI y id:=by
 obtain⟨hk,rfl⟩:=gsi_.1 hr;have:cJ y id=some k:=by
  unfold cJ;rw[if_pos aA,rI hk h.no (by simp[hn])]
 rw[dC this]
theorem RaJ.none_ {y:Yard}{id:Int}{k:Nat}(h:RaJ y id k) (hk:¬((k:Int)<y.runs.length/\(y.runs.length:Int)<=8)):(-1:Int)=aI y id:=by
 have:cJ y id=none:=by
  unfold cJ;split
  ·have:=h.no;rw[show k=y.runs.length by have:=h.le;omega,take_length]at this;exact vE this
  rfl
 rw[aR9 this]
theorem lV (y:Yard) (id:Int) (hw:y.wt<=1048576):Ct1 prog 155 [.S y,.I id] [.I (aI y id)]:=
 .one (aI y id) (rk:=fun x=>[.I x])<|vc func155 (fun hg=>let hb:=fC y hw
  .s ((8:Int)<y.runs.length)
   (fun h=>.rt (-1) ⟨RaJ.none_ (k:=0) ⟨Nat.zero_le _,rfl⟩ aA,trivial⟩)
   (fun h8=>.in_ (R':=fun o:Option Nat=>ixI o=aI y id) func228 (
    .la (Γ:=Nat) (RaJ y id) (fun k=>y.runs.length-k) (fun k=>[vI 8 k]) (fun _=>[]) 0 (h:=⟨Nat.zero_le _,rfl⟩) fun k hJ t=>let hl:=hJ.le
     .s ((k:Int)<y.runs.length)
      (fun h=>.x y.runs k (h:=by omega) fun r hr gr=>.in_ (R':=fun _:Unit=>True) func229 (.rt () trivial) fun _ _=>.s (r.id=id)
       (fun h1=>.rt (some k) (hJ.hit hr aA h1))
       (fun h1=>.p k 1<|.n t (k+1) [] (hJ.next hr h1) aA))
      (fun h=>.rt none (hJ.none_ (fun z=>h z.1)))) fun o=>match o with
    | none=>fun ho=>.rt (-1) ⟨ho,trivial⟩
    | some k=>fun ho=>.rt (k:Int) ⟨ho,trivial⟩)) aB
theorem lU (y:Yard) (id:Int) (hw:y.wt<=1048576):Ct1 prog 121 [.S y,.I id] [.I (aI y id)]:=
 .one (aI y id) (rk:=fun x=>[.I x])<|vc func121 (fun hg=>let hb:=fC y hw
  .l (Γ:=Nat) (fun k=>RaJ y id k) (fun k=>y.runs.length-k) [1,2] [2] [0,1] (fun k=>[vI 5 k]) (fun _=>[]) 0 (h:=⟨Nat.zero_le _,rfl⟩) fun k hJ t=>let hl:=hJ.le
   .s ((k:Int)<y.runs.length)
    (fun h=>.s ((y.runs.length:Int)<=8)
     (fun h8=>.x y.runs k (h:=by omega) fun r hr gr=>.s (r.id=id)
      (fun h1=>.rt (k:Int) ⟨hJ.hit hr h8 h1,trivial⟩)
      (fun h1=>.p k 1<|.n t (k+1) [] (hJ.next hr h1) aA))
     (fun h8=>.rt (-1) ⟨hJ.none_ (fun z=>h8 z.2),trivial⟩))
    (fun h=>.rt (-1) ⟨hJ.none_ (fun z=>h z.1),trivial⟩)) aB
theorem zJ {y:Yard}{id:Int}(h:(0:Int)<=aI y id):∃q:Nat×Run,cJ y id=some q.1/\aI y id=(q.1:Int)/\y.runs[q.1]? = some q.2:=by
 cases hi:cJ y id with
 | none=>rw[aR9 hi]at h;omega
 | some k=>exact⟨(k,y.runs[k]'(aR6 hi)),rfl,dC hi,getElem?_eq_getElem (aR6 hi)⟩
theorem xW {α:Type}{ts:List α}{x:Int}(h:inB x 0 ((ts.length:Int)-1)=true):∃t,ts[x.toNat]? = some t:=by
 have:=inB_iff.1 h;exact⟨ts[x.toNat]'(by omega),getElem?_eq_getElem aA⟩
theorem kD {x b:Int}(h:inB x 0 b=true):x=(x.toNat:Int):=by have:=inB_iff.1 h;omega
theorem bY3 {y:Yard}{e:Entry}(h:¬(0:Int)<=aI y e.run):false=fresh y e:=by
 have:cJ y e.run=none:=by
  cases hi:cJ y e.run with
  | none=>rfl
  | some k=>rw[dC hi]at h;omega
 unfold fresh;rw[this]
theorem bY4 {y:Yard}{e:Entry}{k:Nat}{r:Run}(hk:cJ y e.run=some k) (hr:y.runs[k]? = some r):fresh y e=(inB e.task 0 ((r.tasks.length:Int)-1) && (match r.tasks[e.task.toNat]? with | some t=>decide (t.state=2) | none=>false)):=by
 unfold fresh;rw[hk];simp only[hr]<;>rfl
theorem bF5 {y:Yard}{e:Entry}{k:Nat}{r:Run}(hk:cJ y e.run=some k) (hr:y.runs[k]? = some r) (h:inB e.task 0 ((r.tasks.length:Int)-1)=false):false=fresh y e:=by rw[bY4 hk hr,h];rfl
theorem bY5 {y:Yard}{e:Entry}{k:Nat}{r:Run}{t:Task}(hk:cJ y e.run=some k) (hr:y.runs[k]? = some r) (h:inB e.task 0 ((r.tasks.length:Int)-1)=true) (ht:r.tasks[e.task.toNat]? = some t):decide (t.state=2)=fresh y e:=by rw[bY4 hk hr,h,ht];rfl
theorem cQ1 (y:Yard) (e:Entry) (hw:y.wt<=1048576):Ct1 prog 230 [.S y,.S e] [.B (fresh y e)]:=
 .one (fresh y e) (rk:=fun x=>[.B x])<|vc func230 (fun (hg:gin [Par.S y,Par.S e])=>.c func155 (lV y e.run hw) (hg:=⟨hg.1.1,trivial⟩) fun _=>.s ((0:Int)<=aI y e.run)
  (fun h=>.ex (zJ h) fun q hq=>.ye hq.2.2 (aI y e.run) (he:=hq.2.1) fun gr=>.m (q.2.tasks.length:Int) 1 (h:=by have:=kA hw hq.2.2;unfold I64;omega)<|.c func50 (bL e.task 0 ((q.2.tasks.length:Int)-1)) fun _=>
   .sb (inB e.task 0 ((q.2.tasks.length:Int)-1))
    (fun h1=>.ye hq.2.2 (aI y e.run) (he:=hq.2.1) fun _=>.ex (xW h1) fun t ht=>.ye ht e.task (he:=kD h1) fun _=>.rt (decide (t.state=2)) ⟨bY5 hq.1 hq.2.2 h1 ht,trivial⟩)
    (fun h1=>.rt false ⟨bF5 hq.1 hq.2.2 h1,trivial⟩))
  (fun h=>.rt false ⟨bY3 h,trivial⟩)) aB
theorem cQ0 (y:Yard) (e:Entry) (hw:y.wt<=1048576):Ct1 prog 196 [.S y,.S e] [.B (fresh y e)]:=
 .one (fresh y e) (rk:=fun x=>[.B x])<|vc func196 (fun (hg:gin [Par.S y,Par.S e])=>.c func121 (lU y e.run hw) (hg:=⟨hg.1.1,trivial⟩) fun _=>.s ((0:Int)<=aI y e.run)
  (fun h=>.ex (zJ h) fun q hq=>.ye hq.2.2 (aI y e.run) (he:=hq.2.1) fun gr=>.m (q.2.tasks.length:Int) 1 (h:=by have:=kA hw hq.2.2;unfold I64;omega)<|.c func37 (InV e.task 0 ((q.2.tasks.length:Int)-1)) fun _=>
   .sb (inB e.task 0 ((q.2.tasks.length:Int)-1))
    (fun h1=>.ye hq.2.2 (aI y e.run) (he:=hq.2.1) fun _=>.ex (xW h1) fun t ht=>.ye ht e.task (he:=kD h1) fun _=>.rt (decide (t.state=2)) ⟨bY5 hq.1 hq.2.2 h1 ht,trivial⟩)
    (fun h1=>.rt false ⟨bF5 hq.1 hq.2.2 h1,trivial⟩))
  (fun h=>.rt false ⟨bY3 h,trivial⟩)) aB
def nL (y:Yard) (k:Nat):List Entry:=(y.shelf.take k).flatten
theorem pW {y:Yard}{k:Nat}{l:List Entry}(h:y.shelf[k]? = some l):nL y k++l=nL y (k+1):=by
 obtain⟨hk,rfl⟩:=gsi_.1 h;unfold nL;rw[flat_to hk]
theorem bG0 (y:Yard) (k:Nat) (h:y.wt<=1048576):(nL y k).length<=1048576:=Nat.le_trans (cM6 y k) h
theorem vL {y:Yard}{k:Nat}{l:List Entry}(h:y.shelf[k]? = some l) (hw:y.wt<=1048576):(nL y k).length+l.length<=1048576:=by
 have:=bG0 y (k+1) hw;rw[<- pW h,length_append]at this;exact this
theorem xX {y:Yard}{k:Nat}(h:k<=y.shelf.length) (hk:¬(k:Int)<y.shelf.length):nL y k=y.shelf.flatten:=by
 unfold nL;rw[take_of_length_le aA]
theorem bJ7 (y:Yard) (hw:y.wt<=1048576):Ct1 prog 152 [.S y] [.L y.shelf.flatten]:=
 vc func152 (fun hg=>let hb:=fC y hw
  .w Entry 173 3<|.l (Γ:=Nat) (fun k=>k<=y.shelf.length) (fun k=>y.shelf.length-k) [1,7,8] [2] [0,1] (fun k=>[vR 3 3,vI 9 k]) (fun k=>[oR 3 173 (nL y k)]) 0 fun k hk t=>
   .s ((k:Int)<y.shelf.length)
    (fun h=>.x y.shelf k (h:=by omega) fun l hl gl=>let hz:=vL hl hw
     .as (inferInstance:Shape Entry) gD (nL y k) l 32 (by unfold maxLen;omega) aA<|.g 3 (pW hl)<|.p k 1<|.n t (k+1) [])
    (fun h=>.g 3 (xX hk h)<|.rt () ⟨trivial,trivial⟩)) aB
theorem bJ6 (y:Yard) (hw:y.wt<=1048576):Ct1 prog 122 [.S y] [.L y.shelf.flatten]:=
 vc func122 (fun hg=>let hb:=fC y hw
  .e Entry<|.l (Γ:=Nat) (fun k=>k<=y.shelf.length) (fun k=>y.shelf.length-k) [1] [2] [0,1] (fun k=>[vR 3 3,vI 4 k]) (fun k=>[oR 3 173 (nL y k)]) 0 fun k hk t=>
   .s ((k:Int)<y.shelf.length)
    (fun h=>.x y.shelf k (h:=by omega) fun l hl gl=>let hz:=vL hl hw
     .as (inferInstance:Shape Entry) gD (nL y k) l 32 (by unfold maxLen;omega) aA<|.g 3 (pW hl)<|.p k 1<|.n t (k+1) [])
    (fun h=>.g 3 (xX hk h)<|.rt () ⟨trivial,trivial⟩)) aB
def lC (r:Run):Nat:=if r.state=1 then r.tasks.length else 0
def fI (y:Yard) (es:List Entry):Nat:=(es.filter (fun e=> !fresh y e)).length
def dK (y:Yard):Int:=((((y.runs).map lC).sum:Nat):Int)+((fI y y.shelf.flatten:Nat):Int)
theorem slotsR_le (r:Run):lC r<=r.wt:=by unfold lC Run.wt;split<;>omega
theorem bC1 (y:Yard) (k:Nat):((y.runs.take k).map lC).sum<=y.wt:=by
 have h1:=cT4 (f:=lC) (g:=fun r:Run=>r.wt) slotsR_le (y.runs.take k);have h2:=kL (fun r:Run=>r.wt) y.runs k;unfold Yard.wt wtL;omega
theorem slotsE_t {y:Yard}{es:List Entry}{k:Nat}(hk:k<es.length) (h:(!fresh y es[k])=true):fI y (es.take (k+1))=fI y (es.take k)+1:=by
 unfold fI;rw[take_succ_eq_append_getElem hk,filter_append,length_append];simp[h]
theorem slotsE_f {y:Yard}{es:List Entry}{k:Nat}(hk:k<es.length) (h:(!fresh y es[k])=false):fI y (es.take (k+1))=fI y (es.take k):=by
 unfold fI;rw[take_succ_eq_append_getElem hk,filter_append,length_append];simp[h]
theorem uT (y:Yard) (es:List Entry):fI y es<=es.length:=length_filter_le _ _
theorem slotsE_app (y:Yard) (a b:List Entry):fI y (a++b)=fI y a+fI y b:=by unfold fI;rw[filter_append,length_append]
theorem slotsR_t {r:Run}(h:r.state=1):lC r=r.tasks.length:=by unfold lC;rw[if_pos h]
theorem slotsR_f {r:Run}(h:¬r.state=1):lC r=0:=by unfold lC;rw[if_neg h]
def tD (id:Int) (task:Int) (e:Entry):Bool:=decide (e.run=id) && decide (e.task=task)
def aF6 (id task:Int) (es:List Entry):Nat:=(es.filter (tD id task)).length
def aD9 (r:Run) (k:Nat) (es:List Entry):Prop:=∀h:k<r.tasks.length,∀e∈es,tD r.id (k:Int) e=true->r.tasks[k].state=2->e.prio=r.plan.prio
def bL7 (now:Int) (r:Run) (es:List Entry) (k:Nat):Prop:=aD9 r k es/\∀h:k<r.tasks.length,(r.tasks[k].state=2->aF6 r.id (k:Int) es=1)/\(r.tasks[k].state=3->now+1<=r.tasks[k].until_/\r.tasks[k].until_<=now+r.plan.wait)
noncomputable def gF (now:Int) (r:Run) (es:List Entry):Bool:=pB (∀k,k<r.tasks.length->bL7 now r es k)
theorem entN_t {id task:Int}{es:List Entry}{k:Nat}(hk:k<es.length) (h:es[k].run=id/\es[k].task=task):aF6 id task (es.take (k+1))=aF6 id task (es.take k)+1:=by
 unfold aF6;rw[take_succ_eq_append_getElem hk,filter_append,length_append];simp[tD,h]
theorem entN_f {id task:Int}{es:List Entry}{k:Nat}(hk:k<es.length) (h:¬(es[k].run=id/\es[k].task=task)):aF6 id task (es.take (k+1))=aF6 id task (es.take k):=by
 have:tD id task es[k]=false:=by
  unfold tD;by_cases h1:es[k].run=id
  ·have h2:¬es[k].task=task:=fun e=>h ⟨h1,e⟩
   simp[h1,h2]
  simp[h1]
 unfold aF6;rw[take_succ_eq_append_getElem hk,filter_append,length_append];simp[this]
theorem aJ9 {r:Run}{k:Nat}{es:List Entry}{i:Nat}(hi:i<es.length) (h:aD9 r k (es.take i)) (h1:∀hk:k<r.tasks.length,es[i].run=r.id->es[i].task=(k:Int)->r.tasks[k].state=2->es[i].prio=r.plan.prio):aD9 r k (es.take (i+1)):=by
 intro hk e he hent hst;rw[take_succ_eq_append_getElem hi]at he;rcases mem_append.1 he with he | he
 ·exact h hk e he hent hst
 rw[mem_singleton]at he;subst he;simp only[tD,Bool.and_eq_true,decide_eq_true_eq]at hent;exact h1 hk hent.1 hent.2 hst
theorem runEnt_step {now:Int}{r:Run}{es:List Entry}{k i:Nat}(hi:i=es.length) (hPr:aD9 r k (es.take i)) (h2:∀h:k<r.tasks.length,(r.tasks[k].state=2->aF6 r.id (k:Int) (es.take i)=1)/\(r.tasks[k].state=3->now+1<=r.tasks[k].until_/\r.tasks[k].until_<=now+r.plan.wait)) (hT:∀j,j<k->bL7 now r es j):∀j,j<k+1->bL7 now r es j:=by
 subst hi;rw[take_length]at hPr h2;intro j hj;rcases Nat.lt_succ_iff_lt_or_eq.1 hj with h1 | rfl
 ·exact hT j h1
 exact⟨hPr,h2⟩
theorem prioOk_bad {r:Run}{k:Nat}{es:List Entry}{i:Nat}(hi:i<es.length) (hk:k<r.tasks.length) (h1:es[i].run=r.id) (h2:es[i].task=(k:Int)) (h3:r.tasks[k].state=2) (h4:¬es[i].prio=r.plan.prio):¬aD9 r k es:=fun h=>h4 (h hk _ (getElem_mem hi) (by simp[tD,h1,h2]) h3)

def slS (y:Yard) (k:Nat):Nat:=((y.runs.take k).map lC).sum
theorem cU1 (y:Yard) (k:Nat) (h:y.wt<=1048576):slS y k<=1048576:=Nat.le_trans (bC1 y k) h
theorem slS_t {y:Yard}{k:Nat}{r:Run}(hr:y.runs[k]? = some r) (h:r.state=1):slS y (k+1)=slS y k+r.tasks.length:=by
 obtain⟨hk,rfl⟩:=gsi_.1 hr;unfold slS;rw[bS5 lC y.runs k hk,slotsR_t h]
theorem slS_f {y:Yard}{k:Nat}{r:Run}(hr:y.runs[k]? = some r) (h:¬r.state=1):slS y (k+1)=slS y k:=by
 obtain⟨hk,rfl⟩:=gsi_.1 hr;unfold slS;rw[bS5 lC y.runs k hk,slotsR_f h];rfl
theorem slE_t {y:Yard}{es:List Entry}{k:Nat}{e:Entry}(he:es[k]? = some e) (h:fresh y e=false):fI y (es.take (k+1))=fI y (es.take k)+1:=by
 obtain⟨hk,rfl⟩:=gsi_.1 he;exact slotsE_t hk (by rw[h];rfl)
theorem slE_f {y:Yard}{es:List Entry}{k:Nat}{e:Entry}(he:es[k]? = some e) (h:fresh y e=true):fI y (es.take (k+1))=fI y (es.take k):=by
 obtain⟨hk,rfl⟩:=gsi_.1 he;exact slotsE_f hk (by rw[h];rfl)
theorem slots_at {y:Yard}{k i:Nat}(hk:k<=y.runs.length) (h1:¬(k:Int)<y.runs.length) (hi:i<=y.shelf.flatten.length) (h2:¬(i:Int)<y.shelf.flatten.length):((slS y k+fI y (y.shelf.flatten.take i):Nat):Int)=dK y:=by
 unfold dK slS;rw[take_of_length_le aA,take_of_length_le aA];omega
theorem slE_le (y:Yard) (i:Nat) (h:y.wt<=1048576):fI y (y.shelf.flatten.take i)<=1048576:=by
 have h1:=uT y (y.shelf.flatten.take i);have h2:=bO7 y;rw[length_take]at h1;omega
theorem bJ1 (y:Yard) (hw:y.wt<=1048576):Ct1 prog 157 [.S y] [.I (dK y)]:=
 .one (dK y) (rk:=fun x=>[.I x])<|vc func157 (fun (hg:gin [Par.S y])=>let hb:=fC y hw
  .l (Γ:=Nat×Nat) (fun g=>g.1<=y.runs.length/\g.2=slS y g.1) (fun g=>y.runs.length-g.1) [1,9,10] [2] [0,1] (fun g=>[vI 3 g.2,vI 11 g.1]) (fun _=>[]) (0,0) (h:=⟨Nat.zero_le _,rfl⟩) fun g hJ t=>let hs:=cU1 y g.1 hw
   .s ((g.1:Int)<y.runs.length)
    (fun h=>.x y.runs g.1 (h:=by omega) fun r hr gr=>let hl:=kA hw hr
     .s (r.state=1)
     (fun h1=>.p (g.2:Int) (r.tasks.length:Int) (h:=by unfold I64;omega)<|.p g.1 1<|.n t (g.1+1,g.2+r.tasks.length) [] ⟨by show g.1+1<=_;omega,by show _=slS y (g.1+1);rw[slS_t hr h1,hJ.2]⟩ (by dsimp only;omega))
     (fun h1=>.p g.1 1<|.n t (g.1+1,g.2) [] ⟨by show g.1+1<=_;omega,by show _=slS y (g.1+1);rw[slS_f hr h1,hJ.2]⟩ (by dsimp only;omega)))
    (fun h=>.c func152 (bJ7 y hw) (hg:=⟨hg.1.1,trivial⟩) fun _=>
     .l (Γ:=Nat×Nat) (fun q=>q.1<=y.shelf.flatten.length/\q.2=slS y g.1+fI y (y.shelf.flatten.take q.1)) (fun q=>y.shelf.flatten.length-q.1) [1,25,26] [2,3] [0,1] (fun q=>[vI 3 q.2,vI 27 q.1]) (fun _=>[]) (0,g.2) (h:=⟨Nat.zero_le _,by rw[hJ.2];rfl⟩) fun q hq t2=>let hse:=slE_le y q.1 hw
      let hs2:(q.2:Int)<=4194304:=by have:=hq.2;omega
      .s ((q.1:Int)<y.shelf.flatten.length)
       (fun h2=>.x y.shelf.flatten q.1 (h:=by omega) fun e he ge=>.c func230 (cQ1 y e hw) (hg:=⟨hg.1.1,ge,trivial⟩) fun _=>.v (fresh y e)
        (fun h3=>.p (q.2:Int) 1 (h:=by unfold I64;omega)<|.p q.1 1<|.n t2 (q.1+1,q.2+1) [] ⟨by show q.1+1<=_;omega,by show q.2+1=slS y g.1+_;rw[slE_t he h3,hq.2];rfl⟩ (by dsimp only;omega))
        (fun h3=>.p q.1 1<|.n t2 (q.1+1,q.2) [] ⟨by show q.1+1<=_;omega,by show q.2=slS y g.1+_;rw[slE_f he h3,hq.2]⟩ (by dsimp only;omega)))
       (fun h2=>.rt (q.2:Int) ⟨by rw[hq.2];exact slots_at hJ.1 h hq.1 h2,trivial⟩))) aB
def slF (y:Yard) (i:Nat):Nat:=fI y (nL y i)
theorem slF_le (y:Yard) (i:Nat) (h:y.wt<=1048576):slF y i<=1048576:=Nat.le_trans (uT y _) (bG0 y i h)
theorem slF_step {y:Yard}{i j:Nat}{l:List Entry}(hl:y.shelf[i]? = some l) (hj:j<=l.length) (h:¬(j:Int)<l.length):slF y i+fI y (l.take j)=slF y (i+1):=by
 unfold slF;rw[<- pW hl,slotsE_app,take_of_length_le aA]
theorem slF_all {y:Yard}{k i:Nat}(hk:k<=y.runs.length) (h1:¬(k:Int)<y.runs.length) (hi:i<=y.shelf.length) (h2:¬(i:Int)<y.shelf.length):((slS y k+slF y i:Nat):Int)=dK y:=by
 unfold dK slS slF;rw[take_of_length_le aA,xX hi h2];omega
theorem bJ0 (y:Yard) (hw:y.wt<=1048576):Ct1 prog 124 [.S y] [.I (dK y)]:=
 .one (dK y) (rk:=fun x=>[.I x])<|vc func124 (fun (hg:gin [Par.S y])=>let hb:=fC y hw
  .l (Γ:=Nat×Nat) (fun g=>g.1<=y.runs.length/\g.2=slS y g.1) (fun g=>y.runs.length-g.1) [1] [2] [0,1] (fun g=>[vI 3 g.2,vI 4 g.1]) (fun _=>[]) (0,0) (h:=⟨Nat.zero_le _,rfl⟩) fun g hJ t=>let hs:=cU1 y g.1 hw
   .s ((g.1:Int)<y.runs.length)
    (fun h=>.x y.runs g.1 (h:=by omega) fun r hr gr=>let hl:=kA hw hr
     .s (r.state=1)
     (fun h1=>.y hr fun _=>.p (g.2:Int) (r.tasks.length:Int) (h:=by unfold I64;omega)<|.p g.1 1<|.n t (g.1+1,g.2+r.tasks.length) [] ⟨by show g.1+1<=_;omega,by show _=slS y (g.1+1);rw[slS_t hr h1,hJ.2]⟩ (by dsimp only;omega))
     (fun h1=>.p g.1 1<|.n t (g.1+1,g.2) [] ⟨by show g.1+1<=_;omega,by show _=slS y (g.1+1);rw[slS_f hr h1,hJ.2]⟩ (by dsimp only;omega)))
    (fun h=>.l (Γ:=Nat×Nat) (fun q=>q.1<=y.shelf.length/\q.2=slS y g.1+slF y q.1) (fun q=>y.shelf.length-q.1) [1] [2] [0,1] (fun q=>[vI 3 q.2,vI 5 q.1]) (fun _=>[]) (0,g.2) (h:=⟨Nat.zero_le _,by rw[hJ.2];rfl⟩) fun q hq t2=>let hse:=slF_le y q.1 hw
      .s ((q.1:Int)<y.shelf.length)
       (fun h2=>.ex (p:=fun l=>y.shelf[q.1]? = some l) ⟨_,getElem?_eq_getElem (show q.1<y.shelf.length by omega)⟩ fun l hl=>let hll:l.length<=1048576:=(by have:=vL hl hw;omega)
        .l (Γ:=Nat×Nat) (fun z=>z.1<=l.length/\z.2=q.2+fI y (l.take z.1)) (fun z=>l.length-z.1) [1,5] [2] [0,1] (fun z=>[vI 3 z.2,vI 6 z.1]) (fun _=>[]) (0,q.2) (h:=⟨Nat.zero_le _,rfl⟩) fun z hz t3=>let hsz:=Nat.le_trans (uT y (l.take z.1)) (length_take_le _ _)
         let hs3:(z.2:Int)<=8388608:=by have:=hz.2;have:=hq.2;omega
         .y hl fun _=>.s ((z.1:Int)<l.length)
          (fun h3=>.y hl fun _=>.x l z.1 (h:=by omega) fun e he ge=>.c func196 (cQ0 y e hw) (hg:=⟨hg.1.1,ge,trivial⟩) fun _=>.v (fresh y e)
           (fun h4=>.p (z.2:Int) 1 (h:=by unfold I64;omega)<|.p z.1 1<|.n t3 (z.1+1,z.2+1) [] ⟨by show z.1+1<=_;omega,by show z.2+1=q.2+_;rw[slE_t he h4,hz.2];rfl⟩ (by dsimp only;omega))
           (fun h4=>.p z.1 1<|.n t3 (z.1+1,z.2) [] ⟨by show z.1+1<=_;omega,by show z.2=q.2+_;rw[slE_f he h4,hz.2]⟩ (by dsimp only;omega)))
          (fun h3=>.p q.1 1<|.n t2 (q.1+1,z.2) [] ⟨by show q.1+1<=_;omega,by show z.2=slS y g.1+slF y (q.1+1);rw[<- slF_step hl hz.1 h3,hz.2,hq.2];omega⟩ (by dsimp only;omega)))
       (fun h2=>.rt (q.2:Int) ⟨by rw[hq.2];exact slF_all hJ.1 h hq.1 h2,trivial⟩))) aB
structure EnJ (r:Run) (es:List Entry) (k:Nat) (g:Nat×Nat):Prop where
 le:g.1<=es.length
 pr:aD9 r k (es.take g.1)
 cnt:g.2=aF6 r.id (k:Int) (es.take g.1)
 bd:g.2<=g.1
theorem EnJ.start (r:Run) (es:List Entry) (k:Nat):EnJ r es k (0,0):=⟨Nat.zero_le _,fun _ e he=>by simp at he,rfl,Nat.le_refl _⟩
theorem EnJ.skip {r:Run}{es:List Entry}{k:Nat}{g:Nat×Nat}{e:Entry}(h:EnJ r es k g) (he:es[g.1]? = some e) (hn:¬(e.run=r.id/\e.task=(k:Int))):EnJ r es k (g.1+1,g.2):=by
 obtain⟨hk,rfl⟩:=gsi_.1 he;exact⟨hk,aJ9 hk h.pr (fun _ h1 h2 _=>absurd ⟨h1,h2⟩ hn),by rw[h.cnt];exact(entN_f hk hn).symm,Nat.le_succ_of_le h.bd⟩
theorem EnJ.take {r:Run}{es:List Entry}{k:Nat}{g:Nat×Nat}{e:Entry}{t:Task}(h:EnJ r es k g) (he:es[g.1]? = some e) (h1:e.run=r.id) (h2:e.task=(k:Int)) (ht:r.tasks[k]? = some t) (h3:t.state=2->e.prio=r.plan.prio):EnJ r es k (g.1+1,g.2+1):=by
 obtain⟨hk,rfl⟩:=gsi_.1 he;obtain⟨hkt,rfl⟩:=gsi_.1 ht;exact⟨hk,aJ9 hk h.pr (fun _ _ _ h4=>h3 h4),by rw[h.cnt];exact(entN_t hk ⟨h1,h2⟩).symm,Nat.succ_le_succ h.bd⟩
theorem EnJ.bad {now:Int}{r:Run}{es:List Entry}{k:Nat}{g:Nat×Nat}{e:Entry}{t:Task}(h:EnJ r es k g) (he:es[g.1]? = some e) (h1:e.run=r.id) (h2:e.task=(k:Int)) (ht:r.tasks[k]? = some t) (h3:t.state=2) (h4:¬e.prio=r.plan.prio):false=gF now r es:=by
 obtain⟨hk,rfl⟩:=gsi_.1 he;obtain⟨hkt,rfl⟩:=gsi_.1 ht;unfold gF;rw[nJ (fun hz=>prioOk_bad hk hkt h1 h2 h3 h4 (hz k hkt).1)]
structure RoJ (now:Int) (r:Run) (es:List Entry) (k:Nat):Prop where
 le:k<=r.tasks.length
 ok:∀j,j<k->bL7 now r es j
theorem RoJ.start (now:Int) (r:Run) (es:List Entry):RoJ now r es 0:=⟨Nat.zero_le _,fun j hj=>by omega⟩
theorem RoJ.next {now:Int}{r:Run}{es:List Entry}{k:Nat}{g:Nat×Nat}{t:Task}(h:RoJ now r es k) (ht:r.tasks[k]? = some t) (hq:EnJ r es k g) (hg:¬(g.1:Int)<es.length) (h2:t.state=2->(g.2:Int)=1) (h3:t.state=3->inB t.until_ (now+1) (now+r.plan.wait)=true):RoJ now r es (k+1):=by
 obtain⟨hkt,rfl⟩:=gsi_.1 ht;refine⟨hkt,runEnt_step (i:=g.1) (by have:=hq.le;omega) hq.pr (fun _=>⟨fun hs=>?_,fun hs=>inB_iff.1 (h3 hs)⟩) h.ok⟩;have:=h2 hs;rw[<- hq.cnt];omega
theorem RoJ.cnt_bad {now:Int}{r:Run}{es:List Entry}{k:Nat}{g:Nat×Nat}{t:Task}(ht:r.tasks[k]? = some t) (hq:EnJ r es k g) (hg:¬(g.1:Int)<es.length) (h2:t.state=2) (h3:¬(g.2:Int)=1):false=gF now r es:=by
 obtain⟨hkt,rfl⟩:=gsi_.1 ht;unfold gF;rw[nJ (fun hz=>?_)];have h4:=((hz k hkt).2 hkt).1 h2;have:=hq.cnt;rw[take_of_length_le (by have:=hq.le;omega)]at this;omega
theorem RoJ.till_bad {now:Int}{r:Run}{es:List Entry}{k:Nat}{t:Task}(ht:r.tasks[k]? = some t) (h2:t.state=3) (h3:inB t.until_ (now+1) (now+r.plan.wait)=false):false=gF now r es:=by
 obtain⟨hkt,rfl⟩:=gsi_.1 ht;unfold gF;rw[nJ (fun hz=>?_)];have h4:=((hz k hkt).2 hkt).2 h2;rw[inB_iff.2 h4]at h3;cases h3
theorem RoJ.all {now:Int}{r:Run}{es:List Entry}{k:Nat}(h:RoJ now r es k) (hk:¬(k:Int)<r.tasks.length):true=gF now r es:=by
 unfold gF;rw[tK (fun j hj=>h.ok j (by have:=h.le;omega))]
theorem RunsOk_i (y:Yard) (r:Run) (es:List Entry) (hn:0<=y.now/\y.now<=999999980) (hwt:0<=r.plan.wait/\r.plan.wait<=20) (hl:es.length<=1048576):Ct1 prog 156 [.S y,.S r,.L es] [.B (gF y.now r es)]:=
 .one (gF y.now r es) (rk:=fun x=>[.B x])<|vc func156 (fun (hg:gin [Par.S y,Par.S r,Par.L es])=>let hrl:=hg.2.1.2.2.1
  .l (Γ:=Nat) (fun k=>RoJ y.now r es k) (fun k=>r.tasks.length-k) [2,3,4,13,14] [5,6] [0,1,2,3,4] (fun k=>[vI 15 k]) (fun _=>[]) 0 (h:=RoJ.start _ _ _) fun k hJ t=>
   .s ((k:Int)<r.tasks.length)
    (fun h=>.x r.tasks k (h:=by omega) fun u hu gu=>.l (Γ:=Nat×Nat) (fun g=>EnJ r es k g) (fun g=>es.length-g.1) [2,3,4,7,8,13,14,15,20,21] [5,6,8] [0,1,2,3,4] (fun g=>[vI 9 g.2,vI 22 g.1]) (fun _=>[]) (0,0) (h:=EnJ.start _ _ _) fun g hq t2=>let hb:=hq.bd
      let hle:=hq.le
      .s ((g.1:Int)<es.length)
       (fun h2=>.x es g.1 (h:=by omega) fun e he ge=>.s (e.run=r.id)
        (fun h3=>.s (e.task=(k:Int))
         (fun h4=>.s (u.state=2)
          (fun h5=>.u (e.prio=r.plan.prio)
           (fun h6=>.rt false ⟨hq.bad he h3 h4 hu h5 h6,trivial⟩)
           (fun h6=>.p (g.2:Int) 1 (h:=by unfold I64;omega)<|.p g.1 1<|.n t2 (g.1+1,g.2+1) [] (hq.take he h3 h4 hu (fun _=>h6)) (by dsimp only;omega)))
          (fun h5=>.p (g.2:Int) 1 (h:=by unfold I64;omega)<|.p g.1 1<|.n t2 (g.1+1,g.2+1) [] (hq.take he h3 h4 hu (fun z=>absurd z h5)) (by dsimp only;omega)))
         (fun h4=>.p g.1 1<|.n t2 (g.1+1,g.2) [] (hq.skip he (fun z=>h4 z.2)) (by dsimp only;omega)))
        (fun h3=>.p g.1 1<|.n t2 (g.1+1,g.2) [] (hq.skip he (fun z=>h3 z.1)) (by dsimp only;omega)))
       (fun h2=>.s (u.state=2)
        (fun h5=>.u ((g.2:Int)=1)
         (fun h6=>.rt false ⟨RoJ.cnt_bad hu hq h2 h5 h6,trivial⟩)
         (fun h6=>.kf (u.state=3) aA<|.p k 1<|.n t (k+1) [] (hJ.next hu hq h2 (fun _=>h6) (fun z=>by omega)) aA))
        (fun h5=>.s (u.state=3)
         (fun h6=>.p y.now 1<|.p y.now r.plan.wait<|.c func50 (bL u.until_ (y.now+1) (y.now+r.plan.wait)) fun _=>.v (inB u.until_ (y.now+1) (y.now+r.plan.wait))
          (fun h7=>.rt false ⟨RoJ.till_bad hu h6 h7,trivial⟩)
          (fun h7=>.p k 1<|.n t (k+1) [] (hJ.next hu hq h2 (fun z=>absurd z h5) (fun _=>h7)) aA))
         (fun h6=>.p k 1<|.n t (k+1) [] (hJ.next hu hq h2 (fun z=>absurd z h5) (fun z=>absurd z h6)) aA))))
    (fun h=>.rt true ⟨hJ.all h,trivial⟩)) aB
theorem RunsOk_s (y:Yard) (r:Run) (es:List Entry) (hn:0<=y.now/\y.now<=999999980) (hwt:0<=r.plan.wait/\r.plan.wait<=20) (hl:es.length<=1048576):Ct1 prog 123 [.S y,.S r,.L es] [.B (gF y.now r es)]:=
 .one (gF y.now r es) (rk:=fun x=>[.B x])<|vc func123 (fun (hg:gin [Par.S y,Par.S r,Par.L es])=>let hrl:=hg.2.1.2.2.1
  .l (Γ:=Nat) (fun k=>RoJ y.now r es k) (fun k=>r.tasks.length-k) [2,3,4] [5,6] [0,1,2,3,4] (fun k=>[vI 7 k]) (fun _=>[]) 0 (h:=RoJ.start _ _ _) fun k hJ t=>
   .s ((k:Int)<r.tasks.length)
    (fun h=>.ex (p:=fun u=>r.tasks[k]? = some u) ⟨_,getElem?_eq_getElem (show k<r.tasks.length by omega)⟩ fun u hu=>.l (Γ:=Nat×Nat) (fun g=>EnJ r es k g) (fun g=>es.length-g.1) [2,3,4,7] [5,6] [0,1,2,3,4] (fun g=>[vI 8 g.2,vI 9 g.1]) (fun _=>[]) (0,0) (h:=EnJ.start _ _ _) fun g hq t2=>let hb:=hq.bd
      let hle:=hq.le
      .s ((g.1:Int)<es.length)
       (fun h2=>.x es g.1 (h:=by omega) fun e he ge=>.s (e.run=r.id)
        (fun h3=>.y he fun _=>.s (e.task=(k:Int))
         (fun h4=>.p (g.2:Int) 1 (h:=by unfold I64;omega)<|.y hu fun _=>.s (u.state=2)
          (fun h5=>.y he fun _=>.u (e.prio=r.plan.prio)
           (fun h6=>.rt false ⟨hq.bad he h3 h4 hu h5 h6,trivial⟩)
           (fun h6=>.p g.1 1<|.n t2 (g.1+1,g.2+1) [] (hq.take he h3 h4 hu (fun _=>h6)) (by dsimp only;omega)))
          (fun h5=>.p g.1 1<|.n t2 (g.1+1,g.2+1) [] (hq.take he h3 h4 hu (fun z=>absurd z h5)) (by dsimp only;omega)))
         (fun h4=>.p g.1 1<|.n t2 (g.1+1,g.2) [] (hq.skip he (fun z=>h4 z.2)) (by dsimp only;omega)))
        (fun h3=>.p g.1 1<|.n t2 (g.1+1,g.2) [] (hq.skip he (fun z=>h3 z.1)) (by dsimp only;omega)))
       (fun h2=>.y hu fun _=>.s (u.state=2)
        (fun h5=>.u ((g.2:Int)=1)
         (fun h6=>.rt false ⟨RoJ.cnt_bad hu hq h2 h5 h6,trivial⟩)
         (fun h6=>.y hu fun _=>.kf (u.state=3) aA<|.p k 1<|.n t (k+1) [] (hJ.next hu hq h2 (fun _=>h6) (fun z=>by omega)) aA))
        (fun h5=>.y hu fun _=>.s (u.state=3)
         (fun h6=>.y hu fun _=>.p y.now 1<|.p y.now r.plan.wait<|.c func37 (InV u.until_ (y.now+1) (y.now+r.plan.wait)) fun _=>.v (inB u.until_ (y.now+1) (y.now+r.plan.wait))
          (fun h7=>.rt false ⟨RoJ.till_bad hu h6 h7,trivial⟩)
          (fun h7=>.p k 1<|.n t (k+1) [] (hJ.next hu hq h2 (fun z=>absurd z h5) (fun _=>h7)) aA))
         (fun h6=>.p k 1<|.n t (k+1) [] (hJ.next hu hq h2 (fun z=>absurd z h5) (fun z=>absurd z h6)) aA))))
    (fun h=>.rt true ⟨hJ.all h,trivial⟩)) aB
def Way (es:List Edge):Int->List Int->Prop
 | _,[]=>True
 | a,v::vs=>(⟨a,v⟩:Edge)∈es/\Way es v vs
def Rch (es:List Edge) (a b:Int):Prop:=∃vs,Way es a (vs++[b])
theorem Way.append {es:List Edge}:∀{vs ws:List Int}{a:Int},Way es a (vs++ws)↔Way es a vs/\Way es ((a::vs).getLast (by simp)) ws
 | [],ws,a=>by simp[Way]
 | v::vs,ws,a=>by
  simp only[cons_append,Way];rw[Way.append (vs:=vs)];simp[getLast_cons,and_assoc]
theorem bE6 (a:Int) (vs:List Int) (b:Int):(a::(vs++[b])).getLast (cons_ne_nil _ _)=b:=by
 rw[getLast_cons (by simp)];simp
theorem Rch.one {es:List Edge}{a b:Int}(h:(⟨a,b⟩:Edge)∈es):Rch es a b:=⟨[],h,trivial⟩
theorem Rch.cons {es:List Edge}{a b c:Int}(h:(⟨a,b⟩:Edge)∈es) (k:Rch es b c):Rch es a c:=by
 obtain⟨vs,hv⟩:=k;exact⟨b::vs,h,hv⟩
theorem Rch.snoc {es:List Edge}{a b c:Int}(h:Rch es a b) (k:(⟨b,c⟩:Edge)∈es):Rch es a c:=by
 obtain⟨vs,hv⟩:=h;refine⟨vs++[b],?_⟩;rw[Way.append];refine⟨hv,?_⟩;rw[bE6];exact⟨k,trivial⟩

theorem tN:∀(n:Nat) (l:List Int),l.Nodup->(∀x∈l,0<=x/\x<n)->l.length<=n
 | 0,l,_,h=>by
  cases l with
  | nil=>simp
  | cons x l=>have:=h x (by simp);omega
 | n+1,l,hn,h=>by
  have h1:=tN n (l.erase (n:Int)) (hn.erase _) (fun x hx=>by
   have hm:=mem_of_mem_erase hx;have hne:x≠(n:Int):=fun e=>by
    subst e;exact absurd hx hn.not_mem_erase
   have:=h x hm;omega)
  have h2:l.length<=(l.erase (n:Int)).length+1:=by
   rw[length_erase];split<;>omega
  omega
theorem bE0:∀{l:List Int},¬l.Nodup->∃x l1 l2 l3,l=l1++x::l2++x::l3
 | [],h=>by simp at h
 | y::l,h=>by
  by_cases hm:y∈l
  ·obtain⟨l2,l3,rfl⟩:=append_of_mem hm;exact⟨y,[],l2,l3,rfl⟩
  ·have:¬l.Nodup:=fun hn=>h (nodup_cons.2 ⟨hm,hn⟩)
   obtain⟨x,l1,l2,l3,rfl⟩:=bE0 this;exact⟨x,y::l1,l2,l3,rfl⟩
theorem Way.mem {es:List Edge}:∀{vs:List Int}{a x:Int},Way es a vs->x∈vs->∃e∈es,e.to_=x
 | v::vs,a,x,h,hx=>by
  rcases mem_cons.1 hx with rfl | hx
  ·exact⟨_,h.1,rfl⟩
  ·exact Way.mem h.2 hx
theorem Rch.short {es:List Edge}{n:Nat}(hr:∀e∈es,0<=e.to_/\e.to_<n) {a b:Int}(h:Rch es a b):∃vs,Way es a (vs++[b])/\(vs++[b]).length<=n:=by
 obtain⟨vs,hv⟩:=h
 induction hk:vs.length using Nat.strongRecOn generalizing vs with
 | _ k ih=>
  subst hk;by_cases hn:(vs++[b]).Nodup
  ·exact⟨vs,hv,tN n _ hn (fun x hx=>by obtain⟨e,he,rfl⟩:=Way.mem hv hx;exact hr e he)⟩
  obtain⟨x,l1,l2,l3,hl⟩:=bE0 hn;have hv2:=hv;rw[hl,Way.append]at hv2;have hw:=hv2.1;rw[show l1++x::l2=l1++[x]++l2 by simp,Way.append]at hw;have hnew:Way es a (l1++[x]++l3):=by
   rw[Way.append];refine⟨hw.1,?_⟩;have h3:=hv2.2;rw[bE6];have e1:(a::(l1++x::l2)).getLast (cons_ne_nil _ _)=(a::(l1++x::l2)).getLast (cons_ne_nil _ _):=rfl;exact h3.2
  have hlast:∃ws,l1++[x]++l3=ws++[b]/\ws.length<vs.length:=by
   have hlen:=congrArg List.length hl;simp only[length_append,length_cons,length_nil]at hlen;by_cases h3:l3=[]
   ·subst h3;have e2:x=b:=by
     have:=(append_inj' hl rfl).2;simpa using this.symm
    subst e2;exact⟨l1,by simp,by omega⟩
   obtain⟨m,y,rfl⟩:∃m y,l3=m++[y]:=⟨l3.dropLast,l3.getLast h3,(dropLast_concat_getLast h3).symm⟩;have e2:y=b:=by
    have hl2:vs++[b]=(l1++x::l2++x::m)++[y]:=by rw[hl];simp
    have:=(append_inj' hl2 rfl).2;simpa using this.symm
   subst e2;refine⟨l1++[x]++m,by simp,?_⟩;simp at hlen ⊢;omega
  obtain⟨ws,he,hlt⟩:=hlast;rw[he]at hnew;exact ih ws.length hlt ws hnew rfl

def pH (m:List Nat) (a:Int) (b:Int):Bool:=(m.getD a.toNat 0).testBit b.toNat
def jR (m:List Nat) (e:Edge):List Nat:=m.set e.from_.toNat (m.getD e.from_.toNat 0 ||| (1 <<< e.to_.toNat ||| m.getD e.to_.toNat 0))
def jM (es:List Edge) (m:List Nat):List Nat:=es.foldl jR m
def eI (es:List Edge) (m:List Nat):Nat->List Nat
 | 0=>m
 | k+1=>jM es (eI es m k)
def EdgesIn (n:Nat) (es:List Edge):Prop:=∀e∈es,(0<=e.from_/\e.from_<n)/\(0<=e.to_/\e.to_<n)
theorem sG (m:List Nat) (e:Edge):(jR m e).length=m.length:=by simp[jR]
theorem aD8:∀(es:List Edge) (m:List Nat),(jM es m).length=m.length
 | [],m=>rfl
 | e::es,m=>by show (jM es (jR m e)).length=_;rw[aD8 es,sG]
theorem mE (es:List Edge) (m:List Nat):∀k,(eI es m k).length=m.length
 | 0=>rfl
 | k+1=>by rw[eI,aD8,mE es m k]
theorem sY {m:List Nat}{e:Edge}{a b:Int}(ha:0<=a/\a<m.length) (hb:0<=b) (he:0<=e.from_/\0<=e.to_):pH (jR m e) a b=(pH m a b || (decide (a=e.from_) && (decide (b=e.to_) || pH m e.to_ b))):=by
 unfold pH jR;by_cases h:a=e.from_
 ·subst h;have hl:e.from_.toNat<m.length:=by omega
  rw[getD_eq_getElem?_getD,getElem?_set_self hl];simp only[Option.getD_some,decide_true,Bool.true_and,Nat.testBit_or];congr 1;congr 1;rw[Nat.one_shiftLeft,Nat.testBit_two_pow];by_cases h2:b=e.to_
  ·subst h2;simp
  have:¬e.to_.toNat=b.toNat:=by omega
  simp[h2,this]
 have hne:¬e.from_.toNat=a.toNat:=by omega
 rw[getD_eq_getElem?_getD,getElem?_set_ne hne];simp[h,getD_eq_getElem?_getD]
theorem aS4 {n:Nat}:∀{es:List Edge}{m:List Nat}{a b:Int},EdgesIn n es->m.length=n->(0<=a/\a<n)->0<=b->pH m a b=true->pH (jM es m) a b=true
 | [],m,a,b,_,_,_,_,h=>h
 | e::es,m,a,b,hi,hl,ha,hb,h=>by
  refine aS4 (es:=es) (m:=jR m e) (fun x hx=>hi x (by simp[hx])) (by rw[sG,hl]) ha hb ?_;have:=hi e (by simp);rw[sY aA hb aA,h];rfl
theorem xH {n:Nat}:∀{es:List Edge}{m:List Nat}{e:Edge}{b:Int},EdgesIn n es->m.length=n->e∈es->0<=b->(b=e.to_∨pH m e.to_ b=true)->pH (jM es m) e.from_ b=true
 | e0::es,m,e,b,hi,hl,he,hb,h=>by
  have h0:=hi e0 (by simp);have hlen:(jR m e0).length=n:=by rw[sG,hl]
  have hi':EdgesIn n es:=fun x hx=>hi x (by simp[hx])
  rcases mem_cons.1 he with rfl | he
  ·refine aS4 (es:=es) hi' hlen h0.1 hb ?_;rw[sY aA hb aA];rcases h with h | h
   ·simp[h]
   simp[h]
  refine xH (es:=es) (m:=jR m e0) hi' hlen he hb ?_;rcases h with h | h
  ·exact .inl h
  refine .inr ?_;have h1:=hi e (by simp[he]);rw[sY aA hb aA,h];rfl
theorem aJ6 {n:Nat}{all:List Edge}:∀{es:List Edge}{m:List Nat},EdgesIn n es->m.length=n->(∀e∈es,e∈all)->(∀a b:Int,0<=a->a<n->0<=b->pH m a b=true->Rch all a b)->∀a b:Int,0<=a->a<n->0<=b->pH (jM es m) a b=true->Rch all a b
 | [],m,_,_,_,h=>h
 | e::es,m,hi,hl,hs,h=>by
  refine aJ6 (es:=es) (m:=jR m e) (fun x hx=>hi x (by simp[hx])) (by rw[sG,hl]) (fun x hx=>hs x (by simp[hx])) ?_;intro a b ha ha2 hb hbit;have h0:=hi e (by simp);rw[sY aA hb aA]at hbit;simp only[Bool.or_eq_true,Bool.and_eq_true,decide_eq_true_eq]at hbit;rcases hbit with hbit | ⟨rfl,hbit⟩
  ·exact h a b ha ha2 hb hbit
  ·have hem:(⟨e.from_,e.to_⟩:Edge)∈all:=hs e (by simp);rcases hbit with rfl | hbit
   ·exact .one hem
   ·exact .cons hem (h e.to_ b h0.2.1 h0.2.2 hb hbit)
theorem aS6 {n:Nat}{es:List Edge}{m:List Nat}(hi:EdgesIn n es) (hl:m.length=n):∀(k:Nat) {a b:Int}{vs:List Int},Way es a (vs++[b])->(vs++[b]).length<=k->pH (eI es m k) a b=true
 | 0,a,b,vs,_,h=>by simp at h
 | k+1,a,b,[],hw,h=>by
  rw[eI];have hb:=hi _ hw.1;exact xH (e:=⟨a,b⟩) hi (by rw[mE,hl]) hw.1 hb.2.1 (.inl rfl)
 | k+1,a,b,v::vs,hw,h=>by
  rw[eI];have h1:=aS6 hi hl k (vs:=vs) hw.2 (by simpa using h);have hb:0<=b:=by
   have:b∈vs++[b]:=by simp
   obtain⟨e,he,rfl⟩:=Way.mem hw.2 this;exact(hi e he).2.1
  exact xH (e:=⟨a,v⟩) hi (by rw[mE,hl]) hw.1 hb (.inr h1)
theorem waits_iff {n:Nat}{es:List Edge}(hi:EdgesIn n es) {a b:Int}(ha:0<=a/\a<n) (hb:0<=b):pH (eI es (List.replicate n 0) n) a b=true↔Rch es a b:=by
 constructor
 ·have key:∀k,∀a b:Int,0<=a->a<n->0<=b->pH (eI es (List.replicate n 0) k) a b=true->Rch es a b:=by
   intro k
   induction k with
   | zero=>
    intro a b _ _ _ h;simp only[eI,pH,getD_eq_getElem?_getD,getElem?_replicate]at h;split at h<;>simp at h
   | succ k ih=>exact aJ6 hi (by rw[mE];simp) (fun e he=>he) ih
  exact key n a b ha.1 ha.2 hb
 intro h;obtain⟨vs,hv,hlen⟩:=h.short (n:=n) (fun e he=>(hi e he).2);exact aS6 hi (by simp) n hv hlen
structure BInv (es:List Edge) (n:Nat) (t:Int) (q:List Int) (out:List Bool) (h i:Nat):Prop where
 head:q[0]? = some t
 len:out.length=n
 mark:∀x:Int,0<=x->x<n->(out.getD x.toNat false=true↔x∈q.tail)
 nodup:q.tail.Nodup
 sound:∀x∈q.tail,Rch es t x
 range:∀x∈q.tail,0<=x/\x<n
 done:∀(k:Nat) (x:Int),k<h->q[k]? = some x->∀e∈es,e.from_=x->e.to_∈q.tail
 part:∀x:Int,q[h]? = some x->∀e∈es.take i,e.from_=x->e.to_∈q.tail
section
variable {es:List Edge}{n:Nat}{t:Int}{q:List Int}{out:List Bool}{h i:Nat}
theorem BInv.start:BInv es n t [t] (List.replicate n false) 0 0:=
 ⟨rfl,by simp,fun x _ _=>by
  simp only[getD_eq_getElem?_getD,getElem?_replicate,tail_cons,not_mem_nil,iff_false];split<;>simp,by simp,by simp,by simp,fun k x hk=>absurd hk (Nat.not_lt_zero k),by simp⟩
theorem BInv.len_le (b:BInv es n t q out h i):q.length<=n+1:=by
 have:=tN n q.tail b.nodup b.range;rw[length_tail]at this;omega
theorem mem_of_tail {q:List Int}{x:Int}(h:x∈q.tail):x∈q:=mem_of_mem_tail h
theorem BInv.at (b:BInv es n t q out h i) {k:Nat}{x:Int}(hk:q[k]? = some x):x=t∨x∈q.tail:=by
 cases k with
 | zero=>rw[b.head]at hk;exact .inl (Option.some.inj hk).symm
 | succ k=>exact .inr (mem_of_getElem? (by rw[getElem?_tail];exact hk))
theorem BInv.skip (b:BInv es n t q out h i) (hin:EdgesIn n es) {e:Edge}(hi:es[i]? = some e) {x:Int}(hx:q[h]? = some x) (hne:¬(e.from_=x/\out.getD e.to_.toNat false=false)):BInv es n t q out h (i+1):=by
 refine⟨b.head,b.len,b.mark,b.nodup,b.sound,b.range,b.done,?_⟩;intro y hy e' he' hf;rw[hx]at hy;obtain rfl:=Option.some.inj hy;obtain⟨hil,rfl⟩:=gsi_.1 hi;rw[take_succ_eq_append_getElem hil]at he';rcases mem_append.1 he' with h1 | h1
 ·exact b.part x hx e' h1 hf
 simp at h1;subst h1;have hr:=hin es[i] (getElem_mem hil);refine(b.mark es[i].to_ hr.2.1 hr.2.2).1 ?_;cases ho:out.getD es[i].to_.toNat false with
 | true=>rfl
 | false=>exact absurd ⟨hf,ho⟩ hne
theorem BInv.add (b:BInv es n t q out h i) (hin:EdgesIn n es) {e:Edge}(hi:es[i]? = some e) {x:Int}(hx:q[h]? = some x) (hf:e.from_=x) (ho:out.getD e.to_.toNat false=false):BInv es n t (q++[e.to_]) (out.set e.to_.toNat true) h (i+1):=by
 obtain⟨hil,rfl⟩:=gsi_.1 hi;have hem:es[i]∈es:=getElem_mem hil;have hr:=hin es[i] hem;have hq0:q≠[]:=fun e=>by have:=b.head;rw[e]at this;simp at this
 have htail:(q++[es[i].to_]).tail=q.tail++[es[i].to_]:=by
  cases q with
  | nil=>exact absurd rfl hq0
  | cons a q=>rfl
 have hnot:es[i].to_∉q.tail:=fun hm=>by rw[(b.mark _ hr.2.1 hr.2.2).2 hm]at ho;cases ho
 have hsound:Rch es t es[i].to_:=by
  have hxe:(⟨x,es[i].to_⟩:Edge)∈es:=by rw[<- hf];exact hem
  rcases b.at hx with h1 | h1
  ·rw[<- h1];exact .one hxe
  exact(b.sound x h1).snoc hxe
 refine⟨?_,by rw[length_set];exact b.len,?_,?_,?_,?_,?_,?_⟩
 ·rw[getElem?_append_left (length_pos_iff.2 hq0)];exact b.head
 ·intro y h0 h1;rw[htail,mem_append,mem_singleton];by_cases hy:y=es[i].to_
  ·subst hy;rw[getD_eq_getElem?_getD,getElem?_set_self (by rw[b.len];omega)];simp
  have hne:¬es[i].to_.toNat=y.toNat:=by omega
  rw[getD_eq_getElem?_getD,getElem?_set_ne hne,<- getD_eq_getElem?_getD,b.mark y h0 h1];simp[hy]
 ·rw[htail,nodup_append];exact⟨b.nodup,by simp,fun a ha c hc e=>by simp at hc;subst hc e;exact hnot ha⟩
 ·intro y hy;rw[htail]at hy;rcases mem_append.1 hy with hy | hy
  ·exact b.sound y hy
  simp at hy;subst hy;exact hsound
 ·intro y hy;rw[htail]at hy;rcases mem_append.1 hy with hy | hy
  ·exact b.range y hy
  simp at hy;subst hy;exact hr.2
 ·intro k y hk hy e' he' hf';have hkq:k<q.length:=by
   have:=(gsi_.1 hx).1;omega
  rw[getElem?_append_left hkq]at hy;rw[htail];exact mem_append_left _ (b.done k y hk hy e' he' hf')
 intro y hy e' he' hf';have hhq:=(gsi_.1 hx).1;rw[getElem?_append_left hhq,hx]at hy;obtain rfl:=Option.some.inj hy;rw[htail];rw[take_succ_eq_append_getElem hil]at he';rcases mem_append.1 he' with h1 | h1
 ·exact mem_append_left _ (b.part x hx e' h1 hf')
 simp at h1;subst h1;simp
theorem BInv.next (b:BInv es n t q out h i) (hi:i=es.length):BInv es n t q out (h+1) 0:=by
 subst hi;refine⟨b.head,b.len,b.mark,b.nodup,b.sound,b.range,?_,by simp⟩;intro k x hk hx e he hf;by_cases hkh:k=h
 ·subst hkh;exact b.part x hx e (by rw[take_length];exact he) hf
 exact b.done k x aA hx e he hf
theorem BInv.fin (b:BInv es n t q out h i) (hh:h=q.length) {x:Int}(h0:0<=x) (h1:x<n):out.getD x.toNat false=true↔Rch es t x:=by
 rw[b.mark x h0 h1];constructor
 ·exact b.sound x
 rintro⟨vs,hv⟩;have key:∀(vs:List Int) (a:Int),Way es a (vs++[x])->a∈q->x∈q.tail:=by
  intro vs
  induction vs with
  | nil=>
   intro a hw ha;obtain⟨k,hk⟩:=mem_iff_getElem?.1 ha;exact b.done k a (by have:=(gsi_.1 hk).1;omega) hk ⟨a,x⟩ hw.1 rfl
  | cons v vs ih=>
   intro a hw ha;obtain⟨k,hk⟩:=mem_iff_getElem?.1 ha;have:=b.done k a (by have:=(gsi_.1 hk).1;omega) hk ⟨a,v⟩ hw.1 rfl;exact ih v hw.2 (mem_of_tail this)
 exact key vs t hv (mem_of_getElem? b.head)
end
noncomputable def sN (es:List Edge) (n:Nat) (t:Int):List Bool:=(List.range n).map (fun x:Nat=>pB (Rch es t (x:Int)))
theorem BInv.all {es:List Edge}{n:Nat}{t:Int}{q:List Int}{out:List Bool}{h i:Nat}(b:BInv es n t q out h i) (hh:h=q.length):out=sN es n t:=by
 apply ext_getElem?;intro j;unfold sN;by_cases hj:j<n
 ·have hl:j<out.length:=by rw[b.len];exact hj
  have hf:=b.fin hh (x:=(j:Int)) aA aA;rw[Int.toNat_natCast,getD_eq_getElem?_getD,getElem?_eq_getElem hl]at hf;simp only[Option.getD_some]at hf;rw[getElem?_eq_getElem hl,getElem?_map,getElem?_range hj];simp only[Option.map_some];congr 1;rw[Bool.eq_iff_iff,hf,pB_iff]
 rw[getElem?_eq_none (by rw[b.len];omega),getElem?_eq_none (by simp;omega)]
def aR (p:Plan):Prop:=¬(1<=p.tasks/\p.tasks<=12)∨30<p.edges.length∨¬(0<=p.prio/\p.prio<=9)∨¬(1<=p.most/\p.most<=5)∨¬(1<=p.wait/\p.wait<=20)
def zQ (p:Plan):Prop:=∃t:Nat,t<p.tasks.toNat/\Rch p.edges (t:Int) (t:Int)
open Classical in
noncomputable def aC (p:Plan):Int:=
 if aR p then 1 else if ¬EdgesIn p.tasks.toNat p.edges then 2 else if ¬p.edges.Nodup then 3 else if zQ p then 4 else 0
theorem pf1 {p:Plan}(h:aR p):aC p=1:=by unfold aC;rw[if_pos h]
theorem pf2 {p:Plan}(h:¬aR p) (h2:¬EdgesIn p.tasks.toNat p.edges):aC p=2:=by unfold aC;rw[if_neg h,if_pos h2]
theorem pf3 {p:Plan}(h:¬aR p) (h2:EdgesIn p.tasks.toNat p.edges) (h3:¬p.edges.Nodup):aC p=3:=by unfold aC;rw[if_neg h,if_neg (not_not_intro h2),if_pos h3]
theorem pf4 {p:Plan}(h:¬aR p) (h2:EdgesIn p.tasks.toNat p.edges) (h3:p.edges.Nodup) (h4:zQ p):aC p=4:=by unfold aC;rw[if_neg h,if_neg (not_not_intro h2),if_neg (not_not_intro h3),if_pos h4]
theorem pf0 {p:Plan}(h:¬aR p) (h2:EdgesIn p.tasks.toNat p.edges) (h3:p.edges.Nodup) (h4:¬zQ p):aC p=0:=by unfold aC;rw[if_neg h,if_neg (not_not_intro h2),if_neg (not_not_intro h3),if_neg h4]
theorem pf_cases (p:Plan):aC p=0∨aC p=1∨aC p=2∨aC p=3∨aC p=4:=by
 unfold aC;split
 ·simp
 split
 ·simp
 split
 ·simp
 split<;>simp
theorem pf_rng (p:Plan):0<=aC p/\aC p<=4:=by
 rcases pf_cases p with h | h | h | h | h<;>omega
theorem jV {p:Plan}(h:aC p=0):¬aR p/\EdgesIn p.tasks.toNat p.edges/\p.edges.Nodup/\¬zQ p:=by
 by_cases h1:aR p
 ·rw[pf1 h1]at h;omega
 by_cases h2:EdgesIn p.tasks.toNat p.edges
 ·by_cases h3:p.edges.Nodup
  ·by_cases h4:zQ p
   ·rw[pf4 h1 h2 h3 h4]at h;omega
   exact⟨h1,h2,h3,h4⟩
  rw[pf3 h1 h2 h3]at h;omega
 rw[pf2 h1 h2]at h;omega
theorem EdgesIn.nil {n:Nat}:EdgesIn n []:=fun e h=>by cases h
theorem EdgesIn.step {n:Nat}{es:List Edge}{k:Nat}(h:EdgesIn n (es.take k)) (hk:k<es.length) (h1:(0<=es[k].from_/\es[k].from_<n)/\(0<=es[k].to_/\es[k].to_<n)):EdgesIn n (es.take (k+1)):=by
 intro e he;rw[take_succ_eq_append_getElem hk]at he;rcases mem_append.1 he with he | he
 ·exact h e he
 simp at he;subst he;exact h1
theorem EdgesIn.at {n:Nat}{es:List Edge}(h:EdgesIn n es) {k:Nat}(hk:k<es.length):(0<=es[k].from_/\es[k].from_<n)/\(0<=es[k].to_/\es[k].to_<n):=h _ (getElem_mem hk)
theorem nodup_step {α:Type}{xs:List α}{k:Nat}(h:(xs.take k).Nodup) (hk:k<xs.length) (hn:xs[k]∉xs.take k):(xs.take (k+1)).Nodup:=by
 rw[take_succ_eq_append_getElem hk,nodup_append];exact⟨h,by simp,fun a ha b hb=>by simp at hb;subst hb;exact fun e=>hn (e▸ha)⟩
theorem not_nodup_at {α:Type}{xs:List α}{k:Nat}(hk:k<xs.length) (hm:xs[k]∈xs.take k):¬xs.Nodup:=by
 intro h;have h2:(xs.take (k+1)).Nodup:=h.sublist (take_sublist _ _);rw[take_succ_eq_append_getElem hk,nodup_append]at h2;exact h2.2.2 _ hm _ (by simp) rfl
theorem not_mem_take_step {α:Type}{xs:List α}{y:α}{k:Nat}(hk:k<xs.length) (h:y∉xs.take k) (hn:¬y=xs[k]):y∉xs.take (k+1):=by
 rw[take_succ_eq_append_getElem hk,mem_append];rintro(h1 | h1)
 ·exact h h1
 simp at h1;exact hn h1
theorem aK2 {α:Type}{xs:List α}{i k:Nat}(hi:i<xs.length) (h:i<k):xs[i]∈xs.take k:=by
 rw[mem_take_iff_getElem];exact⟨i,by omega,rfl⟩
theorem relax_snoc (es:List Edge) (m:List Nat) (k:Nat) (hk:k<es.length):jM (es.take (k+1)) m=jR (jM (es.take k) m) es[k]:=by
 unfold jM;rw[take_succ_eq_append_getElem hk,foldl_append];rfl
theorem relax1_bd {m:List Nat}{e:Edge}(h:∀x∈m,x<4294967296) (he:0<=e.to_/\e.to_<32):∀x∈jR m e,x<4294967296:=by
 intro x hx;unfold jR at hx;rcases mem_or_eq_of_mem_set hx with hx | rfl
 ·exact h x hx
 have hd:∀i,m.getD i 0<2 ^ 32:=by
  intro i;rw[getD_eq_getElem?_getD];cases hi:m[i]? with
  | none=>simp
  | some y=>simpa using h y (mem_of_getElem? hi)
 have h1:1 <<< e.to_.toNat<2 ^ 32:=by
  rw[Nat.one_shiftLeft];exact Nat.pow_lt_pow_right aA aA
 exact Nat.or_lt_two_pow (hd _) (Nat.or_lt_two_pow h1 (hd _))
theorem aS5 {n:Nat}(hn:n<=32):∀{es:List Edge}{m:List Nat},EdgesIn n es->(∀x∈m,x<4294967296)->∀x∈jM es m,x<4294967296
 | [],m,_,h=>h
 | e::es,m,hi,h=>by
  refine aS5 hn (es:=es) (m:=jR m e) (fun x hx=>hi x (by simp[hx])) (relax1_bd h ?_);have:=hi e (by simp);omega
theorem bC9 {n:Nat}(hn:n<=32) {es:List Edge}(hi:EdgesIn n es) (k:Nat):∀x∈eI es (List.replicate n 0) k,x<4294967296:=by
 induction k with
 | zero=>intro x hx;simp[eI,mem_replicate]at hx;omega
 | succ k ih=>exact aS5 hn hi ih
theorem castL_relax1 {m:List Nat}{e:Edge}(hf:0<=e.from_) (h1:e.from_.toNat<(eU m).length) (h2:e.to_.toNat<(eU m).length) :
  (eU m).set e.from_.toNat (orI ((eU m)[e.from_.toNat]'h1) (orI (bL3 e.to_) ((eU m)[e.to_.toNat]'h2)))=eU (jR m e):=by
 unfold jR;rw[<- castL_set];congr 1;unfold orI bL3;rw[aX6 h1];simp only[Int.toNat_natCast];rw[aX6 h2]
theorem waits_bit {n:Nat}{es:List Edge}(hi:EdgesIn n es) {t:Nat}(ht:t<n) (h:t<(eU (eI es (List.replicate n 0) n)).length):cE7 (aR0 ((eU (eI es (List.replicate n 0) n))[t]'h) (t:Int)) 1=1↔Rch es (t:Int) (t:Int):=by
 rw[andI_one,aX6 h];have hw:=waits_iff hi (a:=(t:Int)) (b:=(t:Int)) aA aA;unfold pH at hw;rw[<- hw,Int.toNat_natCast];split<;>simp_all
def nN (l:List Int):List Int:=l.mergeSort (fun x y=>decide (x<=y))
theorem iA (l:List Int):(nN l).Perm l:=mergeSort_perm l _
theorem sortI_le (l:List Int):(nN l).Pairwise (fun x y=>x<=y):=by
 have h:=pairwise_mergeSort (le:=fun x y:Int=>decide (x<=y)) (fun a b c h1 h2=>by simp only[decide_eq_true_eq]at *;omega) (fun a b=>by simp only[Bool.or_eq_true,decide_eq_true_eq];omega) l;exact h.imp (fun h=>by simpa using h)
theorem uS (l:List Int):(nN l).length=l.length:=(iA l).length_eq
theorem sortI_eq {l l':List Int}(hp:l.Perm l') (hs:l.Pairwise (fun x y=>x<=y)):l=nN l':=
 List.Perm.eq_of_pairwise (le:=fun x y=>x<=y) (fun a b _ _ h1 h2=>by omega) hs (sortI_le l') (hp.trans (iA l').symm)
def cS (l:List Int) (n:Nat):List Int:=(List.range n).flatMap (fun t:Nat=>l.filter (fun x=>decide (x=(t:Int))))
theorem filter_or {α:Type}(p q r:α->Bool) (l:List α) (h:∀x,r x=(p x || q x)) (hd:∀x,p x=true->q x=true->False):(l.filter p++l.filter q).Perm (l.filter r):=by
 induction l with
 | nil=>simp
 | cons x l ih=>
  cases hp:p x with
  | true=>
   have hq:q x=false:=by cases hq:q x with | true=>exact(hd x hp hq).elim | false=>rfl
   have hr:r x=true:=by rw[h,hp];rfl
   simp only[filter_cons,hp,hq,hr,if_true,Bool.false_eq_true,if_false,cons_append];exact List.Perm.cons _ ih
  | false=>
   cases hq:q x with
   | true=>
    have hr:r x=true:=by rw[h,hp,hq];rfl
    simp only[filter_cons,hp,hq,hr,if_true,Bool.false_eq_true,if_false];exact(perm_middle).trans (List.Perm.cons _ ih)
   | false=>
    have hr:r x=false:=by rw[h,hp,hq];rfl
    simp only[filter_cons,hp,hq,hr,Bool.false_eq_true,if_false];exact ih
theorem uH (l:List Int):∀n:Nat,(cS l n).Perm (l.filter (fun x=>decide (0<=x) && decide (x<(n:Int))))
 | 0=>by
  have:l.filter (fun x=>decide (0<=x) && decide (x<((0:Nat):Int)))=[]:=by
   rw[filter_eq_nil_iff];intro x _;simp
  rw[this];exact List.Perm.refl _
 | n+1=>by
  have ih:=uH l n;have hb:cS l (n+1)=cS l n++l.filter (fun x=>decide (x=(n:Int))):=by simp[cS,range_succ,flatMap_append]
  rw[hb];refine(ih.append_right _).trans (filter_or _ _ _ l (fun x=>?_) (fun x h1 h2=>?_))
  ·rw[Bool.eq_iff_iff];simp;omega
  simp at h1 h2;omega
theorem bH8 (l:List Int):∀n:Nat,(cS l n).Pairwise (fun x y=>x<=y)/\∀x∈cS l n,x<(n:Int)
 | 0=>by simp[cS]
 | n+1=>by
  have ih:=bH8 l n;have hb:cS l (n+1)=cS l n++l.filter (fun x=>decide (x=(n:Int))):=by simp[cS,range_succ,flatMap_append]
  rw[hb];have hf:∀x∈l.filter (fun x=>decide (x=(n:Int))),x=(n:Int):=fun x hx=>by simpa using (mem_filter.1 hx).2
  refine⟨?_,?_⟩
  ·rw[pairwise_append];refine⟨ih.1,?_,?_⟩
   ·rw[pairwise_iff_forall_sublist];intro a b hs;have h1:=hf a (hs.subset (by simp));have h2:=hf b (hs.subset (by simp));omega
   intro a ha b hb;have h1:=ih.2 a ha;have h2:=hf b hb;omega
  intro x hx;rcases mem_append.1 hx with h | h
  ·have:=ih.2 x h;omega
  have:=hf x h;omega
theorem bH9 {l:List Int}{n:Nat}(h:∀x∈l,0<=x/\x<(n:Int)):cS l n=nN l:=by
 refine sortI_eq ?_ (bH8 l n).1;have hp:=uH l n
 rwa [filter_eq_self.2 (fun x hx=>by have:=h x hx;simp;omega)]at hp
def dM (es:List Edge) (task:Int):List Int:=(es.filter (fun e=>decide (e.to_=task))).map (·.from_)
def tos (es:List Edge) (task:Int):List Int:=(es.filter (fun e=>decide (e.from_=task))).map (·.to_)
noncomputable def aL (p:Plan) (task:Int):List Int:=if aC p=0 then nN (dM p.edges task) else []
noncomputable def aT (p:Plan) (task:Int):List Int:=if aC p=0 then nN (tos p.edges task) else []
theorem vG (es:List Edge) (task:Int):(dM es task).length<=es.length:=by
 unfold dM;rw[length_map];exact length_filter_le _ _
theorem aM3 (es:List Edge) (task:Int):(tos es task).length<=es.length:=by
 unfold tos;rw[length_map];exact length_filter_le _ _
theorem aA2 {es:List Edge}{task:Int}{k:Nat}(hk:k<es.length) (h:es[k].to_=task):dM (es.take (k+1)) task=dM (es.take k) task++[es[k].from_]:=by
 rw[take_succ_eq_append_getElem hk,dM,filter_append,map_append];simp[dM,h]
theorem froms_step_f {es:List Edge}{task:Int}{k:Nat}(hk:k<es.length) (h:¬es[k].to_=task):dM (es.take (k+1)) task=dM (es.take k) task:=by
 rw[take_succ_eq_append_getElem hk,dM,filter_append,map_append];simp[dM,h]
theorem aP4 {es:List Edge}{task:Int}{k:Nat}(hk:k<es.length) (h:es[k].from_=task):tos (es.take (k+1)) task=tos (es.take k) task++[es[k].to_]:=by
 rw[take_succ_eq_append_getElem hk,tos,filter_append,map_append];simp[tos,h]
theorem tos_step_f {es:List Edge}{task:Int}{k:Nat}(hk:k<es.length) (h:¬es[k].from_=task):tos (es.take (k+1)) task=tos (es.take k) task:=by
 rw[take_succ_eq_append_getElem hk,tos,filter_append,map_append];simp[tos,h]
theorem bF4 {n:Nat}{es:List Edge}(hi:EdgesIn n es) (task:Int):∀x∈dM es task,0<=x/\x<(n:Int):=by
 intro x hx;simp only[dM,mem_map,mem_filter]at hx;obtain⟨e,⟨he,_⟩,rfl⟩:=hx;exact(hi e he).1
theorem cG0 {n:Nat}{es:List Edge}(hi:EdgesIn n es) (task:Int):∀x∈tos es task,0<=x/\x<(n:Int):=by
 intro x hx;simp only[tos,mem_map,mem_filter]at hx;obtain⟨e,⟨he,_⟩,rfl⟩:=hx;exact(hi e he).2
def lK (es:List Edge) (task:Int) (t:Int):List Int:=(dM es task).filter (fun x=>decide (x=t))
def lJ (es:List Edge) (task:Int) (t:Int):List Int:=(tos es task).filter (fun x=>decide (x=t))
theorem pY (l:List Int) (n:Nat):cS l (n+1)=cS l n++l.filter (fun x=>decide (x=(n:Int))):=by simp[cS,range_succ,flatMap_append]
theorem wW (l:List Int) (n:Nat):(cS l n).length<=l.length:=by
 rw[(uH l n).length_eq];exact length_filter_le _ _
theorem onesF_step_t {es:List Edge}{task t:Int}{k:Nat}(hk:k<es.length) (h:es[k].from_=t/\es[k].to_=task):lK (es.take (k+1)) task t=lK (es.take k) task t++[t]:=by
 unfold lK;rw[aA2 hk h.2];simp[filter_append,h.1]
theorem onesF_step_f {es:List Edge}{task t:Int}{k:Nat}(hk:k<es.length) (h:¬(es[k].from_=t/\es[k].to_=task)):lK (es.take (k+1)) task t=lK (es.take k) task t:=by
 unfold lK;by_cases h2:es[k].to_=task
 ·rw[aA2 hk h2];have:¬es[k].from_=t:=fun e=>h ⟨e,h2⟩
  simp[filter_append,this]
 rw[froms_step_f hk h2]
theorem onesT_step_t {es:List Edge}{task t:Int}{k:Nat}(hk:k<es.length) (h:es[k].from_=task/\es[k].to_=t):lJ (es.take (k+1)) task t=lJ (es.take k) task t++[t]:=by
 unfold lJ;rw[aP4 hk h.1];simp[filter_append,h.2]
theorem onesT_step_f {es:List Edge}{task t:Int}{k:Nat}(hk:k<es.length) (h:¬(es[k].from_=task/\es[k].to_=t)):lJ (es.take (k+1)) task t=lJ (es.take k) task t:=by
 unfold lJ;by_cases h2:es[k].from_=task
 ·rw[aP4 hk h2];have:¬es[k].to_=t:=fun e=>h ⟨h2,e⟩
  simp[filter_append,this]
 rw[tos_step_f hk h2]
theorem onesF_len (es:List Edge) (task t:Int) (k n:Nat):(cS (dM es task) n++lK (es.take k) task (n:Int)).length<=es.length:=by
 have h1:=wW (dM es task) (n+1);rw[pY,length_append]at h1;have h2:(lK (es.take k) task (n:Int)).length<=(lK es task (n:Int)).length:=by
  unfold lK dM;exact List.Sublist.length_le (List.Sublist.filter _ (List.Sublist.map _ (List.Sublist.filter _ (take_sublist k es))))
 have h3:=vG es task;rw[length_append];unfold lK at h2 ⊢;omega
theorem onesT_len (es:List Edge) (task t:Int) (k n:Nat):(cS (tos es task) n++lJ (es.take k) task (n:Int)).length<=es.length:=by
 have h1:=wW (tos es task) (n+1);rw[pY,length_append]at h1;have h2:(lJ (es.take k) task (n:Int)).length<=(lJ es task (n:Int)).length:=by
  unfold lJ tos;exact List.Sublist.length_le (List.Sublist.filter _ (List.Sublist.map _ (List.Sublist.filter _ (take_sublist k es))))
 have h3:=aM3 es task;rw[length_append];unfold lJ at h2 ⊢;omega
theorem aY2 (p:Plan) (task:Int):∀x∈aL p task,0<=x/\x<p.tasks:=by
 intro x hx;unfold aL at hx;split at hx
 ·rename_i h;obtain⟨h1,h2,_⟩:=jV h;have:=bF4 h2 task x ((iA _).mem_iff.1 hx);unfold aR at h1;omega
 cases hx
theorem aX9 (p:Plan) (task:Int):∀x∈aT p task,0<=x/\x<p.tasks:=by
 intro x hx;unfold aT at hx;split at hx
 ·rename_i h;obtain⟨h1,h2,_⟩:=jV h;have:=cG0 h2 task x ((iA _).mem_iff.1 hx);unfold aR at h1;omega
 cases hx
theorem mI (p:Plan) (task:Int):(aL p task).length<=30:=by
 unfold aL;split
 ·rename_i h;obtain⟨h1,_⟩:=jV h;rw[uS];have:=vG p.edges task;unfold aR at h1;omega
 simp
theorem yD (p:Plan) (task:Int):(aT p task).length<=30:=by
 unfold aT;split
 ·rename_i h;obtain⟨h1,_⟩:=jV h;rw[uS];have:=aM3 p.edges task;unfold aR at h1;omega
 simp
theorem I64_rng {a:Int}(h:0<=a/\a<4294967296):I64 a:=by unfold I64;omega
section
variable {es:List Edge}{n:Nat}{t:Int}{q:List Int}{out:List Bool}{h i:Nat}
end
theorem pM {p:Plan}(h:¬aR p):(1<=p.tasks/\p.tasks<=12)/\p.edges.length<=30:=by unfold aR at h;omega

theorem WaitsI (w:World) {p:Plan}{cs:List Value}{fp:List Nat}(hc:Shape.C w cs p fp) (hn:1<=p.tasks/\p.tasks<=12) (hl:p.edges.length<=30) (hi:EdgesIn p.tasks.toNat p.edges) :
  Calls prog 283 #[.agg cs.toArray] w (rS_ (eU (eI p.edges (List.replicate p.tasks.toNat 0) p.tasks.toNat)) w):=by
 refine enter1 func283 rfl ntmps283 fL (wp_seq (aO (sg (aI6 (cs:=cs) rfl (St.start w) ?_))));intro b1 W2 hb3 st4;refine sg (bZ (v := .slice none 0 0) rfl (bG (wp_seq (aO ?_))));have hk9:=hc;obtain⟨v9_0,g9_0,rfl,hok9,h9_0,rfl⟩:=hk9;refine sg (gJ fa_Plan_3 rfl (sg (kP aE6 rfl rfl (st4.get 0 rfl) (i:=3) rfl rfl ?_)));have hNI:I p.tasks=I ((p.tasks.toNat:Nat):Int):=congrArg I (Int.toNat_of_nonneg aA).symm;refine sg (stp_makeZ (α:=Int) (N:=p.tasks.toNat) (v:=I 0) (z:=0) ap_IntS aB ((show _=I p.tasks from rfl).trans hNI) ((show _=I p.tasks from rfl).trans hNI) aA aA st4 (fun W=>⟨rfl,rfl,by unfold I64;omega⟩) ?_);intro b11 fp15 W12 hb13 st14;refine sg (bZ (v:=(.slice (some ⟨b11,0,none⟩) p.tasks.toNat p.tasks.toNat)) rfl (bG (wp_seq (wp_seq (aO (rn st14 3 (Ag.up (t:=7) (v:=I (p.tasks.toNat:Int)) ((show _=I p.tasks from rfl).trans hNI) Ag.nil.put.put.put.put.put.put.put) [] [(10,I p.tasks),(11,I 0)] [qb 1 rfl 3] aB fun f20 h20_=>(bG (wp_block (aM6 (fun (m:Nat) (f:Nat->Value) (W:World)=>∃(k:Nat) (fo21:List Nat),k<=p.tasks.toNat/\m=p.tasks.toNat-k/\Ag [(1,pt_ b1),(3,(.slice (some ⟨b11,0,none⟩) p.tasks.toNat p.tasks.toNat)),(10,I p.tasks),(11,I (k:Int))] f/\St w W ([Res.own (α:=List Int) (.slice (some ⟨b11,0,none⟩) p.tasks.toNat p.tasks.toNat) (eU (eI p.edges (List.replicate p.tasks.toNat 0) k)) fo21,Res.bx b1 [I p.prio,I p.most,I p.wait,I p.tasks,v9_0] 63])) (p.tasks.toNat-0) ?_ ?_)))))))))
 ·exact⟨0,fp15,(by first | omega | simp),rfl,(h20_.to aB),(by have hz:=st14;rw[castL_rep]at hz;exact hz)⟩
 intro m22 f23 W24 hJ25;obtain⟨k,fo21,hcd27_0,rfl,hA27,st26⟩:=hJ25;refine wp_seq (aO (sg (bL0 (hA27.at 11) (hA27.at 10) (bG (wp_seq (xD rfl (fun h30p=>?_) (fun h30p=>?_)))))))
 ·refine wp_skip (wp_seq (wp_block (wp_seq (aO (rn st26 4 hA27.put [] [(14,v9_0),(15,I (p.edges.length:Int)),(16,I 0)] [qb 1 rfl 4,ql h9_0] aB fun f32 h32_=>(bG (wp_block (aM6 (fun (m:Nat) (f:Nat->Value) (W:World)=>∃(i:Nat) (fo33:List Nat),i<=p.edges.length/\m=p.edges.length-i/\Ag [(1,pt_ b1),(3,(.slice (some ⟨b11,0,none⟩) p.tasks.toNat p.tasks.toNat)),(10,I p.tasks),(11,I (k:Int)),(14,v9_0),(15,I (p.edges.length:Int)),(16,I (i:Int))] f/\St w W ([Res.own (α:=List Int) (.slice (some ⟨b11,0,none⟩) p.tasks.toNat p.tasks.toNat) (eU (jM (p.edges.take i) (eI p.edges (List.replicate p.tasks.toNat 0) k))) fo33,Res.bx b1 [I p.prio,I p.most,I p.wait,I p.tasks,v9_0] 63])) (p.edges.length-0) ?_ ?_))))))))
  ·exact⟨0,fo21,(by first | omega | simp),rfl,(h32_.to aB),st26⟩
  intro m34 f35 W36 hJ37;obtain⟨i,fo33,hcd39_0,rfl,hA39,st38⟩:=hJ37;refine wp_seq (aO (sg (bL0 (hA39.at 16) (hA39.at 15) (bG (wp_seq (xD rfl (fun h42p=>?_) (fun h42p=>?_)))))))
  ·refine wp_skip (wp_seq (wp_block (wp_seq (aO ?_))));have hi99fa3:i<p.edges.length:=aA;obtain⟨b43,o43,cs43,f43,hp43,hr43,hc43,hm43⟩:=idx h9_0 (i:=i) hi99fa3;refine sg (mL sl_EdgeS (hA39.at 14) hp43 (hA39.at 16) rfl (sg (stp_load_rga cL4 rfl rfl hr43 st38.below (Shape.len hc43) (sg (bB7 zz_Edge st38 ?_)))));intro b46 W47 hb48 st49;refine sgn (stp_store_all (cs:=cs43) cL4 hc43 rfl rfl st49 rfl ?_);intro W51 st52;refine bG ?_;have hk53:=hc43;obtain⟨he53,rfl,hok53⟩:=hk53;have he53:_=[I (p.edges[i]'hi99fa3).from_,I (p.edges[i]'hi99fa3).to_]:=he53;subst he53;have hea:=hi.at (k:=i) aA;have hxl:(eU (jM (p.edges.take i) (eI p.edges (List.replicate p.tasks.toNat 0) k))).length=p.tasks.toNat:=by rw[bH3,aD8,mE,length_replicate]
   have hbd:=aS5 (n:=p.tasks.toNat) aA (es:=p.edges.take i) (fun e he=>hi e (mem_of_mem_take he)) (bC9 aA hi k);have hi3a21e:((p.edges[i]'hi99fa3).from_).toNat<(eU (jM (p.edges.take i) (eI p.edges (List.replicate p.tasks.toNat 0) k))).length:=aA;obtain⟨b54,o54,cs54,f54,hp54,hr54,hc54,hm54⟩:=idx (jS (st52.get 1 rfl)) (i:=((p.edges[i]'hi99fa3).from_).toNat) hi3a21e;have hk54:=hc54;obtain⟨rfl,rfl,hok54⟩:=hk54;have hid0fd1:((p.edges[i]'hi99fa3).to_).toNat<(eU (jM (p.edges.take i) (eI p.edges (List.replicate p.tasks.toNat 0) k))).length:=aA;obtain⟨b55,o55,cs55,f55,hp55,hr55,hc55,hm55⟩:=idx (jS (st52.get 1 rfl)) (i:=((p.edges[i]'hi99fa3).to_).toNat) hid0fd1;have hk55:=hc55;obtain⟨rfl,rfl,hok55⟩:=hk55;refine pO 14 [] [(true,.is ((.slice (some ⟨b11,0,none⟩) p.tasks.toNat p.tasks.toNat))),(true,.is (.pointer (some ⟨b46,0+0,none⟩))),(true,.is (I (p.edges[i]'hi99fa3).from_)),(true,.is (.pointer (some ⟨b54,o54,none⟩))),(true,.is (I ((eU (jM (p.edges.take i) (eI p.edges (List.replicate p.tasks.toNat 0) k)))[((p.edges[i]'hi99fa3).from_).toNat]'hi3a21e))),(true,.is (.pointer (some ⟨b46,0+1,none⟩))),(true,.is (I (p.edges[i]'hi99fa3).to_)),(true,.is (I (bL3 (p.edges[i]'hi99fa3).to_))),(true,.is ((.slice (some ⟨b11,0,none⟩) p.tasks.toNat p.tasks.toNat))),(true,.is (.pointer (some ⟨b46,0+1,none⟩))),(true,.is (I (p.edges[i]'hi99fa3).to_)),(true,.is (.pointer (some ⟨b55,o55,none⟩))),(true,.is (I ((eU (jM (p.edges.take i) (eI p.edges (List.replicate p.tasks.toNat 0) k)))[((p.edges[i]'hi99fa3).to_).toNat]'hid0fd1))),(true,.is (I (orI (bL3 (p.edges[i]'hi99fa3).to_) ((eU (jM (p.edges.take i) (eI p.edges (List.replicate p.tasks.toNat 0) k)))[((p.edges[i]'hi99fa3).to_).toNat]'hid0fd1))))] mix aB aB aB aB (rs0:=[]) rfl st52 (Below.refl _ _) ⟨(mq_ (hA39.at 3)),(fq_ fa_Edge_0 (show _=(pt_ b46:Value) from rfl)),(fun f W hst hbl hd hf=>kP aE6 rfl (hd 1 21 rfl rfl) (hst.get 0 rfl) (i:=0) rfl rfl brq),(fun f W hst hbl hd hf=>mL bL2 (hd 0 20 rfl rfl) hp54 (hd 2 22 rfl rfl) aA brq),(fun f W hst hbl hd hf=>aI4 aE6 rfl (hd 3 23 rfl rfl) hr54 hbl (i:=0) rfl rfl brq),(fq_ bG1 (show _=(pt_ b46:Value) from rfl)),(fun f W hst hbl hd hf=>kP aE6 rfl (hd 5 25 rfl rfl) (hst.get 0 rfl) (i:=1) rfl rfl brq),(fun f W hst hbl hd hf=>stp_shlI rfl (hd 6 26 rfl rfl) aA brq),(mq_ (hA39.at 3)),(fq_ bG1 (show _=(pt_ b46:Value) from rfl)),(fun f W hst hbl hd hf=>kP aE6 rfl (hd 9 29 rfl rfl) (hst.get 0 rfl) (i:=1) rfl rfl brq),(fun f W hst hbl hd hf=>mL bL2 (hd 8 28 rfl rfl) hp55 (hd 10 30 rfl rfl) aA brq),(fun f W hst hbl hd hf=>aI4 aE6 rfl (hd 11 31 rfl rfl) hr55 hbl (i:=0) rfl rfl brq),(fun f W hst hbl hd hf=>cH5 (hd 7 27 rfl rfl) (hd 12 32 rfl rfl) (aR1 aA) (oK hbd _ _) brq),trivial⟩ ?_;intro f56 W57 rs_ hAL_ st60 hbl61 hv58 hf59;have hn_:rs_=[]:=hAL_;subst hn_
   try simp only[cap_,aZ8]at st60
   refine sg (cH5 (hv58 4 24 fL rfl) (hv58 13 33 fL rfl) (oK hbd _ _) (bM7 (aR1 aA) (oK hbd _ _)) ?_);have hi3a21e:((p.edges[i]'hi99fa3).from_).toNat<(eU (jM (p.edges.take i) (eI p.edges (List.replicate p.tasks.toNat 0) k))).length:=aA;obtain⟨b63,o63,cs63,f63,hp63,hr63,hc63,hm63⟩:=idx (jS (st60.get 1 rfl)) (i:=((p.edges[i]'hi99fa3).from_).toNat) hi3a21e;have hk63:=hc63;obtain⟨rfl,rfl,hok63⟩:=hk63;refine sg (mL bL2 (hv58 0 20 fL rfl) hp63 (hv58 2 22 fL rfl) aA ?_);have st66:=st60.f1;refine sgn (stp_poke1 (α:=Int) (z:=orI ((eU (jM (p.edges.take i) (eI p.edges (List.replicate p.tasks.toNat 0) k)))[((p.edges[i]'hi99fa3).from_).toNat]'hi3a21e) (orI (bL3 (p.edges[i]'hi99fa3).to_) ((eU (jM (p.edges.take i) (eI p.edges (List.replicate p.tasks.toNat 0) k)))[((p.edges[i]'hi99fa3).to_).toNat]'hid0fd1))) rfl aB rfl hp63 hi3a21e rfl rfl rfl st66 (fun W=>⟨rfl,rfl,(I64_rng (bM7 (oK hbd _ _) (bM7 (aR1 aA) (oK hbd _ _))))⟩) ?_);intro fp67 W68 st69;refine bG (aO (sg (sE ((hf59 16 rfl).trans (hA39.at 16)) rfl i6q_ (sg (cI (v:=I ((i:Int)+1)) rfl (bG ?_))))));exact⟨_,p.edges.length-(i+1),aA,rfl,i+1,fp67,aA,rfl,(Ag.cons ((hf59 1 rfl).trans (hA39.at 1)) (Ag.cons ((hf59 3 rfl).trans (hA39.at 3)) (Ag.cons ((hf59 10 rfl).trans (hA39.at 10)) (Ag.cons ((hf59 11 rfl).trans (hA39.at 11)) (Ag.cons ((hf59 14 rfl).trans (hA39.at 14)) (Ag.cons ((hf59 15 rfl).trans (hA39.at 15)) (Ag.cons rfl Ag.nil))))))),(by rw[relax_snoc _ _ _ aA,<- castL_relax1 (m:=(jM (p.edges.take i) (eI p.edges (List.replicate p.tasks.toNat 0) k))) (e:=p.edges[i]) aA aA aA];exact st69.f2.f1.d2)⟩
  refine wp_exit (aO (sg (sE (hA39.at 11) rfl i6q_ (sg (cI (v:=I ((k:Int)+1)) rfl (bG ?_))))));exact⟨_,p.tasks.toNat-(k+1),aA,rfl,k+1,fo33,aA,rfl,(hA39.put.put.put.to aB),(by rw[show eI p.edges (List.replicate p.tasks.toNat 0) (k+1)=jM (p.edges.take i) (eI p.edges (List.replicate p.tasks.toNat 0) k) from by rw[show i=p.edges.length by omega,take_length];rfl];exact st38)⟩
 refine wp_exit (wp_seq (aO (sg (cI (hA27.at 3) (sg (bZ (v:=(.slice (some ⟨b11,0,none⟩) p.tasks.toNat p.tasks.toNat)) rfl (bG (wr (bT2 results283 rfl ?_)))))))));obtain rfl:k=p.tasks.toNat:=by omega
 exact⟨_,_,rfl,st26.only 0 rfl⟩
end Go.Proofs.YtjihdmlkpkkpbaaGreat
namespace Go.Proofs.YtjihdmlkpkkpbaaGreat
set_option maxRecDepth 100000
set_option maxHeartbeats 2000000
open Go.RowKit Go.Proofs.Tryz List Go.Sort
theorem Elems.ints_inv {W:World}:∀{xs:List Int}{cells:List Value}{fp:List Nat},Elems W cells xs fp->cells=xs.map I/\fp=[]/\∀x∈xs,I64 x
 | [],_,_,⟨h1,h2⟩=>⟨h1,h2,by simp⟩
 | x::xs,_,_,⟨cs,rest,f1,f2,h1,h2,h3,h4⟩=>by
  obtain⟨rfl,rfl,hx⟩:=h2;obtain⟨rfl,rfl,hxs⟩:=Elems.ints_inv h3;subst h1 h4;exact⟨rfl,rfl,fun y hy=>by rcases mem_cons.1 hy with rfl | hy;exact hx;exact hxs y hy⟩
theorem St.sorted {w0 W:World}{rs:List Res}{b off cap:Nat}{xs ys:List Int}{fp:List Nat}(h:St w0 W (Res.own (.slice (some ⟨b,off,none⟩) xs.length cap) xs fp::rs)) (hne:xs≠[]) (hl:ys.length=xs.length) (hm:∀y∈ys,y∈xs) (n:Nat) (os:Array Obj) :
  ∃fp',St w0 (grow (putRow (Value.int .i64) (Sort.ahead W n) b off ys.toArray) os) (Res.own (.slice (some ⟨b,off,none⟩) xs.length cap) ys fp'::rs):=by
 have hown:=h.get 0 rfl;have hwr:=hown.2;obtain⟨ao,cap',e,h1,h2,h3⟩:=jS hown
 injection e with e1 e2 e3
 subst e1 e3;rcases h3 with⟨h0,_⟩ | ⟨b',off',f,_,e4,rfl,hb,h3⟩
 ·exact absurd h0 hne
 injection e4 with e4
 injection e4 with e5 e6
 subst e5 e6;obtain⟨cells,he,hr⟩:=Elems.of_at off h3;obtain⟨rfl,rfl,h64⟩:=he.ints_inv;obtain⟨C,e,hC⟩:=hwr b (by simp);have hdr:Holds (Value.int .i64) W b off xs.toArray:=by
  intro j hj;have hj':j<xs.length:=by simpa using hj
  refine⟨?_,by simp[World.frozen?,hC]⟩;rw[hr j (I xs[j]) (by simp[hj'])];simp[hj']
 have hC':(grow (putRow (Value.int .i64) (Sort.ahead W n) b off ys.toArray) os).heap[b]? = some (.cells (putCells (Value.int .i64) off ys.toArray C) e (0,0)):=by
  rw[heap_grow_old _ _ (by simpa using hb)];simp[putRow,mapBlock,Sort.ahead,Array.getElem?_modify,hC,onCells]
 refine⟨[b],h.turn (r':=Res.own _ ys [b]) rfl rfl rfl (by simp[grow]) ?_ ?_ (by simp[Res.own]) (fun c hc=>.inl hc)⟩
 ·intro k hk hkn;have hkb:b≠k:=fun e=>hkn (by simp[Res.own,e])
  rw[heap_grow_old _ _ (by simpa using hk)];simp[putRow,mapBlock,Sort.ahead,Array.getElem?_modify,hkb]
 refine⟨Sl.v ⟨some ⟨b,off,none⟩,cap,by rw[hl],by rw[hl];exact h1,h2,.inr ⟨b,off,[],?_,rfl,rfl,?_,?_⟩⟩,?_⟩
 ·intro e0;rw[e0]at hl;exact hne (eq_nil_of_length_eq_zero hl.symm)
 ·exact(Array.getElem?_eq_some_iff.1 hC').1
 ·refine(Elems.ints ys (fun y hy=>h64 y (hm y hy))).at off ?_;intro j u hj;have hjl:j<ys.length:=by have:=(gsi_.1 hj).1;simpa using this
  have hu:u=I ys[j]:=by simpa [hjl] using hj.symm
  have hc:=cell?_putRow (Value.int .i64) (Sort.ahead W n) b off xs.toArray ys.toArray (holds_ahead _ _ _ _ _ _ hdr) (by simp[hl]) j (by simpa using hjl);rw[cell?_grow _ _ _ (by simpa using hb)];rw[hc,hu];simp[hjl]
 intro c hc;simp at hc;subst hc;exact⟨_,_,hC'⟩
end Go.Proofs.YtjihdmlkpkkpbaaGreat
namespace Go.Proofs.YtjihdmlkpkkpbaaGreat
set_option maxRecDepth 100000
set_option maxHeartbeats 2000000
open Go.RowKit Go.Proofs.Tryz List
open Go.Sort
def lays189_ren:Go.Shelf.Ren:=⟨fun | 189=>305 | 125=>312 | 257=>311 | 128=>324 | 129=>325 | 294=>315 | 295=>316 | 296=>317 | 297=>318 | 298=>319 | 299=>320 | 216=>321 | 300=>322 | 301=>323 | 328=>327 | 329=>328 | 330=>329 | 331=>330 | 332=>331 | 215=>332 | 343=>334 | n=>n,fun | 28=>38 | 3=>3 | 46=>226 | 0=>0 | 51=>290 | 53=>292 | 4=>4 | 183=>283 | 182=>282 | 131=>254 | 5=>5 | 9=>9 | 218=>293 | 222=>297 | 228=>300 | 229=>271 | n=>n,fun | n=>n⟩
theorem cL5:Go.Proofs.Lays.n189 prog lays189_ren where
 mixed:=by kernel_rfl
 f125:=func312.trans (congrArg some aB)
 f128:=func324.trans (congrArg some aB)
 f129:=func325.trans (congrArg some aB)
 f189:=func305.trans (congrArg some aB)
 f215:=func332.trans (congrArg some aB)
 f216:=func321.trans (congrArg some aB)
 f257:=func311.trans (congrArg some aB)
 f294:=func315.trans (congrArg some aB)
 f295:=func316.trans (congrArg some aB)
 f296:=func317.trans (congrArg some aB)
 f297:=func318.trans (congrArg some aB)
 f298:=func319.trans (congrArg some aB)
 f299:=func320.trans (congrArg some aB)
 f300:=func322.trans (congrArg some aB)
 f301:=func323.trans (congrArg some aB)
 f328:=func327.trans (congrArg some aB)
 f329:=func328.trans (congrArg some aB)
 f330:=func329.trans (congrArg some aB)
 f331:=func330.trans (congrArg some aB)
 f332:=func331.trans (congrArg some aB)
 f343:=func334.trans (congrArg some aB)
 t0:=underlying0
 a0:=Tryz.isAgg0
 z0:=Tryz.sizeOf0
 v0:=Tryz.zeroValue0
 t3:=underlying3
 a3:=Tryz.isAgg3
 z3:=Tryz.sizeOf3
 v3:=Tryz.zeroValue3
 t4:=underlying4
 a4:=Tryz.isAgg4
 z4:=Tryz.sizeOf4
 v4:=Tryz.zeroValue4
 t5:=underlying5
 a5:=Tryz.isAgg5
 z5:=Tryz.sizeOf5
 v5:=Tryz.zeroValue5
 t9:=underlying9
 a9:=Tryz.isAgg9
 z9:=Tryz.sizeOf9
 v9:=Tryz.zeroValue9
 t28:=underlying38
 a28:=Tryz.isAgg38
 z28:=Tryz.sizeOf38
 v28:=Tryz.zeroValue38
 t46:=underlying226
 a46:=Tryz.isAgg226
 z46:=Tryz.sizeOf226
 v46:=Tryz.zeroValue226
 t51:=underlying290
 a51:=Tryz.isAgg290
 z51:=Tryz.sizeOf290
 v51:=Tryz.zeroValue290
 t53:=underlying292
 a53:=Tryz.isAgg292
 z53:=Tryz.sizeOf292
 v53:=Tryz.zeroValue292
 t131:=underlying254
 a131:=Tryz.isAgg254
 z131:=Tryz.sizeOf254
 v131:=Tryz.zeroValue254
 t182:=underlying282
 a182:=Tryz.isAgg282
 z182:=Tryz.sizeOf282
 v182:=Tryz.zeroValue282
 t183:=underlying283
 a183:=Tryz.isAgg283
 z183:=Tryz.sizeOf283
 v183:=Tryz.zeroValue283
 t218:=underlying293
 a218:=Tryz.isAgg293
 z218:=Tryz.sizeOf293
 v218:=Tryz.zeroValue293
 t222:=underlying297
 a222:=Tryz.isAgg297
 z222:=Tryz.sizeOf297
 v222:=Tryz.zeroValue297
 t228:=underlying300
 a228:=Tryz.isAgg300
 z228:=Tryz.sizeOf300
 v228:=Tryz.zeroValue300
 t229:=underlying271
 a229:=Tryz.isAgg271
 z229:=Tryz.sizeOf271
 v229:=Tryz.zeroValue271


theorem SortOwn {w0 W:World}{rs:List Res}{v:Value}{xs:List Int}{fp:List Nat}(h:St w0 W (Res.own v xs fp::rs)) (hn:xs.length<=1000000) :
  Calls prog 305 #[v] W fun e w'=>e = .returned (.tuple #[])/\∃fp',St w0 w' (Res.own v (nN xs) fp'::rs):=by
 have hsl:=jS (h.get 0 rfl);have hwr:=(h.get 0 rfl).2;obtain⟨ao,cap,rfl,h1,h2,h3⟩:=hsl;rcases h3 with⟨rfl,rfl⟩ | ⟨b,off,f,hne,rfl,rfl,hb,h3⟩
 ·refine(Any.slices_Sort_int_none cL5 ao cap W).mono ?_;rintro e w' ⟨he,rfl⟩;refine⟨he,[],?_⟩;rw[show nN []=[] from eq_nil_of_length_eq_zero (uS [])];exact h
 obtain⟨cells,he,hr⟩:=Elems.of_at off h3;obtain⟨rfl,rfl,h64⟩:=he.ints_inv;obtain⟨C,e,hC⟩:=hwr b (by simp);have hdr:Holds (Value.int .i64) W b off xs.toArray:=by
  intro j hj;have hj':j<xs.length:=by simpa using hj
  refine⟨?_,by simp[World.frozen?,hC]⟩;rw[hr j (I xs[j]) (by simp[hj'])];simp[hj']
 refine(Any.slices_Sort_int cL5 b off cap xs W hdr hb aA).mono ?_;rintro e' w' ⟨he',n,os,rfl⟩;obtain⟨fp',hst⟩:=h.sorted hne (uS xs) (fun y hy=>(iA xs).mem_iff.1 hy) n os;exact⟨he',fp',hst⟩

end Go.Proofs.YtjihdmlkpkkpbaaGreat
namespace Go.Proofs.YtjihdmlkpkkpbaaGreat
set_option maxRecDepth 100000
set_option maxHeartbeats 2000000
open Go.RowKit Go.Proofs.Tryz List
theorem xU {n a b:Int}(h:inB n a b=false):¬(a<=n/\n<=b):=fun hh=>by rw[inB_t hh]at h;cases h
theorem pm1 {p:Plan}(h:inB p.tasks 1 12=false):aR p := .inl (xU h)
theorem pm2 {p:Plan}(h:(30:Int)<p.edges.length):aR p := .inr (.inl aA)
theorem pm3 {p:Plan}(h:inB p.prio 0 9=false):aR p := .inr (.inr (.inl (xU h)))
theorem pm4 {p:Plan}(h:inB p.most 1 5=false):aR p := .inr (.inr (.inr (.inl (xU h))))
theorem pm5 {p:Plan}(h:inB p.wait 1 20=false):aR p := .inr (.inr (.inr (.inr (xU h))))
theorem pm0 {p:Plan}(h1:inB p.tasks 1 12=true) (h2:¬(30:Int)<p.edges.length) (h3:inB p.prio 0 9=true) (h4:inB p.most 1 5=true) (h5:inB p.wait 1 20=true):¬aR p:=by
 rintro(h | h | h | h | h)
 ·exact h (inB_iff.1 h1)
 ·omega
 ·exact h (inB_iff.1 h3)
 ·exact h (inB_iff.1 h4)
 exact h (inB_iff.1 h5)
theorem aS9 {p:Plan}(h:¬aR p):(1<=p.tasks/\p.tasks<=12)/\p.edges.length<=30:=by
 unfold aR at h;omega
theorem hk_shrI {P:Program}(a s:Int) (ha:0<=a) (hs:0<=s/\s<60):BOk P .shr (I a) (I s) (I (aR0 a s)):=fun hx hy k=>stp_shrI hx hy ha hs k
theorem hk_andI {P:Program}(a b:Int) (ha:0<=a/\a<4294967296) (hb:0<=b/\b<4294967296):BOk P .and (I a) (I b) (I (cE7 a b)):=fun hx hy k=>stp_andI hx hy ha hb k
section
variable {α:Type}{xs:List α}{y e:α}{k:Nat}
theorem cn_no (h:xs[k]? = some e) (h0:y∉xs.take k) (hp:¬y=e):y∉xs.take (k+1):=by
 obtain⟨hk,rfl⟩:=gsi_.1 h;rw[take_succ_eq_append_getElem hk,mem_append,mem_singleton];exact fun hh=>hh.elim h0 hp
theorem dA9 (h0:y∉xs.take k) (hn:¬(k:Int)<xs.length):y∉xs:=by rwa [take_of_length_le aA]at h0
def CnF (y:α) (xs:List α):Option Nat->Prop
 | none=>y∉xs
 | some _=>y∈xs
theorem cn_f [DecidableEq α] (h:CnF y xs none):decide ((0:Int) <= -1)=decide (y∈xs):=(decide_eq_false (show ¬y∈xs from h)).symm
theorem cn_t [DecidableEq α] (h:CnF y xs (some k)):decide ((0:Int)<=(k:Int))=decide (y∈xs):=by rw[decide_eq_true (show y∈xs from h)];exact decide_eq_true aA
end
theorem ContE_i (xs:List Edge) (y:Edge) (hl:xs.length<=1048576):Ct1 prog 282 [.L xs,.S y] [.B (decide (y∈xs))]:=
 .one (decide (y∈xs)) (rk:=fun b=>[.B b])<|vc func282 (fun hg=>.in_ (R':=CnF y xs) func304
  (.la (Γ:=Nat) (fun k=>k<=xs.length/\y∉xs.take k) (fun k=>xs.length-k) (fun k=>[vI 8 k]) (fun _=>[]) 0 (h:=⟨Nat.zero_le _,by simp⟩) fun k hk t=>.s ((k:Int)<xs.length)
   (fun h=>.x xs k (h:=by omega) fun e he ge=>.qe (bL4 y e) aB<|.sb (eqB y e)
    (fun h2=>.rt (some k) (by rw[eqB_iff]at h2;subst h2;exact mem_of_getElem? he))
    (fun h2=>.p k 1<|.n t (k+1) [] (h1:=⟨by omega,cn_no he hk.2 (fun hh=>by rw[eqB_iff.2 hh]at h2;cases h2)⟩)))
   (fun h=>.rt none (dA9 hk.2 h))) fun o=>match o with
  | none=>fun ho=>.rt (decide ((0:Int) <= -1)) ⟨cn_f ho,trivial⟩
  | some k=>fun ho=>.rt (decide ((0:Int)<=(k:Int))) ⟨cn_t ho,trivial⟩) aB
theorem cQ4 (xs:List Int) (y:Int) (hl:xs.length<=1048576):Ct1 prog 153 [.L xs,.I y] [.B (decide (y∈xs))]:=
 .one (decide (y∈xs)) (rk:=fun b=>[.B b])<|vc func153 (fun hg=>.in_ (R':=CnF y xs) func224
  (.la (Γ:=Nat) (fun k=>k<=xs.length/\y∉xs.take k) (fun k=>xs.length-k) (fun k=>[vI 8 k]) (fun _=>[]) 0 (h:=⟨Nat.zero_le _,by simp⟩) fun k hk t=>.s ((k:Int)<xs.length)
   (fun h=>.x xs k (h:=by omega) fun e he ge=>.s (y=e)
    (fun h2=>.rt (some k) (by subst h2;exact mem_of_getElem? he))
    (fun h2=>.p k 1<|.n t (k+1) [] (h1:=⟨by omega,cn_no he hk.2 h2⟩)))
   (fun h=>.rt none (dA9 hk.2 h))) fun o=>match o with
  | none=>fun ho=>.rt (decide ((0:Int) <= -1)) ⟨cn_f ho,trivial⟩
  | some k=>fun ho=>.rt (decide ((0:Int)<=(k:Int))) ⟨cn_t ho,trivial⟩) aB
theorem own_sl {β:Type}[Shape β] {w w':World}{xs:List β}{e:Ending}(h:∃(v:Value) (fp':List Nat),e = .returned v/\St w w' [Res.own v xs fp']):∃(a:Unit) (vs:List Value) (rs:List Res),True/\e = .returned (aD6 vs)/\Rks vs [Rk.L xs] rs/\St w w' rs:=by
 obtain⟨v,fp,he,st⟩:=h;exact⟨(),[v],_,trivial,he,⟨[Res.own v xs fp],[],⟨fp,rfl⟩,rfl,rfl⟩,st⟩
noncomputable def aC6 (p:Plan):List Int:=eU (eI p.edges (List.replicate p.tasks.toNat 0) p.tasks.toNat)
theorem Waits_i (p:Plan) (hn:1<=p.tasks/\p.tasks<=12) (hl:p.edges.length<=30) (hi:EdgesIn p.tasks.toNat p.edges):Ct1 prog 283 [.S p] [.L (aC6 p)]:=⟨fun w us _ hp=>by
 match us,hp with
 | [_],⟨⟨cs0,fp0,rfl,hc0⟩,_⟩=>exact(WaitsI w hc0 hn hl hi).mono fun e w' h=>own_sl h⟩
theorem From_s (p:Plan) (t:Int) (hn:1<=p.tasks/\p.tasks<=12) (hl:p.edges.length<=30) (hi:EdgesIn p.tasks.toNat p.edges) (ht:0<=t/\t<p.tasks):Ct1 prog 268 [.S p,.I t] [.L (sN p.edges p.tasks.toNat t)]:=
 vc func268 (fun hg=>.mk inferInstance false p.tasks.toNat p.tasks aA 1 aA aA trivial<|.lr (inferInstance:Dsh Int) fS 14 [t] (by simp) (aY3 (by show I64 t;unfold I64;omega)) <|
  .l (Γ:=Nat×List Int×List Bool) (fun g=>BInv p.edges p.tasks.toNat t g.2.1 g.2.2 g.1 0/\g.1<=g.2.1.length) (fun g=>p.tasks.toNat+2-g.1) [777777,14] [777777] [777777] (fun g=>[vI 7 g.1,vR 6 3]) (fun g=>[oO 2 g.2.2,oR 3 3 g.2.1]) (0,[t],List.replicate p.tasks.toNat false) (h:=⟨BInv.start,Nat.zero_le _⟩) fun g hJ tk=>
   let hq:=hJ.1.len_le
   .s ((g.1:Int)<g.2.1.length)
    (fun h=>.l (Γ:=Nat×List Int×List Bool) (fun z=>BInv p.edges p.tasks.toNat t z.2.1 z.2.2 g.1 z.1/\g.1<z.2.1.length/\z.1<=p.edges.length) (fun z=>p.edges.length-z.1) [777777,16] [777777] [777777] (fun z=>[vI 8 z.1,vR 6 3]) (fun z=>[oO 2 z.2.2,oR 3 3 z.2.1]) (0,g.2.1,g.2.2) (h:=⟨hJ.1,by show g.1<g.2.1.length;omega,Nat.zero_le _⟩) fun z hz tz=>
     let hq2:=hz.1.len_le
     let ho2:=hz.1.len
     .s ((z.1:Int)<p.edges.length)
      (fun h2=>.x p.edges z.1 (h:=by omega) fun e he ge=>.x z.2.1 g.1 (h:=hz.2.1) fun v hv gv=>
       let hea:=hi e (mem_of_getElem? he)
       let no:¬(e.from_=v/\z.2.2.getD e.to_.toNat false=false)->D prog (fun _:Unit=>True/\rgd [Rk.L (sN p.edges p.tasks.toNat t)]):=fun hno=>.p z.1 1<|.n tz (z.1+1,z.2.1,z.2.2) [] (h1:=⟨hz.1.skip hi he hv hno,hz.2.1,by show z.1+1<=_;omega⟩) (h2:=by show p.edges.length-(z.1+1)<_;omega)
       .s (e.from_=v)
        (fun h3=>.ex (p:=fun b=>z.2.2[e.to_.toNat]? = some b) ⟨_,getElem?_eq_getElem (show e.to_.toNat<z.2.2.length by omega)⟩ fun b hb=>.ye hb e.to_ (he:=by omega) fun _=>.v b
         (fun h4=>let ha:=hz.1.add hi he hv h3 (by rw[getD_eq_getElem?_getD,hb,h4];rfl)
          let hal:=ha.len_le
          .d 2 hb fun _=>.ie e.to_.toNat e.to_ (he:=by omega)<|.wt 52<|.f 2 z.2.2 true (h:=trivial)<|.a z.2.1 e.to_ 8 (hy:=(show e.ok from ge).2) (hby:=by omega)<|.p z.1 1 (h:=by unfold I64;omega) <|
          .n tz (z.1+1,z.2.1++[e.to_],z.2.2.set e.to_.toNat true) [] (h1:=⟨ha,by show g.1<(z.2.1++[e.to_]).length;rw[length_append];have:=hz.2.1;omega,by show z.1+1<=_;omega⟩) (h2:=by show p.edges.length-(z.1+1)<_;omega))
         (fun h4=>no (fun hc=>by have:=hc.2;rw[getD_eq_getElem?_getD,hb,h4]at this;cases this)))
        (fun h3=>no (fun hc=>h3 hc.1)))
      (fun h2=>.p g.1 1<|.n tk (g.1+1,z.2.1,z.2.2) [] (h1:=⟨hz.1.next aA,hz.2.1⟩) (h2:=by show p.tasks.toNat+2-(g.1+1)<_;omega)))
    (fun h=>.g 2 (hJ.1.all aA)<|.rt () ⟨trivial,trivial⟩)) aB
theorem many_last {p:Plan}(h1:inB p.tasks 1 12=true) (h2:¬(30:Int)<p.edges.length) (h3:inB p.prio 0 9=true) (h4:inB p.most 1 5=true):(!inB p.wait 1 20)=pB (aR p):=by
 cases h5:inB p.wait 1 20 with
 | true=>exact(nJ (pm0 h1 h2 h3 h4 h5)).symm
 | false=>exact(tK (pm5 h5)).symm
theorem Many_s (p:Plan):Ct1 prog 267 [.S p] [.B (pB (aR p))]:=
 .one (pB (aR p)) (rk:=fun x=>[.B x])<|vc func267 (fun hg=>
  .c func37 (InV p.tasks 1 12) fun _=>.v (inB p.tasks 1 12) (fun h=>.rt true ⟨(tK (pm1 h)).symm,trivial⟩) (fun h1=>.s ((30:Int)<p.edges.length) (fun h=>.rt true ⟨(tK (pm2 h)).symm,trivial⟩) (fun h2=>
  .c func37 (InV p.prio 0 9) fun _=>.v (inB p.prio 0 9) (fun h=>.rt true ⟨(tK (pm3 h)).symm,trivial⟩) (fun h3=>
  .c func37 (InV p.most 1 5) fun _=>.v (inB p.most 1 5) (fun h=>.rt true ⟨(tK (pm4 h)).symm,trivial⟩) (fun h4=>
  .c func37 (InV p.wait 1 20) fun _=>.rt (!inB p.wait 1 20) ⟨many_last h1 h2 h3 h4,trivial⟩))))) aB
structure PeJ (p:Plan) (k:Nat):Prop where
 le:k<=p.edges.length
 inn:EdgesIn p.tasks.toNat (p.edges.take k)
theorem PeJ.start (p:Plan):PeJ p 0:=⟨Nat.zero_le _,EdgesIn.nil⟩
theorem PeJ.next {p:Plan}{k:Nat}{e:Edge}(h:PeJ p k) (he:p.edges[k]? = some e) (h1:inB e.from_ 0 (p.tasks-1)=true) (h2:inB e.to_ 0 (p.tasks-1)=true):PeJ p (k+1):=by
 obtain⟨hk,rfl⟩:=gsi_.1 he;have:=inB_iff.1 h1;have:=inB_iff.1 h2;exact⟨hk,h.inn.step hk aA⟩
theorem bM5 {p:Plan}{k:Nat}{e:Edge}(hm:¬aR p) (he:p.edges[k]? = some e) (h:inB e.from_ 0 (p.tasks-1)=false∨inB e.to_ 0 (p.tasks-1)=false):(2:Int)=aC p:=by
 obtain⟨hk,rfl⟩:=gsi_.1 he;refine(pf2 hm fun hE=>?_).symm;have h1:=hE.at hk;have h2:=aS9 hm;rcases h with h | h
 ·exact xU h aA
 exact xU h aA
theorem PeJ.all {p:Plan}{k:Nat}(h:PeJ p k) (hk:¬(k:Int)<p.edges.length):EdgesIn p.tasks.toNat p.edges:=by
 have:=h.inn
 rwa [take_of_length_le aA]at this
structure PnJ (p:Plan) (k:Nat):Prop where
 le:k<=p.edges.length
 nd:(p.edges.take k).Nodup
theorem PnJ.start (p:Plan):PnJ p 0:=⟨Nat.zero_le _,nodup_nil⟩
theorem PnJ.next {p:Plan}{k:Nat}{e:Edge}(h:PnJ p k) (he:p.edges[k]? = some e) (h1:e∉p.edges.take k):PnJ p (k+1):=by
 obtain⟨hk,rfl⟩:=gsi_.1 he;exact⟨hk,nodup_step h.nd hk h1⟩
theorem cV5 {p:Plan}{k:Nat}{e:Edge}(hm:¬aR p) (hE:EdgesIn p.tasks.toNat p.edges) (he:p.edges[k]? = some e) (h1:e∈p.edges.take k):(3:Int)=aC p:=by
 obtain⟨hk,rfl⟩:=gsi_.1 he;exact(pf3 hm hE (not_nodup_at hk h1)).symm
theorem PnJ.all {p:Plan}{k:Nat}(h:PnJ p k) (hk:¬(k:Int)<p.edges.length):p.edges.Nodup:=by
 have:=h.nd
 rwa [take_of_length_le aA]at this
structure PcJ (p:Plan) (k:Nat):Prop where
 le:k<=p.tasks.toNat
 no:∀t:Nat,t<k->¬Rch p.edges (t:Int) (t:Int)
theorem PcJ.start (p:Plan):PcJ p 0:=⟨Nat.zero_le _,fun t h=>by omega⟩
theorem PcJ.next {p:Plan}{k:Nat}(h:PcJ p k) (hk:k<p.tasks.toNat) (h1:¬Rch p.edges (k:Int) (k:Int)):PcJ p (k+1):=⟨hk,fun t ht=>by
 rcases Nat.lt_succ_iff_lt_or_eq.1 ht with h2 | rfl
 ·exact h.no t h2
 ·exact h1⟩
theorem PcJ.all {p:Plan}{k:Nat}(h:PcJ p k) (hk:¬k<p.tasks.toNat) (hm:¬aR p) (hE:EdgesIn p.tasks.toNat p.edges) (hN:p.edges.Nodup):(0:Int)=aC p:=
 (pf0 hm hE hN fun ⟨t,ht,hr⟩=>h.no t (by have:=h.le;omega) hr).symm
theorem aO7 (p:Plan):(aC6 p).length=p.tasks.toNat:=by unfold aC6;rw[bH3,mE,length_replicate]
theorem waitsL_at {p:Plan}{k:Nat}{m:Int}(hm:¬aR p) (hE:EdgesIn p.tasks.toNat p.edges) (h:(aC6 p)[k]? = some m):(0<=m/\m<4294967296)/\(cE7 (aR0 m k) 1=1↔Rch p.edges (k:Int) (k:Int)):=by
 obtain⟨hk,rfl⟩:=gsi_.1 h;have h1:=aS9 hm;have hk2:k<p.tasks.toNat:=by rwa [aO7]at hk
 refine⟨?_,waits_bit hE hk2 hk⟩;exact oK (bC9 aA hE _) k hk
theorem kU (p:Plan):Ct1 prog 225 [.S p] [.I (aC p)]:=
 .one (aC p) (rk:=fun x=>[.I x])<|vc func225 (fun (hg:gin [Par.S p])=>let gp:=hg.1.1
  .c func50 (bL p.tasks 1 12) fun _=>.v (inB p.tasks 1 12) (fun h=>.rt 1 ⟨(pf1 (pm1 h)).symm,trivial⟩) (fun h1=>.s ((30:Int)<p.edges.length) (fun h=>.rt 1 ⟨(pf1 (pm2 h)).symm,trivial⟩) (fun h2=>
  .c func50 (bL p.prio 0 9) fun _=>.v (inB p.prio 0 9) (fun h=>.rt 1 ⟨(pf1 (pm3 h)).symm,trivial⟩) (fun h3=>
  .c func50 (bL p.most 1 5) fun _=>.v (inB p.most 1 5) (fun h=>.rt 1 ⟨(pf1 (pm4 h)).symm,trivial⟩) (fun h4=>
  .c func50 (bL p.wait 1 20) fun _=>.v (inB p.wait 1 20) (fun h=>.rt 1 ⟨(pf1 (pm5 h)).symm,trivial⟩) (fun h5=>let hm:=pm0 h1 h2 h3 h4 h5
   let hr:=aS9 hm
   .l (Γ:=Nat) (fun k=>PeJ p k) (fun k=>p.edges.length-k) [1,38,39] [1] [0] (fun k=>[vI 40 k]) (fun _=>[]) 0 (h:=PeJ.start p) fun k hJ t=>let hk0:=hJ.le
    .s ((k:Int)<p.edges.length)
     (fun h=>.x p.edges k (h:=by omega) fun e he ge=>.m p.tasks 1<|.c func50 (bL e.from_ 0 (p.tasks-1)) fun _=>.v (inB e.from_ 0 (p.tasks-1))
      (fun h6=>.rt 2 ⟨bM5 hm he (.inl h6),trivial⟩)
      (fun h6=>.m p.tasks 1<|.c func50 (bL e.to_ 0 (p.tasks-1)) fun _=>.v (inB e.to_ 0 (p.tasks-1))
       (fun h7=>.rt 2 ⟨bM5 hm he (.inr h7),trivial⟩)
       (fun h7=>.p k 1<|.n t (k+1) [] (hJ.next he h6 h7) aA)))
     (fun h=>let hE:=hJ.all h
      .l (Γ:=Nat) (fun k=>PnJ p k) (fun k=>p.edges.length-k) [1,62,63] [1] [0] (fun k=>[vI 64 k]) (fun _=>[]) 0 (h:=PnJ.start p) fun k hJ t=>let hk0:=hJ.le
      .s ((k:Int)<p.edges.length)
       (fun h=>.x p.edges k (h:=by omega) fun e he ge=>.tk inferInstance p.edges k aA (k:Int) rfl<|.c func282 (ContE_i (p.edges.take k) e (by rw[length_take];omega)) fun _=>.s (e∈p.edges.take k)
        (fun h6=>.rt 3 ⟨cV5 hm hE he h6,trivial⟩)
        (fun h6=>.p k 1<|.n t (k+1) [] (hJ.next he h6) aA))
       (fun h=>let hN:=hJ.all h
        .c func283 (Waits_i p hr.1 hr.2 hE) (hg:=⟨gp,trivial⟩) fun _=>let hwl:=aO7 p
        .l (Γ:=Nat) (fun k=>PcJ p k) (fun k=>p.tasks.toNat-k) [1,77,78] [1,2] [0] (fun k=>[vI 79 k]) (fun _=>[]) 0 (h:=PcJ.start p) fun k hJ t=>let hk0:=hJ.le
        .s ((k:Int)<(aC6 p).length)
         (fun h=>.x (aC6 p) k (h:=by omega) fun m hm2 gm=>let ha:=waitsL_at hm hE hm2
          .pb .shr (hk_shrI m k ha.1.1 aA)<|.pb .and (hk_andI (aR0 m k) 1 (shrI_rng ha.1) aA)<|.s (cE7 (aR0 m k) 1=1)
          (fun h6=>.rt 4 ⟨(pf4 hm hE hN ⟨k,by omega,ha.2.1 h6⟩).symm,trivial⟩)
          (fun h6=>.p k 1<|.n t (k+1) [] (hJ.next aA (fun z=>h6 (ha.2.2 z))) aA))
         (fun h=>.rt 0 ⟨hJ.all aA hm hE hN,trivial⟩))))))))) aB
theorem frmOf_len (es:List Edge) (n:Nat) (t:Int):(sN es n t).length=n:=by unfold sN;simp
theorem bY2 {es:List Edge}{n k:Nat}{t:Int}{b:Bool}(h:(sN es n t)[k]? = some b):b=pB (Rch es t (k:Int)):=by
 unfold sN at h;rw[getElem?_map]at h;cases hr:(List.range n)[k]? with
 | none=>rw[hr]at h;cases h
 | some x=>
  rw[hr]at h;obtain⟨hk,rfl⟩:=gsi_.1 hr;simp at h;exact h.symm
structure PtJ (p:Plan) (k j:Nat) (e:Edge):Prop where
 le:j<=k
 no:e∉p.edges.take j
theorem PtJ.start (p:Plan) (k:Nat) (e:Edge):PtJ p k 0 e:=⟨Nat.zero_le _,by simp⟩
theorem PtJ.next {p:Plan}{k j:Nat}{e f:Edge}(h:PtJ p k j e) (hj:j<k) (hf:p.edges[j]? = some f) (hn:eqB e f=false):PtJ p k (j+1) e:=by
 obtain⟨hk,rfl⟩:=gsi_.1 hf;exact⟨hj,not_mem_take_step hk h.no (by unfold eqB at hn;simpa using hn)⟩
theorem pt_hit {p:Plan}{k j:Nat}{e f:Edge}(hj:j<k) (hf:p.edges[j]? = some f) (hn:eqB e f=true):e∈p.edges.take k:=by
 obtain⟨hk,rfl⟩:=gsi_.1 hf;have:e=p.edges[j]:=by unfold eqB at hn;simpa using hn
 rw[this];exact aK2 hk hj
theorem qA (p:Plan):Ct1 prog 193 [.S p] [.I (aC p)]:=
 .one (aC p) (rk:=fun x=>[.I x])<|vc func193 (fun (hg:gin [Par.S p])=>let gp:=hg.1.1
  .c func267 (Many_s p) (hg:=⟨gp,trivial⟩) fun _=>.sb (pB (aR p)) (fun h=>.rt 1 ⟨(pf1 (pB_iff.1 h)).symm,trivial⟩) (fun h0=>let hm:¬aR p:=fun z=>by rw[tK z]at h0;cases h0
   let hr:=aS9 hm
   .l (Γ:=Nat) (fun k=>PeJ p k) (fun k=>p.edges.length-k) [1] [1] [0] (fun k=>[vI 3 k]) (fun _=>[]) 0 (h:=PeJ.start p) fun k hJ t=>let hk0:=hJ.le
    .s ((k:Int)<p.edges.length)
     (fun h=>.x p.edges k (h:=by omega) fun e he ge=>.m p.tasks 1<|.c func37 (InV e.from_ 0 (p.tasks-1)) fun _=>.v (inB e.from_ 0 (p.tasks-1))
      (fun h6=>.rt 2 ⟨bM5 hm he (.inl h6),trivial⟩)
      (fun h6=>.y he fun _=>.m p.tasks 1<|.c func37 (InV e.to_ 0 (p.tasks-1)) fun _=>.v (inB e.to_ 0 (p.tasks-1))
       (fun h7=>.rt 2 ⟨bM5 hm he (.inr h7),trivial⟩)
       (fun h7=>.p k 1<|.n t (k+1) [] (hJ.next he h6 h7) aA)))
     (fun h=>let hE:=hJ.all h
      .l (Γ:=Nat) (fun k=>PnJ p k) (fun k=>p.edges.length-k) [1] [1] [0] (fun k=>[vI 4 k]) (fun _=>[]) 0 (h:=PnJ.start p) fun k hJ t=>let hk0:=hJ.le
      .s ((k:Int)<p.edges.length)
       (fun h=>.ex (p:=fun e=>p.edges[k]? = some e) ⟨_,getElem?_eq_getElem (show k<p.edges.length by omega)⟩ fun e he=>
        .l (Γ:=Nat) (fun j=>PtJ p k j e) (fun j=>k-j) [1,4] [1] [0] (fun j=>[vI 5 j]) (fun _=>[]) 0 (h:=PtJ.start p k e) fun j hq t2=>let hj0:=hq.le
         .s ((j:Int)<(k:Int))
          (fun h5=>.y he fun _=>.x p.edges j (h:=by omega) fun f hf gf=>.qe (bL4 e f) aB<|.sb (eqB e f)
           (fun h6=>.rt 3 ⟨cV5 hm hE he (pt_hit aA hf h6),trivial⟩)
           (fun h6=>.p j 1<|.n t2 (j+1) [] (hq.next aA hf h6) aA))
          (fun h5=>.p k 1<|.n t (k+1) [] (hJ.next he (by have:=hq.no;rwa [show j=k by omega]at this)) aA))
       (fun h=>let hN:=hJ.all h
        .l (Γ:=Nat) (fun k=>PcJ p k) (fun k=>p.tasks.toNat-k) [1] [1] [0] (fun k=>[vI 6 k]) (fun _=>[]) 0 (h:=PcJ.start p) fun k hJ t=>let hk0:=hJ.le
        .s ((k:Int)<p.tasks)
         (fun h=>.c func268 (From_s p k hr.1 hr.2 hE aA) (hg:=⟨gp,trivial⟩) fun _=>.x (sN p.edges p.tasks.toNat (k:Int)) k (h:=by rw[frmOf_len];omega) fun b hb gb=>.sb b
          (fun h6=>.rt 4 ⟨(pf4 hm hE hN ⟨k,by omega,pB_iff.1 ((bY2 hb).symm.trans h6)⟩).symm,trivial⟩)
          (fun h6=>.p k 1<|.n t (k+1) [] (hJ.next aA (fun z=>by have:=bY2 hb;rw[tK z]at this;rw[this]at h6;cases h6)) aA))
         (fun h=>.rt 0 ⟨hJ.all aA hm hE hN,trivial⟩))))) aB
theorem onesF_t {es:List Edge}{task:Int}{k t:Nat}{e:Edge}(he:es[k]? = some e) (h:e.from_=(t:Int)/\e.to_=task) (l:List Int):l++lK (es.take k) task (t:Int)++[(t:Int)]=l++lK (es.take (k+1)) task (t:Int):=by
 obtain⟨hk,rfl⟩:=gsi_.1 he;rw[onesF_step_t hk h,append_assoc]
theorem cK0 {es:List Edge}{task:Int}{k t:Nat}{e:Edge}(he:es[k]? = some e) (h:¬(e.from_=(t:Int)/\e.to_=task)) (l:List Int):l++lK (es.take k) task (t:Int)=l++lK (es.take (k+1)) task (t:Int):=by
 obtain⟨hk,rfl⟩:=gsi_.1 he;rw[onesF_step_f hk h]
theorem onesT_t {es:List Edge}{task:Int}{k t:Nat}{e:Edge}(he:es[k]? = some e) (h:e.from_=task/\e.to_=(t:Int)) (l:List Int):l++lJ (es.take k) task (t:Int)++[(t:Int)]=l++lJ (es.take (k+1)) task (t:Int):=by
 obtain⟨hk,rfl⟩:=gsi_.1 he;rw[onesT_step_t hk h,append_assoc]
theorem cJ9 {es:List Edge}{task:Int}{k t:Nat}{e:Edge}(he:es[k]? = some e) (h:¬(e.from_=task/\e.to_=(t:Int))) (l:List Int):l++lJ (es.take k) task (t:Int)=l++lJ (es.take (k+1)) task (t:Int):=by
 obtain⟨hk,rfl⟩:=gsi_.1 he;rw[onesT_step_f hk h]
theorem byF_all {p:Plan}{task:Int}{k i:Nat}(hi:i<=p.edges.length) (h:¬(i:Int)<p.edges.length):cS (dM p.edges task) k++lK (p.edges.take i) task (k:Int)=cS (dM p.edges task) (k+1):=by
 rw[take_of_length_le aA,pY];rfl
theorem byT_all {p:Plan}{task:Int}{k i:Nat}(hi:i<=p.edges.length) (h:¬(i:Int)<p.edges.length):cS (tos p.edges task) k++lJ (p.edges.take i) task (k:Int)=cS (tos p.edges task) (k+1):=by
 rw[take_of_length_le aA,pY];rfl
theorem Before_s (p:Plan) (task:Int) (hn:1<=p.tasks/\p.tasks<=12) (hl:p.edges.length<=30) (hE:EdgesIn p.tasks.toNat p.edges):Ct1 prog 269 [.S p,.I task] [.L (nN (dM p.edges task))]:=
 vc func269 (fun hg=>.e Int<|.l (Γ:=Nat) (fun k=>k<=p.tasks.toNat) (fun k=>p.tasks.toNat-k) [1,2] [1] [0] (fun k=>[vR 5 2,vI 6 k]) (fun k=>[oR 2 3 (cS (dM p.edges task) k)]) 0 fun k hk t=>
  .s ((k:Int)<p.tasks)
   (fun h=>.g 2 (show cS (dM p.edges task) k=cS (dM p.edges task) k++lK (p.edges.take 0) task (k:Int) from (append_nil _).symm) <|
    .l (Γ:=Nat) (fun i=>i<=p.edges.length) (fun i=>p.edges.length-i) [1,2,6] [1] [0] (fun i=>[vR 5 2,vI 7 i]) (fun i=>[oR 2 3 (cS (dM p.edges task) k++lK (p.edges.take i) task (k:Int))]) 0 fun i hi t2=>let hln:=onesF_len p.edges task (k:Int) i k
     .s ((i:Int)<p.edges.length)
      (fun h2=>.x p.edges i (h:=by omega) fun e he ge=>.s (e.from_=(k:Int))
       (fun h3=>.y he fun _=>.s (e.to_=task)
        (fun h4=>.a (cS (dM p.edges task) k++lK (p.edges.take i) task (k:Int)) (k:Int) 8 (hy:=by show I64 _;unfold I64;omega) (hby:=by omega)<|.g 2 (onesF_t he ⟨h3,h4⟩ (cS (dM p.edges task) k))<|.p i 1<|.n t2 (i+1) [])
        (fun h4=>.g 2 (cK0 (task:=task) (t:=k) he (fun z=>h4 z.2) (cS (dM p.edges task) k))<|.p i 1<|.n t2 (i+1) []))
       (fun h3=>.g 2 (cK0 (task:=task) (t:=k) he (fun z=>h3 z.1) (cS (dM p.edges task) k))<|.p i 1<|.n t2 (i+1) []))
      (fun h2=>.g 2 (byF_all (p:=p) (task:=task) (k:=k) hi h2)<|.p k 1<|.n t (k+1) []))
   (fun h=>.g 2 (show cS (dM p.edges task) k=nN (dM p.edges task) by rw[show k=p.tasks.toNat by omega];exact bH9 (bF4 hE task))<|.rt () ⟨trivial,trivial⟩)) aB
theorem Behind_s (p:Plan) (task:Int) (hn:1<=p.tasks/\p.tasks<=12) (hl:p.edges.length<=30) (hE:EdgesIn p.tasks.toNat p.edges):Ct1 prog 274 [.S p,.I task] [.L (nN (tos p.edges task))]:=
 vc func274 (fun hg=>.e Int<|.l (Γ:=Nat) (fun k=>k<=p.tasks.toNat) (fun k=>p.tasks.toNat-k) [1,2] [1] [0] (fun k=>[vR 5 2,vI 6 k]) (fun k=>[oR 2 3 (cS (tos p.edges task) k)]) 0 fun k hk t=>
  .s ((k:Int)<p.tasks)
   (fun h=>.g 2 (show cS (tos p.edges task) k=cS (tos p.edges task) k++lJ (p.edges.take 0) task (k:Int) from (append_nil _).symm) <|
    .l (Γ:=Nat) (fun i=>i<=p.edges.length) (fun i=>p.edges.length-i) [1,2,6] [1] [0] (fun i=>[vR 5 2,vI 7 i]) (fun i=>[oR 2 3 (cS (tos p.edges task) k++lJ (p.edges.take i) task (k:Int))]) 0 fun i hi t2=>let hln:=onesT_len p.edges task (k:Int) i k
     .s ((i:Int)<p.edges.length)
      (fun h2=>.x p.edges i (h:=by omega) fun e he ge=>.s (e.from_=task)
       (fun h3=>.y he fun _=>.s (e.to_=(k:Int))
        (fun h4=>.a (cS (tos p.edges task) k++lJ (p.edges.take i) task (k:Int)) (k:Int) 8 (hy:=by show I64 _;unfold I64;omega) (hby:=by omega)<|.g 2 (onesT_t he ⟨h3,h4⟩ (cS (tos p.edges task) k))<|.p i 1<|.n t2 (i+1) [])
        (fun h4=>.g 2 (cJ9 (task:=task) (t:=k) he (fun z=>h4 z.2) (cS (tos p.edges task) k))<|.p i 1<|.n t2 (i+1) []))
       (fun h3=>.g 2 (cJ9 (task:=task) (t:=k) he (fun z=>h3 z.1) (cS (tos p.edges task) k))<|.p i 1<|.n t2 (i+1) []))
      (fun h2=>.g 2 (byT_all (p:=p) (task:=task) (k:=k) hi h2)<|.p k 1<|.n t (k+1) []))
   (fun h=>.g 2 (show cS (tos p.edges task) k=nN (tos p.edges task) by rw[show k=p.tasks.toNat by omega];exact bH9 (cG0 hE task))<|.rt () ⟨trivial,trivial⟩)) aB
def aQ (ts:List Task) (s:Int):Int:=((ts.filter (fun t=>decide (t.state=s))).length:Int)
def kW (ts:List Task):List Int:=[aQ ts 0,aQ ts 1,aQ ts 2,aQ ts 3,aQ ts 4,aQ ts 5,aQ ts 6]
theorem eM (ts:List Task) (s:Int):0<=aQ ts s:=by unfold aQ;omega
theorem vS (ts:List Task) (s:Int):aQ ts s<=ts.length:=by
 unfold aQ;have:=length_filter_le (fun t:Task=>decide (t.state=s)) ts;omega
theorem bH1 {ts:List Task}{k:Nat}(hk:k<ts.length) (s:Int):aQ (ts.take (k+1)) s=aQ (ts.take k) s+(if ts[k].state=s then 1 else 0):=by
 unfold aQ;rw[take_succ_eq_append_getElem hk,filter_append];by_cases h:ts[k].state=s<;>simp[h]
theorem cnts_len (ts:List Task):(kW ts).length=7:=rfl
theorem cnts_nil:kW []=[0,0,0,0,0,0,0]:=rfl
theorem cnts_set {ts:List Task}{k:Nat}(hk:k<ts.length) (h:1<=ts[k].state/\ts[k].state<=6) (hl:ts[k].state.toNat<(kW (ts.take k)).length) :
  (kW (ts.take k)).set ts[k].state.toNat ((kW (ts.take k))[ts[k].state.toNat]'hl+1)=kW (ts.take (k+1)):=by
 have hc:ts[k].state=1∨ts[k].state=2∨ts[k].state=3∨ts[k].state=4∨ts[k].state=5∨ts[k].state=6:=by omega
 have e:kW (ts.take (k+1))=[aQ (ts.take k) 0+(if ts[k].state=0 then 1 else 0),aQ (ts.take k) 1+(if ts[k].state=1 then 1 else 0),aQ (ts.take k) 2+(if ts[k].state=2 then 1 else 0),aQ (ts.take k) 3+(if ts[k].state=3 then 1 else 0),aQ (ts.take k) 4+(if ts[k].state=4 then 1 else 0),aQ (ts.take k) 5+(if ts[k].state=5 then 1 else 0),aQ (ts.take k) 6+(if ts[k].state=6 then 1 else 0)]:=by
  unfold kW;simp only[bH1 hk]
 rw[e];generalize ts[k].state=s at hc hl ⊢;rcases hc with rfl | rfl | rfl | rfl | rfl | rfl<;>simp[kW]
theorem cnts_rng (ts:List Task) (i:Nat) (h:i<(kW ts).length):0<=(kW ts)[i]/\(kW ts)[i]<=ts.length:=by
 have hm:(kW ts)[i]∈kW ts:=getElem_mem h;generalize (kW ts)[i]=y at hm;simp only[kW,mem_cons,not_mem_nil,or_false]at hm;rcases hm with rfl | rfl | rfl | rfl | rfl | rfl | rfl<;>exact⟨eM _ _,vS _ _⟩
theorem bP3:∀{ts:List Task},(∀t∈ts,1<=t.state/\t.state<=6)->aQ ts 1+aQ ts 2+aQ ts 3+aQ ts 4+aQ ts 5+aQ ts 6=ts.length
 | [],_=>rfl
 | t::ts,h=>by
  have ih:=bP3 (ts:=ts) (fun x hx=>h x (by simp[hx]));have ht:=h t (by simp);have hs:∀s:Int,aQ (t::ts) s=aQ ts s+(if t.state=s then 1 else 0):=by
   intro s;unfold aQ;by_cases hh:t.state=s<;>simp[hh]
  simp only[hs,length_cons];have hc:t.state=1∨t.state=2∨t.state=3∨t.state=4∨t.state=5∨t.state=6:=by omega
  rcases hc with e | e | e | e | e | e<;>simp[e]<;>omega
theorem aI2 (ts:List Task) (s:Int):∀k,k<=ts.length->((eF ts s k).length:Int)=aQ (ts.take k) s
 | 0,_=>rfl
 | k+1,h=>by
  have ih:=aI2 ts s k aA;have hk:k<ts.length:=by omega
  rw[bH1 hk];by_cases hh:ts[k].state=s
  ·rw[uM hk hh,length_append,if_pos hh,length_singleton];omega
  rw[aC7 hk hh,if_neg hh];omega
theorem kN (ts:List Task) (s:Int):((aK ts s).length:Int)=aQ ts s:=by
 have:=aI2 ts s ts.length (Nat.le_refl _)
 rwa [take_length]at this
def bK (ts:List Task):Int:=
 if aQ ts 4=ts.length then 2 else if aQ ts 5=1/\aQ ts 1+aQ ts 2+aQ ts 3=0 then 3 else if aQ ts 5=0/\0<aQ ts 6/\aQ ts 1+aQ ts 2+aQ ts 3=0 then 4 else if aQ ts 5=0/\aQ ts 6=0 then 1 else 0
def gC (r:Run) (x:Int):Bool:=match r.tasks[x.toNat]? with | some t=>decide (t.state=4) | none=>false
def gN (r:Run) (l:List Int):Int:=((l.filter (fun b=> !gC r b)).length:Int)
noncomputable def dP (r:Run) (task:Int):Int:=gN r (aL r.plan task)
theorem aK1 {r:Run}{l:List Int}{k:Nat}(hk:k<l.length):gN r (l.take (k+1))=gN r (l.take k)+(if gC r l[k] then 0 else 1):=by
 unfold gN;rw[take_succ_eq_append_getElem hk,filter_append];cases h:gC r l[k]<;>simp[h]
theorem aT9 (r:Run) (l:List Int):0<=gN r l/\gN r l<=l.length:=by
 unfold gN;have:=length_filter_le (fun b=> !gC r b) l;omega
def fF (r:Run) (need:Int) (t:Task):Prop:=
 (1<=t.state/\t.state<=6)/\t.need=need/\(0<=t.try_/\t.try_<=r.plan.most)/\(t.state=3->1<=t.until_/\t.until_<=1000000000)/\(¬t.state=3->t.until_=0) /\
 (t.state=1->0<need)/\(t.state=2->need=0/\t.try_<r.plan.most)/\((t.state=3∨t.state=4∨t.state=5)->need=0/\1<=t.try_)
def sC (r:Run) (k:Nat):Prop:=∀h:k<r.tasks.length,fF r (dP r (k:Int)) r.tasks[k]
noncomputable def eZ (r:Run):Bool:=pB ((1<=r.id/\r.id<=9999)/\aC r.plan=0/\(r.tasks.length:Int)=r.plan.tasks/\(∀k,k<r.tasks.length->sC r k)/\r.state=bK r.tasks/\¬r.state=0)
theorem aE9 {r:Run}{x:Int}(h:x.toNat<r.tasks.length):gC r x=decide (r.tasks[x.toNat].state=4):=by
 unfold gC;rw[getElem?_eq_getElem h]
theorem inB_f' {n a b:Int}:inB n a b=false↔¬(a<=n/\n<=b):=by rw[<- inB_iff',Bool.not_eq_true]
theorem pB_b {p:Prop}{b:Bool}(h:p↔b=true):pB p=b:=by cases b<;>simp_all[pB]
theorem cI8 {r:Run}{b:Bool}(h1:(1<=r.id/\r.id<=9999)/\aC r.plan=0/\(r.tasks.length:Int)=r.plan.tasks) (h4:∀k,k<r.tasks.length->sC r k) (h:(r.state=bK r.tasks/\¬r.state=0)↔b=true):eZ r=b:=by
 unfold eZ;exact pB_b ⟨fun hz=>h.1 hz.2.2.2.2,fun hb=>⟨h1.1,h1.2.1,h1.2.2,h4,h.2 hb⟩⟩
theorem cV8 {p:Prop}(h:pB p=false):¬p:=fun hp=>by rw[tK hp]at h;cases h
theorem wL (ts:List Task):(aQ ts 4=ts.length->bK ts=2)/\(¬aQ ts 4=ts.length->(aQ ts 5=1/\aQ ts 1+aQ ts 2+aQ ts 3=0)->bK ts=3) /\
  (¬aQ ts 4=ts.length->¬(aQ ts 5=1/\aQ ts 1+aQ ts 2+aQ ts 3=0)->(aQ ts 5=0/\0<aQ ts 6/\aQ ts 1+aQ ts 2+aQ ts 3=0)->bK ts=4) /\
  (¬aQ ts 4=ts.length->¬(aQ ts 5=1/\aQ ts 1+aQ ts 2+aQ ts 3=0)->¬(aQ ts 5=0/\0<aQ ts 6/\aQ ts 1+aQ ts 2+aQ ts 3=0)->(aQ ts 5=0/\aQ ts 6=0)->bK ts=1) /\
  (¬aQ ts 4=ts.length->¬(aQ ts 5=1/\aQ ts 1+aQ ts 2+aQ ts 3=0)->¬(aQ ts 5=0/\0<aQ ts 6/\aQ ts 1+aQ ts 2+aQ ts 3=0)->¬(aQ ts 5=0/\aQ ts 6=0)->bK ts=0):=by
 unfold bK;refine⟨fun h=>by rw[if_pos h],fun h h2=>by rw[if_neg h,if_pos h2],fun h h2 h3=>by rw[if_neg h,if_neg h2,if_pos h3],fun h h2 h3 h4=>by rw[if_neg h,if_neg h2,if_neg h3,if_pos h4],fun h h2 h3 h4=>by rw[if_neg h,if_neg h2,if_neg h3,if_neg h4]⟩
theorem states_of {r:Run}(h:∀j,j<r.tasks.length->sC r j):∀t∈r.tasks,1<=t.state/\t.state<=6:=by
 intro t ht;obtain⟨k,hk,rfl⟩:=getElem_of_mem ht;exact(h k hk hk).1
def eS (t:Task):Task:=⟨6,t.need,t.try_,0⟩
def fZ (but:Int) (k:Nat) (t:Task):Task:=if (k:Int)=but∨t.state=4 then t else eS t
def kC (ts:List Task) (but:Int) (k:Nat):List Task:=ts.mapIdx (fun j t=>if j<k then fZ but j t else t)
def fB (ts:List Task) (but:Int):List Task:=ts.mapIdx (fun j t=>fZ but j t)
theorem leaveTo_zero (ts:List Task) (but:Int):kC ts but 0=ts:=by
 apply ext_getElem?;intro i;simp[kC,getElem?_mapIdx]
theorem xR (ts:List Task) (but:Int):(fB ts but).length=ts.length:=by simp[fB]
theorem leaveTo_at {ts:List Task}{but:Int}{k:Nat}{t:Task}(h:ts[k]? = some t):(kC ts but k)[k]? = some t:=by
 simp[kC,getElem?_mapIdx,h]
theorem leaveTo_set {ts:List Task}{but:Int}{k:Nat}{t y:Task}(h:ts[k]? = some t) (hy:fZ but k t=y):(kC ts but k).set k y=kC ts but (k+1):=by
 apply ext_getElem?;intro i;obtain⟨hl,rfl⟩:=gsi_.1 h;simp only[kC,getElem?_set,getElem?_mapIdx,length_mapIdx];by_cases e:k=i
 ·subst e;simp[hl,hy]
 rw[if_neg e];cases hi:ts[i]? with
 | none=>rfl
 | some u=>
  have:(i<k)↔(i<k+1):=by omega
  simp[this]
theorem leaveTo_all (ts:List Task) (but:Int):kC ts but ts.length=fB ts but:=by
 apply ext_getElem?;intro i;simp only[kC,fB,getElem?_mapIdx];cases hi:ts[i]? with
 | none=>rfl
 | some u=>have:=(gsi_.1 hi).1;simp[this]
theorem leaveIf_t {but:Int}{k:Nat}{t:Task}(h:¬(k:Int)=but) (h2:¬t.state=4):fZ but k t=eS t:=by unfold fZ;rw[if_neg (by simp[h,h2])]
theorem leaveIf_b {but:Int}{k:Nat}{t:Task}(h:(k:Int)=but):fZ but k t=t:=by unfold fZ;rw[if_pos (.inl h)]
theorem leaveIf_d {but:Int}{k:Nat}{t:Task}(h:t.state=4):fZ but k t=t:=by unfold fZ;rw[if_pos (.inr h)]
def leaveR (r:Run) (but:Int):Run:=⟨r.id,r.plan,r.state,fB r.tasks but⟩
def oY (r:Run) (i:Nat) (t:Task):Run:=
 if t.try_<r.plan.most then ⟨r.id,r.plan,r.state,r.tasks.set i ⟨2,t.need,t.try_,0⟩⟩
 else ⟨r.id,r.plan,3,fB (r.tasks.set i ⟨5,t.need,t.try_,0⟩) i⟩
def bP (r:Run) (i:Nat):Run:=match r.tasks[i]? with | some t=>oY r i t | none=>r
theorem rN {r:Run}{i:Nat}{t:Task}(h:r.tasks[i]? = some t):bP r i=oY r i t:=by unfold bP;rw[h]
end Go.Proofs.YtjihdmlkpkkpbaaGreat
