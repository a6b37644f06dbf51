/-
  Plans that are right or not, what waits for what, of both; told to the reader.
  markText.
  The laws' marks: what is written.
  Runs that are changed in place, of the program.
  A task that fails: what becomes of a right run. Theory alone.
  Runs that are right or not, of both; told to the reader.
  Yards that are right or not, of both; told to the reader.
  Disks: what is right, what is written, synced, cut, moved. Plain theory.
  A file looked for, of the program; told to the reader.
  Disks: right or not, copied, of both.
  Disks: written, synced, cut, of both.
  Plans, runs, yards copied, of both; told to the reader.
  DeedOk of the program, and what the reference looks at.
  DeedOk of the reference; SpanOk.
  What deeds are well made, of both; told to the reader.
  A number's text, the shelf of an id, of both; told to the reader.
  Frames of the log, of both; told to the reader.
  Notes as texts, and read out of texts; notes in a text of frames. Plain theory.
  A yard's numbers, as they are put one behind the other. Plain theory; older contracts told anew.
  A yard's text, of the program.
  A yard's text, of the reference.
  Frames of a text, and notes as texts, of both; told to the reader.
  Plans and runs read out of a text, of the reference.
-/
import Derived.Test.YtanpcpoogkdlaaaGreatQ01
import Derived.Test.YtanpcpoogkdlaaaGreatQ02
import Derived.Test.YtanpcpoogkdlaaaGreatQ03
import Derived.Test.YtanpcpoogkdlaaaGreatQ04
namespace Go.Proofs.YtanpcpoogkdlaaaGreat
set_option linter.unusedSimpArgs false
set_option linter.unusedVariables false
set_option maxRecDepth 100000
set_option maxHeartbeats 2000000
open Go.RowKit Go.Proofs.Tryz List
theorem vG {n a b:Int} (h:inB n a b=false):¬ (a≤n∧n≤b):=fun hh=>by rw[inB_t hh] at h;cases h
theorem pm1 {p:Plan} (h:inB p.tasks 1 12=false):bN p := .inl (vG h)
theorem pm2 {p:Plan} (h:(30:Int)<p.edges.length):bN p := .inr (.inl aB)
theorem pm3 {p:Plan} (h:inB p.prio 0 9=false):bN p := .inr (.inr (.inl (vG h)))
theorem pm4 {p:Plan} (h:inB p.most 1 5=false):bN p := .inr (.inr (.inr (.inl (vG h))))
theorem pm5 {p:Plan} (h:inB p.wait 1 20=false):bN p := .inr (.inr (.inr (.inr (vG h))))
theorem pm0 {p:Plan} (h1:inB p.tasks 1 12=true) (h2:¬ (30:Int)<p.edges.length) (h3:inB p.prio 0 9=true) (h4:inB p.most 1 5=true) (h5:inB p.wait 1 20=true):¬ bN p:=by
 rintro (h | h | h | h | h)
 ·exact h (inB_iff.1 h1)
 ·omega
 ·exact h (inB_iff.1 h3)
 ·exact h (inB_iff.1 h4)
 exact h (inB_iff.1 h5)
theorem aJ4 {p:Plan} (h:¬ bN p):(1≤p.tasks∧p.tasks≤12)∧p.edges.length≤30:=by
 unfold bN at h
 omega
theorem hk_shrI {P:Program} (a s:Int) (ha:0≤a) (hs:0≤s∧s<60):BOk P .shr (I a) (I s) (I (aH3 a s)):=fun hx hy k=>stp_shrI hx hy ha hs k
theorem hk_andI {P:Program} (a b:Int) (ha:0≤a∧a<4294967296) (hb:0≤b∧b<4294967296):BOk P .and (I a) (I b) (I (bQ7 a b)):=fun hx hy k=>stp_andI hx hy ha hb k
section
variable {α:Type} {xs:List α} {y e:α} {k:Nat}
theorem cn_no (h:xs[k]? = some e) (h0:y∉xs.take k) (hp:¬ y=e):y∉xs.take (k+1):=by
 obtain ⟨hk,rfl⟩:=gsi_.1 h
 rw[take_succ_eq_append_getElem hk,mem_append,mem_singleton];exact fun hh=>hh.elim h0 hp
theorem cL1 (h0:y∉xs.take k) (hn:¬ (k:Int)<xs.length):y∉xs:=by rwa [take_of_length_le aB] at h0
def CnF (y:α) (xs:List α):Option Nat→Prop
 | none=>y∉xs
 | some _=>y∈xs
theorem cn_f [DecidableEq α] (h:CnF y xs none):decide ((0:Int) ≤ -1)=decide (y∈xs):=(decide_eq_false (show ¬ y∈xs from h)).symm
theorem cn_t [DecidableEq α] (h:CnF y xs (some k)):decide ((0:Int)≤(k:Int))=decide (y∈xs):=by rw[decide_eq_true (show y∈xs from h)];exact decide_eq_true aB
end
theorem ContE_i (xs:List Edge) (y:Edge) (hl:xs.length≤1048576):Ct1 prog 377 [.L xs,.S y] [.B (decide (y∈xs))]:=
 .one (decide (y∈xs)) (rk:=fun b=>[.B b])<|vc func377 (fun hg => .in_ (R':=CnF y xs) func405
  (.la (Γ:=Nat) (fun k=>k≤xs.length∧y∉xs.take k) (fun k=>xs.length - k) (fun k=>[vI 8 k]) (fun _=>[]) 0 (h:=⟨Nat.zero_le _,by simp⟩) fun k hk t => .s ((k:Int)<xs.length)
   (fun h => .x xs k (h:=by omega) fun e he ge => .qe (bA4 y e) aD <| .sb (eqB y e)
    (fun h2 => .rt (some k) (by rw[eqB_iff] at h2;subst h2;exact mem_of_getElem? he))
    (fun h2 => .p k 1 (h:=by unfold I64;omega) <| .n t (k+1) [] (h1:=⟨by omega,cn_no he hk.2 (fun hh=>by rw[eqB_iff.2 hh] at h2;cases h2)⟩)))
   (fun h => .rt none (cL1 hk.2 h))) fun o=>match o with
  | none=>fun ho => .rt (decide ((0:Int) ≤ -1)) ⟨cn_f ho,trivial⟩
  | some k=>fun ho => .rt (decide ((0:Int)≤(k:Int))) ⟨cn_t ho,trivial⟩) aD
theorem cB5 (xs:List Int) (y:Int) (hl:xs.length≤1048576):Ct1 prog 230 [.L xs,.I y] [.B (decide (y∈xs))]:=
 .one (decide (y∈xs)) (rk:=fun b=>[.B b])<|vc func230 (fun hg => .in_ (R':=CnF y xs) func342
  (.la (Γ:=Nat) (fun k=>k≤xs.length∧y∉xs.take k) (fun k=>xs.length - k) (fun k=>[vI 8 k]) (fun _=>[]) 0 (h:=⟨Nat.zero_le _,by simp⟩) fun k hk t => .s ((k:Int)<xs.length)
   (fun h => .x xs k (h:=by omega) fun e he ge => .s (y=e)
    (fun h2 => .rt (some k) (by subst h2;exact mem_of_getElem? he))
    (fun h2 => .p k 1 (h:=by unfold I64;omega) <| .n t (k+1) [] (h1:=⟨by omega,cn_no he hk.2 h2⟩)))
   (fun h => .rt none (cL1 hk.2 h))) fun o=>match o with
  | none=>fun ho => .rt (decide ((0:Int) ≤ -1)) ⟨cn_f ho,trivial⟩
  | some k=>fun ho => .rt (decide ((0:Int)≤(k:Int))) ⟨cn_t ho,trivial⟩) aD
theorem own_sl {β:Type} [Shape β] {w w':World} {xs:List β} {e:Ending} (h:∃ (v:Value) (fp':List Nat),e = .returned v∧St w w' [Res.own v xs fp']):∃ (a:Unit) (vs:List Value) (rs:List Res),True∧e = .returned (wR vs)∧Rks vs [Rk.L xs] rs∧St w w' rs:=by
 obtain ⟨v,fp,he,st⟩:=h
 exact ⟨(),[v],_,trivial,he,⟨[Res.own v xs fp],[],⟨fp,rfl⟩,rfl,rfl⟩,st⟩
noncomputable def yH (p:Plan):List Int:=eM (dZ p.edges (List.replicate p.tasks.toNat 0) p.tasks.toNat)
theorem Waits_i (p:Plan) (hn:1≤p.tasks∧p.tasks≤12) (hl:p.edges.length≤30) (hi:EdgesIn p.tasks.toNat p.edges):Ct1 prog 378 [.S p] [.L (yH p)]:=⟨fun w us _ hp=>by
 match us,hp with
 | [_],⟨⟨cs0,fp0,rfl,hc0⟩,_⟩=>exact (WaitsI w hc0 hn hl hi).mono fun e w' h=>own_sl h⟩
theorem From_s (p:Plan) (t:Int) (hn:1≤p.tasks∧p.tasks≤12) (hl:p.edges.length≤30) (hi:EdgesIn p.tasks.toNat p.edges) (ht:0≤t∧t<p.tasks):Ct1 prog 385 [.S p,.I t] [.L (rF p.edges p.tasks.toNat t)]:=
 vc func385 (fun hg => .mk inferInstance false p.tasks.toNat p.tasks aB 1 aB aB trivial <| .lr (inferInstance:Dsh Int) gA 14 [t] (by simp) (all1 (by show I64 t;unfold I64;omega)) <|
  .l (Γ:=Nat×List Int×List Bool) (fun g=>BInv p.edges p.tasks.toNat t g.2.1 g.2.2 g.1 0∧g.1≤g.2.1.length) (fun g=>p.tasks.toNat+2 - g.1) [777777,14] [777777] [777777] (fun g=>[vI 7 g.1,vR 6 3]) (fun g=>[oO 2 g.2.2,oR 3 3 g.2.1]) (0,[t],List.replicate p.tasks.toNat false) (h:=⟨BInv.start,Nat.zero_le _⟩) fun g hJ tk=>
   let hq:=hJ.1.len_le
   .s ((g.1:Int)<g.2.1.length)
    (fun h => .l (Γ:=Nat×List Int×List Bool) (fun z=>BInv p.edges p.tasks.toNat t z.2.1 z.2.2 g.1 z.1∧g.1<z.2.1.length∧z.1≤p.edges.length) (fun z=>p.edges.length - z.1) [777777,16] [777777] [777777] (fun z=>[vI 8 z.1,vR 6 3]) (fun z=>[oO 2 z.2.2,oR 3 3 z.2.1]) (0,g.2.1,g.2.2) (h:=⟨hJ.1,by show g.1<g.2.1.length;omega,Nat.zero_le _⟩) fun z hz tz=>
     let hq2:=hz.1.len_le
     let ho2:=hz.1.len
     .s ((z.1:Int)<p.edges.length)
      (fun h2 => .x p.edges z.1 (h:=by omega) fun e he ge => .x z.2.1 g.1 (h:=hz.2.1) fun v hv gv=>
       let hea:=hi e (mem_of_getElem? he)
       let no:¬ (e.from_=v∧z.2.2.getD e.to_.toNat false=false)→D prog (fun _:Unit=>True∧rgd [Rk.L (rF p.edges p.tasks.toNat t)]):=fun hno => .p z.1 1 (h:=by unfold I64;omega) <| .n tz (z.1+1,z.2.1,z.2.2) [] (h1:=⟨hz.1.skip hi he hv hno,hz.2.1,by show z.1+1≤_;omega⟩) (h2:=by show p.edges.length - (z.1+1)<_;omega)
       .s (e.from_=v)
        (fun h3 => .ex (p:=fun b=>z.2.2[e.to_.toNat]? = some b) ⟨_,getElem?_eq_getElem (show e.to_.toNat<z.2.2.length by omega)⟩ fun b hb => .ye hb e.to_ (he:=by omega) fun _ => .v b
         (fun h4=>let ha:=hz.1.add hi he hv h3 (by rw[getD_eq_getElem?_getD,hb,h4];rfl)
          let hal:=ha.len_le
          .d 2 hb fun _ => .ie e.to_.toNat e.to_ (he:=by omega) <| .wt 52 <| .f 2 z.2.2 true (h:=trivial) <| .a z.2.1 e.to_ 8 (hy:=(show e.ok from ge).2) (h63:=by unfold maxLen;omega) (hby:=by omega) <| .p z.1 1 (h:=by unfold I64;omega) <|
          .n tz (z.1+1,z.2.1++[e.to_],z.2.2.set e.to_.toNat true) [] (h1:=⟨ha,by show g.1<(z.2.1++[e.to_]).length;rw[length_append];have:=hz.2.1;omega,by show z.1+1≤_;omega⟩) (h2:=by show p.edges.length - (z.1+1)<_;omega))
         (fun h4=>no (fun hc=>by have:=hc.2;rw[getD_eq_getElem?_getD,hb,h4] at this;cases this)))
        (fun h3=>no (fun hc=>h3 hc.1)))
      (fun h2 => .p g.1 1 (h:=by unfold I64;omega) <| .n tk (g.1+1,z.2.1,z.2.2) [] (h1:=⟨hz.1.next aB,hz.2.1⟩) (h2:=by show p.tasks.toNat+2 - (g.1+1)<_;omega)))
    (fun h => .g 2 (hJ.1.all aB) <| .rt () ⟨trivial,trivial⟩)) aD
theorem many_last {p:Plan} (h1:inB p.tasks 1 12=true) (h2:¬ (30:Int)<p.edges.length) (h3:inB p.prio 0 9=true) (h4:inB p.most 1 5=true):(!inB p.wait 1 20)=pB (bN p):=by
 cases h5:inB p.wait 1 20 with
 | true=>exact (nY (pm0 h1 h2 h3 h4 h5)).symm
 | false=>exact (yT (pm5 h5)).symm
theorem Many_s (p:Plan):Ct1 prog 384 [.S p] [.B (pB (bN p))]:=
 .one (pB (bN p)) (rk:=fun x=>[.B x])<|vc func384 (fun hg=>
  .c func138 (InV p.tasks 1 12) fun _ => .v (inB p.tasks 1 12) (fun h => .rt true ⟨(yT (pm1 h)).symm,trivial⟩) (fun h1 => .s ((30:Int)<p.edges.length) (fun h => .rt true ⟨(yT (pm2 h)).symm,trivial⟩) (fun h2=>
  .c func138 (InV p.prio 0 9) fun _ => .v (inB p.prio 0 9) (fun h => .rt true ⟨(yT (pm3 h)).symm,trivial⟩) (fun h3=>
  .c func138 (InV p.most 1 5) fun _ => .v (inB p.most 1 5) (fun h => .rt true ⟨(yT (pm4 h)).symm,trivial⟩) (fun h4=>
  .c func138 (InV p.wait 1 20) fun _ => .rt (!inB p.wait 1 20) ⟨many_last h1 h2 h3 h4,trivial⟩))))) aD
structure PeJ (p:Plan) (k:Nat):Prop where
 le:k≤p.edges.length
 inn:EdgesIn p.tasks.toNat (p.edges.take k)
theorem PeJ.start (p:Plan):PeJ p 0:=⟨Nat.zero_le _,EdgesIn.nil⟩
theorem PeJ.next {p:Plan} {k:Nat} {e:Edge} (h:PeJ p k) (he:p.edges[k]? = some e) (h1:inB e.from_ 0 (p.tasks - 1)=true) (h2:inB e.to_ 0 (p.tasks - 1)=true):PeJ p (k+1):=by
 obtain ⟨hk,rfl⟩:=gsi_.1 he
 have:=inB_iff.1 h1
 have:=inB_iff.1 h2
 exact ⟨hk,h.inn.step hk aB⟩
theorem bB3 {p:Plan} {k:Nat} {e:Edge} (hm:¬ bN p) (he:p.edges[k]? = some e) (h:inB e.from_ 0 (p.tasks - 1)=false∨inB e.to_ 0 (p.tasks - 1)=false):(2:Int)=aK p:=by
 obtain ⟨hk,rfl⟩:=gsi_.1 he
 refine (pf2 hm fun hE => ?_).symm
 have h1:=hE.at hk
 have h2:=aJ4 hm
 rcases h with h | h
 ·exact vG h aB
 exact vG h aB
theorem PeJ.all {p:Plan} {k:Nat} (h:PeJ p k) (hk:¬ (k:Int)<p.edges.length):EdgesIn p.tasks.toNat p.edges:=by
 have:=h.inn
 rwa [take_of_length_le aB] at this
structure PnJ (p:Plan) (k:Nat):Prop where
 le:k≤p.edges.length
 nd:(p.edges.take k).Nodup
theorem PnJ.start (p:Plan):PnJ p 0:=⟨Nat.zero_le _,nodup_nil⟩
theorem PnJ.next {p:Plan} {k:Nat} {e:Edge} (h:PnJ p k) (he:p.edges[k]? = some e) (h1:e∉p.edges.take k):PnJ p (k+1):=by
 obtain ⟨hk,rfl⟩:=gsi_.1 he
 exact ⟨hk,nodup_step h.nd hk h1⟩
theorem cG4 {p:Plan} {k:Nat} {e:Edge} (hm:¬ bN p) (hE:EdgesIn p.tasks.toNat p.edges) (he:p.edges[k]? = some e) (h1:e∈p.edges.take k):(3:Int)=aK p:=by
 obtain ⟨hk,rfl⟩:=gsi_.1 he
 exact (pf3 hm hE (not_nodup_at hk h1)).symm
theorem PnJ.all {p:Plan} {k:Nat} (h:PnJ p k) (hk:¬ (k:Int)<p.edges.length):p.edges.Nodup:=by
 have:=h.nd
 rwa [take_of_length_le aB] at this
structure PcJ (p:Plan) (k:Nat):Prop where
 le:k≤p.tasks.toNat
 no:∀ t:Nat,t<k→¬ Rch p.edges (t:Int) (t:Int)
theorem PcJ.start (p:Plan):PcJ p 0:=⟨Nat.zero_le _,fun t h=>by omega⟩
theorem PcJ.next {p:Plan} {k:Nat} (h:PcJ p k) (hk:k<p.tasks.toNat) (h1:¬ Rch p.edges (k:Int) (k:Int)):PcJ p (k+1):=⟨hk,fun t ht=>by
 rcases Nat.lt_succ_iff_lt_or_eq.1 ht with h2 | rfl
 ·exact h.no t h2
 ·exact h1⟩
theorem PcJ.all {p:Plan} {k:Nat} (h:PcJ p k) (hk:¬ k<p.tasks.toNat) (hm:¬ bN p) (hE:EdgesIn p.tasks.toNat p.edges) (hN:p.edges.Nodup):(0:Int)=aK p:=
 (pf0 hm hE hN fun ⟨t,ht,hr⟩=>h.no t (by have:=h.le;omega) hr).symm
theorem aF7 (p:Plan):(yH p).length=p.tasks.toNat:=by unfold yH;rw[aX6,lP,length_replicate]
theorem waitsL_at {p:Plan} {k:Nat} {m:Int} (hm:¬ bN p) (hE:EdgesIn p.tasks.toNat p.edges) (h:(yH p)[k]? = some m):(0≤m∧m<4294967296)∧(bQ7 (aH3 m k) 1=1↔Rch p.edges (k:Int) (k:Int)):=by
 obtain ⟨hk,rfl⟩:=gsi_.1 h
 have h1:=aJ4 hm
 have hk2:k<p.tasks.toNat:=by rwa [aF7] at hk
 refine ⟨?_,waits_bit hE hk2 hk⟩
 exact nP (aT4 aB hE _) k hk
theorem kK (p:Plan):Ct1 prog 302 [.S p] [.I (aK p)]:=
 .one (aK p) (rk:=fun x=>[.I x])<|vc func302 (fun (hg:gin [Par.S p])=>let gp:=hg.1.1
  .c func92 (bZ p.tasks 1 12) fun _ => .v (inB p.tasks 1 12) (fun h => .rt 1 ⟨(pf1 (pm1 h)).symm,trivial⟩) (fun h1 => .s ((30:Int)<p.edges.length) (fun h => .rt 1 ⟨(pf1 (pm2 h)).symm,trivial⟩) (fun h2=>
  .c func92 (bZ p.prio 0 9) fun _ => .v (inB p.prio 0 9) (fun h => .rt 1 ⟨(pf1 (pm3 h)).symm,trivial⟩) (fun h3=>
  .c func92 (bZ p.most 1 5) fun _ => .v (inB p.most 1 5) (fun h => .rt 1 ⟨(pf1 (pm4 h)).symm,trivial⟩) (fun h4=>
  .c func92 (bZ p.wait 1 20) fun _ => .v (inB p.wait 1 20) (fun h => .rt 1 ⟨(pf1 (pm5 h)).symm,trivial⟩) (fun h5=>let hm:=pm0 h1 h2 h3 h4 h5
   let hr:=aJ4 hm
   .l (Γ:=Nat) (fun k=>PeJ p k) (fun k=>p.edges.length - k) [1,38,39] [1] [0] (fun k=>[vI 40 k]) (fun _=>[]) 0 (h:=PeJ.start p) fun k hJ t=>let hk0:=hJ.le
    .s ((k:Int)<p.edges.length)
     (fun h => .x p.edges k (h:=by omega) fun e he ge => .m p.tasks 1 (h:=by unfold I64;omega) <| .c func92 (bZ e.from_ 0 (p.tasks - 1)) fun _ => .v (inB e.from_ 0 (p.tasks - 1))
      (fun h6 => .rt 2 ⟨bB3 hm he (.inl h6),trivial⟩)
      (fun h6 => .m p.tasks 1 (h:=by unfold I64;omega) <| .c func92 (bZ e.to_ 0 (p.tasks - 1)) fun _ => .v (inB e.to_ 0 (p.tasks - 1))
       (fun h7 => .rt 2 ⟨bB3 hm he (.inr h7),trivial⟩)
       (fun h7 => .p k 1 (h:=by unfold I64;omega) <| .n t (k+1) [] (hJ.next he h6 h7) aB)))
     (fun h=>let hE:=hJ.all h
      .l (Γ:=Nat) (fun k=>PnJ p k) (fun k=>p.edges.length - k) [1,62,63] [1] [0] (fun k=>[vI 64 k]) (fun _=>[]) 0 (h:=PnJ.start p) fun k hJ t=>let hk0:=hJ.le
      .s ((k:Int)<p.edges.length)
       (fun h => .x p.edges k (h:=by omega) fun e he ge => .tk inferInstance p.edges k aB (k:Int) rfl <| .c func377 (ContE_i (p.edges.take k) e (by rw[length_take];omega)) fun _ => .s (e∈p.edges.take k)
        (fun h6 => .rt 3 ⟨cG4 hm hE he h6,trivial⟩)
        (fun h6 => .p k 1 (h:=by unfold I64;omega) <| .n t (k+1) [] (hJ.next he h6) aB))
       (fun h=>let hN:=hJ.all h
        .c func378 (Waits_i p hr.1 hr.2 hE) (hg:=⟨gp,trivial⟩) fun _=>let hwl:=aF7 p
        .l (Γ:=Nat) (fun k=>PcJ p k) (fun k=>p.tasks.toNat - k) [1,77,78] [1,2] [0] (fun k=>[vI 79 k]) (fun _=>[]) 0 (h:=PcJ.start p) fun k hJ t=>let hk0:=hJ.le
        .s ((k:Int)<(yH p).length)
         (fun h => .x (yH p) k (h:=by omega) fun m hm2 gm=>let ha:=waitsL_at hm hE hm2
          .pb .shr (hk_shrI m k ha.1.1 aB) <| .pb .and (hk_andI (aH3 m k) 1 (shrI_rng ha.1) aB) <| .s (bQ7 (aH3 m k) 1=1)
          (fun h6 => .rt 4 ⟨(pf4 hm hE hN ⟨k,by omega,ha.2.1 h6⟩).symm,trivial⟩)
          (fun h6 => .p k 1 (h:=by unfold I64;omega) <| .n t (k+1) [] (hJ.next aB (fun z=>h6 (ha.2.2 z))) aB))
         (fun h => .rt 0 ⟨hJ.all aB hm hE hN,trivial⟩))))))))) aD
theorem frmOf_len (es:List Edge) (n:Nat) (t:Int):(rF es n t).length=n:=by unfold rF;simp
theorem bK9 {es:List Edge} {n k:Nat} {t:Int} {b:Bool} (h:(rF es n t)[k]? = some b):b=pB (Rch es t (k:Int)):=by
 unfold rF at h
 rw[getElem?_map] at h
 cases hr:(List.range n)[k]? with
 | none=>rw[hr] at h;cases h
 | some x=>
  rw[hr] at h
  obtain ⟨hk,rfl⟩:=gsi_.1 hr
  simp at h
  exact h.symm
structure PtJ (p:Plan) (k j:Nat) (e:Edge):Prop where
 le:j≤k
 no:e∉p.edges.take j
theorem PtJ.start (p:Plan) (k:Nat) (e:Edge):PtJ p k 0 e:=⟨Nat.zero_le _,by simp⟩
theorem PtJ.next {p:Plan} {k j:Nat} {e f:Edge} (h:PtJ p k j e) (hj:j<k) (hf:p.edges[j]? = some f) (hn:eqB e f=false):PtJ p k (j+1) e:=by
 obtain ⟨hk,rfl⟩:=gsi_.1 hf
 exact ⟨hj,not_mem_take_step hk h.no (by unfold eqB at hn;simpa using hn)⟩
theorem pt_hit {p:Plan} {k j:Nat} {e f:Edge} (hj:j<k) (hf:p.edges[j]? = some f) (hn:eqB e f=true):e∈p.edges.take k:=by
 obtain ⟨hk,rfl⟩:=gsi_.1 hf
 have:e=p.edges[j]:=by unfold eqB at hn;simpa using hn
 rw[this];exact aB2 hk hj
theorem pJ (p:Plan):Ct1 prog 325 [.S p] [.I (aK p)]:=
 .one (aK p) (rk:=fun x=>[.I x])<|vc func325 (fun (hg:gin [Par.S p])=>let gp:=hg.1.1
  .c func384 (Many_s p) (hg:=⟨gp,trivial⟩) fun _ => .sb (pB (bN p)) (fun h => .rt 1 ⟨(pf1 (pB_iff.1 h)).symm,trivial⟩) (fun h0=>let hm:¬ bN p:=fun z=>by rw[yT z] at h0;cases h0
   let hr:=aJ4 hm
   .l (Γ:=Nat) (fun k=>PeJ p k) (fun k=>p.edges.length - k) [1] [1] [0] (fun k=>[vI 3 k]) (fun _=>[]) 0 (h:=PeJ.start p) fun k hJ t=>let hk0:=hJ.le
    .s ((k:Int)<p.edges.length)
     (fun h => .x p.edges k (h:=by omega) fun e he ge => .m p.tasks 1 (h:=by unfold I64;omega) <| .c func138 (InV e.from_ 0 (p.tasks - 1)) fun _ => .v (inB e.from_ 0 (p.tasks - 1))
      (fun h6 => .rt 2 ⟨bB3 hm he (.inl h6),trivial⟩)
      (fun h6 => .y he fun _ => .m p.tasks 1 (h:=by unfold I64;omega) <| .c func138 (InV e.to_ 0 (p.tasks - 1)) fun _ => .v (inB e.to_ 0 (p.tasks - 1))
       (fun h7 => .rt 2 ⟨bB3 hm he (.inr h7),trivial⟩)
       (fun h7 => .p k 1 (h:=by unfold I64;omega) <| .n t (k+1) [] (hJ.next he h6 h7) aB)))
     (fun h=>let hE:=hJ.all h
      .l (Γ:=Nat) (fun k=>PnJ p k) (fun k=>p.edges.length - k) [1] [1] [0] (fun k=>[vI 4 k]) (fun _=>[]) 0 (h:=PnJ.start p) fun k hJ t=>let hk0:=hJ.le
      .s ((k:Int)<p.edges.length)
       (fun h => .ex (p:=fun e=>p.edges[k]? = some e) ⟨_,getElem?_eq_getElem (show k<p.edges.length by omega)⟩ fun e he=>
        .l (Γ:=Nat) (fun j=>PtJ p k j e) (fun j=>k - j) [1,4] [1] [0] (fun j=>[vI 5 j]) (fun _=>[]) 0 (h:=PtJ.start p k e) fun j hq t2=>let hj0:=hq.le
         .s ((j:Int)<(k:Int))
          (fun h5 => .y he fun _ => .x p.edges j (h:=by omega) fun f hf gf => .qe (bA4 e f) aD <| .sb (eqB e f)
           (fun h6 => .rt 3 ⟨cG4 hm hE he (pt_hit aB hf h6),trivial⟩)
           (fun h6 => .p j 1 (h:=by unfold I64;omega) <| .n t2 (j+1) [] (hq.next aB hf h6) aB))
          (fun h5 => .p k 1 (h:=by unfold I64;omega) <| .n t (k+1) [] (hJ.next he (by have:=hq.no;rwa [show j=k by omega] at this)) aB))
       (fun h=>let hN:=hJ.all h
        .l (Γ:=Nat) (fun k=>PcJ p k) (fun k=>p.tasks.toNat - k) [1] [1] [0] (fun k=>[vI 6 k]) (fun _=>[]) 0 (h:=PcJ.start p) fun k hJ t=>let hk0:=hJ.le
        .s ((k:Int)<p.tasks)
         (fun h => .c func385 (From_s p k hr.1 hr.2 hE aB) (hg:=⟨gp,trivial⟩) fun _ => .x (rF p.edges p.tasks.toNat (k:Int)) k (h:=by rw[frmOf_len];omega) fun b hb gb => .sb b
          (fun h6 => .rt 4 ⟨(pf4 hm hE hN ⟨k,by omega,pB_iff.1 ((bK9 hb).symm.trans h6)⟩).symm,trivial⟩)
          (fun h6 => .p k 1 (h:=by unfold I64;omega) <| .n t (k+1) [] (hJ.next aB (fun z=>by have:=bK9 hb;rw[yT z] at this;rw[this] at h6;cases h6)) aB))
         (fun h => .rt 0 ⟨hJ.all aB hm hE hN,trivial⟩))))) aD
theorem onesF_t {es:List Edge} {task:Int} {k t:Nat} {e:Edge} (he:es[k]? = some e) (h:e.from_=(t:Int)∧e.to_=task) (l:List Int):l++kT (es.take k) task (t:Int)++[(t:Int)]=l++kT (es.take (k+1)) task (t:Int):=by
 obtain ⟨hk,rfl⟩:=gsi_.1 he
 rw[onesF_step_t hk h,append_assoc]
theorem bV6 {es:List Edge} {task:Int} {k t:Nat} {e:Edge} (he:es[k]? = some e) (h:¬ (e.from_=(t:Int)∧e.to_=task)) (l:List Int):l++kT (es.take k) task (t:Int)=l++kT (es.take (k+1)) task (t:Int):=by
 obtain ⟨hk,rfl⟩:=gsi_.1 he
 rw[onesF_step_f hk h]
theorem onesT_t {es:List Edge} {task:Int} {k t:Nat} {e:Edge} (he:es[k]? = some e) (h:e.from_=task∧e.to_=(t:Int)) (l:List Int):l++kS (es.take k) task (t:Int)++[(t:Int)]=l++kS (es.take (k+1)) task (t:Int):=by
 obtain ⟨hk,rfl⟩:=gsi_.1 he
 rw[onesT_step_t hk h,append_assoc]
theorem bV5 {es:List Edge} {task:Int} {k t:Nat} {e:Edge} (he:es[k]? = some e) (h:¬ (e.from_=task∧e.to_=(t:Int))) (l:List Int):l++kS (es.take k) task (t:Int)=l++kS (es.take (k+1)) task (t:Int):=by
 obtain ⟨hk,rfl⟩:=gsi_.1 he
 rw[onesT_step_f hk h]
theorem byF_all {p:Plan} {task:Int} {k i:Nat} (hi:i≤p.edges.length) (h:¬ (i:Int)<p.edges.length):cO (dK p.edges task) k++kT (p.edges.take i) task (k:Int)=cO (dK p.edges task) (k+1):=by
 rw[take_of_length_le aB,pH];rfl
theorem byT_all {p:Plan} {task:Int} {k i:Nat} (hi:i≤p.edges.length) (h:¬ (i:Int)<p.edges.length):cO (tos p.edges task) k++kS (p.edges.take i) task (k:Int)=cO (tos p.edges task) (k+1):=by
 rw[take_of_length_le aB,pH];rfl
theorem Before_s (p:Plan) (task:Int) (hn:1≤p.tasks∧p.tasks≤12) (hl:p.edges.length≤30) (hE:EdgesIn p.tasks.toNat p.edges):Ct1 prog 386 [.S p,.I task] [.L (mV (dK p.edges task))]:=
 vc func386 (fun hg => .e Int <| .l (Γ:=Nat) (fun k=>k≤p.tasks.toNat) (fun k=>p.tasks.toNat - k) [1,2] [1] [0] (fun k=>[vR 5 2,vI 6 k]) (fun k=>[oR 2 3 (cO (dK p.edges task) k)]) 0 fun k hk t=>
  .s ((k:Int)<p.tasks)
   (fun h => .g 2 (show cO (dK p.edges task) k=cO (dK p.edges task) k++kT (p.edges.take 0) task (k:Int) from (append_nil _).symm) <|
    .l (Γ:=Nat) (fun i=>i≤p.edges.length) (fun i=>p.edges.length - i) [1,2,6] [1] [0] (fun i=>[vR 5 2,vI 7 i]) (fun i=>[oR 2 3 (cO (dK p.edges task) k++kT (p.edges.take i) task (k:Int))]) 0 fun i hi t2=>let hln:=onesF_len p.edges task (k:Int) i k
     .s ((i:Int)<p.edges.length)
      (fun h2 => .x p.edges i (h:=by omega) fun e he ge => .s (e.from_=(k:Int))
       (fun h3 => .y he fun _ => .s (e.to_=task)
        (fun h4 => .a (cO (dK p.edges task) k++kT (p.edges.take i) task (k:Int)) (k:Int) 8 (hy:=by show I64 _;unfold I64;omega) (h63:=by unfold maxLen;omega) (hby:=by omega) <| .g 2 (onesF_t he ⟨h3,h4⟩ (cO (dK p.edges task) k)) <| .p i 1 (h:=by unfold I64;omega) <| .n t2 (i+1) [])
        (fun h4 => .g 2 (bV6 (task:=task) (t:=k) he (fun z=>h4 z.2) (cO (dK p.edges task) k)) <| .p i 1 (h:=by unfold I64;omega) <| .n t2 (i+1) []))
       (fun h3 => .g 2 (bV6 (task:=task) (t:=k) he (fun z=>h3 z.1) (cO (dK p.edges task) k)) <| .p i 1 (h:=by unfold I64;omega) <| .n t2 (i+1) []))
      (fun h2 => .g 2 (byF_all (p:=p) (task:=task) (k:=k) hi h2) <| .p k 1 (h:=by unfold I64;omega) <| .n t (k+1) []))
   (fun h => .g 2 (show cO (dK p.edges task) k=mV (dK p.edges task) by rw[show k=p.tasks.toNat by omega];exact aX8 (aV7 hE task)) <| .rt () ⟨trivial,trivial⟩)) aD
theorem Behind_s (p:Plan) (task:Int) (hn:1≤p.tasks∧p.tasks≤12) (hl:p.edges.length≤30) (hE:EdgesIn p.tasks.toNat p.edges):Ct1 prog 391 [.S p,.I task] [.L (mV (tos p.edges task))]:=
 vc func391 (fun hg => .e Int <| .l (Γ:=Nat) (fun k=>k≤p.tasks.toNat) (fun k=>p.tasks.toNat - k) [1,2] [1] [0] (fun k=>[vR 5 2,vI 6 k]) (fun k=>[oR 2 3 (cO (tos p.edges task) k)]) 0 fun k hk t=>
  .s ((k:Int)<p.tasks)
   (fun h => .g 2 (show cO (tos p.edges task) k=cO (tos p.edges task) k++kS (p.edges.take 0) task (k:Int) from (append_nil _).symm) <|
    .l (Γ:=Nat) (fun i=>i≤p.edges.length) (fun i=>p.edges.length - i) [1,2,6] [1] [0] (fun i=>[vR 5 2,vI 7 i]) (fun i=>[oR 2 3 (cO (tos p.edges task) k++kS (p.edges.take i) task (k:Int))]) 0 fun i hi t2=>let hln:=onesT_len p.edges task (k:Int) i k
     .s ((i:Int)<p.edges.length)
      (fun h2 => .x p.edges i (h:=by omega) fun e he ge => .s (e.from_=task)
       (fun h3 => .y he fun _ => .s (e.to_=(k:Int))
        (fun h4 => .a (cO (tos p.edges task) k++kS (p.edges.take i) task (k:Int)) (k:Int) 8 (hy:=by show I64 _;unfold I64;omega) (h63:=by unfold maxLen;omega) (hby:=by omega) <| .g 2 (onesT_t he ⟨h3,h4⟩ (cO (tos p.edges task) k)) <| .p i 1 (h:=by unfold I64;omega) <| .n t2 (i+1) [])
        (fun h4 => .g 2 (bV5 (task:=task) (t:=k) he (fun z=>h4 z.2) (cO (tos p.edges task) k)) <| .p i 1 (h:=by unfold I64;omega) <| .n t2 (i+1) []))
       (fun h3 => .g 2 (bV5 (task:=task) (t:=k) he (fun z=>h3 z.1) (cO (tos p.edges task) k)) <| .p i 1 (h:=by unfold I64;omega) <| .n t2 (i+1) []))
      (fun h2 => .g 2 (byT_all (p:=p) (task:=task) (k:=k) hi h2) <| .p k 1 (h:=by unfold I64;omega) <| .n t (k+1) []))
   (fun h => .g 2 (show cO (tos p.edges task) k=mV (tos p.edges task) by rw[show k=p.tasks.toNat by omega];exact aX8 (bS1 hE task)) <| .rt () ⟨trivial,trivial⟩)) aD
def dch (k:Nat):ByteArray:=⟨#[UInt8.ofNat (48+k % 10)]⟩
def aQ8 (k:Nat) (out:ByteArray):ByteArray:=if h:k=0 then out else aQ8 (k / 10) (dch k++out)
termination_by k
decreasing_by omega
theorem cJ6 (out:ByteArray):aQ8 0 out=out:=by rw[aQ8];simp
theorem cJ5 {k:Nat} (h:0<k) (out:ByteArray):aQ8 k out=aQ8 (k / 10) (dch k++out):=by
 conv=>lhs;rw[aQ8]
 rw[dif_neg aB]
theorem figs_size:∀ (k:Nat) (out:ByteArray),(aQ8 k out).size≤k+out.size:=by
 intro k
 induction k using Nat.strongRecOn with
 | _ k ih=>
  intro out
  by_cases h:k=0
  ·subst h;rw[cJ6];omega
  rw[cJ5 aB]
  have:=ih (k / 10) aB (dch k++out)
  rw[ByteArray.size_append] at this
  have e:(dch k).size=1:=rfl
  omega
def bM:ByteArray:=⟨#[109]⟩
def bM0:ByteArray:=⟨#[109,48]⟩
def jM (k:Int):ByteArray:=if k≤0 then bM0 else bM++aQ8 k.toNat ⟨#[]⟩

theorem dch_eq (K:Nat):(⟨#[UInt8.ofNat (48+(K:Int) % 10).toNat]⟩:ByteArray)=dch K:=by
 have:(48+(K:Int) % 10).toNat=48+K % 10:=by omega
 rw[this];rfl
theorem aK6 {k:Int} (h:k≤4611686018427387904):(jM k).size≤maxLen:=by
 unfold jM maxLen
 split
 ·show 2≤_;omega
 rw[ByteArray.size_append]
 have:=figs_size k.toNat ⟨#[]⟩
 have e1:bM.size=1:=rfl
 have e2:(⟨#[]⟩:ByteArray).size=0:=rfl
 omega
theorem size_app (a b:ByteArray):(a++b).size=a.size+b.size:=ByteArray.size_append

theorem rA (w:World) (k:Int) (hk:k≤4611686018427387904) :
  Calls prog 247 #[I k] w fun e w'=>e = .returned (.string (jM k))∧St w w' []:=by
 refine bP9 func247 rfl ntmps247 cB (wp_seq (aA (sg (aG (v := .string (⟨#[]⟩:ByteArray)) rfl (aC (wp_seq (wp_seq (aA (sg (aE (v:=I k) rfl (sg (bT9 rfl rfl (aC (cE rfl (fun h5p => ?_) (fun h5p => ?_)))))))))))))))
 ·refine wp_seq (aA (sg (aG (v := .string (⟨#[109,48]⟩:ByteArray)) rfl (aC (wr (jH results247 rfl ?_))))))
  exact ⟨congrArg (fun z=>Ending.returned (.string z)) (by unfold jM;rw[if_pos aB];rfl),(St.start w).bare⟩
 refine wp_skip (wp_seq (aA (sg (aG (v := .string (⟨#[]⟩:ByteArray)) rfl (aC (wp_seq (wp_block (dJ (fun (m:Nat) (f:Nat→Value) (W:World)=>∃ (K:Nat) (out:ByteArray),aQ8 K out=aQ8 k.toNat ⟨#[]⟩∧out.size+K≤k.toNat∧m=2*K∧Ag [(0,I (K:Int)),(3,.string out)] f∧St w W ([])) (2*k.toNat) ?_ ?_))))))))
 ·exact ⟨k.toNat,⟨#[]⟩,rfl,(by show 0+_≤_;omega),rfl,(Ag.cons (Eq.trans (show _=I k from rfl) (show I k=I ((k.toNat:Nat):Int) from congrArg I aB)) (Ag.cons rfl Ag.nil)),(St.start w)⟩
 intro m10 f11 W12 hJ13
 obtain ⟨K,out,hfig,hsz,rfl,hA15,st14⟩:=hJ13
 refine wp_seq (wp_seq (aA (sg (aE (hA15.at 0) (sg (bA0 rfl rfl (aC (cE rfl (fun h18p => ?_) (fun h18p => ?_)))))))))
 ·refine wp_skip (wp_block (wp_seq (aA (rn st14 3 hA15.put.put [] [(10,I (48+((K:Int) % 10)))] [qq (K:Int) 10,.ad 48 ((K:Int) % 10) (by (simp only[I64];omega))] aD fun f20 h20_=>(sg (stp_byte aD underlying5 (h20_.at 10) aB (sg (cF (cs:=[.int .u8 (48+((K:Int) % 10))]) (e:=5) (aJ7 (v := .int .u8 (48+((K:Int) % 10))) rfl aJ3) (jU ap_uint8S _ _ rfl rfl cB) st14 ?_))))))));intro b21 W22 hb23 st24
  refine sg (stp_str1 underlying22 underlying5 underlying9 rfl (st24.get 0 rfl) aB (sg (aE (h20_.at 3) (sg (aH0 rfl rfl (by show 1+out.size≤_;omega) (sg (aG (v := .string ((⟨#[UInt8.ofNat (48+((K:Int) % 10)).toNat]⟩:ByteArray)++out)) rfl (aC (aA (rn st24 3 h20_.put.put.put.put.put.put [0] [(0,I ((K:Int) / 10))] [qq (K:Int) 10] aD fun f31 h31_=>(aC ?_)))))))))))
  exact ⟨_,2*(K / 10),aB,rfl,K / 10,(dch K++out),(by rw[← cJ5 aB];exact hfig),(by rw[size_app];show 1+_+_≤_;omega),rfl,(Ag.cons (Eq.trans (show _=I ((K:Int) / 10) from (h31_.at 0)) (show _=I ((K / 10:Nat):Int) from congrArg I aB)) (Ag.cons (Eq.trans (show _=(.string ((⟨#[UInt8.ofNat (48+((K:Int) % 10)).toNat]⟩:ByteArray)++out):Value) from (h31_.at 3)) (show _=Value.string (dch K++out) from by rw[dch_eq])) Ag.nil)),st24.d0⟩
 refine wp_exit (wp_seq (aA (sg (aE (hA15.at 3) (sg (aH0 rfl rfl (by show 1+out.size≤_;omega) (sg (aG (v := .string ((⟨#[109]⟩:ByteArray)++out)) rfl (aC (wr (jH results247 rfl ?_)))))))))))
 obtain rfl:K=0:=by omega
 rw[cJ6] at hfig
 exact ⟨congrArg (fun z=>Ending.returned (.string z)) (by unfold jM;rw[if_neg aB,← hfig];rfl),st14.bare⟩
def mkL {α:Type} (f:α→Int→α) (n:α→Nat):List α→Int→List α
 | [],_=>[]
 | x::xs,k=>f x k::mkL f n xs (k+(n x:Nat))
def cL {α:Type} (n:α→Nat) (xs:List α):Nat:=(xs.map n).sum
section
variable {α:Type} {f:α→Int→α} {n:α→Nat}
theorem dG:∀ (xs:List α) (k:Int),(mkL f n xs k).length=xs.length
 | [],_=>rfl
 | x::xs,k=>by simp[mkL,dG xs]
theorem cL_take (n:α→Nat) (xs:List α) (i:Nat) (h:i<xs.length):cL n (xs.take (i+1))=cL n (xs.take i)+n xs[i]:=wE n xs i h
theorem eC (n:α→Nat) (xs:List α) (i:Nat):cL n (xs.take i)≤cL n xs:=kF n xs i
theorem lD (n:α→Nat) (xs:List α) (i:Nat) (h:i=xs.length):cL n (xs.take i)=cL n xs:=by subst h;rw[take_length]
theorem vE:∀ (xs ys:List α) (k:Int),mkL f n (xs++ys) k=mkL f n xs k++mkL f n ys (k+(cL n xs:Nat))
 | [],ys,k=>by simp[mkL,cL]
 | x::xs,ys,k=>by
  simp only[cons_append,mkL,vE xs ys,cL,map_cons,sum_cons]
  congr 3
  push_cast;omega
theorem mk_get? {xs:List α} {k:Int} {i:Nat} (h:i<xs.length):(mkL f n (xs.take i) k++xs.drop i)[i]? = some xs[i]:=by
 have hl:(mkL f n (xs.take i) k).length=i:=by rw[dG,length_take];omega
 rw[getElem?_append_right aB,hl,Nat.sub_self,getElem?_drop,Nat.add_zero,getElem?_eq_getElem h]
theorem mk_step {xs:List α} {k K:Int} {i:Nat} (h:i<xs.length) (hK:K=k+(cL n (xs.take i):Nat)):(mkL f n (xs.take i) k++xs.drop i).set i (f xs[i] K)=mkL f n (xs.take (i+1)) k++xs.drop (i+1):=by
 have hl:(mkL f n (xs.take i) k).length=i:=by rw[dG,length_take];omega
 rw[set_append_right _ _ aB,hl,Nat.sub_self,drop_eq_getElem_cons h,set_cons_zero,take_succ_eq_append_getElem h,vE,append_assoc]
 subst hK
 rfl
theorem vD {xs:List α} {k:Int} {i:Nat} (h:i=xs.length):mkL f n (xs.take i) k++xs.drop i=mkL f n xs k:=by subst h;simp
theorem mk_get {xs:List α} {k:Int} {i:Nat} (h:i<xs.length):(mkL f n xs k)[i]? = some (f xs[i] (k+(cL n (xs.take i):Nat))):=by
 have e:xs=xs.take i++xs.drop i:=by simp
 have hl:(mkL f n (xs.take i) k).length=i:=by rw[dG,length_take];omega
 conv=>lhs;rw[e,vE]
 rw[getElem?_append_right aB,hl,Nat.sub_self,drop_eq_getElem_cons h]
 rfl
theorem idxm [Shape α] {w:World} {v:Value} {xs:List α} {fp:List Nat} {k K:Int} (hs:Sl w v (mkL f n xs k) fp) {i:Nat} (hi:i<xs.length) (hK:K=k+(cL n (xs.take i):Nat)):∃ b o cs f1,PA v (Shape.size α) i b o∧w.rangeAt b o cs∧Shape.C w cs (f xs[i] K) f1∧∀ c∈b::f1,c∈fp:=by
 obtain ⟨b,o,cs,f1,h1,h2,h3,h4⟩:=idx hs (i:=i) (by rw[dG];exact hi)
 refine ⟨b,o,cs,f1,h1,h2,?_,h4⟩
 have:=mk_get (f:=f) (n:=n) (xs:=xs) (k:=k) hi
 obtain ⟨hl,he⟩:=gsi_.1 this
 rw[he,← hK] at h3
 exact h3
end
section
variable {α:Type} {f:α→Int→α} {n:α→Nat}
theorem gH (n:α→Nat) {xs:List α} {i:Nat} {y:α} (h:xs[i]? = some y):cL n (xs.take (i+1))=cL n (xs.take i)+n y:=by
 obtain ⟨hl,rfl⟩:=gsi_.1 h
 exact cL_take n xs i hl
theorem qY {xs:List α} {k:Int} {i:Nat} {y:α} (h:xs[i]? = some y):(mkL f n (xs.take i) k++xs.drop i)[i]? = some y:=by
 obtain ⟨hl,rfl⟩:=gsi_.1 h
 exact mk_get? hl
theorem oA {xs:List α} {k K:Int} {i:Nat} {y:α} (h:xs[i]? = some y) (hK:K=k+(cL n (xs.take i):Nat)):(mkL f n (xs.take i) k++xs.drop i).set i (f y K)=mkL f n (xs.take (i+1)) k++xs.drop (i+1):=by
 obtain ⟨hl,rfl⟩:=gsi_.1 h
 exact mk_step hl hK
theorem aL9 [Shape α] {w:World} {v:Value} {xs:List α} {fp:List Nat} {k K:Int} {y:α} (hs:Sl w v (mkL f n xs k) fp) {i:Nat} (hi:xs[i]? = some y) (hK:K=k+(cL n (xs.take i):Nat)):∃ b o cs f1,PA v (Shape.size α) i b o∧w.rangeAt b o cs∧Shape.C w cs (f y K) f1∧∀ c∈b::f1,c∈fp:=by
 obtain ⟨hl,rfl⟩:=gsi_.1 hi
 exact idxm hs hl hK
end
theorem fW {α:Type} {xs:List α} {i:Nat} (h:i<xs.length):∃ y,xs[i]? = some y:=⟨_,getElem?_eq_getElem h⟩
def Bd (x:Int) (r:Nat):Prop:=0≤x∧x+r≤4611686018427387904
theorem Bd.up {x:Int} {r:Nat} (h:Bd x (1+r)):Bd (x+1) r:=by unfold Bd at *;omega
theorem Bd.upc {x:Int} {c r:Nat} (h:Bd x (c+r)):Bd (x+(c:Nat)) r:=by unfold Bd at *;omega
theorem Bd.i64 {x:Int} {r:Nat} (h:Bd x r):I64 x:=by unfold Bd I64 at *;omega
theorem Bd.lo {x:Int} {r:Nat} (h:Bd x r):0≤x:=h.1
theorem Bd.hi {x:Int} {c r:Nat} (h:Bd x (c+r)):x+(c:Nat)≤4611686018427387904:=by unfold Bd at *;omega
def aN (x:Edge):Nat:=2
def jP (x:Edge) (k:Int):Edge:=⟨k,k+1⟩

def aF (x:Entry):Nat:=4
def dH (x:Entry) (k:Int):Entry:=⟨k,k+1,(k+1)+1,((k+1)+1)+1⟩

def bB (x:Task):Nat:=4
def jN (x:Task) (k:Int):Task:=⟨k,k+1,(k+1)+1,((k+1)+1)+1⟩

def bR (x:Run):Nat:=6+cL aN x.plan.edges+cL bB x.tasks
def mA (x:Run) (k:Int):Run:=⟨k,⟨k+1,(k+1)+1,((k+1)+1)+1,(((k+1)+1)+1)+1,mkL jP aN x.plan.edges (((((k+1)+1)+1)+1)+1)⟩,(((((k+1)+1)+1)+1)+1)+(cL aN x.plan.edges:Nat),mkL jN bB x.tasks (((((((k+1)+1)+1)+1)+1)+(cL aN x.plan.edges:Nat))+1)⟩

def bH (x:Yard):Nat:=cL (cL aF) x.shelf+cL bR x.runs
def xE (x:Yard) (k:Int):Yard:=⟨x.now,x.seq,mkL (mkL dH aF) (cL aF) x.shelf k,mkL mA bR x.runs (k+(cL (cL aF) x.shelf:Nat))⟩

def bJ (x:Wait):Nat:=5
def kX (x:Wait) (k:Int):Wait:=⟨k,⟨k+1,(k+1)+1,((k+1)+1)+1,(((k+1)+1)+1)+1⟩⟩

def aY (x:File):Nat:=3
def jO (x:File) (k:Int):File:=⟨jM k,jM (k+1),(k+1)+1⟩

def bT (x:Disk):Nat:=cL aY x.files
def xF (x:Disk) (k:Int):Disk:=⟨mkL jO aY x.files k⟩

def cG (x:Engine):Nat:=bH x.yard+bT x.disk+cL bJ x.waits
def oC (x:Engine) (k:Int):Engine:=⟨xE x.yard k,xF x.disk (k+(bH x.yard:Nat)),x.next,x.calls,mkL kX bJ x.waits ((k+(bH x.yard:Nat))+(bT x.disk:Nat)),x.state,x.broken⟩

/-! ### How many numbers the marks take -/
theorem yA {α:Type} {n f:α→Nat} (h:∀ x,n x≤16*(1+f x)):∀ xs:List α,cL n xs≤16*wtL f xs
 | []=>by simp[cL,wtL]
 | x::xs=>by
  have h1:=h x
  have h2:=yA h xs
  simp only[cL,wtL,map_cons,sum_cons,length_cons] at *
  omega
theorem xZ {α:Type} {n:α→Nat} {c:Nat} (h:∀ x,n x≤c):∀ xs:List α,cL n xs≤c*xs.length
 | []=>by simp[cL]
 | x::xs=>by
  have h1:=h x
  have h2:=xZ h xs
  simp only[cL,map_cons,sum_cons,length_cons,Nat.mul_add] at *
  omega

theorem cb_EdgeS (xs:List Edge):cL aN xs≤16*xs.length:=Nat.le_trans (xZ (n:=aN) (c:=16) (fun y=>by simp[aN]) xs) (Nat.le_refl _)
theorem cb_EntryS (xs:List Entry):cL aF xs≤16*xs.length:=Nat.le_trans (xZ (n:=aF) (c:=16) (fun y=>by simp[aF]) xs) (Nat.le_refl _)
theorem cb_TaskS (xs:List Task):cL bB xs≤16*xs.length:=Nat.le_trans (xZ (n:=bB) (c:=16) (fun y=>by simp[bB]) xs) (Nat.le_refl _)
theorem nb_Run (x:Run):bR x≤16*(1+x.wt):=by
 have h0:=cb_EdgeS x.plan.edges;have h1:=cb_TaskS x.tasks;simp only[bR,Plan.wt,Run.wt,Yard.wt,Deed.wt,Note.wt,File.wt,Disk.wt,Engine.wt,WorldD.wt,ActD.wt,Span.wt,Crew.wt] at *;omega
theorem cb_RunS (xs:List Run):cL bR xs≤16*(wtL (fun y:Run=>y.wt) xs):=yA (n:=bR) (f:=fun y:Run=>y.wt) (fun y=>nb_Run y) xs
theorem cb_EntrySS (xs:List (List Entry)):cL (cL aF) xs≤16*(wtL (fun y:List Entry=>y.length) xs):=yA (n:=cL aF) (f:=fun y:List Entry=>y.length) (fun y=>by have:=cb_EntryS y;omega) xs
theorem nt_Yard (x:Yard):bH x≤16*x.wt:=by
 have h2:=cb_EntrySS x.shelf;have h3:=cb_RunS x.runs;unfold bH;have hw:x.wt=(wtL (fun y:List Entry=>y.length) x.shelf)+(wtL (fun y:Run=>y.wt) x.runs):=rfl;omega
theorem cb_WaitS (xs:List Wait):cL bJ xs≤16*xs.length:=Nat.le_trans (xZ (n:=bJ) (c:=16) (fun y=>by simp[bJ]) xs) (Nat.le_refl _)
theorem nb_File (x:File):aY x≤16*(1+x.wt):=by unfold aY;omega
theorem cb_FileS (xs:List File):cL aY xs≤16*(wtL (fun y:File=>y.wt) xs):=yA (n:=aY) (f:=fun y:File=>y.wt) (fun y=>nb_File y) xs
theorem bV7 (x:Disk):bT x≤16*x.wt:=by
 have h0:=cb_FileS x.files;unfold bT;have hw:x.wt=(wtL (fun y:File=>y.wt) x.files):=rfl;omega
theorem yV (x:Engine):cG x≤16*x.wt:=by
 have h0:=nt_Yard x.yard;have h1:=bV7 x.disk;have h4:=cb_WaitS x.waits;unfold cG;have hw:x.wt=x.yard.wt+x.disk.wt+x.waits.length:=rfl;omega
def iT (t:Task):Task:=⟨6,t.need,t.try_,0⟩
def hU (but:Int) (k:Nat) (t:Task):Task:=if (k:Int)=but∨t.state=4 then t else iT t
def jV (ts:List Task) (but:Int) (k:Nat):List Task:=ts.mapIdx (fun j t=>if j<k then hU but j t else t)
def hQ (ts:List Task) (but:Int):List Task:=ts.mapIdx (fun j t=>hU but j t)
theorem leaveTo_zero (ts:List Task) (but:Int):jV ts but 0=ts:=by
 apply ext_getElem?;intro i
 simp[jV,getElem?_mapIdx]
theorem aL5 (ts:List Task) (but:Int):(hQ ts but).length=ts.length:=by simp[hQ]
theorem leaveTo_at {ts:List Task} {but:Int} {k:Nat} {t:Task} (h:ts[k]? = some t):(jV ts but k)[k]? = some t:=by
 simp[jV,getElem?_mapIdx,h]
theorem leaveTo_set {ts:List Task} {but:Int} {k:Nat} {t y:Task} (h:ts[k]? = some t) (hy:hU but k t=y):(jV ts but k).set k y=jV ts but (k+1):=by
 apply ext_getElem?;intro i
 obtain ⟨hl,rfl⟩:=gsi_.1 h
 simp only[jV,getElem?_set,getElem?_mapIdx,length_mapIdx]
 by_cases e:k=i
 ·subst e;simp[hl,hy]
 rw[if_neg e]
 cases hi:ts[i]? with
 | none=>rfl
 | some u=>
  have:(i<k)↔(i<k+1):=by omega
  simp[this]
theorem leaveTo_all (ts:List Task) (but:Int):jV ts but ts.length=hQ ts but:=by
 apply ext_getElem?;intro i
 simp only[jV,hQ,getElem?_mapIdx]
 cases hi:ts[i]? with
 | none=>rfl
 | some u=>have:=(gsi_.1 hi).1;simp[this]
theorem leaveIf_t {but:Int} {k:Nat} {t:Task} (h:¬ (k:Int)=but) (h2:¬ t.state=4):hU but k t=iT t:=by unfold hU;rw[if_neg (by simp[h,h2])]
theorem leaveIf_b {but:Int} {k:Nat} {t:Task} (h:(k:Int)=but):hU but k t=t:=by unfold hU;rw[if_pos (.inl h)]
theorem leaveIf_d {but:Int} {k:Nat} {t:Task} (h:t.state=4):hU but k t=t:=by unfold hU;rw[if_pos (.inr h)]
def leaveR (r:Run) (but:Int):Run:=⟨r.id,r.plan,r.state,hQ r.tasks but⟩
def rJ (r:Run) (i:Nat) (t:Task):Run:=
 if t.try_<r.plan.most then ⟨r.id,r.plan,r.state,r.tasks.set i ⟨2,t.need,t.try_,0⟩⟩
 else ⟨r.id,r.plan,3,hQ (r.tasks.set i ⟨5,t.need,t.try_,0⟩) i⟩
def cN (r:Run) (i:Nat):Run:=match r.tasks[i]? with | some t=>rJ r i t | none=>r
theorem zG {r:Run} {i:Nat} {t:Task} (h:r.tasks[i]? = some t):cN r i=rJ r i t:=by unfold cN;rw[h]
theorem iW (ts:List Task) (s:Int):aU ts s=(ts.countP (fun t=>decide (t.state=s)):Nat):=by unfold aU;rw[countP_eq_length_filter]
theorem aO0 {ts:List Task} {s:Int} {t:Task} (h:t∈ts) (hs:t.state=s):0<aU ts s:=by
 rw[iW]
 have:=countP_pos_iff (p:=fun t:Task=>decide (t.state=s)) (l:=ts) |>.2 ⟨t,h,by simpa using hs⟩
 omega
theorem zK {ts:List Task} {s:Int} (h:∀ t∈ts,¬ t.state=s):aU ts s=0:=by
 rw[iW,countP_eq_zero.2 (by intro t ht;simpa using h t ht)];rfl
theorem aX4 {ts:List Task} {s:Int} (h:aU ts s=0):∀ t∈ts,¬ t.state=s:=fun t ht hs=>by have:=aO0 ht hs;omega
theorem bD7 {ts:List Task} {s:Int} {t:Task} (h:t∈ts) (hs:¬ t.state=s):¬ aU ts s=ts.length:=by
 rw[iW]
 intro he
 have:=countP_eq_length (p:=fun t:Task=>decide (t.state=s)) (l:=ts) |>.1 aB t h
 exact hs (by simpa using this)
theorem cntI_map {ts:List Task} {f:Task→Task} {s:Int} (h:∀ t∈ts,((f t).state=s↔t.state=s)):aU (ts.map f) s=aU ts s:=by
 rw[iW,iW,countP_map]
 congr 1
 apply countP_congr
 intro t ht
 simpa using h t ht
theorem aN9 {ts:List Task} {i:Nat} (h:i<ts.length) (x:Task) (s:Int):aU (ts.set i x) s=aU ts s - (if ts[i].state=s then 1 else 0)+(if x.state=s then 1 else 0):=by
 rw[iW,iW,countP_set h]
 have hpos:ts[i].state=s→0<ts.countP (fun t=>decide (t.state=s)):=fun e=>countP_pos_iff.2 ⟨ts[i],getElem_mem h,by simpa using e⟩
 simp only[decide_eq_true_eq]
 by_cases h1:ts[i].state=s
 ·have:=hpos h1
  rw[if_pos h1,if_pos h1]
  by_cases h2:x.state=s
  ·rw[if_pos h2,if_pos h2];omega
  rw[if_neg h2,if_neg h2];omega
 rw[if_neg h1,if_neg h1]
 by_cases h2:x.state=s
 ·rw[if_pos h2,if_pos h2];omega
 rw[if_neg h2,if_neg h2];omega
structure RunIs (r:Run):Prop where
 id:1≤r.id∧r.id≤9999
 plan:aK r.plan=0
 len:(r.tasks.length:Int)=r.plan.tasks
 task:∀ k,k<r.tasks.length→qQ r k
 state:r.state=cM r.tasks
 ne:¬ r.state=0
theorem runIs {r:Run}:eX r=true↔RunIs r:=by
 unfold eX
 rw[pB_iff]
 exact ⟨fun ⟨a,b,c,d,e,f⟩=>⟨a,b,c,d,e,f⟩,fun h=>⟨h.id,h.plan,h.len,h.task,h.state,h.ne⟩⟩
theorem RunIs.live {r:Run} (h:RunIs r) {t:Task} (ht:t∈r.tasks) (h3:t.state=3):r.state=1∧aU r.tasks 5=0∧aU r.tasks 6=0:=by
 have hs:=h.state
 have hn:=h.ne
 have c3:=aO0 ht h3
 have c4:=bD7 (s:=4) ht aB
 have p1:=fM r.tasks 1
 have p2:=fM r.tasks 2
 rw[hs] at hn
 rw[hs]
 unfold cM at hn ⊢
 rw[if_neg c4,if_neg aB,if_neg aB] at hn ⊢
 by_cases h1:aU r.tasks 5=0∧aU r.tasks 6=0
 ·rw[if_pos h1];exact ⟨rfl,h1.1,h1.2⟩
 rw[if_neg h1] at hn;exact absurd rfl hn
theorem RunIs.none5 {r:Run} (h:RunIs r) {t:Task} (ht:t∈r.tasks) (h3:t.state=3):∀ u∈r.tasks,¬ u.state=5∧¬ u.state=6:=fun u hu=>⟨aX4 (h.live ht h3).2.1 u hu,aX4 (h.live ht h3).2.2 u hu⟩
def fK (t:Task):Task:=if t.state=4∨t.state=5 then t else iT t
def dO (ts:List Task):List Task:=ts.map fK
theorem aL4 {ts:List Task} {i:Nat} {x:Task} (hi:i<ts.length) (hx:x.state=5) (h:∀ u∈ts,¬ u.state=5):hQ (ts.set i x) (i:Int)=dO (ts.set i x):=by
 apply ext_getElem?
 intro k
 unfold hQ dO
 rw[getElem?_mapIdx,getElem?_map,getElem?_set]
 by_cases e:i=k
 ·subst e
  simp[hi,hU,fK,hx]
 rw[if_neg e]
 cases hk:ts[k]? with
 | none=>rfl
 | some u=>
  have h5:=h u (mem_of_getElem? hk)
  have e':¬ (k:Int)=(i:Int):=by omega
  simp[hU,fK,h5,e']
def aN2 (r:Run) (i:Nat):Run:=match r.tasks[i]? with
 | some t=>if t.try_<r.plan.most then ⟨r.id,r.plan,r.state,r.tasks.set i ⟨2,t.need,t.try_,0⟩⟩ else ⟨r.id,r.plan,3,dO (r.tasks.set i ⟨5,t.need,t.try_,0⟩)⟩
 | none=>r
theorem failsS_eq {r:Run} (h:RunIs r) {i:Nat} {t:Task} (ht:r.tasks[i]? = some t) (h3:t.state=3):aN2 r i=cN r i:=by
 unfold aN2 cN
 rw[ht]
 simp only[rJ]
 have hm:=mem_of_getElem? ht
 rw[aL4 (gsi_.1 ht).1 rfl (fun u hu=>(h.none5 hm h3 u hu).1)]
theorem isDone_of {r r':Run} (h:∀ k:Nat,(r'.tasks[k]?).map (fun t=>decide (t.state=4))=(r.tasks[k]?).map (fun t=>decide (t.state=4))) (x:Int):rC r' x=rC r x:=by
 unfold rC
 have:=h x.toNat
 cases h1:r'.tasks[x.toNat]? <;> cases h2:r.tasks[x.toNat]? <;> simp[h1,h2] at this ⊢
 exact this
theorem aU2 {r r':Run} (hp:r'.plan=r.plan) (h:∀ k:Nat,(r'.tasks[k]?).map (fun t=>decide (t.state=4))=(r.tasks[k]?).map (fun t=>decide (t.state=4))) (x:Int):iR r' x=iR r x:=by
 unfold iR iS
 rw[hp]
 congr 2
 apply filter_congr
 intro b _
 rw[isDone_of h]
theorem taskOkT_left {r r':Run} {need:Int} {t:Task} (hp:r'.plan=r.plan) (h:gC r need t):gC r' need (iT t):=by
 obtain ⟨h1,h2,h3,_⟩:=h
 refine ⟨⟨by simp[iT],by simp[iT]⟩,h2,by rw[hp];exact h3,?_,?_,?_,?_,?_⟩ <;> simp[iT]
theorem wG {r r':Run} {need:Int} {t:Task} (hp:r'.plan=r.plan) (h:gC r need t):gC r' need t:=by
 unfold gC at h ⊢
 rw[hp];exact h
theorem RunIs.fails {r:Run} (h:RunIs r) {i:Nat} {t:Task} (ht:r.tasks[i]? = some t) (h3:t.state=3):RunIs (cN r i):=by
 obtain ⟨hi,rfl⟩:=gsi_.1 ht
 have hm:r.tasks[i]∈r.tasks:=getElem_mem hi
 have hlive:=h.live hm h3
 have hn5:=h.none5 hm h3
 have htk:=h.task i hi hi
 obtain ⟨t1,t2,t3,t4,t5,t6,t7,t8⟩:=htk
 have t8':=t8 (.inl h3)
 rw[zG ht]
 unfold rJ
 split
 ·next hlt=>
  refine ⟨h.id,h.plan,by show ((r.tasks.set i _).length:Int)=_;rw[length_set];exact h.len,?_,?_,by show ¬ r.state=0;omega⟩
  ·intro k hk hk'
   have hk2:k<r.tasks.length:=by simpa using hk
   rw[aU2 (r:=r) (r':=⟨r.id,r.plan,r.state,r.tasks.set i ⟨2,r.tasks[i].need,r.tasks[i].try_,0⟩⟩) rfl (fun j=>by
    show ((r.tasks.set i _)[j]?).map _=_
    rw[getElem?_set]
    by_cases e:i=j
    ·subst e;simp[hi,h3]
    rw[if_neg e])]
   show gC _ _ ((r.tasks.set i _)[k]'hk')
   rw[getElem_set]
   split
   ·next e=>
    subst e
    refine ⟨⟨by show (1:Int)≤2;omega,by show (2:Int)≤6;omega⟩,t2,t3,?_,fun _=>rfl,?_,fun _=>⟨t8'.1,hlt⟩,?_⟩
    ·intro e;exact absurd (show (2:Int)=3 from e) aB
    ·intro e;exact absurd (show (2:Int)=1 from e) aB
    rintro (e | e | e)
    ·exact absurd (show (2:Int)=3 from e) aB
    ·exact absurd (show (2:Int)=4 from e) aB
    exact absurd (show (2:Int)=5 from e) aB
   exact wG rfl (h.task k hk2 hk2)
  show r.state=cM (r.tasks.set i _)
  have hmem:(⟨2,r.tasks[i].need,r.tasks[i].try_,0⟩:Task)∈r.tasks.set i ⟨2,r.tasks[i].need,r.tasks[i].try_,0⟩:=mem_set hi _
  have c4:=bD7 (s:=4) hmem (by show ¬ (2:Int)=4;omega)
  have c5:aU (r.tasks.set i ⟨2,r.tasks[i].need,r.tasks[i].try_,0⟩) 5=0:=by rw[aN9 hi,h3,hlive.2.1];rfl
  have c6:aU (r.tasks.set i ⟨2,r.tasks[i].need,r.tasks[i].try_,0⟩) 6=0:=by rw[aN9 hi,h3,hlive.2.2];rfl
  unfold cM
  rw[if_neg c4,if_neg (by rw[c5];omega),if_neg (by rw[c6];omega),if_pos ⟨c5,c6⟩]
  exact hlive.1
 next hge=>
 rw[aL4 hi rfl (fun u hu=>(hn5 u hu).1)]
 have hset:∀ j,(dO (r.tasks.set i ⟨5,r.tasks[i].need,r.tasks[i].try_,0⟩))[j]? = (if i=j then some ⟨5,r.tasks[i].need,r.tasks[i].try_,0⟩ else (r.tasks[j]?).map fK):=by
  intro j
  unfold dO
  rw[getElem?_map,getElem?_set]
  by_cases e:i=j
  ·subst e;simp[hi,fK]
  rw[if_neg e,if_neg e]
 have hlen:(dO (r.tasks.set i ⟨5,r.tasks[i].need,r.tasks[i].try_,0⟩)).length=r.tasks.length:=by unfold dO;simp
 refine ⟨h.id,h.plan,by show ((dO _).length:Int)=_;rw[hlen];exact h.len,?_,?_,by show ¬ (3:Int)=0;omega⟩
 ·intro k hk hk'
  have hk2:k<r.tasks.length:=by rw[← hlen];exact hk
  rw[aU2 (r:=r) (r':=⟨r.id,r.plan,3,dO (r.tasks.set i ⟨5,r.tasks[i].need,r.tasks[i].try_,0⟩)⟩) rfl (fun j=>by
   show ((dO _)[j]?).map _=_
   rw[hset j]
   by_cases e:i=j
   ·subst e;simp[hi,h3]
   rw[if_neg e]
   cases hj:r.tasks[j]? with
   | none=>rfl
   | some u=>
    simp only[Option.map_some,fK]
    split
    ·rfl
    next hne=>simp[iT];intro e4;exact hne (.inl e4))]
  have hg:(dO (r.tasks.set i ⟨5,r.tasks[i].need,r.tasks[i].try_,0⟩))[k]? = some ((dO (r.tasks.set i ⟨5,r.tasks[i].need,r.tasks[i].try_,0⟩))[k]'hk'):=getElem?_eq_getElem hk'
  rw[hset k] at hg
  show gC _ _ ((dO (r.tasks.set i _))[k]'hk')
  by_cases e:i=k
  ·rw[if_pos e] at hg
   have:=Option.some.inj hg
   rw[← this]
   subst e
   refine ⟨⟨by show (1:Int)≤5;omega,by show (5:Int)≤6;omega⟩,t2,t3,?_,fun _=>rfl,?_,?_,fun _=>t8'⟩
   ·intro e;exact absurd (show (5:Int)=3 from e) aB
   ·intro e;exact absurd (show (5:Int)=1 from e) aB
   intro e;exact absurd (show (5:Int)=2 from e) aB
  rw[if_neg e,getElem?_eq_getElem hk2,Option.map_some] at hg
  have:=Option.some.inj hg
  rw[← this]
  unfold fK
  split
  ·exact wG rfl (h.task k hk2 hk2)
  exact taskOkT_left rfl (h.task k hk2 hk2)
 show (3:Int)=cM (dO _)
 have hst:∀ s:Int,s=1∨s=2∨s=3→aU (dO (r.tasks.set i ⟨5,r.tasks[i].need,r.tasks[i].try_,0⟩)) s=0:=by
  intro s hs
  apply zK
  intro u hu e
  unfold dO at hu
  obtain ⟨v,_,rfl⟩:=mem_map.1 hu
  unfold fK at e
  split at e
  ·next hc=>omega
  have:(6:Int)=s:=e
  omega
 have c5:aU (dO (r.tasks.set i ⟨5,r.tasks[i].need,r.tasks[i].try_,0⟩)) 5=1:=by
  unfold dO
  rw[cntI_map (fun u _=>by
   unfold fK
   split
   ·exact Iff.rfl
   next hc=>
   simp only[not_or] at hc
   exact ⟨fun e=>absurd (show (6:Int)=5 from e) aB,fun e=>absurd e hc.2⟩),aN9 hi,h3,hlive.2.1]
  rfl
 have c4:¬ aU (dO (r.tasks.set i ⟨5,r.tasks[i].need,r.tasks[i].try_,0⟩)) 4=(dO (r.tasks.set i ⟨5,r.tasks[i].need,r.tasks[i].try_,0⟩)).length:=by
  apply bD7 (t:=⟨5,r.tasks[i].need,r.tasks[i].try_,0⟩)
  ·exact mem_of_getElem? (i:=i) (by rw[hset i,if_pos rfl])
  show ¬ (5:Int)=4
  omega
 unfold cM
 rw[if_neg c4,if_pos ⟨c5,by rw[hst 1 (.inl rfl),hst 2 (.inr (.inl rfl)),hst 3 (.inr (.inr rfl))];rfl⟩]
theorem rK (r:Run) (i:Nat):(cN r i).id=r.id∧(cN r i).plan=r.plan∧(cN r i).tasks.length=r.tasks.length∧∀ (j:Nat) (t:Task),r.tasks[j]? = some t→∃ t2,(cN r i).tasks[j]? = some t2∧t2.try_=t.try_:=by
 unfold cN
 cases hi:r.tasks[i]? with
 | none=>exact ⟨rfl,rfl,rfl,fun j t h=>⟨t,h,rfl⟩⟩
 | some u=>
  obtain ⟨hl,rfl⟩:=gsi_.1 hi
  simp only[rJ]
  split
  ·refine ⟨rfl,rfl,by simp,fun j t h => ?_⟩
   show ∃ t2,(r.tasks.set i _)[j]? = some t2∧_
   rw[getElem?_set]
   by_cases e:i=j
   ·subst e
    rw[h] at hi
    rw[if_pos rfl,if_pos hl]
    exact ⟨_,rfl,by have:=Option.some.inj hi;rw[this]⟩
   rw[if_neg e];exact ⟨t,h,rfl⟩
  refine ⟨rfl,rfl,by simp[aL5],fun j t h => ?_⟩
  show ∃ t2,(hQ (r.tasks.set i _) _)[j]? = some t2∧_
  unfold hQ
  rw[getElem?_mapIdx,getElem?_set]
  have hli:∀ (b:Int) (k:Nat) (x:Task),(hU b k x).try_=x.try_:=by intro b k x;unfold hU;split <;> rfl
  by_cases e:i=j
  ·subst e
   rw[h] at hi
   rw[if_pos rfl,if_pos hl]
   exact ⟨_,rfl,by rw[hli];have:=Option.some.inj hi;rw[this]⟩
  rw[if_neg e,h];exact ⟨_,rfl,hli _ _ _⟩
theorem rT {p:Plan} (h:aK p=0):(1≤p.tasks∧p.tasks≤12)∧p.edges.length≤30∧EdgesIn p.tasks.toNat p.edges:=by
 have h1:=sF h
 have h2:=aJ4 h1.1
 exact ⟨h2.1,h2.2,h1.2.1⟩
noncomputable def bU1 (xs:List Int) (hn:xs.length≤1000000):Inc prog 406 (fun _:Unit=>True) where
 T:=fun s us K=>match us with
  | [.on (.ce (.rf j h))]=>match lku s.O j with
   | some (.own i h' xs' _) => .e0 h h' <| .e1 (⟨i,xs'⟩:Dat) ⟨instShapeInt,xs⟩ <| .fn fun fp:List Nat=>K () (.tu []) ⟨s.E,(j,.own instShapeInt h (mV xs) fp)::cX s.O j,lasting s.B,s.nx⟩
   | _ => .no
  | _ => .no
 ok:=by
  intro w0 W s us K h st fa
  split at h
  ·next j hd=>
   split at h
   ·next i h' xs' fp hj=>
    obtain ⟨rfl,h2,h3⟩:=h
    simp only[Dat.mk.injEq] at h2
    obtain ⟨rfl,h5,h6⟩:=h2
    obtain ⟨rfl,rfl⟩:=And.intro (eq_of_heq h5) (eq_of_heq h6)
    have st2:=St.take (rs:=[]) (by simpa [Or,S.rs] using st) hj
    rw[append_nil] at st2
    refine (SortOwn st2 hn).mono ?_
    rintro e W' ⟨rfl,fp',st'⟩
    exact ⟨(),.tu [],_,trivial,h3 fp',rfl,st',fa.lasting⟩
   exact h.elim
  exact h.elim
theorem froms_t {es:List Edge} {k:Nat} {e:Edge} {task:Int} (h:es[k]? = some e) (he:e.to_=task):dK (es.take k) task++[e.from_]=dK (es.take (k+1)) task:=by
 obtain ⟨hk,rfl⟩:=gsi_.1 h
 unfold dK;rw[take_succ_eq_append_getElem hk,filter_append,map_append];simp[he]
theorem froms_f {es:List Edge} {k:Nat} {e:Edge} {task:Int} (h:es[k]? = some e) (he:¬ e.to_=task):dK (es.take k) task=dK (es.take (k+1)) task:=by
 obtain ⟨hk,rfl⟩:=gsi_.1 h
 unfold dK;rw[take_succ_eq_append_getElem hk,filter_append,map_append];simp[he]
theorem aP9 (p:Plan) (task:Int):Ct1 prog 379 [.S p,.I task] [.L (aV p task)]:=
 .one (aV p task) (rk:=fun l=>[.L l])<|vc func379 (fun (hg:gin [Par.S p,Par.I task])=>let gp:p.ok:=hg.1.1
  .c func302 (kK p) (hg:=⟨gp,trivial⟩) fun _ => .u (aK p=0) (fun h => .rt [] ⟨by unfold aV;rw[if_neg h],trivial⟩) (fun h=>let he:=(rT h).2.1
   .w Int 3 5 <| .la (Γ:=Nat) (fun k=>k≤p.edges.length) (fun k=>p.edges.length - k) (fun k=>[vI 14 k,vR 5 2]) (fun k=>[oR 2 3 (dK (p.edges.take k) task)]) 0 fun k hk t=>let hl:=tL (p.edges.take k) task
    let hl2:(p.edges.take k).length≤30:=(by rw[length_take];omega)
    .s ((k:Int)<p.edges.length)
     (fun h2 => .x p.edges k (h:=by omega) fun e he ge => .s (e.to_=task)
      (fun h3 => .a (dK (p.edges.take k) task) e.from_ 8 (hy:=(show e.ok from ge).1) (h63:=by unfold maxLen;omega) (hby:=by omega) <| .g 2 (froms_t he h3) <| .p k 1 (h:=by unfold I64;omega) <| .n t (k+1) [])
      (fun h3 => .g 2 (froms_f he h3) <| .p k 1 (h:=by unfold I64;omega) <| .n t (k+1) []))
     (fun h2 => .sh 2 <| .g 2 (show dK (p.edges.take k) task=dK p.edges task by rw[take_of_length_le aB]) <| .iv _ func406 (bU1 (dK p.edges task) (by have:=tL p.edges task;omega)) fun _ _ => .rt (mV (dK p.edges task)) ⟨by unfold aV;rw[if_pos h],trivial⟩))) aD
theorem tos_t {es:List Edge} {k:Nat} {e:Edge} {task:Int} (h:es[k]? = some e) (he:e.from_=task):tos (es.take k) task++[e.to_]=tos (es.take (k+1)) task:=by
 obtain ⟨hk,rfl⟩:=gsi_.1 h
 unfold tos;rw[take_succ_eq_append_getElem hk,filter_append,map_append];simp[he]
theorem tos_f {es:List Edge} {k:Nat} {e:Edge} {task:Int} (h:es[k]? = some e) (he:¬ e.from_=task):tos (es.take k) task=tos (es.take (k+1)) task:=by
 obtain ⟨hk,rfl⟩:=gsi_.1 h
 unfold tos;rw[take_succ_eq_append_getElem hk,filter_append,map_append];simp[he]
theorem BehindOf_i (p:Plan) (task:Int):Ct1 prog 381 [.S p,.I task] [.L (bP p task)]:=
 .one (bP p task) (rk:=fun l=>[.L l])<|vc func381 (fun (hg:gin [Par.S p,Par.I task])=>let gp:p.ok:=hg.1.1
  .c func302 (kK p) (hg:=⟨gp,trivial⟩) fun _ => .u (aK p=0) (fun h => .rt [] ⟨by unfold bP;rw[if_neg h],trivial⟩) (fun h=>let he:=(rT h).2.1
   .w Int 3 5 <| .la (Γ:=Nat) (fun k=>k≤p.edges.length) (fun k=>p.edges.length - k) (fun k=>[vI 14 k,vR 5 2]) (fun k=>[oR 2 3 (tos (p.edges.take k) task)]) 0 fun k hk t=>let hl:=aC9 (p.edges.take k) task
    let hl2:(p.edges.take k).length≤30:=(by rw[length_take];omega)
    .s ((k:Int)<p.edges.length)
     (fun h2 => .x p.edges k (h:=by omega) fun e he ge => .s (e.from_=task)
      (fun h3 => .a (tos (p.edges.take k) task) e.to_ 8 (hy:=(show e.ok from ge).2) (h63:=by unfold maxLen;omega) (hby:=by omega) <| .g 2 (tos_t he h3) <| .p k 1 (h:=by unfold I64;omega) <| .n t (k+1) [])
      (fun h3 => .g 2 (tos_f he h3) <| .p k 1 (h:=by unfold I64;omega) <| .n t (k+1) []))
     (fun h2 => .sh 2 <| .g 2 (show tos (p.edges.take k) task=tos p.edges task by rw[take_of_length_le aB]) <| .iv _ func406 (bU1 (tos p.edges task) (by have:=aC9 p.edges task;omega)) fun _ _ => .rt (mV (tos p.edges task)) ⟨by unfold bP;rw[if_pos h],trivial⟩))) aD
theorem aZ3 (p:Plan) (task:Int) (h:aK p=0):Ct1 prog 386 [.S p,.I task] [.L (aV p task)]:=by
 have:=Before_s p task (rT h).1 (rT h).2.1 (rT h).2.2
 unfold aV;rw[if_pos h];exact this
theorem BehindP_s (p:Plan) (task:Int) (h:aK p=0):Ct1 prog 391 [.S p,.I task] [.L (bP p task)]:=by
 have:=Behind_s p task (rT h).1 (rT h).2.1 (rT h).2.2
 unfold bP;rw[if_pos h];exact this
theorem cL7 {r:Run} {task b:Int} {k:Nat} (hlen:(r.tasks.length:Int)=r.plan.tasks) (h:(aV r.plan task)[k]? = some b):b=(b.toNat:Int)∧∃ t,r.tasks[b.toNat]? = some t:=by
 have h1:=before_rng r.plan task b (mem_of_getElem? h)
 exact ⟨by omega,r.tasks[b.toNat]'(by omega),getElem?_eq_getElem aB⟩
theorem cI0 {r:Run} {l:List Int} {k:Nat} {b:Int} {t:Task} (h:l[k]? = some b) (ht:r.tasks[b.toNat]? = some t) (h4:t.state=4):iS r (l.take (k+1))=iS r (l.take k):=by
 obtain ⟨hk,rfl⟩:=gsi_.1 h
 obtain ⟨hb,rfl⟩:=gsi_.1 ht
 rw[aB1 hk,aV1 hb,if_pos (by simpa using h4)];omega
theorem cI1 {r:Run} {l:List Int} {k:Nat} {b:Int} {t:Task} (h:l[k]? = some b) (ht:r.tasks[b.toNat]? = some t) (h4:¬ t.state=4):iS r (l.take (k+1))=iS r (l.take k)+1:=by
 obtain ⟨hk,rfl⟩:=gsi_.1 h
 obtain ⟨hb,rfl⟩:=gsi_.1 ht
 rw[aB1 hk,aV1 hb,if_neg (by simpa using h4)]
theorem bW1 (r:Run) (task:Int) (k:Nat):0≤iS r ((aV r.plan task).take k)∧iS r ((aV r.plan task).take k)≤30:=by
 have h1:=aK5 r ((aV r.plan task).take k)
 have h2:=lU r.plan task
 rw[length_take] at h1
 omega
theorem bJ4 {r:Run} {task:Int} {k:Nat} (hk:k≤(aV r.plan task).length) (h:¬ (k:Int)<(aV r.plan task).length):iS r ((aV r.plan task).take k)=iR r task:=by
 rw[take_of_length_le aB];rfl
theorem NeedOf_i (r:Run) (task:Int) (hlen:(r.tasks.length:Int)=r.plan.tasks):Ct1 prog 393 [.S r,.I task] [.I (iR r task)]:=
 .one (iR r task) (rk:=fun x=>[.I x])<|vc func393 (fun (hg:gin [Par.S r,Par.I task]) => .c func379 (aP9 r.plan task) (hg:=⟨hg.1.1.2.1,trivial⟩) fun _=>let hbl:=lU r.plan task
  .l (Γ:=Nat×Int) (fun g=>g.1≤(aV r.plan task).length∧g.2=iS r ((aV r.plan task).take g.1)) (fun g=>(aV r.plan task).length - g.1) [2,11,12] [2,3] [0,1] (fun g=>[vI 5 g.2,vI 13 g.1]) (fun _=>[]) (0,0) (h:=⟨Nat.zero_le _,rfl⟩) fun g hJ t=>let hbd:=bW1 r task g.1
   let hj2:=hJ.2
   .s ((g.1:Int)<(aV r.plan task).length)
    (fun h => .x (aV r.plan task) g.1 (h:=by omega) fun b hb gb=>let hbt:=cL7 hlen hb
     .ex hbt.2 fun u hu => .ye hu b (he:=hbt.1) fun gu => .u (u.state=4)
      (fun h4 => .p g.2 1 (h:=by unfold I64;omega) <| .p g.1 1 (h:=by unfold I64;omega) <| .n t (g.1+1,g.2+1) [] ⟨by show g.1+1≤_;omega,by show g.2+1=_;rw[cI1 hb hu h4,hJ.2]⟩ (by dsimp only;omega))
      (fun h4 => .p g.1 1 (h:=by unfold I64;omega) <| .n t (g.1+1,g.2) [] ⟨by show g.1+1≤_;omega,by show g.2=_;rw[cI0 hb hu h4,hJ.2]⟩ (by dsimp only;omega)))
    (fun h => .rt g.2 ⟨hJ.2.trans (bJ4 hJ.1 h),trivial⟩)) aD
theorem kN {P:Prop} (h:P:=by (unfold gC;simp only[Bool.and_eq_true,Bool.or_eq_true,Bool.not_eq_true',Bool.or_eq_false_iff,Bool.and_eq_false_iff,Bool.not_eq_false',decide_eq_true_eq,decide_eq_false_iff_not,inB_iff',inB_f',Bool.false_eq_true,iff_false,iff_true] at *;omega)):P:=h
theorem tb_ {p:Prop} {b:Bool} (h:p↔b=true):b=pB p:=(pB_b h).symm
theorem TaskOk_i (r:Run) (k:Nat) (u:Task) (hu:r.tasks[k]? = some u) (hlen:(r.tasks.length:Int)=r.plan.tasks):Ct1 prog 343 [.S r,.I (k:Int)] [.B (pB (gC r (iR r (k:Int)) u))]:=
 .one (pB (gC r (iR r (k:Int)) u)) (rk:=fun x=>[.B x])<|vc func343 (fun (hg:gin [Par.S r,Par.I (k:Int)]) => .y hu fun _=>
  .c func92 (bZ u.state 1 6) fun _ => .v (inB u.state 1 6) (fun h => .rt false ⟨tb_ kN,trivial⟩) (fun h1=>
  .c func393 (NeedOf_i r k hlen) (hg:=⟨hg.1.1,trivial⟩) fun _ => .u (u.need=iR r (k:Int)) (fun h => .rt false ⟨tb_ kN,trivial⟩) (fun h2=>
  .c func92 (bZ u.try_ 0 r.plan.most) fun _ => .v (inB u.try_ 0 r.plan.most) (fun h => .rt false ⟨tb_ kN,trivial⟩) (fun h3=>
  .s (u.state=3)
   (fun h4 => .c func92 (bZ u.until_ 1 1000000000) fun _ => .v (inB u.until_ 1 1000000000) (fun h => .rt false ⟨tb_ kN,trivial⟩) (fun h5=>
    .uf (u.state=3) h4 <| .kf (u.state=1) aB <| .kf (u.state=2) aB <| .kt (u.state=3) h4 <| .s (u.need=0) (fun h6 => .rt (decide ((1:Int)≤u.try_)) ⟨tb_ kN,trivial⟩) (fun h6 => .rt false ⟨tb_ kN,trivial⟩)))
   (fun h4 => .ut (u.state=3) h4 <| .u (u.until_=0) (fun h => .rt false ⟨tb_ kN,trivial⟩) (fun h5=>
    .s (u.state=1) (fun h6 => .rt (decide ((0:Int)<u.need)) ⟨tb_ kN,trivial⟩) (fun h6=>
    .s (u.state=2) (fun h7 => .s (u.need=0) (fun h8 => .rt (decide (u.try_<r.plan.most)) ⟨tb_ kN,trivial⟩) (fun h8 => .rt false ⟨tb_ kN,trivial⟩)) (fun h7=>
    .kf (u.state=3) h4 <| .s (u.state=4) (fun h8 => .s (u.need=0) (fun h9 => .rt (decide ((1:Int)≤u.try_)) ⟨tb_ kN,trivial⟩) (fun h9 => .rt false ⟨tb_ kN,trivial⟩)) (fun h8=>
    .s (u.state=5) (fun h9 => .s (u.need=0) (fun h10 => .rt (decide ((1:Int)≤u.try_)) ⟨tb_ kN,trivial⟩) (fun h10 => .rt false ⟨tb_ kN,trivial⟩)) (fun h9 => .rt true ⟨tb_ kN,trivial⟩)))))))))) aD
theorem TaskOk_s (r:Run) (k:Nat) (u:Task) (hu:r.tasks[k]? = some u) (hlen:(r.tasks.length:Int)=r.plan.tasks) (hP:aK r.plan=0) (hs:1≤u.state∧u.state≤6):Ct1 prog 372 [.S r,.I (k:Int)] [.B (pB (gC r (iR r (k:Int)) u))]:=
 .one (pB (gC r (iR r (k:Int)) u)) (rk:=fun x=>[.B x])<|vc func372 (fun (hg:gin [Par.S r,Par.I (k:Int)]) => .y hu fun _ => .c func386 (aZ3 r.plan k hP) (hg:=⟨hg.1.1.2.1,trivial⟩) fun _=>let hbl:=lU r.plan (k:Int)
  .l (Γ:=Nat×Int) (fun g=>g.1≤(aV r.plan (k:Int)).length∧g.2=iS r ((aV r.plan (k:Int)).take g.1)) (fun g=>(aV r.plan (k:Int)).length - g.1) [2,5,7] [2,4,5] [0,1] (fun g=>[vI 6 g.2,vI 8 g.1]) (fun _=>[]) (0,0) (h:=⟨Nat.zero_le _,rfl⟩) fun g hJ t=>let hbd:=bW1 r (k:Int) g.1
   let hj2:=hJ.2
   .s ((g.1:Int)<(aV r.plan (k:Int)).length)
    (fun h => .x (aV r.plan (k:Int)) g.1 (h:=by omega) fun b hb gb=>let hbt:=cL7 hlen hb
     .ex hbt.2 fun v hv => .ye hv b (he:=hbt.1) fun gu => .u (v.state=4)
      (fun h4 => .p g.2 1 (h:=by unfold I64;omega) <| .p g.1 1 (h:=by unfold I64;omega) <| .n t (g.1+1,g.2+1) [] ⟨by show g.1+1≤_;omega,by show g.2+1=_;rw[cI1 hb hv h4,hJ.2]⟩ (by dsimp only;omega))
      (fun h4 => .p g.1 1 (h:=by unfold I64;omega) <| .n t (g.1+1,g.2) [] ⟨by show g.1+1≤_;omega,by show g.2=_;rw[cI0 hb hv h4,hJ.2]⟩ (by dsimp only;omega)))
    (fun h=>let hn:=hJ.2.trans (bJ4 hJ.1 h)
     .u (u.need=g.2) (fun h => .rt false ⟨tb_ kN,trivial⟩) (fun h2=>
     .c func138 (InV u.try_ 0 r.plan.most) fun _ => .v (inB u.try_ 0 r.plan.most) (fun h => .rt false ⟨tb_ kN,trivial⟩) (fun h3=>
     .s (u.state=3)
      (fun h4 => .c func138 (InV u.until_ 1 1000000000) fun _ => .v (inB u.until_ 1 1000000000) (fun h => .rt false ⟨tb_ kN,trivial⟩) (fun h5=>
       .uf (u.state=3) h4 <| .kf (u.state=1) aB <| .kf (u.state=2) aB <| .kt (u.state=3) h4 <| .s (g.2=0) (fun h6 => .rt (decide ((1:Int)≤u.try_)) ⟨tb_ kN,trivial⟩) (fun h6 => .rt false ⟨tb_ kN,trivial⟩)))
      (fun h4 => .ut (u.state=3) h4 <| .u (u.until_=0) (fun h => .rt false ⟨tb_ kN,trivial⟩) (fun h5=>
       .s (u.state=1) (fun h6 => .rt (decide ((0:Int)<g.2)) ⟨tb_ kN,trivial⟩) (fun h6=>
       .s (u.state=2) (fun h7 => .s (g.2=0) (fun h8 => .rt (decide (u.try_<r.plan.most)) ⟨tb_ kN,trivial⟩) (fun h8 => .rt false ⟨tb_ kN,trivial⟩)) (fun h7=>
       .kf (u.state=3) h4 <| .s (u.state=4) (fun h8 => .s (g.2=0) (fun h9 => .rt (decide ((1:Int)≤u.try_)) ⟨tb_ kN,trivial⟩) (fun h9 => .rt false ⟨tb_ kN,trivial⟩)) (fun h8=>
       .s (u.state=5) (fun h9 => .s (g.2=0) (fun h10 => .rt (decide ((1:Int)≤u.try_)) ⟨tb_ kN,trivial⟩) (fun h10 => .rt false ⟨tb_ kN,trivial⟩)) (fun h9 => .rt (decide (u.state=6)) ⟨tb_ kN,trivial⟩)))))))))) aD
theorem tiStep_t {ts:List Task} {s:Int} {k:Nat} {u:Task} (hu:ts[k]? = some u) (h:u.state=s):eS ts s k++[(k:Int)]=eS ts s (k+1):=by
 obtain ⟨hk,rfl⟩:=gsi_.1 hu
 rw[sY hk h]
theorem tiStep_f {ts:List Task} {s:Int} {k:Nat} {u:Task} (hu:ts[k]? = some u) (h:¬ u.state=s):eS ts s k=eS ts s (k+1):=by
 obtain ⟨hk,rfl⟩:=gsi_.1 hu
 rw[yI hk h]
theorem tiAll {ts:List Task} {s:Int} {k:Nat} (hk:k≤ts.length) (h:¬ (k:Int)<ts.length):eS ts s k=aR ts s:=by
 rw[show k=ts.length by omega];rfl
theorem lV (r:Run) (s:Int) (hl:r.tasks.length≤1048576):Ct1 prog 30 [.S r,.I s] [.L (aR r.tasks s)]:=
 vc func30 (fun hg => .w Int 3 5 <| .l (Γ:=Nat) (fun k=>k≤r.tasks.length) (fun k=>r.tasks.length - k) [1,2,9,10] [2] [0,1] (fun k=>[vR 5 3,vI 11 k]) (fun k=>[oR 3 3 (eS r.tasks s k)]) 0 fun k hk t=>
  .s ((k:Int)<r.tasks.length)
   (fun h => .x r.tasks k (h:=by omega) fun u hu gu=>let hln:=iL r.tasks s k
    .s (u.state=s)
    (fun h2 => .a (eS r.tasks s k) (k:Int) 8 (hy:=by show I64 _;unfold I64;omega) (h63:=by unfold maxLen;omega) (hby:=by omega) <| .g 3 (tiStep_t hu h2) <| .p k 1 (h:=by unfold I64;omega) <| .n t (k+1) [])
    (fun h2 => .g 3 (tiStep_f hu h2) <| .p k 1 (h:=by unfold I64;omega) <| .n t (k+1) []))
   (fun h => .g 3 (tiAll (s:=s) hk h) <| .rt () ⟨trivial,trivial⟩)) aD
structure RkJ (r:Run) (k:Nat):Prop where
 le:k≤r.tasks.length
 ok:∀ j,j<k→qQ r j
theorem RkJ.start (r:Run):RkJ r 0:=⟨Nat.zero_le _,fun j h=>by omega⟩
theorem RkJ.next {r:Run} {k:Nat} {u:Task} (h:RkJ r k) (hu:r.tasks[k]? = some u) (ho:pB (gC r (iR r (k:Int)) u)=true):RkJ r (k+1):=by
 obtain ⟨hk,rfl⟩:=gsi_.1 hu
 refine ⟨hk,fun j hj => ?_⟩
 rcases Nat.lt_succ_iff_lt_or_eq.1 hj with h1 | rfl
 ·exact h.ok j h1
 exact fun _=>pB_iff.1 ho
theorem cG1 {r:Run} {k:Nat} {u:Task} (hu:r.tasks[k]? = some u) (ho:pB (gC r (iR r (k:Int)) u)=false):false=eX r:=by
 obtain ⟨hk,rfl⟩:=gsi_.1 hu
 unfold eX
 rw[nY (fun hz=>cG6 ho (hz.2.2.2.1 k hk hk))]
theorem aT1 {r:Run} (h:¬ ((1≤r.id∧r.id≤9999)∧aK r.plan=0∧(r.tasks.length:Int)=r.plan.tasks)):false=eX r:=by
 unfold eX
 rw[nY (fun hz=>h ⟨hz.1,hz.2.1,hz.2.2.1⟩)]
theorem rk_st {r:Run} (h:∃ (k:Nat) (u:Task),r.tasks[k]? = some u∧¬ (1≤u.state∧u.state≤6)):false=eX r:=by
 obtain ⟨k,u,hu,h⟩:=h
 obtain ⟨hk,rfl⟩:=gsi_.1 hu
 unfold eX
 rw[nY (fun hz=>h (hz.2.2.2.1 k hk hk).1)]
theorem bH0 {r:Run} {k:Nat} (h:RkJ r k) (hk:¬ (k:Int)<r.tasks.length):(∀ j,j<r.tasks.length→qQ r j)∧(aU r.tasks 1+aU r.tasks 2+aU r.tasks 3+aU r.tasks 4+aU r.tasks 5+aU r.tasks 6=r.tasks.length):=by
 have h1:∀ j,j<r.tasks.length→qQ r j:=fun j hj=>h.ok j (by have:=h.le;omega)
 exact ⟨h1,bZ5 (states_of h1)⟩
theorem cA7 (r:Run):Ct1 prog 231 [.S r] [.B (eX r)]:=
 .one (eX r) (rk:=fun x=>[.B x])<|vc func231 (fun (hg:gin [Par.S r])=>let gr:=hg.1.1
  .c func92 (bZ r.id 1 9999) fun _ => .v (inB r.id 1 9999) (fun h => .rt false ⟨aT1 (fun z=>vG h z.1),trivial⟩) (fun h1=>
  .c func302 (kK r.plan) (hg:=⟨gr.2.1,trivial⟩) fun _ => .u (aK r.plan=0) (fun h => .rt false ⟨aT1 (fun z=>h z.2.1),trivial⟩) (fun h2=>
  .u ((r.tasks.length:Int)=r.plan.tasks) (fun h => .rt false ⟨aT1 (fun z=>h z.2.2),trivial⟩) (fun h3=>let hpt:=(rT h2).1
  .l (Γ:=Nat) (fun k=>RkJ r k) (fun k=>r.tasks.length - k) [1,28,29] [2] [0,1] (fun k=>[vI 30 k]) (fun _=>[]) 0 (h:=RkJ.start r) fun k hJ t=>let hk0:=hJ.le
   .s ((k:Int)<r.tasks.length)
    (fun h => .ex (p:=fun u=>r.tasks[k]? = some u) ⟨_,getElem?_eq_getElem (show k<r.tasks.length by omega)⟩ fun u hu => .c func343 (TaskOk_i r k u hu h3) (hg:=⟨gr,trivial⟩) fun _ => .v (pB (gC r (iR r (k:Int)) u))
     (fun h4 => .rt false ⟨cG1 hu h4,trivial⟩)
     (fun h4 => .p k 1 (h:=by unfold I64;omega) <| .n t (k+1) [] (hJ.next hu h4) aB))
    (fun h=>let hf:=bH0 hJ h
     let hc:=uF r.tasks
     let e4:=mH r.tasks 4
     let e5:=mH r.tasks 5
     let e6:=mH r.tasks 6
     let n1:=fM r.tasks 1
     let n2:=fM r.tasks 2
     let n3:=fM r.tasks 3
     let hs:=hf.2
     let fin:∀ {b:Bool},((r.state=cM r.tasks∧¬ r.state=0)↔b=true)→b=eX r:=fun hz=>(bU5 ⟨inB_iff.1 h1,h2,h3⟩ hf.1 hz).symm
     let over:=((aR r.tasks 4).length:Int)+(aR r.tasks 5).length+(aR r.tasks 6).length=r.tasks.length
     let tail:¬ ((aR r.tasks 4).length:Int)=r.tasks.length→¬ (((aR r.tasks 5).length:Int)=1∧over)→¬ (((aR r.tasks 5).length:Int)=0∧(0:Int)<(aR r.tasks 6).length∧over)→D prog (fun a:Bool=>a=eX r∧rgd [Rk.B a]):=fun q1 q2 q3=>
      .s (r.state=1)
       (fun q4 => .s (((aR r.tasks 5).length:Int)=0)
        (fun q5 => .rt (decide (((aR r.tasks 6).length:Int)=0)) ⟨fin (by simp only[decide_eq_true_eq];omega),trivial⟩)
        (fun q5 => .rt false ⟨fin (by simp only[Bool.false_eq_true,iff_false];omega),trivial⟩))
       (fun q4 => .rt false ⟨fin (by simp only[Bool.false_eq_true,iff_false];omega),trivial⟩)
     .c func30 (lV r 4 aB) (hg:=⟨gr,trivial⟩) fun _ => .c func30 (lV r 5 aB) (hg:=⟨gr,trivial⟩) fun _ => .c func30 (lV r 6 aB) (hg:=⟨gr,trivial⟩) fun _=>
     .p ((aR r.tasks 4).length:Int) ((aR r.tasks 5).length:Int) (h:=by unfold I64;omega) <| .p (((aR r.tasks 4).length:Int)+(aR r.tasks 5).length) ((aR r.tasks 6).length:Int) (h:=by unfold I64;omega) <|
     .s (((aR r.tasks 4).length:Int)=r.tasks.length)
      (fun q1 => .rt (decide (r.state=2)) ⟨fin (by simp only[decide_eq_true_eq];omega),trivial⟩)
      (fun q1 => .s (((aR r.tasks 5).length:Int)=1)
       (fun q2 => .s over
        (fun q3 => .rt (decide (r.state=3)) ⟨fin (by simp only[decide_eq_true_eq];omega),trivial⟩)
        (fun q3 => .kf (((aR r.tasks 5).length:Int)=0) aB<|tail q1 (fun z=>q3 z.2) (fun z=>q3 z.2.2)))
       (fun q2 => .s (((aR r.tasks 5).length:Int)=0)
        (fun q3 => .s ((0:Int)<(aR r.tasks 6).length)
         (fun q4 => .s over
          (fun q5 => .rt (decide (r.state=4)) ⟨fin (by simp only[decide_eq_true_eq];omega),trivial⟩)
          (fun q5=>tail q1 (fun z=>q5 z.2) (fun z=>q5 z.2.2)))
         (fun q4=>tail q1 (fun z=>q2 z.1) (fun z=>q4 z.2.1)))
        (fun q3=>tail q1 (fun z=>q2 z.1) (fun z=>q3 z.1))))))))) aD
theorem cnts_st {ts:List Task} {k:Nat} {u:Task} (hu:ts[k]? = some u) (hs:1≤u.state∧u.state≤6):∃ x,(kL (ts.take k))[u.state.toNat]? = some x∧(0≤x∧x≤ts.length)∧(kL (ts.take k)).set u.state.toNat (x+1)=kL (ts.take (k+1)):=by
 obtain ⟨hk,rfl⟩:=gsi_.1 hu
 have hl:ts[k].state.toNat<(kL (ts.take k)).length:=by rw[cnts_len];omega
 refine ⟨_,getElem?_eq_getElem hl,?_,cnts_set hk hs hl⟩
 have:=cnts_rng (ts.take k) _ hl
 rw[length_take] at this
 omega
theorem cA6 (r:Run) (hS:∀ t∈r.tasks,1≤t.state∧t.state≤6) (hl:r.tasks.length≤1048576):Ct1 prog 373 [.S r] [.I (cM r.tasks)]:=
 .one (cM r.tasks) (rk:=fun x=>[.I x])<|vc func373 (fun hg => .li (inferInstance:Dsh Int) 6 [0,0,0,0,0,0,0] (by simp) (by simp) (by intro y hy;simp at hy;subst hy;show I64 0;unfold I64;omega) <|
  .g 3 (cnts_nil.symm) <| .l (Γ:=Nat) (fun k=>k≤r.tasks.length) (fun k=>r.tasks.length - k) [1] [2] [0,1] (fun k=>[vR 3 3,vI 4 k]) (fun k=>[oO 3 (kL (r.tasks.take k))]) 0 fun k hk t=>
   .s ((k:Int)<r.tasks.length)
    (fun h => .x r.tasks k (h:=by omega) fun u hu gu=>let hs:=hS u (mem_of_getElem? hu)
     .ex (cnts_st hu hs) fun x hx => .d 3 hx.1 fun gx => .ie u.state.toNat u.state (he:=by omega) <| .p x 1 (h:=by have:=hx.2.1;unfold I64;omega) <| .ie u.state.toNat u.state (he:=by omega) <|
     .wt 12 <| .f 3 (kL (r.tasks.take k)) (x+1) (h:=by have:=hx.2.1;show I64 _;unfold I64;omega) <| .g 3 hx.2.2 <| .p k 1 (h:=by unfold I64;omega) <| .n t (k+1) [])
    (fun h => .g 3 (show kL (r.tasks.take k)=kL r.tasks by rw[take_of_length_le aB]) <|
     let hc:=uF r.tasks
     let n1:=fM r.tasks 1
     let n2:=fM r.tasks 2
     let n3:=fM r.tasks 3
     let m1:=aF0 r.tasks 1
     let m2:=aF0 r.tasks 2
     let m3:=aF0 r.tasks 3
     let rest:=aU r.tasks 1+aU r.tasks 2+aU r.tasks 3=0
     let at5:(kL r.tasks)[5]? = some (aU r.tasks 5):=rfl
     let at6:(kL r.tasks)[6]? = some (aU r.tasks 6):=rfl
     let t13:¬ aU r.tasks 4=(r.tasks.length:Int)→¬ (aU r.tasks 5=1∧rest)→¬ (aU r.tasks 5=0∧(0:Int)<aU r.tasks 6∧rest)→D prog (fun a:Int=>a=cM r.tasks∧rgd [Rk.I a]):=fun q1 q2 q3=>
      .y at5 fun _ => .s (aU r.tasks 5=0)
       (fun q4 => .y at6 fun _ => .s (aU r.tasks 6=0) (fun q5 => .rt 1 ⟨(hc.2.2.2.1 q1 q2 q3 ⟨q4,q5⟩).symm,trivial⟩) (fun q5 => .rt 0 ⟨(hc.2.2.2.2 q1 q2 q3 (fun z=>q5 z.2)).symm,trivial⟩))
       (fun q4 => .rt 0 ⟨(hc.2.2.2.2 q1 q2 q3 (fun z=>q4 z.1)).symm,trivial⟩)
     let t11:¬ aU r.tasks 4=(r.tasks.length:Int)→¬ (aU r.tasks 5=1∧rest)→D prog (fun a:Int=>a=cM r.tasks∧rgd [Rk.I a]):=fun q1 q2=>
      .y at5 fun _ => .s (aU r.tasks 5=0)
       (fun q3 => .y at6 fun _ => .s ((0:Int)<aU r.tasks 6)
        (fun q4 => .s rest (fun q5 => .rt 4 ⟨(hc.2.2.1 q1 q2 ⟨q3,q4,q5⟩).symm,trivial⟩) (fun q5=>t13 q1 q2 (fun z=>q5 z.2.2)))
        (fun q4=>t13 q1 q2 (fun z=>q4 z.2.1)))
       (fun q3=>t13 q1 q2 (fun z=>q3 z.1))
     .y (show (kL r.tasks)[1]? = some (aU r.tasks 1) from rfl) fun _ => .y (show (kL r.tasks)[2]? = some (aU r.tasks 2) from rfl) fun _ => .p (aU r.tasks 1) (aU r.tasks 2) (h:=by unfold I64;omega) <| .y (show (kL r.tasks)[3]? = some (aU r.tasks 3) from rfl) fun _ => .p (aU r.tasks 1+aU r.tasks 2) (aU r.tasks 3) (h:=by unfold I64;omega) <|
     .y (show (kL r.tasks)[4]? = some (aU r.tasks 4) from rfl) fun _ => .s (aU r.tasks 4=(r.tasks.length:Int))
      (fun q1 => .rt 2 ⟨(hc.1 q1).symm,trivial⟩)
      (fun q1 => .y at5 fun _ => .s (aU r.tasks 5=1)
       (fun q2 => .s rest (fun q3 => .rt 3 ⟨(hc.2.1 q1 ⟨q2,q3⟩).symm,trivial⟩) (fun q3=>t11 q1 (fun z=>q3 z.2)))
       (fun q2=>t11 q1 (fun z=>q2 z.1))))) aD
structure RsJ (r:Run) (k:Nat):Prop where
 le:k≤r.tasks.length
 ok:∀ t∈r.tasks.take k,1≤t.state∧t.state≤6
theorem RsJ.start (r:Run):RsJ r 0:=⟨Nat.zero_le _,fun t h=>by simp at h⟩
theorem RsJ.next {r:Run} {k:Nat} {u:Task} (h:RsJ r k) (hu:r.tasks[k]? = some u) (ho:inB u.state 1 6=true):RsJ r (k+1):=by
 obtain ⟨hk,rfl⟩:=gsi_.1 hu
 refine ⟨hk,fun t ht => ?_⟩
 rw[take_add_one,getElem?_eq_getElem hk] at ht
 rcases mem_append.1 ht with h1 | h1
 ·exact h.ok t h1
 simp at h1;subst h1;exact inB_iff.1 ho
theorem RsJ.all {r:Run} {k:Nat} (h:RsJ r k) (hk:¬ (k:Int)<r.tasks.length):∀ t∈r.tasks,1≤t.state∧t.state≤6:=by
 have:=h.ok
 rwa [take_of_length_le aB] at this
theorem bE6 (r:Run):Ct1 prog 290 [.S r] [.B (eX r)]:=
 .one (eX r) (rk:=fun x=>[.B x])<|vc func290 (fun (hg:gin [Par.S r])=>let gr:=hg.1.1
  .c func138 (InV r.id 1 9999) fun _ => .v (inB r.id 1 9999) (fun h => .rt false ⟨aT1 (fun z=>vG h z.1),trivial⟩) (fun h1=>
  .c func325 (pJ r.plan) (hg:=⟨gr.2.1,trivial⟩) fun _ => .u (aK r.plan=0) (fun h => .rt false ⟨aT1 (fun z=>h z.2.1),trivial⟩) (fun h2=>
  .u ((r.tasks.length:Int)=r.plan.tasks) (fun h => .rt false ⟨aT1 (fun z=>h z.2.2),trivial⟩) (fun h3=>let hpt:=(rT h2).1
  .l (Γ:=Nat) (fun k=>RsJ r k) (fun k=>r.tasks.length - k) [1] [2] [0,1] (fun k=>[vI 3 k]) (fun _=>[]) 0 (h:=RsJ.start r) fun k hJ t=>let hk0:=hJ.le
   .s ((k:Int)<r.tasks.length)
    (fun h => .x r.tasks k (h:=by omega) fun u hu gu => .c func138 (InV u.state 1 6) fun _ => .v (inB u.state 1 6)
     (fun h4 => .rt false ⟨rk_st ⟨k,u,hu,vG h4⟩,trivial⟩)
     (fun h4 => .p k 1 (h:=by unfold I64;omega) <| .n t (k+1) [] (hJ.next hu h4) aB))
    (fun h=>let hst:=hJ.all h
     .l (Γ:=Nat) (fun k=>RkJ r k) (fun k=>r.tasks.length - k) [1] [2] [0,1] (fun k=>[vI 4 k]) (fun _=>[]) 0 (h:=RkJ.start r) fun k hJ t=>let hk0:=hJ.le
     .s ((k:Int)<r.tasks.length)
      (fun h => .ex (p:=fun u=>r.tasks[k]? = some u) ⟨_,getElem?_eq_getElem (show k<r.tasks.length by omega)⟩ fun u hu => .c func372 (TaskOk_s r k u hu h3 h2 (hst u (mem_of_getElem? hu))) (hg:=⟨gr,trivial⟩) fun _ => .v (pB (gC r (iR r (k:Int)) u))
       (fun h4 => .rt false ⟨cG1 hu h4,trivial⟩)
       (fun h4 => .p k 1 (h:=by unfold I64;omega) <| .n t (k+1) [] (hJ.next hu h4) aB))
      (fun h=>let hf:=bH0 hJ h
       let fin:∀ {b:Bool},((r.state=cM r.tasks∧¬ r.state=0)↔b=true)→b=eX r:=fun hz=>(bU5 ⟨inB_iff.1 h1,h2,h3⟩ hf.1 hz).symm
       .c func373 (cA6 r hst aB) (hg:=⟨gr,trivial⟩) fun _ => .s (r.state=cM r.tasks)
       (fun q1 => .rt (!decide (r.state=0)) ⟨fin (by simp only[Bool.not_eq_true',decide_eq_false_iff_not];exact ⟨fun z=>z.2,fun z=>⟨q1,z⟩⟩),trivial⟩)
       (fun q1 => .rt false ⟨fin (by simp only[Bool.false_eq_true,iff_false];exact fun z=>q1 z.1),trivial⟩))))))) aD
structure YoH (y:Yard):Prop where
 now:0≤y.now∧y.now≤999999980
 seq:1≤y.seq∧y.seq≤1000000000
 four:y.shelf.length=4
 eight:y.runs.length≤8
theorem yo_1 {y:Yard} (h:¬ (0≤y.now∧y.now≤999999980)):false=aM y:=by unfold aM;rw[nY (fun z=>h z.1)]
theorem yo_2 {y:Yard} (h:¬ (1≤y.seq∧y.seq≤1000000000)):false=aM y:=by unfold aM;rw[nY (fun z=>h z.2.1)]
theorem yo_3 {y:Yard} (h:¬ (y.shelf.length:Int)=4):false=aM y:=by unfold aM;rw[nY (fun z=>h (by have:=z.2.2.1;omega))]
theorem yo_4 {y:Yard} (h:(8:Int)<y.runs.length):false=aM y:=by unfold aM;rw[nY (fun z=>by have:=z.2.2.2.1;omega)]
theorem yo_5 {y:Yard} {l:List Entry} (hl:l∈y.shelf) (h:dV l=false):false=aM y:=by unfold aM;rw[nY (fun z=>by rw[z.2.2.2.2.1 l hl] at h;cases h)]
theorem yo_6 {y:Yard} {e:Entry} (he:e∈y.shelf.flatten) (h:inB e.seq 1 (y.seq - 1)=false):false=aM y:=by unfold aM;rw[nY (fun z=>vG h (z.2.2.2.2.2.1 e he))]
theorem yo_7 {y:Yard} (h:¬ (y.shelf.flatten.map (·.seq)).Nodup):false=aM y:=by unfold aM;rw[nY (fun z=>h z.2.2.2.2.2.2.1)]
theorem cB8 {y:Yard} {k:Nat} {r:Run} (hr:y.runs[k]? = some r) (h:¬ (eX r=true∧aH y r.id=(k:Int)∧gF y.now r y.shelf.flatten=true)):false=aM y:=by
 obtain ⟨hk,rfl⟩:=gsi_.1 hr
 unfold aM;rw[nY (fun z=>h (z.2.2.2.2.2.2.2.1 k hk hk))]
structure YsJ (y:Yard) (k:Nat):Prop where
 le:k≤y.shelf.length
 ok:∀ l∈y.shelf.take k,dV l=true
theorem YsJ.start (y:Yard):YsJ y 0:=⟨Nat.zero_le _,fun l h=>by simp at h⟩
theorem YsJ.next {y:Yard} {k:Nat} {l:List Entry} (h:YsJ y k) (hl:y.shelf[k]? = some l) (ho:dV l=true):YsJ y (k+1):=by
 obtain ⟨hk,rfl⟩:=gsi_.1 hl
 exact ⟨hk,bN1 hk h.ok ho⟩
theorem YsJ.all {y:Yard} {k:Nat} (h:YsJ y k) (hk:¬ (k:Int)<y.shelf.length):∀ l∈y.shelf,dV l=true:=by
 have:=h.ok
 rwa [take_of_length_le aB] at this
structure YeJ (y:Yard) (k:Nat):Prop where
 le:k≤y.shelf.flatten.length
 ok:∀ e∈y.shelf.flatten.take k,1≤e.seq∧e.seq≤y.seq - 1
 nd:((y.shelf.flatten.take k).map (·.seq)).Nodup
theorem YeJ.start (y:Yard):YeJ y 0:=⟨Nat.zero_le _,fun e h=>by simp at h,by simp⟩
theorem YeJ.next {y:Yard} {k:Nat} {e:Entry} (h:YeJ y k) (he:y.shelf.flatten[k]? = some e) (h1:inB e.seq 1 (y.seq - 1)=true) (h2:e.seq∉(y.shelf.flatten.take k).map (·.seq)):YeJ y (k+1):=by
 obtain ⟨hk,rfl⟩:=gsi_.1 he
 exact ⟨hk,bN1 hk h.ok (inB_iff.1 h1),nodup_map_step hk h.nd h2⟩
theorem cD1 {y:Yard} {k:Nat} {e:Entry} (he:y.shelf.flatten[k]? = some e) (h2:e.seq∈(y.shelf.flatten.take k).map (·.seq)):¬ (y.shelf.flatten.map (·.seq)).Nodup:=by
 obtain ⟨hk,rfl⟩:=gsi_.1 he
 exact not_nodup_map hk h2
theorem cD0 {es:List Entry} {k:Nat} {e:Entry} (he:es[k]? = some e):(es.take k).map (·.seq)++[e.seq]=(es.take (k+1)).map (·.seq):=by
 obtain ⟨hk,rfl⟩:=gsi_.1 he
 rw[aL1 _ hk]
theorem YeJ.all {y:Yard} {k:Nat} (h:YeJ y k) (hk:¬ (k:Int)<y.shelf.flatten.length):(∀ e∈y.shelf.flatten,1≤e.seq∧e.seq≤y.seq - 1)∧(y.shelf.flatten.map (·.seq)).Nodup:=by
 have h1:=h.ok
 have h2:=h.nd
 rw[take_of_length_le aB] at h1 h2
 exact ⟨h1,h2⟩
structure YrJ (y:Yard) (k:Nat):Prop where
 le:k≤y.runs.length
 ok:∀ j,j<k→aD9 y j
theorem YrJ.start (y:Yard):YrJ y 0:=⟨Nat.zero_le _,fun j h=>by omega⟩
theorem YrJ.next {y:Yard} {k:Nat} {r:Run} (h:YrJ y k) (hr:y.runs[k]? = some r) (h1:eX r=true) (h2:aH y r.id=(k:Int)) (h3:gF y.now r y.shelf.flatten=true):YrJ y (k+1):=by
 obtain ⟨hk,rfl⟩:=gsi_.1 hr
 refine ⟨hk,fun j hj => ?_⟩
 rcases Nat.lt_succ_iff_lt_or_eq.1 hj with h4 | rfl
 ·exact h.ok j h4
 exact fun _=>⟨h1,h2,h3⟩
theorem cC8 {y:Yard} {k:Nat} (hH:YoH y) (h5:∀ l∈y.shelf,dV l=true) (h6:(∀ e∈y.shelf.flatten,1≤e.seq∧e.seq≤y.seq - 1)∧(y.shelf.flatten.map (·.seq)).Nodup) (h:YrJ y k) (hk:¬ (k:Int)<y.runs.length):decide (dU y≤40)=aM y:=by
 unfold aM
 have h7:∀ j,j<y.runs.length→aD9 y j:=fun j hj=>h.ok j (by have:=h.le;omega)
 by_cases h8:dU y≤40
 ·rw[yT ⟨hH.now,hH.seq,hH.four,hH.eight,h5,h6.1,h6.2,h7,h8⟩];simpa using h8
 rw[nY (fun z=>h8 z.2.2.2.2.2.2.2.2)];simpa using h8
theorem bL8 {y:Yard} {k:Nat} {e:Entry} (he:y.shelf.flatten[k]? = some e):e∈y.shelf.flatten:=mem_of_getElem? he
theorem lF (y:Yard) (hw:y.wt≤1048576):Ct1 prog 118 [.S y] [.B (aM y)]:=
 .one (aM y) (rk:=fun x=>[.B x])<|vc func118 (fun (hg:gin [Par.S y])=>let gy:=hg.1.1
  let hb:=fH y hw
  .c func92 (bZ y.now 0 999999980) fun _ => .v (inB y.now 0 999999980) (fun h => .rt false ⟨yo_1 (vG h),trivial⟩) (fun h1=>
  .c func92 (bZ y.seq 1 1000000000) fun _ => .v (inB y.seq 1 1000000000) (fun h => .rt false ⟨yo_2 (vG h),trivial⟩) (fun h2=>
  .u ((y.shelf.length:Int)=4) (fun h => .rt false ⟨yo_3 h,trivial⟩) (fun h3=>
  .s ((8:Int)<y.runs.length) (fun h => .rt false ⟨yo_4 h,trivial⟩) (fun h4=>let hH:YoH y:=⟨inB_iff.1 h1,inB_iff.1 h2,by omega,by omega⟩
  let hseq:=inB_iff.1 h2
  .l (Γ:=Nat) (fun k=>YsJ y k) (fun k=>y.shelf.length - k) [1,34,35] [2] [0,1] (fun k=>[vI 36 k]) (fun _=>[]) 0 (h:=YsJ.start y) fun k hJ t=>let hk0:=hJ.le
   .s ((k:Int)<y.shelf.length)
    (fun h => .x y.shelf k (h:=by omega) fun l hl gl => .c func228 (ShelfOk_i l) fun _ => .v (dV l)
     (fun h5 => .rt false ⟨yo_5 (mem_of_getElem? hl) h5,trivial⟩)
     (fun h5 => .p k 1 (h:=by unfold I64;omega) <| .n t (k+1) [] (hJ.next hl h5) aB))
    (fun h=>let h5:=hJ.all h
     .c func229 (aZ2 y hw) (hg:=⟨gy,trivial⟩) fun _ => .w Int 3 6 <|
     .l (Γ:=Nat) (fun k=>YeJ y k) (fun k=>y.shelf.flatten.length - k) [1,5,46,47] [2,3] [0,1] (fun k=>[vR 6 4,vI 48 k]) (fun k=>[oR 4 3 ((y.shelf.flatten.take k).map (·.seq))]) 0 (h:=YeJ.start y) fun k hJ t=>let hk0:=hJ.le
     .s ((k:Int)<y.shelf.flatten.length)
      (fun h => .x y.shelf.flatten k (h:=by omega) fun e he ge => .m y.seq 1 (h:=by unfold I64;omega) <| .c func92 (bZ e.seq 1 (y.seq - 1)) fun _ => .v (inB e.seq 1 (y.seq - 1))
       (fun h6 => .rt false ⟨yo_6 (bL8 he) h6,trivial⟩)
       (fun h6 => .c func230 (cB5 ((y.shelf.flatten.take k).map (·.seq)) e.seq (by rw[length_map,length_take];omega)) fun _ => .s (e.seq∈(y.shelf.flatten.take k).map (·.seq))
        (fun h7 => .rt false ⟨yo_7 (cD1 he h7),trivial⟩)
        (fun h7 => .a ((y.shelf.flatten.take k).map (·.seq)) e.seq 8 (hy:=(show Entry.ok e from ge).2.1) (h63:=by rw[length_map,length_take];unfold maxLen;omega) (hby:=by rw[length_map,length_take];omega) <| .g 4 (cD0 he) <| .p k 1 (h:=by unfold I64;omega) <| .n t (k+1) [] (hJ.next he h6 h7) aB)))
      (fun h=>let h6:=hJ.all h
       .l (Γ:=Nat) (fun k=>YrJ y k) (fun k=>y.runs.length - k) [1,5,72,73] [2,3] [0,1] (fun k=>[vI 74 k]) (fun _=>[]) 0 (h:=YrJ.start y) fun k hJ t=>let hk0:=hJ.le
       .s ((k:Int)<y.runs.length)
        (fun h => .x y.runs k (h:=by omega) fun r hr gr => .c func231 (cA7 r) (hg:=⟨gr,trivial⟩) fun _ => .v (eX r)
         (fun h7 => .rt false ⟨cB8 hr (fun z=>by rw[z.1] at h7;cases h7),trivial⟩)
         (fun h7 => .c func232 (lG y r.id hw) (hg:=⟨gy,trivial⟩) fun _ => .u (aH y r.id=(k:Int))
          (fun h8 => .rt false ⟨cB8 hr (fun z=>h8 z.2.1),trivial⟩)
          (fun h8 => .c func233 (RunsOk_i y r y.shelf.flatten hH.now (aH7 h7).1 aB) (hg:=⟨gy,gr,trivial⟩) fun _ => .v (gF y.now r y.shelf.flatten)
           (fun h9 => .rt false ⟨cB8 hr (fun z=>by rw[z.2.2] at h9;cases h9),trivial⟩)
           (fun h9 => .p k 1 (h:=by unfold I64;omega) <| .n t (k+1) [] (hJ.next hr h7 h8 h9) aB))))
        (fun h => .c func234 (aY5 y hw) (hg:=⟨gy,trivial⟩) fun _ => .rt (decide (dU y≤40)) ⟨cC8 hH h5 h6 hJ h,trivial⟩)))))))) aD
noncomputable def wL (y:Yard):Bool:=pB (y.shelf.length=4∧(∀ l∈y.shelf,dV l=true)∧(∀ e∈y.shelf.flatten,1≤e.seq∧e.seq≤y.seq - 1)∧(y.shelf.flatten.map (·.seq)).Nodup)
theorem bU3 {y:Yard} (h:¬ (y.shelf.length=4∧(∀ l∈y.shelf,dV l=true)∧(∀ e∈y.shelf.flatten,1≤e.seq∧e.seq≤y.seq - 1)∧(y.shelf.flatten.map (·.seq)).Nodup)):false=wL y:=(nY h).symm
structure YdJ (es:List Entry) (k j:Nat) (e:Entry):Prop where
 le:j≤k
 no:e.seq∉(es.take j).map (·.seq)
theorem YdJ.start (es:List Entry) (k:Nat) (e:Entry):YdJ es k 0 e:=⟨Nat.zero_le _,by simp⟩
theorem YdJ.next {es:List Entry} {k j:Nat} {e f:Entry} (h:YdJ es k j e) (hj:j<k) (hf:es[j]? = some f) (hn:¬ f.seq=e.seq):YdJ es k (j+1) e:=by
 refine ⟨hj,?_⟩
 rw[← cD0 hf]
 intro hm
 rcases mem_append.1 hm with h1 | h1
 ·exact h.no h1
 simp at h1;exact hn h1.symm
theorem yd_hit {es:List Entry} {k j:Nat} {e f:Entry} (hj:j<k) (hf:es[j]? = some f) (hn:f.seq=e.seq):e.seq∈(es.take k).map (·.seq):=by
 obtain ⟨hk,rfl⟩:=gsi_.1 hf
 rw[← hn]
 exact mem_map.2 ⟨_,aB2 hk hj,rfl⟩
theorem Shelves_s (y:Yard) (hsq:1≤y.seq∧y.seq≤1000000000) (hw:y.wt≤1048576):Ct1 prog 289 [.S y] [.B (wL y)]:=
 .one (wL y) (rk:=fun x=>[.B x])<|vc func289 (fun (hg:gin [Par.S y])=>let gy:=hg.1.1
  let hb:=fH y hw
  .u ((y.shelf.length:Int)=4) (fun h => .rt false ⟨bU3 (fun z=>h (by have:=z.1;omega)),trivial⟩) (fun h3=>
  .l (Γ:=Nat) (fun k=>YsJ y k) (fun k=>y.shelf.length - k) [1] [2] [0,1] (fun k=>[vI 3 k]) (fun _=>[]) 0 (h:=YsJ.start y) fun k hJ t=>let hk0:=hJ.le
   .s ((k:Int)<y.shelf.length)
    (fun h => .x y.shelf k (h:=by omega) fun l hl gl => .c func371 (ShelfOk_s l) fun _ => .v (dV l)
     (fun h5 => .rt false ⟨bU3 (fun z=>by rw[z.2.1 l (mem_of_getElem? hl)] at h5;cases h5),trivial⟩)
     (fun h5 => .p k 1 (h:=by unfold I64;omega) <| .n t (k+1) [] (hJ.next hl h5) aB))
    (fun h=>let h5:=hJ.all h
     .c func292 (aZ1 y hw) (hg:=⟨gy,trivial⟩) fun _=>
     .l (Γ:=Nat) (fun k=>YeJ y k) (fun k=>y.shelf.flatten.length - k) [1,4] [2,3] [0,1] (fun k=>[vI 5 k]) (fun k=>[]) 0 (h:=YeJ.start y) fun k hJ t=>let hk0:=hJ.le
     .s ((k:Int)<y.shelf.flatten.length)
      (fun h => .x y.shelf.flatten k (h:=by omega) fun e he ge => .m y.seq 1 (h:=by unfold I64;omega) <| .c func138 (InV e.seq 1 (y.seq - 1)) fun _ => .v (inB e.seq 1 (y.seq - 1))
       (fun h6 => .rt false ⟨bU3 (fun z=>vG h6 (z.2.2.1 e (bL8 he))),trivial⟩)
       (fun h6 => .l (Γ:=Nat) (fun j=>YdJ y.shelf.flatten k j e) (fun j=>k - j) [1,4,5] [2,3] [0,1] (fun j=>[vI 6 j]) (fun _=>[]) 0 (h:=YdJ.start _ k e) fun j hq t2=>let hj0:=hq.le
        .s ((j:Int)<(k:Int))
         (fun h7 => .x y.shelf.flatten j (h:=by omega) fun f hf gf => .y he fun _ => .s (f.seq=e.seq)
          (fun h8 => .rt false ⟨bU3 (fun z=>cD1 he (yd_hit aB hf h8) z.2.2.2),trivial⟩)
          (fun h8 => .p j 1 (h:=by unfold I64;omega) <| .n t2 (j+1) [] (hq.next aB hf h8) aB))
         (fun h7 => .p k 1 (h:=by unfold I64;omega) <| .n t (k+1) [] (hJ.next he h6 (by have:=hq.no;rwa [show j=k by omega] at this)) aB)))
      (fun h => .rt true ⟨(yT ⟨by omega,h5,(hJ.all h).1,(hJ.all h).2⟩).symm,trivial⟩)))) aD
structure YqJ (y:Yard) (k:Nat):Prop where
 le:k≤y.runs.length
 ok:∀ j r,j<k→y.runs[j]? = some r→eX r=true∧aH y r.id=(j:Int)
theorem YqJ.start (y:Yard):YqJ y 0:=⟨Nat.zero_le _,fun j r h=>by omega⟩
theorem YqJ.next {y:Yard} {k:Nat} {r:Run} (h:YqJ y k) (hr:y.runs[k]? = some r) (h1:eX r=true) (h2:aH y r.id=(k:Int)):YqJ y (k+1):=by
 refine ⟨(gsi_.1 hr).1,fun j q hj hq => ?_⟩
 rcases Nat.lt_succ_iff_lt_or_eq.1 hj with h4 | rfl
 ·exact h.ok j q h4 hq
 rw[hr] at hq;cases hq;exact ⟨h1,h2⟩
theorem YqJ.all {y:Yard} {k:Nat} (h:YqJ y k) (hk:¬ (k:Int)<y.runs.length) {j:Nat} {r:Run} (hr:y.runs[j]? = some r):eX r=true∧aH y r.id=(j:Int):=
 h.ok j r (by have:=(gsi_.1 hr).1;omega) hr
theorem lE (y:Yard) (hw:y.wt≤1048576):Ct1 prog 185 [.S y] [.B (aM y)]:=
 .one (aM y) (rk:=fun x=>[.B x])<|vc func185 (fun (hg:gin [Par.S y])=>let gy:=hg.1.1
  let hb:=fH y hw
  .c func138 (InV y.now 0 999999980) fun _ => .v (inB y.now 0 999999980) (fun h => .rt false ⟨yo_1 (vG h),trivial⟩) (fun h1=>
  .c func138 (InV y.seq 1 1000000000) fun _ => .v (inB y.seq 1 1000000000) (fun h => .rt false ⟨yo_2 (vG h),trivial⟩) (fun h2=>
  .s ((8:Int)<y.runs.length) (fun h => .rt false ⟨yo_4 h,trivial⟩) (fun h4=>
  .c func289 (Shelves_s y (inB_iff.1 h2) hw) (hg:=⟨gy,trivial⟩) fun _ => .v (wL y) (fun h => .rt false ⟨by unfold aM;rw[nY (fun z=>cG6 h ⟨z.2.2.1,z.2.2.2.2.1,z.2.2.2.2.2.1,z.2.2.2.2.2.2.1⟩)],trivial⟩) (fun h3=>let hS:=pB_iff.1 h3
  let hH:YoH y:=⟨inB_iff.1 h1,inB_iff.1 h2,hS.1,by omega⟩
  .l (Γ:=Nat) (fun k=>YqJ y k) (fun k=>y.runs.length - k) [1] [2] [0,1] (fun k=>[vI 3 k]) (fun _=>[]) 0 (h:=YqJ.start y) fun k hJ t=>let hk0:=hJ.le
   .s ((k:Int)<y.runs.length)
    (fun h => .x y.runs k (h:=by omega) fun r hr gr => .c func290 (bE6 r) (hg:=⟨gr,trivial⟩) fun _ => .v (eX r)
     (fun h7 => .rt false ⟨cB8 hr (fun z=>by rw[z.1] at h7;cases h7),trivial⟩)
     (fun h7 => .y hr fun _ => .c func291 (mF y r.id hw) (hg:=⟨gy,trivial⟩) fun _ => .u (aH y r.id=(k:Int))
      (fun h8 => .rt false ⟨cB8 hr (fun z=>h8 z.2.1),trivial⟩)
      (fun h8 => .p k 1 (h:=by unfold I64;omega) <| .n t (k+1) [] (hJ.next hr h7 h8) aB)))
    (fun h => .c func292 (aZ1 y hw) (hg:=⟨gy,trivial⟩) fun _=>
     .l (Γ:=Nat) (fun k=>YrJ y k) (fun k=>y.runs.length - k) [1,4] [2,3] [0,1] (fun k=>[vI 5 k]) (fun _=>[]) 0 (h:=YrJ.start y) fun k hq t=>let hk0:=hq.le
     .s ((k:Int)<y.runs.length)
      (fun h6 => .x y.runs k (h:=by omega) fun r hr gr=>let hro:=hJ.all h hr
       .c func293 (RunsOk_s y r y.shelf.flatten hH.now (aH7 hro.1).1 aB) (hg:=⟨gy,gr,trivial⟩) fun _ => .v (gF y.now r y.shelf.flatten)
       (fun h9 => .rt false ⟨cB8 hr (fun z=>by rw[z.2.2] at h9;cases h9),trivial⟩)
       (fun h9 => .p k 1 (h:=by unfold I64;omega) <| .n t (k+1) [] (hq.next hr hro.1 hro.2 h9) aB))
      (fun h6 => .c func294 (aY4 y hw) (hg:=⟨gy,trivial⟩) fun _ => .rt (decide (dU y≤40)) ⟨cC8 hH hS.2.1 ⟨hS.2.2.1,hS.2.2.2⟩ hq h6,trivial⟩))))))) aD
def sH (nm:ByteArray):Bool:=inB (nm.size:Int) 1 10
structure fileOkP (fs:List File) (k:Nat) (f:File):Prop where
 name:sH f.name=true
 at_:fAt fs f.name=(k:Int)
 data:(f.data.size:Int)≤60000
 safe:inB f.safe 0 (f.data.size:Int)=true
structure diskP (d:Disk):Prop where
 four:d.files.length≤4
 ok:∀ k f,d.files[k]? = some f→fileOkP d.files k f
noncomputable def bY (d:Disk):Bool:=pB (diskP d)
theorem diskOk_iff {d:Disk}:bY d=true↔diskP d:=pB_iff
structure DkJ (d:Disk) (k:Nat):Prop where
 le:k≤d.files.length
 four:d.files.length≤4
 ok:∀ j f,j<k→d.files[j]? = some f→fileOkP d.files j f
theorem DkJ.start {d:Disk} (h:¬ (4:Int)<d.files.length):DkJ d 0:=⟨Nat.zero_le _,by omega,fun j f h=>by omega⟩
theorem DkJ.next {d:Disk} {k:Nat} {f:File} (h:DkJ d k) (hf:d.files[k]? = some f) (hok:fileOkP d.files k f):DkJ d (k+1):=by
 refine ⟨(gsi_.1 hf).1,h.four,fun j g hj hg => ?_⟩
 rcases Nat.lt_succ_iff_lt_or_eq.1 hj with h1 | rfl
 ·exact h.ok j g h1 hg
 rw[hf] at hg;cases hg;exact hok
theorem cK6 {d:Disk} (h:(4:Int)<d.files.length):false=bY d:=(nY fun hp=>by have:=hp.four;omega).symm
theorem sQ {d:Disk} {k:Nat} {f:File} (hf:d.files[k]? = some f) (h:¬ fileOkP d.files k f):false=bY d:=(nY fun hp=>h (hp.ok k f hf)).symm
theorem cK7 {d:Disk} {k:Nat} (h:DkJ d k) (hk:¬ (k:Int)<d.files.length):true=bY d:=(yT ⟨h.four,fun j f hf=>h.ok j f (by have:=(gsi_.1 hf).1;omega) hf⟩).symm
theorem zI {d:Disk} (h:bY d=true) {k:Nat} {f:File} (hf:d.files[k]? = some f):f.data.size≤60000:=by
 have:=((diskOk_iff.1 h).ok k f hf).data
 omega
theorem zH {d:Disk} (h:bY d=true):d.files.length≤4:=(diskOk_iff.1 h).four
/-! ### Writing -/
def wrK (d:Disk) (nm:ByteArray):Nat:=if fAt d.files nm<0 then d.files.length else (fAt d.files nm).toNat
def wrB (d:Disk) (nm:ByteArray):List File:=if fAt d.files nm<0 then d.files++[⟨nm,⟨#[]⟩,0⟩] else d.files
def qI (f:File) (more:ByteArray):File:=⟨f.name,f.data++more,f.safe⟩
def wrD (d:Disk) (nm more:ByteArray):Disk:=
 match (wrB d nm)[wrK d nm]? with
 | some f=>⟨(wrB d nm).set (wrK d nm) (qI f more)⟩
 | none=>d
theorem aF5 {d:Disk} {nm:ByteArray} (h:fAt d.files nm<0):wrB d nm=d.files++[⟨nm,⟨#[]⟩,0⟩]∧wrK d nm=d.files.length:=by
 unfold wrB wrK;rw[if_pos h,if_pos h];exact ⟨rfl,rfl⟩
theorem aF6 {d:Disk} {nm:ByteArray} (h:¬ fAt d.files nm<0):wrB d nm=d.files∧(wrK d nm:Int)=fAt d.files nm:=by
 unfold wrB wrK;rw[if_neg h,if_neg h];exact ⟨rfl,by omega⟩
theorem bF6 (d:Disk) (nm:ByteArray):∃ f,(wrB d nm)[wrK d nm]? = some f:=by
 by_cases h:fAt d.files nm<0
 ·obtain ⟨e1,e2⟩:=aF5 h
  rw[e1,e2]
  exact ⟨⟨nm,⟨#[]⟩,0⟩,by simp⟩
 obtain ⟨e1,e2⟩:=aF6 h
 obtain ⟨k,hk,hlt⟩:=xO h
 rw[e1]
 exact ⟨_,getElem?_eq_getElem aB⟩
theorem yG {d:Disk} {nm:ByteArray} {f:File} (more:ByteArray) (hf:(wrB d nm)[wrK d nm]? = some f):wrD d nm more=⟨(wrB d nm).set (wrK d nm) (qI f more)⟩:=by
 unfold wrD;rw[hf]
theorem oP {d:Disk} {nm:ByteArray} (h:bY d=true) {k:Nat} {f:File} (hf:(wrB d nm)[k]? = some f):f.data.size≤60000:=by
 unfold wrB at hf
 split at hf
 ·rcases Nat.lt_or_ge k d.files.length with h1 | h1
  ·rw[getElem?_append_left h1] at hf;exact zI h hf
  rw[getElem?_append_right h1] at hf
  have:=mem_of_getElem? hf
  simp only[mem_singleton] at this
  subst this
  exact Nat.zero_le _
 exact zI h hf
noncomputable def jF (d:Disk) (nm more:ByteArray):Disk×Bool:=if bY d=true∧bY (wrD d nm more)=true then (wrD d nm more,true) else (d,false)
theorem zV {d:Disk} {nm more:ByteArray} (h:¬ (bY d=true∧bY (wrD d nm more)=true)):(d,false)=jF d nm more:=by unfold jF;rw[if_neg h]
theorem bN6 {d:Disk} {nm more:ByteArray} (h1:bY d=true) (h2:bY (wrD d nm more)=true):(wrD d nm more,true)=jF d nm more:=by unfold jF;rw[if_pos ⟨h1,h2⟩]
theorem cD2 {d:Disk} {nm more:ByteArray} (h:(60000:Int)<more.size):¬ bY (wrD d nm more)=true:=by
 intro hk
 obtain ⟨f,hf⟩:=bF6 d nm
 rw[yG more hf] at hk
 have hlt:=(gsi_.1 hf).1
 have:=zI hk (k:=wrK d nm) (f:=qI f more) (by simp[hlt])
 unfold qI at this
 simp only[ByteArray.size_append] at this
 omega
/-! ### Syncing, cutting -/
def synF (f:File):File:=⟨f.name,f.data,(f.data.size:Int)⟩
def synD (d:Disk) (nm:ByteArray):Disk:=
 match d.files[(fAt d.files nm).toNat]? with
 | some f=>⟨d.files.set (fAt d.files nm).toNat (synF f)⟩
 | none=>d
noncomputable def bS9 (d:Disk) (nm:ByteArray):Disk×Bool:=if ¬ fAt d.files nm<0∧bY d=true then (synD d nm,true) else (d,false)
def bQ2 (f:File) (n:Nat):File:=⟨f.name,f.data.extract 0 n,(n:Int)⟩
def cutD (d:Disk) (nm:ByteArray) (n:Int):Disk:=
 match d.files[(fAt d.files nm).toNat]? with
 | some f=>⟨d.files.set (fAt d.files nm).toNat (bQ2 f n.toNat)⟩
 | none=>d
def bM6 (d:Disk) (nm:ByteArray):Int:=
 match d.files[(fAt d.files nm).toNat]? with
 | some f=>(f.data.size:Int)
 | none=>0
noncomputable def fC (d:Disk) (nm:ByteArray) (n:Int):Disk×Bool:=if ¬ fAt d.files nm<0∧bY d=true∧inB n 0 (bM6 d nm)=true then (cutD d nm n,true) else (d,false)
theorem aX1 {d:Disk} {nm:ByteArray} {n:Int} (h:¬ (¬ fAt d.files nm<0∧bY d=true∧inB n 0 (bM6 d nm)=true)):(d,false)=fC d nm n:=by unfold fC;rw[if_neg h]
theorem bQ3 {d:Disk} {nm:ByteArray} {k:Nat} {f:File} (hk:fAt d.files nm=(k:Int)) (hf:d.files[k]? = some f):bM6 d nm=(f.data.size:Int):=by
 unfold bM6
 rw[hk,Int.toNat_natCast,hf]
theorem cL0 {d:Disk} {nm:ByteArray} {n:Int} {k:Nat} {f:File} (hk:fAt d.files nm=(k:Int)) (hf:d.files[k]? = some f) (h:bY d=true) (hn:inB n 0 (f.data.size:Int)=true):((⟨d.files.set k (bQ2 f n.toNat)⟩:Disk),true)=fC d nm n:=by
 unfold fC cutD
 rw[if_pos ⟨by omega,h,by rw[bQ3 hk hf];exact hn⟩,hk,Int.toNat_natCast,hf]
/-! ### Moving -/
def mvF (f:File) (nm:ByteArray):File:=⟨nm,f.data,f.safe⟩
def safeOf (d:Disk) (nm:ByteArray):Int:=
 match d.files[(fAt d.files nm).toNat]? with
 | some f=>f.safe
 | none=>0
def mvG (fs:List File) (k:Nat) (to:ByteArray):Nat→List File
 | 0=>[]
 | i+1=>match fs[i]? with
  | some f=>if f.name=to then mvG fs k to i else mvG fs k to i++[if i=k then mvF f to else f]
  | none=>mvG fs k to i
theorem bW4 (fs:List File) (k:Nat) (to:ByteArray):∀ i,(mvG fs k to i).length≤i
 | 0=>Nat.le_refl _
 | i+1=>by
  have ih:=bW4 fs k to i
  show (match fs[i]? with | some f=>_ | none=>_:List File).length≤_
  split
  ·split
   ·omega
   ·simp only[length_append,length_singleton];omega
  ·omega
noncomputable def bW5 (d:Disk) (fr to:ByteArray):Disk×Bool:=if ¬ fAt d.files fr<0∧bY d=true∧¬ fr=to∧sH to=true∧safeOf d fr=bM6 d fr then (⟨mvG d.files (fAt d.files fr).toNat to d.files.length⟩,true) else (d,false)
theorem aV0 {α:Type} (p:α→Bool):∀ xs:List α,rW p xs=xs.findIdx? p
 | []=>rfl
 | x::xs=>by rw[findIdx?_cons,rW,aV0 p xs]
theorem cJ7 (fs:List File) (nm:ByteArray):ixI (rW (fun f:File=>decide (f.name=nm)) fs)=fAt fs nm:=by
 rw[aV0]
 unfold fAt
 cases fs.findIdx? (fun f=>decide (f.name=nm)) <;> rfl
structure FaJ (fs:List File) (nm:ByteArray) (k:Nat):Prop where
 le:k≤fs.length
 no:(fs.take k).any (fun f=>decide (f.name=nm))=false
theorem FaJ.next {fs:List File} {nm:ByteArray} {k:Nat} {f:File} (h:FaJ fs nm k) (hf:fs[k]? = some f) (hn:¬ f.name=nm):FaJ fs nm (k+1):=by
 obtain ⟨hk,rfl⟩:=gsi_.1 hf
 exact ⟨hk,vV hk h.no (by simp[hn])⟩
theorem FaJ.hit {fs:List File} {nm:ByteArray} {k:Nat} {f:File} (h:FaJ fs nm k) (hf:fs[k]? = some f) (hn:f.name=nm):ixI (some k)=fAt fs nm:=by
 obtain ⟨hk,rfl⟩:=gsi_.1 hf
 rw[← cJ7,qC hk h.no (by simp[hn])]
theorem FaJ.none_ {fs:List File} {nm:ByteArray} {k:Nat} (h:FaJ fs nm k) (hk:¬ (k:Int)<fs.length):ixI none=fAt fs nm:=by
 have:=h.no
 rw[show k=fs.length by have:=h.le;omega,take_length] at this
 rw[← cJ7,qD this]
theorem tW (d:Disk) (nm:ByteArray):Ct1 prog 94 [.S d,.T nm] [.I (fAt d.files nm)]:=
 .one (fAt d.files nm) (rk:=fun x=>[.I x])<|vc func94 (fun (hg:gin [Par.S d,Par.T nm])=>let hb:=hg.1.2.1
  .in_ (R':=fun o:Option Nat=>ixI o=fAt d.files nm) func192 (
   .la (Γ:=Nat) (FaJ d.files nm) (fun k=>d.files.length - k) (fun k=>[vI 8 k]) (fun _=>[]) 0 (h:=⟨Nat.zero_le _,rfl⟩) fun k hJ t=>let hl:=hJ.le
    .s ((k:Int)<d.files.length)
     (fun h => .x d.files k (h:=by omega) fun f hf gf => .in_ (R':=fun _:Unit=>True) func193 (.rt () trivial) fun _ _ => .s (f.name=nm)
      (fun h1 => .rt (some k) (hJ.hit hf h1))
      (fun h1 => .p k 1 (h:=by unfold I64;omega) <| .n t (k+1) [] (hJ.next hf h1) aB))
     (fun h => .rt none (hJ.none_ h))) fun o=>match o with
   | none=>fun ho => .rt (-1) ⟨ho,trivial⟩
   | some k=>fun ho => .rt (k:Int) ⟨ho,trivial⟩) aD
theorem zT (d:Disk) (nm:ByteArray) (hl:d.files.length≤1048576):Ct1 prog 86 [.S d,.T nm] [.T (cW d.files nm)]:=
 .one (cW d.files nm) (rk:=fun a=>[.T a])<|vc func86 (fun hg => .c func94 (tW d nm) fun _ => .s (fAt d.files nm<0)
  (fun h => .rt ⟨#[]⟩ ⟨by unfold cW;rw[if_pos h],trivial⟩)
  (fun h => .ex (xO h) fun k hk => .ex (p:=fun f=>d.files[k]? = some f) ⟨_,getElem?_eq_getElem hk.2⟩ fun f hf => .ye hf (fAt d.files nm) (fun _ => .rt f.data ⟨by
   unfold cW
   rw[if_neg h,hk.1,Int.toNat_natCast,hf];rfl,trivial⟩) (he:=hk.1))) aD
theorem aJ6:pK File:=fun _ _ _ _ h=>h.2.1
theorem NameOkI (nm:ByteArray):Ct1 prog 186 [.T nm] [.B (sH nm)]:=
 vc func186 (fun hg => .c func92 (bZ nm.size 1 10) fun _ => .rt () ⟨trivial,trivial⟩) aD
theorem NameOkS (nm:ByteArray):Ct1 prog 227 [.T nm] [.B (sH nm)]:=
 .one (sH nm) (rk:=fun a=>[.B a])<|vc func227 (fun hg => .s ((1:Int)≤nm.size)
  (fun h => .rt (decide ((nm.size:Int)≤10)) ⟨by unfold sH inB;simp[h],trivial⟩)
  (fun h => .rt false ⟨by unfold sH inB;simp[h],trivial⟩)) aD
theorem aF4 (d:Disk):Ct1 prog 84 [.S d] [.B (bY d)]:=
 .one (bY d) (rk:=fun a=>[.B a])<|vc func84 (fun hg => .s ((4:Int)<d.files.length)
  (fun h => .rt false ⟨cK6 h,trivial⟩)
  (fun h4 => .l (Γ:=Nat) (fun k=>DkJ d k) (fun k=>d.files.length - k) [1,10,11] [1] [0] (fun k=>[vI 12 k]) (fun _=>[]) 0 (h:=DkJ.start h4) fun k hJ t=>
   .s ((k:Int)<d.files.length)
    (fun h => .x d.files k (h:=by omega) fun f hf gf => .c func186 (NameOkI f.name) fun _ => .v (sH f.name)
     (fun h1 => .rt false ⟨sQ hf (fun h=>by rw[h.name] at h1;cases h1),trivial⟩)
     (fun h1 => .c func94 (tW d f.name) fun _ => .u (fAt d.files f.name=(k:Int))
      (fun h2 => .rt false ⟨sQ hf (fun h=>h2 h.at_),trivial⟩)
      (fun h2 => .s ((60000:Int)<f.data.size)
       (fun h3 => .rt false ⟨sQ hf (fun h=>by have:=h.data;omega),trivial⟩)
       (fun h3 => .c func92 (bZ f.safe 0 f.data.size) fun _ => .v (inB f.safe 0 (f.data.size:Int))
        (fun h5 => .rt false ⟨sQ hf (fun h=>by rw[h.safe] at h5;cases h5),trivial⟩)
        (fun h5 => .p k 1 (h:=by unfold I64;omega) <| .n t (k+1) [] (hJ.next hf ⟨h1,h2,by omega,h5⟩) aB)))))
    (fun h => .rt true ⟨cK7 hJ h,trivial⟩))) aD
theorem qM (d:Disk):Ct1 prog 116 [.S d] [.B (bY d)]:=
 .one (bY d) (rk:=fun a=>[.B a])<|vc func116 (fun hg => .s ((4:Int)<d.files.length)
  (fun h => .rt false ⟨cK6 h,trivial⟩)
  (fun h4 => .l (Γ:=Nat) (fun k=>DkJ d k) (fun k=>d.files.length - k) [1] [1] [0] (fun k=>[vI 3 k]) (fun _=>[]) 0 (h:=DkJ.start h4) fun k hJ t=>
   .s ((k:Int)<d.files.length)
    (fun h => .x d.files k (h:=by omega) fun f hf gf => .c func227 (NameOkS f.name) fun _ => .v (sH f.name)
     (fun h1 => .rt false ⟨sQ hf (fun h=>by rw[h.name] at h1;cases h1),trivial⟩)
     (fun h1 => .s ((60000:Int)<f.data.size)
      (fun h3 => .rt false ⟨sQ hf (fun h=>by have:=h.data;omega),trivial⟩)
      (fun h3 => .c func138 (InV f.safe 0 f.data.size) fun _ => .v (inB f.safe 0 (f.data.size:Int))
       (fun h5 => .rt false ⟨sQ hf (fun h=>by rw[h.safe] at h5;cases h5),trivial⟩)
       (fun h5 => .c func108 (tV d f.name aB) fun _ => .u (fAt d.files f.name=(k:Int))
        (fun h2 => .rt false ⟨sQ hf (fun h=>h2 h.at_),trivial⟩)
        (fun h2 => .p k 1 (h:=by unfold I64;omega) <| .n t (k+1) [] (hJ.next hf ⟨h1,h2,by omega,h5⟩) aB)))))
    (fun h => .rt true ⟨cK7 hJ h,trivial⟩))) aD
abbrev diskR (d:Disk):Rk := .cl [.r (inferInstance:Shape File) 131 d.files]
theorem qN (d:Disk) (hl:d.files.length≤1048600):Ct1 prog 89 [.S d] [diskR d]:=
 vc func89 (fun hg => .as (inferInstance:Shape File) aJ6 [] d.files 40 (by simp only[length_nil];unfold maxLen;omega) (by simp only[length_nil];omega) <| .rt () ⟨trivial,trivial⟩) aD
theorem jB (d:Disk) (hl:d.files.length≤1048600):Ct1 prog 107 [.S d] [diskR d]:=
 vc func107 (fun hg => .e File <| .as (inferInstance:Shape File) aJ6 [] d.files 40 (by simp only[length_nil];unfold maxLen;omega) (by simp only[length_nil];omega) <| .rt () ⟨trivial,trivial⟩) aD
theorem Co.one {P:Program} {F:FuncId} {ow:List Lr} {ag:Bool} {ps:List Par} {A:Type} {rk:A→List Rk} (a0:A) (h:Co P F ow ag ps (fun a=>a=a0) rk):Co P F ow ag ps (fun _:Unit=>True) (fun _=>rk a0):=
 ⟨fun w W0 cs r us rs hlv st hp=>(h.run w W0 cs r us rs hlv st hp).mono fun e W hh=>by
  obtain ⟨a,vs,rr,ha,hh⟩:=hh
  subst ha
  exact ⟨(),vs,rr,trivial,hh⟩⟩
theorem bX7 {P:Program} {t:TypeId} {s:ByteArray} {b:Int} (hu:P.underlying t=some .string) (h1:0≤b) (h2:b≤s.size):LOk P t (.string s) none (some (I b)) (.string (s.extract 0 b.toNat)):=by
 intro n f W Q K d ty pos af g xo lo hi hx hl hh k
 cases lo with
 | some lo=>cases hl
 | none=>
  cases hi with
  | none=>cases hh
  | some hi=>
   simp only[Option.map_some,Option.some.injEq] at hh
   refine Stp.run (v := .string (s.extract 0 b.toNat)) ?_ k
   have:=run_slice_string_h (P:=P) (w:=W) t s hu .i64 b h1 h2
   simp only[execOp,hx,hh,Sem.run_bind,Option.map_some,Option.map_none]
   rw[run_sliceAt_string (h:=hu)]
   have e:Sem.run P (Instr.slice t (Value.string s) none (some (I b)) none) W=Result.ok (Value.string (s.extract 0 b.toNat)) W:=by simpa using this
   rw[e];rfl
noncomputable def orF (a b:Disk):Disk×Bool:=if bY a=true then (a,true) else (b,false)
theorem cB4 (a b:Disk) (hl:b.files.length≤1048600):Co prog 194 [.o (inferInstance:Shape File) a.files] true [.S b] (fun _:Unit=>True) (fun _=>[.S (orF a b).1,.B (orF a b).2]):=
 .one (orF a b) (rk:=fun p=>[.S p.1,.B p.2])<|vco func194 (fun hg ho => .c func84 (aF4 a) fun _ => .v (bY a)
  (fun h => .c func89 (qN b hl) fun _ => .sh 5 <| .rt (b,false) ⟨by unfold orF;rw[if_neg (by rw[h];simp)],trivial,trivial⟩)
  (fun h => .rt (a,true) ⟨by unfold orF;rw[if_pos h],trivial,trivial⟩)) aD
theorem wr_or {d:Disk} {nm more:ByteArray} {f:File} (h:bY d=true) (hf:(wrB d nm)[wrK d nm]? = some f):orF ⟨(wrB d nm).set (wrK d nm) (qI f more)⟩ d=jF d nm more:=by
 rw[← yG more hf]
 unfold orF
 by_cases h2:bY (wrD d nm more)=true
 ·rw[if_pos h2];exact bN6 h h2
 rw[if_neg h2];exact zV fun e=>h2 e.2
theorem bJ3 {nm:ByteArray} (h:nm.size≤maxLen):File.ok ⟨nm,⟨#[]⟩,0⟩:=⟨h,by show 0≤_;unfold maxLen;omega,by show I64 0;unfold I64;omega⟩
theorem xX {f:File} {more:ByteArray} (gf:f.ok) (h1:f.data.size≤60000) (h2:more.size≤1000000000):File.ok (qI f more):=⟨gf.1,by show (f.data++more).size≤_;rw[ByteArray.size_append];unfold maxLen;omega,gf.2.2⟩
theorem bM7 {f:File} {n:Nat} (gf:f.ok) (h:n≤f.data.size):File.ok (bQ2 f n):=⟨gf.1,by have:=gf.2.1;show (f.data.extract 0 n).size≤_;rw[ByteArray.size_extract];omega,by have:=gf.2.1;show I64 (n:Int);unfold maxLen at this;unfold I64;omega⟩
theorem zB {a:Int} {n:Nat} (h:inB a 0 (n:Int)=true):0≤a∧a≤n:=by
 unfold inB at h
 simpa using h
theorem WriteFileI (d:Disk) (nm more:ByteArray) (hl:d.files.length≤1048576) (hn:nm.size≤maxLen) (hm:more.size≤1000000000):Ct1 prog 96 [.S d,.T nm,.T more] [.S (jF d nm more).1,.B (jF d nm more).2]:=
 .one (jF d nm more) (rk:=fun p=>[.S p.1,.B p.2])<|vc func96 (fun hg => .c func84 (aF4 d) fun _ => .v (bY d)
  (fun hb => .c func89 (qN d aB) fun _ => .sh 3 <| .rt (d,false) ⟨zV (fun e=>by rw[hb] at e;cases e.1),trivial,trivial⟩)
  (fun hd => .c func89 (qN d aB) fun _ => .c func94 (tW d nm) fun _ => .s (fAt d.files nm<0)
   (fun h => .a d.files ⟨nm,⟨#[]⟩,0⟩ 40 (hy:=bJ3 hn) (h63:=by unfold maxLen;omega) (hby:=by omega) <| .g 3 (aF5 h).1.symm <|
    .ex (p:=fun f=>(wrB d nm)[wrK d nm]? = some f) (bF6 d nm) fun f hf => .sh 3 <| .d 3 hf fun gf => .ie (wrK d nm) (d.files.length:Int) (he:=by rw[(aF5 h).2]) <| .pb .add (kZ f.data more (by have:=oP hd hf;omega)) <| .ie (wrK d nm) (d.files.length:Int) (he:=by rw[(aF5 h).2]) <|
     .wt 42 <| .f 3 (wrB d nm) (qI f more) (h:=xX gf (oP hd hf) hm) <| .co _ func194 (cB4 ⟨(wrB d nm).set (wrK d nm) (qI f more)⟩ d aB) ⟨trivial,trivial⟩ fun _ _ _ => .rt (orF ⟨(wrB d nm).set (wrK d nm) (qI f more)⟩ d) ⟨wr_or hd hf,trivial,trivial⟩)
   (fun h => .g 3 (aF6 h).1.symm <|
    .ex (p:=fun f=>(wrB d nm)[wrK d nm]? = some f) (bF6 d nm) fun f hf => .sh 3 <| .d 3 hf fun gf => .ie (wrK d nm) (fAt d.files nm) (he:=(aF6 h).2.symm) <| .pb .add (kZ f.data more (by have:=oP hd hf;omega)) <| .ie (wrK d nm) (fAt d.files nm) (he:=(aF6 h).2.symm) <|
     .wt 42 <| .f 3 (wrB d nm) (qI f more) (h:=xX gf (oP hd hf) hm) <| .co _ func194 (cB4 ⟨(wrB d nm).set (wrK d nm) (qI f more)⟩ d aB) ⟨trivial,trivial⟩ fun _ _ _ => .rt (orF ⟨(wrB d nm).set (wrK d nm) (qI f more)⟩ d) ⟨wr_or hd hf,trivial,trivial⟩))) aD
theorem WriteFileS (d:Disk) (nm more:ByteArray) (hl:d.files.length≤1048576) (hn:nm.size≤maxLen) (hm:more.size≤1000000000):Ct1 prog 112 [.S d,.T nm,.T more] [.S (jF d nm more).1,.B (jF d nm more).2]:=
 .one (jF d nm more) (rk:=fun p=>[.S p.1,.B p.2])<|vc func112 (fun hg => .c func107 (jB d aB) fun _ => .c func108 (tV d nm aB) fun _ => .s (fAt d.files nm<0)
   (fun h => .a d.files ⟨nm,⟨#[]⟩,0⟩ 40 (hy:=bJ3 hn) (h63:=by unfold maxLen;omega) (hby:=by omega) <| .m ((d.files++[(⟨nm,⟨#[]⟩,0⟩:File)]).length:Int) 1 (h:=by unfold I64;simp only[length_append,length_singleton];omega) <| .g 3 (aF5 h).1.symm <|
    .c func116 (qM d) fun _ => .v (bY d)
     (fun hb => .c func107 (jB d aB) fun _ => .sh 6 <| .rt (d,false) ⟨zV (fun e=>by rw[hb] at e;cases e.1),trivial,trivial⟩)
     (fun hd => .s ((60000:Int)<more.size)
      (fun h6 => .c func107 (jB d aB) fun _ => .sh 6 <| .rt (d,false) ⟨zV (fun e=>cD2 h6 e.2),trivial,trivial⟩)
      (fun h6 => .ex (p:=fun f=>(wrB d nm)[wrK d nm]? = some f) (bF6 d nm) fun f hf => .sh 3 <| .d 3 hf fun gf => .ie (wrK d nm) (((d.files++[(⟨nm,⟨#[]⟩,0⟩:File)]).length:Int) - 1) (he:=by rw[(aF5 h).2];simp only[length_append,length_singleton];omega) <| .pb .add (kZ f.data more (by have:=oP hd hf;omega)) <| .ie (wrK d nm) (((d.files++[(⟨nm,⟨#[]⟩,0⟩:File)]).length:Int) - 1) (he:=by rw[(aF5 h).2];simp only[length_append,length_singleton];omega) <|
       .wt 51 <| .f 3 (wrB d nm) (qI f more) (h:=xX gf (oP hd hf) hm) <| .c func116 (qM ⟨(wrB d nm).set (wrK d nm) (qI f more)⟩) fun _ => .v (bY ⟨(wrB d nm).set (wrK d nm) (qI f more)⟩)
        (fun hb => .c func107 (jB d aB) fun _ => .sh 7 <| .rt (d,false) ⟨zV (fun e=>by rw[yG more hf,hb] at e;cases e.2),trivial,trivial⟩)
        (fun h2 => .rt (⟨(wrB d nm).set (wrK d nm) (qI f more)⟩,true) ⟨by rw[← yG more hf] at h2 ⊢;exact bN6 hd h2,trivial,trivial⟩))))
   (fun h => .g 3 (aF6 h).1.symm <|
    .c func116 (qM d) fun _ => .v (bY d)
     (fun hb => .c func107 (jB d aB) fun _ => .sh 5 <| .rt (d,false) ⟨zV (fun e=>by rw[hb] at e;cases e.1),trivial,trivial⟩)
     (fun hd => .s ((60000:Int)<more.size)
      (fun h6 => .c func107 (jB d aB) fun _ => .sh 5 <| .rt (d,false) ⟨zV (fun e=>cD2 h6 e.2),trivial,trivial⟩)
      (fun h6 => .ex (p:=fun f=>(wrB d nm)[wrK d nm]? = some f) (bF6 d nm) fun f hf => .sh 3 <| .d 3 hf fun gf => .ie (wrK d nm) (fAt d.files nm) (he:=(aF6 h).2.symm) <| .pb .add (kZ f.data more (by have:=oP hd hf;omega)) <| .ie (wrK d nm) (fAt d.files nm) (he:=(aF6 h).2.symm) <|
       .wt 51 <| .f 3 (wrB d nm) (qI f more) (h:=xX gf (oP hd hf) hm) <| .c func116 (qM ⟨(wrB d nm).set (wrK d nm) (qI f more)⟩) fun _ => .v (bY ⟨(wrB d nm).set (wrK d nm) (qI f more)⟩)
        (fun hb => .c func107 (jB d aB) fun _ => .sh 6 <| .rt (d,false) ⟨zV (fun e=>by rw[yG more hf,hb] at e;cases e.2),trivial,trivial⟩)
        (fun h2 => .rt (⟨(wrB d nm).set (wrK d nm) (qI f more)⟩,true) ⟨by rw[← yG more hf] at h2 ⊢;exact bN6 hd h2,trivial,trivial⟩))))) aD
theorem CutFileI (d:Disk) (nm:ByteArray) (n:Int) (hl:d.files.length≤1048576):Ct1 prog 95 [.S d,.T nm,.I n] [.S (fC d nm n).1,.B (fC d nm n).2]:=
 .one (fC d nm n) (rk:=fun p=>[.S p.1,.B p.2])<|vc func95 (fun hg => .c func89 (qN d aB) fun _ => .c func94 (tW d nm) fun _ => .s (fAt d.files nm<0)
  (fun h => .sh 3 <| .rt (d,false) ⟨aX1 (fun e=>e.1 h),trivial,trivial⟩)
  (fun h => .c func84 (aF4 d) fun _ => .v (bY d)
   (fun hb => .sh 3 <| .rt (d,false) ⟨aX1 (fun e=>by rw[hb] at e;cases e.2.1),trivial,trivial⟩)
   (fun hd => .ex (p:=fun k:Nat=>fAt d.files nm=(k:Int)∧k<d.files.length) (xO h) fun k hk => .ex (p:=fun f=>d.files[k]? = some f) ⟨_,getElem?_eq_getElem hk.2⟩ fun f hf => .ye hf (fAt d.files nm) (he:=hk.1) fun gf => .c func92 (bZ n 0 f.data.size) fun _ => .v (inB n 0 (f.data.size:Int))
    (fun hb => .sh 3 <| .rt (d,false) ⟨aX1 (fun e=>by rw[bQ3 hk.1 hf,hb] at e;cases e.2.2),trivial,trivial⟩)
    (fun hc => .rv 2 (I (n.toNat:Int)) (show I n=I (n.toNat:Int) by rw[Int.toNat_of_nonneg (zB hc).1]) <| .sh 3 <| .d 3 hf fun gf => .ie k (fAt d.files nm) (he:=hk.1) <| .pl (bX7 (s:=f.data) (b:=(n.toNat:Int)) underlying9 aB (by have:=zB hc;omega)) <| .ie k (fAt d.files nm) (he:=hk.1) <| .ie k (fAt d.files nm) (he:=hk.1) <|
     .wt 54 <| .f 3 d.files (bQ2 f n.toNat) (h:=bM7 gf (by have:=zB hc;omega)) <| .rt (⟨d.files.set k (bQ2 f n.toNat)⟩,true) ⟨cL0 hk.1 hf hd hc,trivial,trivial⟩)))) aD
theorem CutFileS (d:Disk) (nm:ByteArray) (n:Int) (hl:d.files.length≤1048576):Ct1 prog 111 [.S d,.T nm,.I n] [.S (fC d nm n).1,.B (fC d nm n).2]:=
 .one (fC d nm n) (rk:=fun p=>[.S p.1,.B p.2])<|vc func111 (fun hg => .c func107 (jB d aB) fun _ => .c func108 (tV d nm aB) fun _ => .s (fAt d.files nm<0)
  (fun h => .sh 3 <| .rt (d,false) ⟨aX1 (fun e=>e.1 h),trivial,trivial⟩)
  (fun h => .c func116 (qM d) fun _ => .v (bY d)
   (fun hb => .sh 3 <| .rt (d,false) ⟨aX1 (fun e=>by rw[hb] at e;cases e.2.1),trivial,trivial⟩)
   (fun hd => .ex (p:=fun k:Nat=>fAt d.files nm=(k:Int)∧k<d.files.length) (xO h) fun k hk => .ex (p:=fun f=>d.files[k]? = some f) ⟨_,getElem?_eq_getElem hk.2⟩ fun f hf => .ye hf (fAt d.files nm) (he:=hk.1) fun gf => .c func138 (InV n 0 f.data.size) fun _ => .v (inB n 0 (f.data.size:Int))
    (fun hb => .sh 3 <| .rt (d,false) ⟨aX1 (fun e=>by rw[bQ3 hk.1 hf,hb] at e;cases e.2.2),trivial,trivial⟩)
    (fun hc => .rv 2 (I (n.toNat:Int)) (show I n=I (n.toNat:Int) by rw[Int.toNat_of_nonneg (zB hc).1]) <| .sh 3 <| .d 3 hf fun gf => .ie k (fAt d.files nm) (he:=hk.1) <| .pl (bX7 (s:=f.data) (b:=(n.toNat:Int)) underlying9 aB (by have:=zB hc;omega)) <| .ie k (fAt d.files nm) (he:=hk.1) <| .ie k (fAt d.files nm) (he:=hk.1) <|
     .wt 54 <| .f 3 d.files (bQ2 f n.toNat) (h:=bM7 gf (by have:=zB hc;omega)) <| .rt (⟨d.files.set k (bQ2 f n.toNat)⟩,true) ⟨cL0 hk.1 hf hd hc,trivial,trivial⟩)))) aD
theorem aT8:pK Edge:=fun _ _ _ _ h=>h.2.1
theorem aT7:pK Task:=fun _ _ _ _ h=>h.2.1
theorem dS {α:Type} {xs:List α} {k:Nat} {x:α} (h:xs[k]? = some x):xs.take k++[x]=xs.take (k+1):=by
 rw[take_add_one,h];rfl
theorem mI {α:Type} {xs:List α} {k:Nat} (h:¬ (k:Int)<xs.length):xs.take k=xs:=take_of_length_le aB
theorem gM (xs:List Entry) (hl:xs.length≤1048576):Ct1 prog 235 [.L xs] [.rw (inferInstance:Shape Entry) 243 xs]:=
 vc func235 (fun hg => .as (inferInstance:Shape Entry) gB [] xs 32 (by simp only[length_nil];unfold maxLen;omega) (by simp only[length_nil];omega) <| .rt () ⟨trivial,trivial⟩) aD
theorem wA (p:Plan) (hl:p.edges.length≤1048576):Ct1 prog 347 [.S p] [.S p]:=
 vc func347 (fun hg => .as (inferInstance:Shape Edge) aT8 [] p.edges 16 (by simp only[length_nil];unfold maxLen;omega) (by simp only[length_nil];omega) <| .rt () ⟨trivial,hg.1.1,trivial⟩) aD
theorem vZ (p:Plan) (hl:p.edges.length≤1048576):Ct1 prog 366 [.S p] [.S p]:=
 vc func366 (fun hg => .e Edge <| .as (inferInstance:Shape Edge) aT8 [] p.edges 16 (by simp only[length_nil];unfold maxLen;omega) (by simp only[length_nil];omega) <| .rt () ⟨trivial,hg.1.1,trivial⟩) aD
theorem zU (r:Run) (hl:r.plan.edges.length≤1048576) (ht:r.tasks.length≤1048576):Ct1 prog 236 [.S r] [.S r]:=
 vc func236 (fun (hg:gin [Par.S r]) => .c func347 (wA r.plan hl) (hg:=⟨hg.1.1.2.1,trivial⟩) fun _ => .as (inferInstance:Shape Task) aT7 [] r.tasks 32 (by simp only[length_nil];unfold maxLen;omega) (by simp only[length_nil];omega) <| .rt () ⟨trivial,hg.1.1,trivial⟩) aD
theorem nQ (r:Run) (hl:r.plan.edges.length≤1048576) (ht:r.tasks.length≤1048576):Ct1 prog 288 [.S r] [.S r]:=
 vc func288 (fun (hg:gin [Par.S r]) => .c func366 (vZ r.plan hl) (hg:=⟨hg.1.1.2.1,trivial⟩) fun _ => .e Task <| .as (inferInstance:Shape Task) aT7 [] r.tasks 32 (by simp only[length_nil];unfold maxLen;omega) (by simp only[length_nil];omega) <| .rt () ⟨trivial,hg.1.1,trivial⟩) aD
theorem lO {y:Yard} {k:Nat} {l:List Entry} (h:y.shelf[k]? = some l) (hw:y.wt≤1048576):l.length≤1048576:=by have:=tO h hw;omega
theorem fV (y:Yard) (hw:y.wt≤1048576):Ct1 prog 119 [.S y] [.S y]:=
 vc func119 (fun (hg:gin [Par.S y])=>let hb:=fH y hw
  .wt 14 <| .r0 (inferInstance:Shape (List Entry)) 217 <| .l (Γ:=Nat) (fun k=>k≤y.shelf.length) (fun k=>y.shelf.length - k) [1,2,3,14,15] [2,3] [0,1] (fun k=>[vI 16 k]) (fun k=>[oR 5 217 (y.shelf.take k),oB 4 [.v (I y.now),.v (I y.seq),.r 5,.v (.slice none 0 0)]]) 0 fun k hk t=>
   .s ((k:Int)<y.shelf.length)
    (fun h => .x y.shelf k (h:=by omega) fun l hl gl => .c func235 (gM l (lO hl hw)) fun _ => .a (y.shelf.take k) l 24 (hy:=trivial) (h63:=by rw[length_take];unfold maxLen;omega) (hby:=by rw[length_take];omega) <| .g 5 (dS hl) <| .p k 1 (h:=by unfold I64;omega) <| .n t (k+1) [])
    (fun h => .g 5 (mI h) <| .r0 (inferInstance:Shape Run) 55 <| .l (Γ:=Nat) (fun k=>k≤y.runs.length) (fun k=>y.runs.length - k) [1,2,3,29,30] [2,3] [0,1] (fun k=>[vI 31 k]) (fun k=>[oR 5 217 y.shelf,oR 6 55 (y.runs.take k),oB 4 [.v (I y.now),.v (I y.seq),.r 5,.r 6]]) 0 fun k hk t=>
     .s ((k:Int)<y.runs.length)
      (fun h2 => .x y.runs k (h:=by omega) fun r hr gr=>let hrl:=jT hw hr
       .c func236 (zU r hrl.2.2 hrl.2.1) (hg:=⟨gr,trivial⟩) fun _ => .a (y.runs.take k) r 96 (hy:=gr) (h63:=by rw[length_take];unfold maxLen;omega) (hby:=by rw[length_take];omega) <| .g 6 (dS hr) <| .p k 1 (h:=by unfold I64;omega) <| .n t (k+1) [])
      (fun h2 => .g 6 (mI h2) <| .rt () ⟨trivial,hg.1.1,trivial⟩))) aD
theorem fU (y:Yard) (hw:y.wt≤1048576):Ct1 prog 184 [.S y] [.S y]:=
 vc func184 (fun (hg:gin [Par.S y])=>let hb:=fH y hw
  .wt 4 <| .r0 (inferInstance:Shape (List Entry)) 217 <| .l (Γ:=Nat) (fun k=>k≤y.shelf.length) (fun k=>y.shelf.length - k) [1,2,3] [2,3] [0,1] (fun k=>[vI 4 k]) (fun k=>[oR 5 217 (y.shelf.take k),oB 4 [.v (I y.now),.v (I y.seq),.r 5,.v (.slice none 0 0)]]) 0 fun k hk t=>
   .s ((k:Int)<y.shelf.length)
    (fun h => .x y.shelf k (h:=by omega) fun l hl gl=>let hll:=lO hl hw
     .e Entry <| .as (inferInstance:Shape Entry) gB [] l 32 (by simp only[length_nil];unfold maxLen;omega) (by simp only[length_nil];omega) <| .a (y.shelf.take k) l 24 (hy:=trivial) (h63:=by rw[length_take];unfold maxLen;omega) (hby:=by rw[length_take];omega) <| .g 5 (dS hl) <| .p k 1 (h:=by unfold I64;omega) <| .n t (k+1) [])
    (fun h => .g 5 (mI h) <| .r0 (inferInstance:Shape Run) 55 <| .l (Γ:=Nat) (fun k=>k≤y.runs.length) (fun k=>y.runs.length - k) [1,2,3] [2,3] [0,1] (fun k=>[vI 5 k]) (fun k=>[oR 5 217 y.shelf,oR 6 55 (y.runs.take k),oB 4 [.v (I y.now),.v (I y.seq),.r 5,.r 6]]) 0 fun k hk t=>
     .s ((k:Int)<y.runs.length)
      (fun h2 => .x y.runs k (h:=by omega) fun r hr gr=>let hrl:=jT hw hr
       .c func288 (nQ r hrl.2.2 hrl.2.1) (hg:=⟨gr,trivial⟩) fun _ => .a (y.runs.take k) r 96 (hy:=gr) (h63:=by rw[length_take];unfold maxLen;omega) (hby:=by rw[length_take];omega) <| .g 6 (dS hr) <| .p k 1 (h:=by unfold I64;omega) <| .n t (k+1) [])
      (fun h2 => .g 6 (mI h2) <| .rt () ⟨trivial,hg.1.1,trivial⟩))) aD
def num (n:Int):Bool:=inB n 0 1000000000
def zP:Plan:=⟨0,0,0,0,[]⟩
def mT (d:Deed):Deed:=
 if d.kind=1 then ⟨d.kind,d.run,d.plan,0,0,0,0⟩
 else if d.kind=2 then ⟨d.kind,0,zP,0,0,d.worker,d.draw⟩
 else if d.kind=3∨d.kind=4 then ⟨d.kind,d.run,zP,d.task,d.try_,0,0⟩
 else if d.kind=6∨d.kind=7 then ⟨d.kind,d.run,zP,0,0,0,0⟩
 else ⟨d.kind,0,zP,0,0,0,0⟩
def dB (es:List Edge):List Int:=es.flatMap (fun e=>[e.from_,e.to_])
theorem edgeNums_s {es:List Edge} {k:Nat} (h:k<es.length):dB (es.take (k+1))=dB (es.take k)++[es[k].from_,es[k].to_]:=by
 unfold dB
 rw[take_succ_eq_append_getElem h,flatMap_append];rfl
theorem nI:∀ (es:List Edge),(dB es).length=2*es.length
 | []=>rfl
 | e::es=>by have:=nI es;unfold dB at *;simp only[flatMap_cons,length_append,length_cons,length_nil,this];omega
def bK (d:Deed):List Int:=
 if d.kind=1 then [d.run,d.plan.prio,d.plan.most,d.plan.wait,d.plan.tasks,(d.plan.edges.length:Int)]++dB d.plan.edges
 else if d.kind=2 then [d.worker,d.draw]
 else if d.kind=3∨d.kind=4 then [d.run,d.task,d.try_]
 else if d.kind=6∨d.kind=7 then [d.run]
 else []
theorem rO (d:Deed):(bK d).length≤6+2*d.plan.edges.length:=by
 unfold bK
 have:=nI d.plan.edges
 split
 ·simp only[length_append,length_cons,length_nil,this];omega
 split
 ·simp;omega
 split
 ·simp;omega
 split <;> simp <;> omega
def bA (d:Deed):Bool:=inB d.kind 1 8 && decide (d.plan.edges.length≤31) && eqB d (mT d) && !((bK d).any (fun n => !num n))
def gQ (p:Plan):Bool:=num p.prio && num p.most && num p.wait && num p.tasks && decide (p.edges.length≤31) && !(p.edges.any (fun e:Edge => !(num e.from_ && num e.to_)))
def kD (p:Plan):Bool:=decide (p.prio=0) && decide (p.most=0) && decide (p.wait=0) && decide (p.tasks=0) && decide (p.edges.length=0)
theorem qX {p:Plan}:kD p=true↔p=zP:=by
 cases p
 simp[kD,zP,length_eq_zero_iff,and_assoc]
theorem any_edges (es:List Edge):(dB es).any (fun n => !num n)=es.any (fun e:Edge => !(num e.from_ && num e.to_)):=by
 unfold dB
 rw[any_flatMap]
 congr 1
 funext e
 simp
theorem deedOk_0 {d:Deed} (h:inB d.kind 1 8=false):bA d=false:=by unfold bA;rw[h];rfl
theorem tX:num 0=true:=rfl
theorem num_len {n:Nat} (h:n≤31):num (n:Int)=true:=by unfold num;rw[inB_iff'];omega
theorem bM5 {d:Deed} (h:d.kind=1):bA d=(num d.run && decide (d.task=0) && decide (d.try_=0) && decide (d.worker=0) && decide (d.draw=0) && gQ d.plan):=by
 obtain ⟨k,r,p,t,y,w,dr⟩:=d
 simp only at h
 subst h
 have h1:eqB (⟨1,r,p,t,y,w,dr⟩:Deed) (mT ⟨1,r,p,t,y,w,dr⟩)=(decide (t=0) && decide (y=0) && decide (w=0) && decide (dr=0)):=by
  rw[Bool.eq_iff_iff];simp[eqB,mT,and_assoc]
 have h2:inB (⟨1,r,p,t,y,w,dr⟩:Deed).kind 1 8=true:=rfl
 unfold bA gQ
 rw[h1,h2]
 by_cases hl:p.edges.length≤31
 ·have hn:=num_len hl
  simp only[bK,if_true,any_append,any_cons,any_nil,any_edges,hn,decide_eq_true hl,Bool.not_true,Bool.or_false,Bool.not_or,Bool.not_not,Bool.true_and,Bool.and_true]
  ac_rfl
 simp[hl]
theorem bM4 {d:Deed} (h:d.kind=2):bA d=(decide (d.run=0) && decide (d.task=0) && decide (d.try_=0) && num d.worker && num d.draw && kD d.plan):=by
 obtain ⟨k,r,p,t,y,w,dr⟩:=d
 simp only at h
 subst h
 rw[Bool.eq_iff_iff]
 simp only[bA,mT,bK,Bool.and_eq_true,qX,eqB,decide_eq_true_eq,Deed.mk.injEq]
 simp[inB]
 constructor
 ·rintro ⟨⟨h1,h2,h3,h4,h5⟩,h6⟩;simp_all
 rintro h;simp_all[zP]
theorem xU {d:Deed} (h:d.kind=3∨d.kind=4):bA d=(num d.run && num d.task && num d.try_ && decide (d.worker=0) && decide (d.draw=0) && kD d.plan):=by
 obtain ⟨k,r,p,t,y,w,dr⟩:=d
 simp only at h
 rw[Bool.eq_iff_iff]
 have h1:¬ k=1:=by omega
 have h2:¬ k=2:=by omega
 have h8:inB k 1 8=true:=by rw[inB_iff'];omega
 simp only[bA,mT,bK,Bool.and_eq_true,qX,eqB,decide_eq_true_eq,Deed.mk.injEq,if_neg h1,if_neg h2,if_pos h,h8]
 simp
 constructor
 ·rintro ⟨⟨h1,h2,h3,h4⟩,h6⟩;simp_all
 rintro h;simp_all[zP]
theorem xS {d:Deed} (h:d.kind=6∨d.kind=7):bA d=(num d.run && decide (d.task=0) && decide (d.try_=0) && decide (d.worker=0) && decide (d.draw=0) && kD d.plan):=by
 obtain ⟨k,r,p,t,y,w,dr⟩:=d
 simp only at h
 rw[Bool.eq_iff_iff]
 have h1:¬ k=1:=by omega
 have h2:¬ k=2:=by omega
 have h3:¬ (k=3∨k=4):=by omega
 have h8:inB k 1 8=true:=by rw[inB_iff'];omega
 simp only[bA,mT,bK,Bool.and_eq_true,qX,eqB,decide_eq_true_eq,Deed.mk.injEq,if_neg h1,if_neg h2,if_neg h3,if_pos h,h8]
 simp
 constructor
 ·rintro ⟨⟨h1,h2,h3,h4⟩,h6⟩;simp_all
 rintro h;simp_all[zP]
theorem xT {d:Deed} (h:d.kind=5∨d.kind=8):bA d=(decide (d.run=0) && decide (d.task=0) && decide (d.try_=0) && decide (d.worker=0) && decide (d.draw=0) && kD d.plan):=by
 obtain ⟨k,r,p,t,y,w,dr⟩:=d
 simp only at h
 rw[Bool.eq_iff_iff]
 have h1:¬ k=1:=by omega
 have h2:¬ k=2:=by omega
 have h3:¬ (k=3∨k=4):=by omega
 have h4:¬ (k=6∨k=7):=by omega
 have h8:inB k 1 8=true:=by rw[inB_iff'];omega
 simp only[bA,mT,bK,Bool.and_eq_true,qX,eqB,decide_eq_true_eq,Deed.mk.injEq,if_neg h1,if_neg h2,if_neg h3,if_neg h4,h8]
 simp
 constructor
 ·rintro ⟨h1,h2,h3,h4⟩;simp_all
 rintro h;simp_all[zP]

def rN (d:Deed):Bool:=((((((((!decide (d.kind=2)) && (!decide (d.kind=5))) && (!decide (d.kind=8))) && (!(num d.run))) || ((!(((!decide (d.kind=2)) && (!decide (d.kind=5))) && (!decide (d.kind=8)))) && (!decide (d.run=0)))) || (((decide (d.kind=3)) || (decide (d.kind=4))) && ((!(num d.task)) || (!(num d.try_))))) || ((!((decide (d.kind=3)) || (decide (d.kind=4)))) && ((!decide (d.task=0)) || (!decide (d.try_=0))))) || ((decide (d.kind=2)) && ((!(num d.worker)) || (!(num d.draw))))) || ((!decide (d.kind=2)) && ((!decide (d.worker=0)) || (!decide (d.draw=0))))
theorem deedS_f {d:Deed} (hi:1≤d.kind∧d.kind≤8) (he:rN d=true):bA d=false:=by
 unfold rN at he
 have hkk:d.kind=1∨d.kind=2∨d.kind=3∨d.kind=4∨d.kind=5∨d.kind=6∨d.kind=7∨d.kind=8:=by omega
 rcases hkk with hk | hk | hk | hk | hk | hk | hk | hk
 ·rw[bM5 hk];simp[hk] at he ⊢;first | done | grind | (simp_all[tX];done)
 ·rw[bM4 hk];simp[hk] at he ⊢;first | done | grind | (simp_all[tX];done)
 ·rw[xU (.inl hk)];simp[hk] at he ⊢;first | done | grind | (simp_all[tX];done)
 ·rw[xU (.inr hk)];simp[hk] at he ⊢;first | done | grind | (simp_all[tX];done)
 ·rw[xT (.inl hk)];simp[hk] at he ⊢;first | done | grind | (simp_all[tX];done)
 ·rw[xS (.inl hk)];simp[hk] at he ⊢;first | done | grind | (simp_all[tX];done)
 ·rw[xS (.inr hk)];simp[hk] at he ⊢;first | done | grind | (simp_all[tX];done)
 rw[xT (.inr hk)];simp[hk] at he ⊢;first | done | grind | (simp_all[tX];done)
theorem tq1_ {P:Prop} (h:P:=by
 unfold rN at he
 have hkk:d.kind=1∨d.kind=2∨d.kind=3∨d.kind=4∨d.kind=5∨d.kind=6∨d.kind=7∨d.kind=8:=by omega
 rcases hkk with hk | hk | hk | hk | hk | hk | hk | hk
 ·rw[bM5 hk];simp[hk] at he hx ⊢;first | done | grind | (simp_all[tX];done)
 ·rw[bM4 hk];simp[hk] at he hx ⊢;first | done | grind | (simp_all[tX];done)
 ·rw[xU (.inl hk)];simp[hk] at he hx ⊢;first | done | grind | (simp_all[tX];done)
 ·rw[xU (.inr hk)];simp[hk] at he hx ⊢;first | done | grind | (simp_all[tX];done)
 ·rw[xT (.inl hk)];simp[hk] at he hx ⊢;first | done | grind | (simp_all[tX];done)
 ·rw[xS (.inl hk)];simp[hk] at he hx ⊢;first | done | grind | (simp_all[tX];done)
 ·rw[xS (.inr hk)];simp[hk] at he hx ⊢;first | done | grind | (simp_all[tX];done)
 rw[xT (.inr hk)];simp[hk] at he hx ⊢;first | done | grind | (simp_all[tX];done)):P:=h
theorem deedS_1 {d:Deed} (hi:1≤d.kind∧d.kind≤8) (he:rN d=false) (hx:d.kind=1):bA d=gQ d.plan:=by exact tq1_
theorem deedS_n {d:Deed} (hi:1≤d.kind∧d.kind≤8) (he:rN d=false) (hx:¬ d.kind=1):bA d=kD d.plan:=by exact tq1_
theorem eqS_len {α:Type} [DecidableEq α] {xs ys:List α} (h:¬ (xs.length:Int)=ys.length):false=eqB xs ys:=(aC1 fun e=>h (by rw[e])).symm
theorem eqS_at {α:Type} [DecidableEq α] {xs ys:List α} {k:Nat} {x y:α} (hx:xs[k]? = some x) (hy:ys[k]? = some y) (h:eqB x y=false):false=eqB xs ys:=(aC1 fun e=>by rw[e,hy] at hx;cases hx;rw[lB rfl] at h;cases h).symm
theorem eqS_to {α:Type} [DecidableEq α] {xs ys:List α} {k:Nat} {x y:α} (h:xs.take k=ys.take k) (hx:xs[k]? = some x) (hy:ys[k]? = some y) (he:eqB x y=true):xs.take (k+1)=ys.take (k+1):=by
 rw[← dS hx,← dS hy,h,eqB_iff.1 he]
theorem eqS_all {α:Type} [DecidableEq α] {xs ys:List α} {k:Nat} (hl:(xs.length:Int)=ys.length) (h:xs.take k=ys.take k) (hk:¬ (k:Int)<xs.length):xs=ys:=by
 rw[take_of_length_le aB,take_of_length_le aB] at h;exact h
theorem eqS_yes {α:Type} [DecidableEq α] {xs ys:List α} {k:Nat} (hl:(xs.length:Int)=ys.length) (h:xs.take k=ys.take k) (hk:¬ (k:Int)<xs.length):true=eqB xs ys:=(lB (eqS_all hl h hk)).symm
theorem EqualEdge_i (xs ys:List Edge):Ct1 prog 403 [.L xs,.L ys] [.B (eqB xs ys)]:=
 .one (eqB xs ys) (rk:=fun b=>[.B b])<|vc func403 (fun (hg:gin [Par.L xs,Par.L ys])=>let h1:=hg.1
  .u ((xs.length:Int)=ys.length)
   (fun h => .rt false ⟨eqS_len h,trivial⟩)
   (fun h => .l (Γ:=Nat) (fun k=>k≤xs.length∧xs.take k=ys.take k) (fun k=>xs.length - k) [0,1,12] [] [0,1] (fun k=>[vI 13 k]) (fun k=>[]) 0 (h:=⟨Nat.zero_le _,rfl⟩) fun k hk t => .s ((k:Int)<xs.length)
    (fun h2 => .x xs k (h:=by omega) fun e he ge => .x ys k (h:=by omega) fun f hf gf => .qe (bA4 e f) aD <| .v (eqB e f)
     (fun h3 => .rt false ⟨eqS_at he hf h3,trivial⟩)
     (fun h3 => .p k 1 (h:=by unfold I64;omega) <| .n t (k+1) [] (h1:=⟨by omega,eqS_to hk.2 he hf h3⟩)))
    (fun h2 => .rt true ⟨eqS_yes h hk.2 h2,trivial⟩))) aD
theorem bJ5 {α:Type} [DecidableEq α] {x y:α} {p:Prop} (h:¬ p) (k:x=y→p):false=eqB x y:=(aC1 fun e=>h (k e)).symm
theorem eq_of {α β:Type} [DecidableEq α] [DecidableEq β] {x y:α} {a b:β} (f:a=b→x=y) (g:x=y→a=b):eqB a b=eqB x y:=by unfold eqB;exact decide_eq_decide.2 ⟨f,g⟩
theorem SamePlan_i (x y:Plan):Ct1 prog 364 [.S x,.S y] [.B (eqB x y)]:=
 .one (eqB x y) (rk:=fun b=>[.B b])<|vc func364 (fun (hg:gin [Par.S x,Par.S y])=>
  .s (x.prio=y.prio) (fun h0 => .s (x.most=y.most) (fun h1 => .s (x.wait=y.wait) (fun h2 => .s (x.tasks=y.tasks)
   (fun h3 => .c func403 (EqualEdge_i x.edges y.edges) fun _ => .rt (eqB x.edges y.edges) ⟨eq_of (bN3 h0 h1 h2 h3) (fun e=>by rw[e]),trivial⟩)
   (fun h => .rt false ⟨bJ5 h (fun e=>by rw[e]),trivial⟩)) (fun h => .rt false ⟨bJ5 h (fun e=>by rw[e]),trivial⟩)) (fun h => .rt false ⟨bJ5 h (fun e=>by rw[e]),trivial⟩)) (fun h => .rt false ⟨bJ5 h (fun e=>by rw[e]),trivial⟩)) aD
theorem usedOf_1 (d:Deed) (h:d.kind=1):Cb prog 265 [.S d] inferInstance (⟨d.kind,d.run,d.plan,0,0,0,0⟩:Deed):=
 vcb func265 (fun (hg:gin [Par.S d]) => .kt (d.kind=1) h <| .rt () (show Deed.ok _ from by have g:d.ok:=hg.1.1;unfold Deed.ok Plan.ok I64 at *;simp only;omega)) aD
theorem usedOf_2 (d:Deed) (h:d.kind=2):Cb prog 265 [.S d] inferInstance (⟨d.kind,0,⟨0,0,0,0,[]⟩,0,0,d.worker,d.draw⟩:Deed):=
 vcb func265 (fun (hg:gin [Par.S d]) => .kf (d.kind=1) aB <| .kt (d.kind=2) h <| .rt () (show Deed.ok _ from by have g:d.ok:=hg.1.1;unfold Deed.ok Plan.ok I64 at *;simp only;omega)) aD
theorem usedOf_3 (d:Deed) (h:d.kind=3):Cb prog 265 [.S d] inferInstance (⟨d.kind,d.run,⟨0,0,0,0,[]⟩,d.task,d.try_,0,0⟩:Deed):=
 vcb func265 (fun (hg:gin [Par.S d]) => .kf (d.kind=1) aB <| .kf (d.kind=2) aB <| .kt (d.kind=3) h <| .rt () (show Deed.ok _ from by have g:d.ok:=hg.1.1;unfold Deed.ok Plan.ok I64 at *;simp only;omega)) aD
theorem usedOf_4 (d:Deed) (h:d.kind=4):Cb prog 265 [.S d] inferInstance (⟨d.kind,d.run,⟨0,0,0,0,[]⟩,d.task,d.try_,0,0⟩:Deed):=
 vcb func265 (fun (hg:gin [Par.S d]) => .kf (d.kind=1) aB <| .kf (d.kind=2) aB <| .kf (d.kind=3) aB <| .kt (d.kind=4) h <| .rt () (show Deed.ok _ from by have g:d.ok:=hg.1.1;unfold Deed.ok Plan.ok I64 at *;simp only;omega)) aD
theorem usedOf_6 (d:Deed) (h:d.kind=6):Cb prog 265 [.S d] inferInstance (⟨d.kind,d.run,⟨0,0,0,0,[]⟩,0,0,0,0⟩:Deed):=
 vcb func265 (fun (hg:gin [Par.S d]) => .kf (d.kind=1) aB <| .kf (d.kind=2) aB <| .kf (d.kind=3) aB <| .kf (d.kind=4) aB <| .kt (d.kind=6) h <| .rt () (show Deed.ok _ from by have g:d.ok:=hg.1.1;unfold Deed.ok Plan.ok I64 at *;simp only;omega)) aD
theorem usedOf_7 (d:Deed) (h:d.kind=7):Cb prog 265 [.S d] inferInstance (⟨d.kind,d.run,⟨0,0,0,0,[]⟩,0,0,0,0⟩:Deed):=
 vcb func265 (fun (hg:gin [Par.S d]) => .kf (d.kind=1) aB <| .kf (d.kind=2) aB <| .kf (d.kind=3) aB <| .kf (d.kind=4) aB <| .kf (d.kind=6) aB <| .kt (d.kind=7) h <| .rt () (show Deed.ok _ from by have g:d.ok:=hg.1.1;unfold Deed.ok Plan.ok I64 at *;simp only;omega)) aD
theorem usedOf_0 (d:Deed) (h:¬ (d.kind=1∨d.kind=2∨d.kind=3∨d.kind=4∨d.kind=6∨d.kind=7)):Cb prog 265 [.S d] inferInstance (⟨d.kind,0,⟨0,0,0,0,[]⟩,0,0,0,0⟩:Deed):=
 vcb func265 (fun (hg:gin [Par.S d]) => .kf (d.kind=1) aB <| .kf (d.kind=2) aB <| .kf (d.kind=3) aB <| .kf (d.kind=4) aB <| .kf (d.kind=6) aB <| .kf (d.kind=7) aB <| .rt () (show Deed.ok _ from by have g:d.ok:=hg.1.1;unfold Deed.ok Plan.ok I64 at *;simp only;omega)) aD
theorem UsedOf_i (d:Deed):Cb prog 265 [.S d] inferInstance (mT d):=by
 unfold mT
 split
 ·next h=>exact usedOf_1 d h
 split
 ·next h=>exact usedOf_2 d h
 split
 ·next h=>
  rcases h with h | h
  ·exact usedOf_3 d h
  exact usedOf_4 d h
 split
 ·next h=>
  rcases h with h | h
  ·exact usedOf_6 d h
  exact usedOf_7 d h
 next h1 h2 h3 h4=>exact usedOf_0 d aB
theorem SameDeed_i (x y:Deed):Ct1 prog 264 [.S x,.S y] [.B (eqB x y)]:=
 .one (eqB x y) (rk:=fun b=>[.B b])<|vc func264 (fun (hg:gin [Par.S x,Par.S y])=>
  let no:∀ {p:Prop},¬ p→(x=y→p)→D prog (fun b:Bool=>b=eqB x y∧rgd [Rk.B b]):=fun h k => .rt false ⟨bJ5 h k,trivial⟩
  .s (x.kind=y.kind) (fun h0 => .s (x.run=y.run) (fun h1 => .c func364 (SamePlan_i x.plan y.plan) (hg:=⟨(show x.ok from hg.1.1).2.2.1,(show y.ok from hg.2.1.1).2.2.1,trivial⟩) fun _ => .sb (eqB x.plan y.plan) (fun h2 => .s (x.task=y.task) (fun h3 => .s (x.try_=y.try_) (fun h4 => .s (x.worker=y.worker)
   (fun h5 => .rt (decide (x.draw=y.draw)) ⟨by unfold eqB;exact decide_eq_decide.2 ⟨fun h6=>Deed_ext h0 h1 (eqB_iff.1 h2) h3 h4 h5 h6,fun e=>by rw[e]⟩,trivial⟩)
   (fun h=>no h (fun e=>by rw[e]))) (fun h=>no h (fun e=>by rw[e]))) (fun h=>no h (fun e=>by rw[e]))) (fun h=>no (p:=eqB x.plan y.plan=true) (by rw[h];simp) (fun e=>by rw[e];exact lB rfl))) (fun h=>no h (fun e=>by rw[e]))) (fun h=>no h (fun e=>by rw[e]))) aD
theorem bZ0 {es:List Edge} {k:Nat} {e:Edge} (h:es[k]? = some e):dB (es.take k)++[e.from_,e.to_]=dB (es.take (k+1)):=by
 obtain ⟨hk,rfl⟩:=gsi_.1 h
 exact (edgeNums_s hk).symm
abbrev kR (d:Deed):List Int:=[d.run,d.plan.prio,d.plan.most,d.plan.wait,d.plan.tasks,(d.plan.edges.length:Int)]
theorem good6 {d:Deed} (g:d.ok) (hl:d.plan.edges.length≤1048576):∀ z∈kR d,Dsh.good z:=by
 intro z hz
 have g1:d.ok:=g
 unfold Deed.ok Plan.ok at g1
 simp only[kR,mem_cons,not_mem_nil,or_false] at hz
 rcases hz with rfl | rfl | rfl | rfl | rfl | rfl
 ·exact g1.2.1
 ·exact g1.2.2.1.1
 ·exact g1.2.2.1.2.1
 ·exact g1.2.2.1.2.2.1
 ·exact g1.2.2.1.2.2.2
 show I64 _;unfold I64;omega
theorem cH0 {d:Deed} (h1:¬ d.kind=1) (h2:¬ d.kind=2) (h3:¬ (d.kind=3∨d.kind=4)) (h4:¬ (d.kind=6∨d.kind=7)):[]=bK d:=by unfold bK;rw[if_neg h1,if_neg h2,if_neg h3,if_neg h4]
theorem cH1 {d:Deed} (h:d.kind=6∨d.kind=7):[d.run]=bK d:=by unfold bK;rw[if_neg aB,if_neg aB,if_neg aB,if_pos h]
theorem cH2 {d:Deed} (h:d.kind=3∨d.kind=4):[d.run,d.task,d.try_]=bK d:=by unfold bK;rw[if_neg aB,if_neg aB,if_pos h]
theorem cH3 {d:Deed} (h:d.kind=2):[d.worker,d.draw]=bK d:=by unfold bK;rw[if_neg aB,if_pos h]
theorem cH4 {d:Deed} (h:d.kind=1) {k:Nat} (hk:¬ (k:Int)<d.plan.edges.length):kR d++dB (d.plan.edges.take k)=bK d:=by unfold bK;rw[if_pos h,take_of_length_le aB]
theorem vY (d:Deed) (hl:d.plan.edges.length≤1048576):Ct1 prog 204 [.S d] [.L (bK d)]:=
 .one (bK d) (rk:=fun l=>[.L l])<|vc func204 (fun (hg:gin [Par.S d])=>let g:d.ok:=hg.1.1
  let gi:Dsh Int:=inferInstance
  .s (d.kind=1)
   (fun h => .lr gi gA 28 (kR d) (by simp) (good6 g hl) <| .l (Γ:=Nat) (fun k=>k≤d.plan.edges.length) (fun k=>d.plan.edges.length - k) [777777,28] [777777] [777777] (fun k=>[vI 33 k,vR 3 2]) (fun k=>[oR 2 3 (kR d++dB (d.plan.edges.take k))]) 0 fun k hk t=>
    let hln:(kR d++dB (d.plan.edges.take k)).length≤2097158:=(by rw[length_append,nI,length_take];simp only[length_cons,length_nil];omega)
    .s ((k:Int)<d.plan.edges.length)
    (fun h2 => .x d.plan.edges k (h:=by omega) fun e he ge => .ap gi (kR d++dB (d.plan.edges.take k)) [e.from_,e.to_] (bE4 (show e.ok from ge).1 (show e.ok from ge).2) 8 (by simp only[length_cons,length_nil];unfold maxLen;omega) (by simp only[length_cons,length_nil];omega) <| .g 2 (show kR d++dB (d.plan.edges.take k)++[e.from_,e.to_]=kR d++dB (d.plan.edges.take (k+1)) by rw[append_assoc,bZ0 he]) <| .p k 1 (h:=by unfold I64;omega) <| .n t (k+1) [])
    (fun h2 => .rt (kR d++dB (d.plan.edges.take k)) ⟨cH4 h h2,trivial⟩))
   (fun h1 => .s (d.kind=2)
    (fun h => .li gi 52 [d.worker,d.draw] (by simp) (by simp) (bE4 g.2.2.2.2.2.1 g.2.2.2.2.2.2) <| .rt [d.worker,d.draw] ⟨cH3 h,trivial⟩)
    (fun h2=>let three:d.kind=3∨d.kind=4→D prog (fun l:List Int=>l=bK d∧rgd [Rk.L l]):=fun h => .li gi 62 [d.run,d.task,d.try_] (by simp) (by simp) (fun z hz=>(mem_cons.1 hz).elim (fun e=>by rw[e];exact g.2.1) (bE4 g.2.2.2.1 g.2.2.2.2.1 z)) <| .rt [d.run,d.task,d.try_] ⟨cH2 h,trivial⟩
     let one:d.kind=6∨d.kind=7→D prog (fun l:List Int=>l=bK d∧rgd [Rk.L l]):=fun h => .li gi 68 [d.run] (by simp) (by simp) (all1 g.2.1) <| .rt [d.run] ⟨cH1 h,trivial⟩
     .s (d.kind=3) (fun h=>three (.inl h)) (fun h3 => .s (d.kind=4) (fun h=>three (.inr h)) (fun h4 => .s (d.kind=6) (fun h=>one (.inl h)) (fun h6 => .s (d.kind=7) (fun h=>one (.inr h)) (fun h7 => .rt [] ⟨cH0 h1 h2 aB aB,trivial⟩))))))) aD
theorem any_to {xs:List Int} {p:Int→Bool} {k:Nat} {n:Int} (h:xs[k]? = some n) (h0:(xs.take k).any p=false) (hn:p n=false):(xs.take (k+1)).any p=false:=by
 rw[← dS h,any_append,h0];simp[hn]
theorem any_hit {xs:List Int} {p:Int→Bool} {k:Nat} {n:Int} (h:xs[k]? = some n) (hn:p n=true):xs.any p=true:=any_eq_true.2 ⟨n,mem_of_getElem? h,hn⟩
theorem dok_a {d:Deed} (h:inB d.kind 1 8=false):false=bA d:=(deedOk_0 h).symm
theorem dok_b {d:Deed} (h:(31:Int)<d.plan.edges.length):false=bA d:=by unfold bA;rw[decide_eq_false (show ¬ d.plan.edges.length≤31 by omega)];simp
theorem dok_c {d:Deed} (h:eqB d (mT d)=false):false=bA d:=by unfold bA;rw[h];simp
theorem dok_d {d:Deed} (h:(bK d).any (fun n => !num n)=true):false=bA d:=by unfold bA;rw[h];simp
theorem dok_e {d:Deed} (h1:inB d.kind 1 8=true) (h2:¬ (31:Int)<d.plan.edges.length) (h3:eqB d (mT d)=true) {k:Nat} (h4:((bK d).take k).any (fun n => !num n)=false) (hk:¬ (k:Int)<(bK d).length):true=bA d:=by
 rw[take_of_length_le aB] at h4
 unfold bA;rw[h1,h3,h4,decide_eq_true (show d.plan.edges.length≤31 by omega)];rfl
theorem bN5 (d:Deed):Ct1 prog 151 [.S d] [.B (bA d)]:=
 .one (bA d) (rk:=fun b=>[.B b])<|vc func151 (fun (hg:gin [Par.S d])=>let g:d.ok:=hg.1.1
  .c func92 (bZ d.kind 1 8) fun _ => .v (inB d.kind 1 8) (fun h1 => .rt false ⟨dok_a h1,trivial⟩) (fun h1 => .s ((31:Int)<d.plan.edges.length) (fun h2 => .rt false ⟨dok_b h2,trivial⟩) (fun h2=>
   .cb inferInstance (mT d) _ func265 (UsedOf_i d) ⟨g,trivial⟩ fun gu => .c func264 (SameDeed_i d (mT d)) (hg:=⟨g,gu,trivial⟩) fun _ => .v (eqB d (mT d)) (fun h3 => .rt false ⟨dok_c h3,trivial⟩) (fun h3=>
   let hnl:=rO d
   .c func204 (vY d aB) (hg:=⟨g,trivial⟩) fun _ => .la (Γ:=Nat) (fun k=>k≤(bK d).length∧((bK d).take k).any (fun n => !num n)=false) (fun k=>(bK d).length - k) (fun k=>[vI 26 k]) (fun k=>[]) 0 (h:=⟨Nat.zero_le _,rfl⟩) fun k hk t => .s ((k:Int)<(bK d).length)
    (fun h4 => .x (bK d) k (h:=by omega) fun n hn gn => .c func92 (bZ n 0 1000000000) fun _ => .v (inB n 0 1000000000)
     (fun h5 => .rt false ⟨dok_d (any_hit hn (by show (!inB n 0 1000000000)=true;rw[h5];rfl)),trivial⟩)
     (fun h5 => .p k 1 (h:=by unfold I64;omega) <| .n t (k+1) [] (h1:=⟨by omega,any_to hn hk.2 (by show (!inB n 0 1000000000)=false;rw[h5];rfl)⟩)))
    (fun h4 => .rt true ⟨dok_e h1 h2 h3 hk.2 h4,trivial⟩))))) aD
theorem yC (n:Int):Ct1 prog 241 [.I n] [.B (num n)]:=
 vc func241 (fun hg => .c func138 (InV n 0 1000000000) fun _ => .rt () ⟨trivial,trivial⟩) aD
theorem NoPlan_s (p:Plan):Ct1 prog 324 [.S p] [.B (kD p)]:=
 .one (kD p) (rk:=fun b=>[.B b])<|vc func324 (fun hg => .s (p.prio=0) (fun h0 => .s (p.most=0) (fun h1 => .s (p.wait=0) (fun h2 => .s (p.tasks=0)
  (fun h3 => .rt (decide ((p.edges.length:Int)=0)) ⟨by unfold kD;simp[h0,h1,h2,h3],trivial⟩)
  (fun h => .rt false ⟨by unfold kD;simp[h],trivial⟩)) (fun h => .rt false ⟨by unfold kD;simp[h],trivial⟩)) (fun h => .rt false ⟨by unfold kD;simp[h],trivial⟩)) (fun h => .rt false ⟨by unfold kD;simp[h],trivial⟩)) aD
theorem anyE_to {xs:List Edge} {p:Edge→Bool} {k:Nat} {n:Edge} (h:xs[k]? = some n) (h0:(xs.take k).any p=false) (hn:p n=false):(xs.take (k+1)).any p=false:=by
 rw[← dS h,any_append,h0];simp[hn]
theorem PlanNum_s (p:Plan):Ct1 prog 323 [.S p] [.B (gQ p)]:=
 .one (gQ p) (rk:=fun b=>[.B b])<|vc func323 (fun (hg:gin [Par.S p])=>let bad:gQ p=false→D prog (fun b:Bool=>b=gQ p∧rgd [Rk.B b]):=fun h => .rt false ⟨h.symm,trivial⟩
  .c func241 (yC p.prio) fun _ => .v (num p.prio) (fun h0=>bad (by unfold gQ;simp[h0])) (fun h0=>
  .c func241 (yC p.most) fun _ => .v (num p.most) (fun h1=>bad (by unfold gQ;simp[h1])) (fun h1=>
  .c func241 (yC p.wait) fun _ => .v (num p.wait) (fun h2=>bad (by unfold gQ;simp[h2])) (fun h2=>
  .c func241 (yC p.tasks) fun _ => .v (num p.tasks) (fun h3=>bad (by unfold gQ;simp[h3])) (fun h3 => .s ((31:Int)<p.edges.length) (fun h4=>bad (by unfold gQ;rw[decide_eq_false (show ¬ p.edges.length≤31 by omega)];simp)) (fun h4=>
   .la (Γ:=Nat) (fun k=>k≤p.edges.length∧(p.edges.take k).any (fun e:Edge => !(num e.from_ && num e.to_))=false) (fun k=>p.edges.length - k) (fun k=>[vI 3 k]) (fun k=>[]) 0 (h:=⟨Nat.zero_le _,rfl⟩) fun k hk t => .s ((k:Int)<p.edges.length)
    (fun h5 => .x p.edges k (h:=by omega) fun e he ge => .c func241 (yC e.from_) fun _ => .v (num e.from_) (fun h6=>bad (by unfold gQ;rw[any_eq_true.2 ⟨e,mem_of_getElem? he,by simp[h6]⟩];simp)) (fun h6 => .y he fun _ => .c func241 (yC e.to_) fun _ => .v (num e.to_) (fun h7=>bad (by unfold gQ;rw[any_eq_true.2 ⟨e,mem_of_getElem? he,by simp[h7]⟩];simp)) (fun h7=>
     .p k 1 (h:=by unfold I64;omega) <| .n t (k+1) [] (h1:=⟨by omega,anyE_to he hk.2 (by simp[h6,h7])⟩))))
    (fun h5 => .rt true ⟨by have h9:=hk.2;rw[take_of_length_le aB] at h9;unfold gQ;rw[h9,h0,h1,h2,h3,decide_eq_true (show p.edges.length≤31 by omega)];rfl,trivial⟩))))))) aD
theorem bU4 {d:Deed} {b3 b4 b5:Bool} (h3:decide (d.kind=2)=b3) (h4:(decide (d.kind=3) || decide (d.kind=4))=b4) (h5:(((!decide (d.kind=2)) && (!decide (d.kind=5))) && (!decide (d.kind=8)))=b5) :
  rN d=((((((b5 && (!(num d.run))) || ((!b5) && (!decide (d.run=0)))) || (b4 && ((!(num d.task)) || (!(num d.try_))))) || ((!b4) && ((!decide (d.task=0)) || (!decide (d.try_=0))))) || (b3 && ((!(num d.worker)) || (!(num d.draw))))) || ((!b3) && ((!decide (d.worker=0)) || (!decide (d.draw=0))))):=by
 unfold rN;rw[h5,h4,h3]
noncomputable def twoD {R:Bool→Prop} (b:Bool) (x y:Int) (bad:(b=true∧(num x=false∨num y=false)∨b=false∧(¬ x=0∨¬ y=0))→D prog R) (k:(b=true→num x=true∧num y=true)→(b=false→x=0∧y=0)→D prog R):D prog R:=
 match b,bad,k with
 | true,bad,k => .c func241 (yC x) fun _ => .v (num x) (fun h=>bad (.inl ⟨rfl,.inl h⟩)) (fun h => .c func241 (yC y) fun _ => .v (num y) (fun h2=>bad (.inl ⟨rfl,.inr h2⟩)) (fun h2=>k (fun _=>⟨h,h2⟩) (fun z=>by cases z)))
 | false,bad,k => .u (x=0) (fun h=>bad (.inr ⟨rfl,.inl h⟩)) (fun h => .u (y=0) (fun h2=>bad (.inr ⟨rfl,.inr h2⟩)) (fun h2=>k (fun z=>by cases z) (fun _=>⟨h,h2⟩)))
noncomputable def oneD {R:Bool→Prop} (b:Bool) (x:Int) (bad:(b=true∧num x=false∨b=false∧¬ x=0)→D prog R) (k:(b=true→num x=true)→(b=false→x=0)→D prog R):D prog R:=
 match b,bad,k with
 | true,bad,k => .c func241 (yC x) fun _ => .v (num x) (fun h=>bad (.inl ⟨rfl,h⟩)) (fun h=>k (fun _=>h) (fun z=>by cases z))
 | false,bad,k => .u (x=0) (fun h=>bad (.inr ⟨rfl,h⟩)) (fun h=>k (fun z=>by cases z) (fun _=>h))
theorem one_se {b:Bool} {x:Int} (h1:b=true→num x=true) (h2:b=false→x=0):(b && (!(num x)) || (!b) && (!decide (x=0)))=false:=by
 cases b with
 | true=>simp[h1 rfl]
 | false=>simp[h2 rfl]
theorem aZ6 {b:Bool} {x y:Int} (h1:b=true→num x=true∧num y=true) (h2:b=false→x=0∧y=0):(b && ((!(num x)) || (!(num y))))=false∧((!b) && ((!decide (x=0)) || (!decide (y=0))))=false:=by
 cases b with
 | true=>simp[h1 rfl]
 | false=>simp[h2 rfl]
theorem one_bad {b:Bool} {x:Int} (h:b=true∧num x=false∨b=false∧¬ x=0):(b && (!(num x)) || (!b) && (!decide (x=0)))=true:=by
 rcases h with ⟨rfl,h⟩ | ⟨rfl,h⟩ <;> simp[h]
theorem bR9 {b:Bool} {x y:Int} (h:b=true∧(num x=false∨num y=false)∨b=false∧(¬ x=0∨¬ y=0)):(b && ((!(num x)) || (!(num y))))=true∨((!b) && ((!decide (x=0)) || (!decide (y=0))))=true:=by
 rcases h with ⟨rfl,h | h⟩ | ⟨rfl,h | h⟩ <;> simp[h]
noncomputable def dkD (d:Deed) (g:d.ok) (hi:1≤d.kind∧d.kind≤8) (b3 b4 b5:Bool) (h3:decide (d.kind=2)=b3) (h4:(decide (d.kind=3) || decide (d.kind=4))=b4) (h5:(((!decide (d.kind=2)) && (!decide (d.kind=5))) && (!decide (d.kind=8)))=b5):D prog (fun b:Bool=>b=bA d∧rgd [Rk.B b]):=
 let bad:rN d=true→D prog (fun b:Bool=>b=bA d∧rgd [Rk.B b]):=fun h => .rt false ⟨(deedS_f hi h).symm,trivial⟩
 oneD b5 d.run (fun h=>bad (by rw[bU4 h3 h4 h5,one_bad h];simp)) fun r1 r2=>
 twoD b4 d.task d.try_ (fun h=>bad (by rw[bU4 h3 h4 h5];rcases bR9 h with e | e <;> rw[e] <;> simp)) fun t1 t2=>
 twoD b3 d.worker d.draw (fun h=>bad (by rw[bU4 h3 h4 h5];rcases bR9 h with e | e <;> rw[e] <;> simp)) fun w1 w2=>
 let he:rN d=false:=(by rw[bU4 h3 h4 h5,one_se r1 r2,(aZ6 t1 t2).1,(aZ6 t1 t2).2,(aZ6 w1 w2).1,(aZ6 w1 w2).2];rfl)
 .s (d.kind=1)
  (fun h => .c func323 (PlanNum_s d.plan) (hg:=⟨g.2.2.1,trivial⟩) fun _ => .rt (gQ d.plan) ⟨(deedS_1 hi he h).symm,trivial⟩)
  (fun h => .c func324 (NoPlan_s d.plan) (hg:=⟨g.2.2.1,trivial⟩) fun _ => .rt (kD d.plan) ⟨(deedS_n hi he h).symm,trivial⟩)
theorem kind_8 {d:Deed} (h:1≤d.kind∧d.kind≤8):d.kind=1∨d.kind=2∨d.kind=3∨d.kind=4∨d.kind=5∨d.kind=6∨d.kind=7∨d.kind=8:=by omega
theorem bN4 (d:Deed):Ct1 prog 217 [.S d] [.B (bA d)]:=
 .one (bA d) (rk:=fun b=>[.B b])<|vc func217 (fun (hg:gin [Par.S d])=>let g:d.ok:=hg.1.1
  .c func138 (InV d.kind 1 8) fun _ => .v (inB d.kind 1 8) (fun h1 => .rt false ⟨dok_a h1,trivial⟩) (fun h1=>let hi:=inB_iff.1 h1
   (fun hk => .oc hk (fun h => .wt 3 <| .rv 3 (.bool false) (y := .bool (decide (d.kind=2))) (by rw[h];rfl) <| .kf (d.kind=3) aB <| .wt 4 <| .rv 4 (.bool false) (y := .bool (decide (d.kind=4))) (by rw[h];rfl) <| .ut (d.kind=5) aB <| .wt 5 <| .rv 5 (.bool true) (y := .bool (!decide (d.kind=8))) (by rw[h];rfl)<|dkD d g hi false false true (by rw[h];rfl) (by rw[h];rfl) (by rw[h];rfl)) (fun hk => .oc hk (fun h => .wt 3 <| .rv 3 (.bool true) (y := .bool (decide (d.kind=2))) (by rw[h];rfl) <| .kf (d.kind=3) aB <| .wt 4 <| .rv 4 (.bool false) (y := .bool (decide (d.kind=4))) (by rw[h];rfl)<|dkD d g hi true false false (by rw[h];rfl) (by rw[h];rfl) (by rw[h];rfl)) (fun hk => .oc hk (fun h => .wt 3 <| .rv 3 (.bool false) (y := .bool (decide (d.kind=2))) (by rw[h];rfl) <| .kt (d.kind=3) h <| .ut (d.kind=5) aB <| .wt 5 <| .rv 5 (.bool true) (y := .bool (!decide (d.kind=8))) (by rw[h];rfl)<|dkD d g hi false true true (by rw[h];rfl) (by rw[h];rfl) (by rw[h];rfl)) (fun hk => .oc hk (fun h => .wt 3 <| .rv 3 (.bool false) (y := .bool (decide (d.kind=2))) (by rw[h];rfl) <| .kf (d.kind=3) aB <| .wt 4 <| .rv 4 (.bool true) (y := .bool (decide (d.kind=4))) (by rw[h];rfl) <| .ut (d.kind=5) aB <| .wt 5 <| .rv 5 (.bool true) (y := .bool (!decide (d.kind=8))) (by rw[h];rfl)<|dkD d g hi false true true (by rw[h];rfl) (by rw[h];rfl) (by rw[h];rfl)) (fun hk => .oc hk (fun h => .wt 3 <| .rv 3 (.bool false) (y := .bool (decide (d.kind=2))) (by rw[h];rfl) <| .kf (d.kind=3) aB <| .wt 4 <| .rv 4 (.bool false) (y := .bool (decide (d.kind=4))) (by rw[h];rfl) <| .uf (d.kind=5) h<|dkD d g hi false false false (by rw[h];rfl) (by rw[h];rfl) (by rw[h];rfl)) (fun hk => .oc hk (fun h => .wt 3 <| .rv 3 (.bool false) (y := .bool (decide (d.kind=2))) (by rw[h];rfl) <| .kf (d.kind=3) aB <| .wt 4 <| .rv 4 (.bool false) (y := .bool (decide (d.kind=4))) (by rw[h];rfl) <| .ut (d.kind=5) aB <| .wt 5 <| .rv 5 (.bool true) (y := .bool (!decide (d.kind=8))) (by rw[h];rfl)<|dkD d g hi false false true (by rw[h];rfl) (by rw[h];rfl) (by rw[h];rfl)) (fun hk => .oc hk (fun h => .wt 3 <| .rv 3 (.bool false) (y := .bool (decide (d.kind=2))) (by rw[h];rfl) <| .kf (d.kind=3) aB <| .wt 4 <| .rv 4 (.bool false) (y := .bool (decide (d.kind=4))) (by rw[h];rfl) <| .ut (d.kind=5) aB <| .wt 5 <| .rv 5 (.bool true) (y := .bool (!decide (d.kind=8))) (by rw[h];rfl)<|dkD d g hi false false true (by rw[h];rfl) (by rw[h];rfl) (by rw[h];rfl)) (fun h => .wt 3 <| .rv 3 (.bool false) (y := .bool (decide (d.kind=2))) (by rw[h];rfl) <| .kf (d.kind=3) aB <| .wt 4 <| .rv 4 (.bool false) (y := .bool (decide (d.kind=4))) (by rw[h];rfl) <| .ut (d.kind=5) aB <| .wt 5 <| .rv 5 (.bool false) (y := .bool (!decide (d.kind=8))) (by rw[h];rfl)<|dkD d g hi false false false (by rw[h];rfl) (by rw[h];rfl) (by rw[h];rfl))))))))) (kind_8 hi))) aD
theorem sh_0 {id:Int} (h:aW id=⟨#[]⟩):0=aX id:=by unfold aX;rw[if_pos h]
theorem sh_1 {id:Int} (h:¬ aW id=⟨#[]⟩):cP (aW id) % 4=aX id:=by unfold aX;rw[if_neg h]
theorem ShelfOf_i (id:Int):Ct1 prog 348 [.I id] [.I (aX id)]:=
 .one (aX id) (rk:=fun a=>[.I a])<|vc func348 (fun hg=>let hv:=eR id
  let hr:=yM (aW id)
  .c func202 (zR id) fun _ => .s (aW id=⟨#[]⟩)
  (fun h => .rt 0 ⟨sh_0 h,trivial⟩)
  (fun h => .c func197 (aF3 (aW id) aB) fun _ => .q (cP (aW id)) 4 (h:=by omega) <| .rt (cP (aW id) % 4) ⟨sh_1 h,trivial⟩)) aD
theorem ShelfOf_s (id:Int):Ct1 prog 387 [.I id] [.I (aX id)]:=
 .one (aX id) (rk:=fun a=>[.I a])<|vc func387 (fun hg=>let hv:=eR id
  let hr:=yM (aW id)
  .c func214 (zQ id) fun _ => .s (aW id=⟨#[]⟩)
  (fun h => .rt 0 ⟨sh_0 h,trivial⟩)
  (fun h => .c func216 (aF2 (aW id) aB) fun _ => .q (cP (aW id)) 4 (h:=by omega) <| .rt (cP (aW id) % 4) ⟨sh_1 h,trivial⟩)) aD
noncomputable def bV (s:ByteArray) (a:Nat):ByteArray×Int:=
 if (vAt s a).2<0∨¬ (1≤(vAt s a).1∧(vAt s a).1≤400)∨(s.size:Int) - (vAt s a).2 - 4<(vAt s a).1 then (⟨#[]⟩,-1)
 else if cP (s.extract ((vAt s a).2+4).toNat ((vAt s a).2+4+(vAt s a).1).toNat)=(bS s (vAt s a).2.toNat).1 then (s.extract ((vAt s a).2+4).toNat ((vAt s a).2+4+(vAt s a).1).toNat,(vAt s a).2+4+(vAt s a).1) else (⟨#[]⟩,-1)
def dC (t:ByteArray):ByteArray:=if inB t.size 1 400 then aW t.size++cQ (cP t)++t else ⟨#[]⟩
theorem tN (n:Int):(cQ n).size≤4:=by unfold cQ;split <;> simp[ByteArray.size,kI]
theorem cJ4 {t:ByteArray} (h:inB (t.size:Int) 1 400=false):(⟨#[]⟩:ByteArray)=dC t:=by unfold dC;rw[h];rfl
theorem cJ3 {t:ByteArray} (h:inB (t.size:Int) 1 400=true):aW t.size++cQ (cP t)++t=dC t:=by unfold dC;rw[h];rfl
theorem aZ0 (t:ByteArray) (ht:t.size≤1048576):Ct1 prog 104 [.T t] [.T (dC t)]:=
 .one (dC t) (rk:=fun a=>[.T a])<|vc func104 (fun hg => .c func92 (bZ (t.size:Int) 1 400) fun _ => .v (inB (t.size:Int) 1 400)
  (fun h => .rt ⟨#[]⟩ ⟨cJ4 h,trivial⟩)
  (fun h=>let hv:=eR (t.size:Int)
   let hf:=tN (cP t)
   .c func202 (zR (t.size:Int)) fun _ => .c func197 (aF3 t ht) fun _ => .c func196 (bE8 (cP t)) fun _ => .pb .add (kZ (aW t.size) (cQ (cP t)) aB) <| .pb .add (kZ (aW t.size++cQ (cP t)) t (by rw[ByteArray.size_append];omega)) <|
   .rt (aW t.size++cQ (cP t)++t) ⟨cJ3 h,trivial⟩)) aD
theorem fo_e {t:ByteArray} (h:t=⟨#[]⟩):(⟨#[]⟩:ByteArray)=dC t:=cJ4 (by subst h;rfl)
theorem fo_l {t:ByteArray} (h:(400:Int)<t.size):(⟨#[]⟩:ByteArray)=dC t:=cJ4 (by unfold inB;simp;omega)
theorem fo_in {t:ByteArray} (h:¬ t=⟨#[]⟩) (h2:¬ (400:Int)<t.size):inB (t.size:Int) 1 400=true:=by
 refine inB_iff'.2 ⟨?_,by omega⟩
 have:t.size≠0:=fun e=>h (by
  cases t with
  | mk a=>congr 1;exact Array.eq_empty_of_size_eq_zero e)
 omega
theorem aY9 (t:ByteArray) (ht:t.size≤1048576):Ct1 prog 113 [.T t] [.T (dC t)]:=
 .one (dC t) (rk:=fun a=>[.T a])<|vc func113 (fun hg => .s (t=⟨#[]⟩)
  (fun h => .rt ⟨#[]⟩ ⟨fo_e h,trivial⟩)
  (fun h => .s ((400:Int)<t.size)
   (fun h2 => .rt ⟨#[]⟩ ⟨fo_l h2,trivial⟩)
   (fun h2=>let hv:=eR (t.size:Int)
    let hf:=tN (cP t)
    .c func214 (zQ (t.size:Int)) fun _ => .c func216 (aF2 t ht) fun _ => .c func215 (FourOfS (cP t)) fun _ => .pb .add (kZ (aW t.size) (cQ (cP t)) aB) <| .pb .add (kZ (aW t.size++cQ (cP t)) t (by rw[ByteArray.size_append];omega)) <|
    .rt (aW t.size++cQ (cP t)++t) ⟨cJ3 (fo_in h h2),trivial⟩))) aD
theorem bR6 {s:ByteArray} {a:Nat} (ha:a≤s.size) (h:¬ (vAt s a).2<0):∃ n j:Nat,vAt s a=((n:Int),(j:Int))∧a≤j∧j≤s.size:=by
 cases hv:fJ (s.data.toList.drop a) with
 | none=>rw[← iA hv] at h;exact absurd cB h
 | some q=>
  obtain ⟨n,k⟩:=q
  obtain ⟨_,hp,hk⟩:=iX hv
  have hl:=hp.length_le
  rw[jQ,← hk] at hl
  exact ⟨n,a+k,by rw[← pV hv];simp,by omega,by omega⟩
theorem aC0 {s:ByteArray} {a:Nat} (h:(vAt s a).2<0∨¬ (1≤(vAt s a).1∧(vAt s a).1≤400)∨(s.size:Int) - (vAt s a).2 - 4<(vAt s a).1):((⟨#[]⟩:ByteArray),(-1:Int))=bV s a:=by unfold bV;rw[if_pos h]
theorem fa_at {s:ByteArray} {a n j:Nat} (e:vAt s a=((n:Int),(j:Int))) (h1:1≤(n:Int)∧(n:Int)≤400) (h2:¬ (s.size:Int) - j - 4<n):bV s a=if cP (s.extract (j+4) (j+4+n))=(bS s j).1 then (s.extract (j+4) (j+4+n),(j:Int)+4+n) else (⟨#[]⟩,-1):=by
 unfold bV
 rw[e,if_neg (by simp only;omega)]
 simp only
 rw[show ((j:Int)+4).toNat=j+4 by omega,show ((j:Int)+4+n).toNat=j+4+n by omega,show (j:Int).toNat=j by omega]
theorem fa_t {s:ByteArray} {a n j:Nat} (e:vAt s a=((n:Int),(j:Int))) (h1:1≤(n:Int)∧(n:Int)≤400) (h2:¬ (s.size:Int) - j - 4<n) (h3:cP (s.extract (j+4) (j+4+n))=(bS s j).1):(s.extract (j+4) (j+4+n),(j:Int)+4+n)=bV s a:=by rw[fa_at e h1 h2,if_pos h3]
theorem fa_f {s:ByteArray} {a n j:Nat} (e:vAt s a=((n:Int),(j:Int))) (h1:1≤(n:Int)∧(n:Int)≤400) (h2:¬ (s.size:Int) - j - 4<n) (h3:¬ cP (s.extract (j+4) (j+4+n))=(bS s j).1):((⟨#[]⟩:ByteArray),(-1:Int))=bV s a:=by rw[fa_at e h1 h2,if_neg h3]
theorem cD3 {s:ByteArray} {a:Nat} (ha:a≤s.size):(vAt s a).2<0∨∃ n j:Nat,vAt s a=((n:Int),(j:Int))∧a≤j∧j≤s.size:=(Classical.em _).imp id (bR6 ha)
theorem fourR_ok {s:ByteArray} {a:Nat}:(bS s a).2=true↔a+4≤s.size:=by
 unfold bS
 split
 ·next h=>simp[h]
 next h=>simp[h]
theorem FrameAt_i (s:ByteArray) (a:Nat) (hs:s.size≤1048576) (ha:a≤s.size):Ct1 prog 295 [.T s,.I a] [.T (bV s a).1,.I (bV s a).2]:=
 .one (bV s a) (rk:=fun q=>[.T q.1,.I q.2])<|vc func295 (fun hg => .oc (cD3 ha)
  (fun h => .c func375 (bR0 s a hs aB) fun _ => .kt ((vAt s a).2<0) h <| .rt (⟨#[]⟩,-1) ⟨aC0 (.inl h),trivial⟩)
  (fun h => .ex h fun n h => .ex h fun j hj=>
   .c func375 (show Ct1 prog 375 [.T s,.I a] [.I (n:Int),.I (j:Int)] by have:=bR0 s a hs aB;rw[hj.1] at this;exact this) fun _ => .kf ((j:Int)<0) aB <|
   .c func92 (bZ (n:Int) 1 400) fun _ => .v (inB (n:Int) 1 400)
    (fun h1 => .rt (⟨#[]⟩,-1) ⟨aC0 (.inr (.inl (by rw[hj.1];intro h;rw[inB_iff'.2 h] at h1;cases h1))),trivial⟩)
    (fun h1=>let h1:=inB_iff'.1 h1
     .m s.size j (h:=by unfold I64;omega) <| .m ((s.size:Int) - j) 4 (h:=by unfold I64;omega) <| .s ((s.size:Int) - j - 4<n)
     (fun h2 => .rt (⟨#[]⟩,-1) ⟨aC0 (.inr (.inr (by rw[hj.1];exact h2))),trivial⟩)
     (fun h2 => .c func200 (cB3 s j hs aB) fun _ => .p j 4 (h:=by unfold I64;omega) <| .p j 4 (h:=by unfold I64;omega) <| .p ((j:Int)+4) n (h:=by unfold I64;omega) <| .pl (bD0 (t:=9) (s:=s) (a:=j+4) (b:=j+4+n) underlying9 aB aB) <|
      .c func197 (aF3 (s.extract (j+4) (j+4+n)) (by rw[ByteArray.size_extract];omega)) fun _ => .u (cP (s.extract (j+4) (j+4+n))=(bS s j).1)
       (fun h3 => .rt (⟨#[]⟩,-1) ⟨fa_f hj.1 h1 h2 h3,trivial⟩)
       (fun h3 => .p j 4 (h:=by unfold I64;omega) <| .p ((j:Int)+4) n (h:=by unfold I64;omega) <| .rt (s.extract (j+4) (j+4+n),(j:Int)+4+n) ⟨fa_t hj.1 h1 h2 h3,trivial⟩))))) aD
theorem FrameAt_s (s:ByteArray) (a:Nat) (hs:s.size≤1048576) (ha:a≤s.size):Ct1 prog 320 [.T s,.I a] [.T (bV s a).1,.I (bV s a).2]:=
 .one (bV s a) (rk:=fun q=>[.T q.1,.I q.2])<|vc func320 (fun hg => .oc (cD3 ha)
  (fun h => .c func383 (bQ9 s a hs aB) fun _ => .kt ((vAt s a).2<0) h <| .rt (⟨#[]⟩,-1) ⟨aC0 (.inl h),trivial⟩)
  (fun h => .ex h fun n h => .ex h fun j hj=>
   .c func383 (show Ct1 prog 383 [.T s,.I a] [.I (n:Int),.I (j:Int)] by have:=bQ9 s a hs aB;rw[hj.1] at this;exact this) fun _ => .kf ((j:Int)<0) aB <|
   .s ((n:Int)<1)
    (fun h1 => .rt (⟨#[]⟩,-1) ⟨aC0 (.inr (.inl (by rw[hj.1];simp only;omega))),trivial⟩)
    (fun h1 => .s ((400:Int)<n)
     (fun h4 => .rt (⟨#[]⟩,-1) ⟨aC0 (.inr (.inl (by rw[hj.1];simp only;omega))),trivial⟩)
     (fun h4=>let h1:1≤(n:Int)∧(n:Int)≤400:=by omega
      .c func240 (bE9 s j hs aB) fun _ => .v (bS s j).2
      (fun h2 => .rt (⟨#[]⟩,-1) ⟨aC0 (.inr (.inr (by rw[hj.1];simp only;have:¬ (bS s j).2=true:=(by rw[h2];simp);rw[fourR_ok] at this;omega))),trivial⟩)
      (fun h5 => .m s.size j (h:=by unfold I64;omega) <| .m ((s.size:Int) - j) 4 (h:=by unfold I64;omega) <| .s ((s.size:Int) - j - 4<n)
       (fun h2 => .rt (⟨#[]⟩,-1) ⟨aC0 (.inr (.inr (by rw[hj.1];exact h2))),trivial⟩)
       (fun h2 => .p j 4 (h:=by unfold I64;omega) <| .p j 4 (h:=by unfold I64;omega) <| .p ((j:Int)+4) n (h:=by unfold I64;omega) <| .pl (bD0 (t:=9) (s:=s) (a:=j+4) (b:=j+4+n) underlying9 aB aB) <|
        .c func216 (aF2 (s.extract (j+4) (j+4+n)) (by rw[ByteArray.size_extract];omega)) fun _ => .u (cP (s.extract (j+4) (j+4+n))=(bS s j).1)
         (fun h3 => .rt (⟨#[]⟩,-1) ⟨fa_f hj.1 h1 h2 h3,trivial⟩)
         (fun h3 => .p j 4 (h:=by unfold I64;omega) <| .p ((j:Int)+4) n (h:=by unfold I64;omega) <| .rt (s.extract (j+4) (j+4+n),(j:Int)+4+n) ⟨fa_t hj.1 h1 h2 h3,trivial⟩))))))) aD
def dN (n:Note):List Int:=n.seq::n.deed.kind::bK n.deed
def aQ6 (l:List Int):ByteArray:=⟨(gJ l).toArray⟩
noncomputable def gV (n:Note):ByteArray:=if bA n.deed=true∧inB n.seq 1 1000000000=true∧(aQ6 (dN n)).size≤400 then aQ6 (dN n) else ⟨#[]⟩
theorem nZ {n:Note} (h:¬ (bA n.deed=true∧inB n.seq 1 1000000000=true∧(aQ6 (dN n)).size≤400)):(⟨#[]⟩:ByteArray)=gV n:=by unfold gV;rw[if_neg h]
theorem yW {n:Note} (h:bA n.deed=true∧inB n.seq 1 1000000000=true∧(aQ6 (dN n)).size≤400):aQ6 (dN n)=gV n:=by unfold gV;rw[if_pos h]
theorem aK0 (n:Note):(gV n).size≤400:=by
 unfold gV
 split
 ·next h=>exact h.2.2
 exact Nat.zero_le _
def note0:Note:=⟨0,⟨0,0,zP,0,0,0,0⟩⟩
theorem z64:I64 0:=by unfold I64;omega
theorem oN:zP.ok:=⟨z64,z64,z64,z64⟩
theorem kV:note0.ok:=⟨z64,z64,z64,oN,z64,z64,z64,z64⟩
def mY {σ:Type} (r:Rdr σ) (x:σ):σ×Note:=
 let a:=r.next x
 let k:=r.next a.1
 let u:=r.next k.1
 let v:=r.next u.1
 let w:=r.next v.1
 if k.2=1 then ((eY r u.1).1,⟨a.2,⟨k.2,u.2,(eY r u.1).2,0,0,0,0⟩⟩)
 else if k.2=2 then (v.1,⟨a.2,⟨k.2,0,zP,0,0,u.2,v.2⟩⟩)
 else if k.2=3∨k.2=4 then (w.1,⟨a.2,⟨k.2,u.2,zP,v.2,w.2,0,0⟩⟩)
 else if k.2=6∨k.2=7 then (u.1,⟨a.2,⟨k.2,u.2,zP,0,0,0,0⟩⟩)
 else (k.1,⟨a.2,⟨k.2,0,zP,0,0,0,0⟩⟩)
section
variable {σ:Type} {r:Rdr σ} {x:σ}
theorem bC1 (h:(r.next (r.next x).1).2=1):mY r x=((eY r (r.next (r.next (r.next x).1).1).1).1,⟨(r.next x).2,⟨(r.next (r.next x).1).2,(r.next (r.next (r.next x).1).1).2,(eY r (r.next (r.next (r.next x).1).1).1).2,0,0,0,0⟩⟩):=by unfold mY;simp only;rw[if_pos h]
theorem bC0 (h:(r.next (r.next x).1).2=2):mY r x=((r.next (r.next (r.next (r.next x).1).1).1).1,⟨(r.next x).2,⟨(r.next (r.next x).1).2,0,zP,0,0,(r.next (r.next (r.next x).1).1).2,(r.next (r.next (r.next (r.next x).1).1).1).2⟩⟩):=by unfold mY;simp only;rw[if_neg aB,if_pos h]
theorem bB9 (h:(r.next (r.next x).1).2=3∨(r.next (r.next x).1).2=4):mY r x=((r.next (r.next (r.next (r.next (r.next x).1).1).1).1).1,⟨(r.next x).2,⟨(r.next (r.next x).1).2,(r.next (r.next (r.next x).1).1).2,zP,(r.next (r.next (r.next (r.next x).1).1).1).2,(r.next (r.next (r.next (r.next (r.next x).1).1).1).1).2,0,0⟩⟩):=by unfold mY;simp only;rw[if_neg aB,if_neg aB,if_pos h]
theorem bB8 (h:(r.next (r.next x).1).2=6∨(r.next (r.next x).1).2=7):mY r x=((r.next (r.next (r.next x).1).1).1,⟨(r.next x).2,⟨(r.next (r.next x).1).2,(r.next (r.next (r.next x).1).1).2,zP,0,0,0,0⟩⟩):=by unfold mY;simp only;rw[if_neg aB,if_neg aB,if_neg aB,if_pos h]
theorem bC2 (h1:¬ (r.next (r.next x).1).2=1) (h2:¬ (r.next (r.next x).1).2=2) (h3:¬ (r.next (r.next x).1).2=3) (h4:¬ (r.next (r.next x).1).2=4) (h6:¬ (r.next (r.next x).1).2=6) (h7:¬ (r.next (r.next x).1).2=7):mY r x=((r.next (r.next x).1).1,⟨(r.next x).2,⟨(r.next (r.next x).1).2,0,zP,0,0,0,0⟩⟩):=by unfold mY;simp only;rw[if_neg h1,if_neg h2,if_neg aB,if_neg aB]
theorem oJ {d:Deed} (h:bA d=true):inB d.kind 1 8=true∧d.plan.edges.length≤31∧d=mT d∧∀ n∈bK d,num n=true:=by
 unfold bA at h
 simp only[Bool.and_eq_true,decide_eq_true_eq,Bool.not_eq_true'] at h
 obtain ⟨⟨⟨h1,h2⟩,h3⟩,h4⟩:=h
 refine ⟨h1,h2,eqB_iff.1 h3,fun n hn => ?_⟩
 cases hq:num n with
 | true=>rfl
 | false=>rw[any_eq_true.2 ⟨n,hn,by simp[hq]⟩] at h4;cases h4
variable {Rd:σ→List Int→Prop} (F:Fwd r Rd)
include F
theorem bI9 {n:Note} {ns:List Int} (hd:bA n.deed=true) (h:Rd x (dN n++ns)):(mY r x).2=n∧Rd (mY r x).1 ns:=by
 obtain ⟨s,d⟩:=n
 obtain ⟨_,hl,hu,_⟩:=oJ hd
 simp only at hl hu hd
 unfold dN at h
 obtain ⟨a1,h⟩:=F.next (ns:=(d.kind::bK d)++ns) h
 obtain ⟨a2,h⟩:=F.next (ns:=bK d++ns) h
 unfold bK at h
 unfold mT at hu
 split at hu
 ·next hk=>
  rw[if_pos hk] at h
  have h:Rd (r.next (r.next x).1).1 (d.run::((d.plan.prio::d.plan.most::d.plan.wait::d.plan.tasks::(d.plan.edges.length:Int)::d.plan.edges.flatMap pS)++ns)):=h
  rw[← sE] at h
  obtain ⟨a3,h⟩:=F.next h
  obtain ⟨a4,h⟩:=bI0 F hl h
  rw[bC1 (by rw[a2];exact hk)]
  refine ⟨?_,h⟩
  simp only[a1,a2,a3,a4]
  rw[← hu]
 next h1=>
 rw[if_neg h1] at h
 split at hu
 ·next hk=>
  rw[if_pos hk] at h
  obtain ⟨a3,h⟩:=F.next (ns:=d.draw::ns) h
  obtain ⟨a4,h⟩:=F.next h
  rw[bC0 (by rw[a2];exact hk)]
  refine ⟨?_,h⟩
  simp only[a1,a2,a3,a4]
  rw[← hu]
 next h2=>
 rw[if_neg h2] at h
 split at hu
 ·next hk=>
  rw[if_pos hk] at h
  obtain ⟨a3,h⟩:=F.next (ns:=d.task::d.try_::ns) h
  obtain ⟨a4,h⟩:=F.next h
  obtain ⟨a5,h⟩:=F.next h
  rw[bB9 (by rw[a2];exact hk)]
  refine ⟨?_,h⟩
  simp only[a1,a2,a3,a4,a5]
  rw[← hu]
 next h3=>
 rw[if_neg h3] at h
 split at hu
 ·next hk=>
  rw[if_pos hk] at h
  obtain ⟨a3,h⟩:=F.next (ns:=ns) h
  rw[bB8 (by rw[a2];exact hk)]
  refine ⟨?_,h⟩
  simp only[a1,a2,a3]
  rw[← hu]
 next h4=>
 rw[if_neg h4] at h
 rw[bC2 (by rw[a2];omega) (by rw[a2];omega) (by rw[a2];omega) (by rw[a2];omega) (by rw[a2];omega) (by rw[a2];omega)]
 refine ⟨?_,h⟩
 simp only[a1,a2]
 rw[← hu]
end
section
variable {σ:Type} {r:Rdr σ} {x:σ} {In:σ→Prop} {Cs:σ→σ→List Int→Prop} (B:Bwd r In Cs)
include B
theorem note_ok (h:In x):(mY r x).2.ok:=by
 have i1:=(B.inn h).1
 have i2:=(B.inn i1).1
 have i3:=(B.inn i2).1
 have i4:=(B.inn i3).1
 unfold mY
 simp only
 split
 ·exact ⟨n64 B h,n64 B i1,n64 B i2,tH B _ i3,z64,z64,z64,z64⟩
 split
 ·exact ⟨n64 B h,n64 B i1,z64,oN,z64,z64,n64 B i2,n64 B i3⟩
 split
 ·exact ⟨n64 B h,n64 B i1,n64 B i2,oN,n64 B i3,n64 B i4,z64,z64⟩
 split
 ·exact ⟨n64 B h,n64 B i1,n64 B i2,oN,z64,z64,z64,z64⟩
 exact ⟨n64 B h,n64 B i1,z64,oN,z64,z64,z64,z64⟩
end
noncomputable def aQ4 (s:ByteArray):Numb×Note:=mY fO ⟨(eK s).1,false⟩
noncomputable def aQ3 (s:ByteArray):LIn×Note:=mY linR ⟨s,0,false⟩
def NTx (n:Note) (s:ByteArray):Prop:=¬ s=⟨#[]⟩∧gV n=s
noncomputable instance (n:Note) (s:ByteArray):Decidable (NTx n s):=Classical.propDecidable _
noncomputable def lQ (s:ByteArray):Note×Bool:=if (eK s).2=true∧(aQ4 s).1.bad=false∧NTx (aQ4 s).2 s then ((aQ4 s).2,true) else (note0,false)
noncomputable def cH (s:ByteArray):Note×Bool:=if s.size≤400∧(aQ3 s).1.bad=false∧NTx (aQ3 s).2 s then ((aQ3 s).2,true) else (note0,false)
theorem bJ1 {s:ByteArray} (h:¬ ((eK s).2=true∧(aQ4 s).1.bad=false∧NTx (aQ4 s).2 s)):(note0,false)=lQ s:=by unfold lQ;rw[if_neg h]
theorem bI7 {s:ByteArray} (h:¬ (s.size≤400∧(aQ3 s).1.bad=false∧NTx (aQ3 s).2 s)):(note0,false)=cH s:=by unfold cH;rw[if_neg h]
theorem cH5 {n:Note} {s:ByteArray} (h:NTx n s):bA n.deed=true∧inB n.seq 1 1000000000=true∧s.size≤400∧∃ ns,gY ns∧dN n=jS ns∧dP ns=s.data.toList:=by
 obtain ⟨h0,h⟩:=h
 by_cases hc:bA n.deed=true∧inB n.seq 1 1000000000=true∧(aQ6 (dN n)).size≤400
 ·rw[← yW hc] at h
  have hn:∀ z∈dN n,0≤z∧z≤1000000000:=by
   intro z hz
   unfold dN at hz
   have h8:=inB_iff.1 (oJ hc.1).1
   have h9:=inB_iff.1 hc.2.1
   rcases mem_cons.1 hz with rfl | hz
   ·omega
   rcases mem_cons.1 hz with rfl | hz
   ·omega
   have:=(oJ hc.1).2.2.2 z hz
   unfold num at this
   exact inB_iff.1 this
  have e:dN n=jS ((dN n).map Int.toNat):=by
   unfold jS
   rw[map_map]
   conv=>lhs;rw[← map_id (dN n)]
   exact map_congr_left fun z hz=>by have:=hn z hz;simp only[id_eq,Function.comp_apply];omega
  have hs:gY ((dN n).map Int.toNat):=fun m hm=>by
   obtain ⟨z,hz,rfl⟩:=mem_map.1 hm
   have:=hn z hz
   omega
  refine ⟨hc.1,hc.2.1,by rw[← h];exact hc.2.2,_,hs,e,?_⟩
  rw[← oT hs,← e,← h]
  rfl
 rw[← nZ hc] at h
 exact absurd h.symm h0
theorem readNI_iff {s:ByteArray} {n:Note}:lQ s=(n,true)↔NTx n s:=by
 constructor
 ·intro h
  unfold lQ at h
  split at h
  ·next hc=>
   simp only[Prod.mk.injEq,and_true] at h
   rw[← h];exact hc.2.2
  cases h
 intro hx
 obtain ⟨hd,_,_,ns,h1,h2,h3⟩:=cH5 hx
 have e:(jS ns,true)=eK s:=uP h1 h3
 have hf:=bI9 numF hd (x:=⟨(eK s).1,false⟩) (ns:=[]) ⟨rfl,by rw[← e,h2,append_nil]⟩
 have e1:(aQ4 s).2=n:=hf.1
 have e2:(aQ4 s).1.bad=false:=hf.2.1
 unfold lQ
 rw[if_pos ⟨by rw[← e],e2,by rw[e1];exact hx⟩,e1]
theorem readNS_iff {s:ByteArray} {n:Note}:cH s=(n,true)↔NTx n s:=by
 constructor
 ·intro h
  unfold cH at h
  split at h
  ·next hc=>
   simp only[Prod.mk.injEq,and_true] at h
   rw[← h];exact hc.2.2
  cases h
 intro hx
 obtain ⟨hd,_,hz,ns,h1,h2,h3⟩:=cH5 hx
 have hf:=bI9 linF hd (x:=⟨s,0,false⟩) (ns:=[]) ⟨rfl,ns,h1,by rw[h2,append_nil],by rw[h3];rfl⟩
 have e1:(aQ3 s).2=n:=hf.1
 have e2:(aQ3 s).1.bad=false:=hf.2.1
 unfold cH
 rw[if_pos ⟨hz,e2,by rw[e1];exact hx⟩,e1]
theorem readN_eq (s:ByteArray):lQ s=cH s:=by
 by_cases h:∃ n,NTx n s
 ·obtain ⟨n,h⟩:=h
  rw[readNI_iff.2 h,readNS_iff.2 h]
 rw[← bJ1 fun hc=>h ⟨_,hc.2.2⟩,← bI7 fun hc=>h ⟨_,hc.2.2⟩]
theorem aT6 (s:ByteArray) (hs:s.size≤1048576):(cH s).1.ok:=by
 unfold cH
 split
 ·exact note_ok linB (x:=⟨s,0,false⟩) ⟨hs,Nat.zero_le _⟩
 exact kV
theorem uX {s:ByteArray} (h:(cH s).2=true):1≤(cH s).1.seq∧(cH s).1.seq≤1000000000∧(cH s).1.deed.plan.edges.length≤31∧s.size≤400:=by
 have hx:NTx (cH s).1 s:=readNS_iff.1 (by rw[← h])
 obtain ⟨h1,h2,h3,_⟩:=cH5 hx
 have:=inB_iff.1 h2
 exact ⟨this.1,this.2,(oJ h1).2.1,h3⟩
/-! ### All frames of a text -/
noncomputable def gS (s:ByteArray):Nat→List ByteArray×Int
 | 0=>([],0)
 | k+1=>if (bV s (gS s k).2.toNat).2<0 then gS s k else ((gS s k).1++[(bV s (gS s k).2.toNat).1],(bV s (gS s k).2.toNat).2)
noncomputable def iB (s:ByteArray):List ByteArray×Int:=if (60000:Int)<s.size then ([],0) else gS s s.size
theorem aB9 {s:ByteArray} {a:Nat} (ha:a≤s.size) (h:¬ (bV s a).2<0):∃ b:Nat,(bV s a).2=(b:Int)∧a+1≤b∧b≤s.size∧(bV s a).1.size≤400:=by
 unfold bV at h ⊢
 split at h
 ·exact absurd cB h
 next hc=>
 split at h
 ·next hs=>
  rw[if_neg hc,if_pos hs]
  have hn:¬ (vAt s a).2<0:=fun h=>hc (.inl h)
  obtain ⟨n,j,e,h1,h2⟩:=bR6 ha hn
  rw[e] at hc ⊢
  simp only[not_or,Decidable.not_not] at hc
  refine ⟨j+4+n,by simp,by omega,by omega,?_⟩
  rw[ByteArray.size_extract]
  simp only
  omega
 exact absurd cB h
structure ScJ (s:ByteArray) (g:List ByteArray×Nat):Prop where
 ex:∃ k:Nat,k≤g.2∧(g.1,(g.2:Int))=gS s k
 le:g.2≤s.size
 len:g.1.length≤g.2
theorem ScJ.start (s:ByteArray):ScJ s ([],0):=⟨⟨0,Nat.le_refl _,rfl⟩,Nat.zero_le _,Nat.le_refl _⟩
theorem scan_stop {s:ByteArray} {k:Nat} (h:(bV s (gS s k).2.toNat).2<0):∀ j,k≤j→gS s j=gS s k:=by
 intro j hj
 induction j with
 | zero=>rw[show k=0 by omega]
 | succ j ih=>
  rcases Nat.lt_or_ge k (j+1) with h1 | h1
  ·have e:=ih aB
   show (if (bV s (gS s j).2.toNat).2<0 then gS s j else _)=_
   rw[e,if_pos h]
  rw[show k=j+1 by omega]
theorem ScJ.done {s:ByteArray} {g:List ByteArray×Nat} (h:ScJ s g) (h6:¬ (60000:Int)<s.size) (hf:(bV s g.2).2<0):(g.1,(g.2:Int))=iB s:=by
 obtain ⟨k,hk,e⟩:=h.ex
 unfold iB
 rw[if_neg h6,scan_stop (k:=k) (by rw[← e];simpa using hf) _ (by have:=h.le;omega),e]
theorem frameAt_end {s:ByteArray} {a:Nat} (h:¬ (a:Int)<s.size):(bV s a).2<0:=by
 have:vAt s a=(0,-1):=by
  rw[iA]
  rw[drop_eq_nil_of_le (by show s.data.toList.length≤a;have:s.data.toList.length=s.size:=rfl;omega)]
  exact nA fun n _ hp=>pU (bQ n).1 (prefix_nil.1 hp)
 unfold bV
 rw[if_pos (.inl (by rw[this];decide))]
 decide
theorem ScJ.next {s:ByteArray} {g:List ByteArray×Nat} (h:ScJ s g) (hf:¬ (bV s g.2).2<0):∃ b:Nat,(bV s g.2).2=(b:Int)∧g.2+1≤b∧ScJ s (g.1++[(bV s g.2).1],b):=by
 obtain ⟨b,e1,e2,e3,_⟩:=aB9 h.le hf
 obtain ⟨k,hk,e⟩:=h.ex
 refine ⟨b,e1,e2,⟨k+1,by show k+1≤b;omega,?_⟩,e3,by have:=h.len;simp only[length_append,length_singleton];omega⟩
 show _=(if (bV s (gS s k).2.toNat).2<0 then gS s k else _)
 rw[← e]
 simp only[Int.toNat_natCast]
 rw[if_neg hf,e1]
theorem aS8 (s:ByteArray):∀ k,((gS s k).2.toNat≤s.size∧0≤(gS s k).2)∧(∀ b∈(gS s k).1,b.size≤400)∧((gS s k).1.length:Int)≤(gS s k).2
 | 0=>⟨⟨Nat.zero_le _,by show (0:Int)≤0;omega⟩,fun b hb=>(by cases hb),by show (0:Int)≤0;omega⟩
 | k+1=>by
  obtain ⟨⟨h1,h2⟩,h3,h4⟩:=aS8 s k
  unfold gS
  split
  ·exact ⟨⟨h1,h2⟩,h3,h4⟩
  ·next hf=>
   obtain ⟨b,e1,e2,e3,e4⟩:=aB9 h1 hf
   simp only
   rw[e1]
   refine ⟨⟨by omega,by omega⟩,fun c hc => ?_,by simp only[length_append,length_singleton];omega⟩
   rcases mem_append.1 hc with hc | hc
   ·exact h3 c hc
   ·simp only[mem_singleton] at hc;rw[hc];exact e4
theorem wQ (s:ByteArray):(∀ b∈(iB s).1,b.size≤400)∧(iB s).1.length≤60000:=by
 unfold iB
 split
 ·exact ⟨fun b hb=>(by cases hb),Nat.zero_le _⟩
 obtain ⟨⟨h1,h2⟩,h3,h4⟩:=aS8 s s.size
 exact ⟨h3,by omega⟩
/-! ### Notes one behind the other -/
def pR (a:List Note×Int) (b:ByteArray):Prop:=(cH b).2=true∧(a.1=[]∨(cH b).1.seq=(a.1.getLastD note0).seq+1)
noncomputable instance (a:List Note×Int) (b:ByteArray):Decidable (pR a b):=Classical.propDecidable _
noncomputable def kU:List Note×Int→List ByteArray→List Note×Int
 | a,[]=>a
 | a,b::bs=>if pR a b then kU (a.1++[(cH b).1],a.2+(dC b).size) bs else a
theorem oX (a:List Note×Int) (b:ByteArray) (bs:List ByteArray):kU a (b::bs)=if pR a b then kU (a.1++[(cH b).1],a.2+(dC b).size) bs else a:=rfl
noncomputable def fF (s:ByteArray):List Note×Int:=kU ([],0) (iB s).1
structure NsJ (bs:List ByteArray) (g:Nat×List Note×Int):Prop where
 eq:kU g.2 (bs.drop g.1)=kU ([],0) bs
 le:g.1≤bs.length
 len:g.2.1.length=g.1
 rng:∀ n∈g.2.1,n.ok∧1≤n.seq∧n.seq≤1000000000
 sz:0≤g.2.2∧g.2.2≤1000*(g.1:Int)
theorem NsJ.start (bs:List ByteArray):NsJ bs (0,[],0):=⟨rfl,Nat.zero_le _,rfl,fun n hn=>(by cases hn),by simp⟩
theorem NsJ.all {bs:List ByteArray} {g:Nat×List Note×Int} (h:NsJ bs g) (hk:¬ (g.1:Int)<bs.length):g.2=kU ([],0) bs:=by
 have:=h.eq
 rw[drop_eq_nil_of_le aB] at this
 exact this
theorem NsJ.stop {bs:List ByteArray} {g:Nat×List Note×Int} {b:ByteArray} (h:NsJ bs g) (hb:bs[g.1]? = some b) (hn:¬ pR g.2 b):g.2=kU ([],0) bs:=by
 obtain ⟨hk,rfl⟩:=gsi_.1 hb
 have:=h.eq
 rw[drop_eq_getElem_cons hk,oX] at this
 rw[if_neg hn] at this
 exact this
theorem rG {b:ByteArray} (hb:b.size≤400):(dC b).size≤1000:=by
 unfold dC
 split
 ·have h1:=eR (b.size:Int)
  have h2:=tN (cP b)
  rw[ByteArray.size_append,ByteArray.size_append]
  omega
 exact Nat.zero_le _
theorem NsJ.next {bs:List ByteArray} {g:Nat×List Note×Int} {b:ByteArray} (h:NsJ bs g) (hb:bs[g.1]? = some b) (hz:b.size≤400) (hn:pR g.2 b):NsJ bs (g.1+1,g.2.1++[(cH b).1],g.2.2+(dC b).size):=by
 obtain ⟨hk,rfl⟩:=gsi_.1 hb
 have hr:=uX hn.1
 have hf:=rG hz
 have:=h.eq
 rw[drop_eq_getElem_cons hk,oX] at this
 rw[if_pos hn] at this
 refine ⟨this,hk,by simp[h.len],fun n hm => ?_,by have:=h.sz;simp only;omega⟩
 rcases mem_append.1 hm with hm | hm
 ·exact h.rng n hm
 simp only[mem_singleton] at hm
 rw[hm]
 exact ⟨aT6 _ aB,hr.1,hr.2.1⟩
theorem bX2 {l:List Note} {n:Note} (h:l[l.length - 1]? = some n):l.getLastD note0=n:=by
 rw[getLastD_eq_getLast?,getLast?_eq_getElem?,h]
 rfl
theorem bI8:∀ (bs:List ByteArray) (a:List Note×Int),(∀ b∈bs,b.size≤400)→(∀ n∈a.1,n.ok∧1≤n.seq∧n.seq≤1000000000)→(∀ n∈(kU a bs).1,n.ok∧1≤n.seq∧n.seq≤1000000000)∧(kU a bs).1.length≤a.1.length+bs.length∧(0≤a.2→0≤(kU a bs).2∧(kU a bs).2≤a.2+1000*(bs.length:Int))
 | [],a,_,h=>⟨h,Nat.le_refl _,fun h=>⟨h,by simp[kU]⟩⟩
 | b::bs,a,hs,h=>by
  rw[oX]
  split
  ·next hn=>
   have hr:=uX hn.1
   have hf:=rG (hs b mem_cons_self)
   obtain ⟨h1,h2,h3⟩:=bI8 bs (a.1++[(cH b).1],a.2+(dC b).size) (fun c hc=>hs c (mem_cons_of_mem _ hc)) (fun n hm=>by
    rcases mem_append.1 hm with hm | hm
    ·exact h n hm
    ·simp only[mem_singleton] at hm
     rw[hm]
     exact ⟨aT6 _ aB,hr.1,hr.2.1⟩)
   simp only[length_append,length_nil,length_cons] at h2 h3 ⊢
   exact ⟨h1,by omega,fun h0=>by have:=h3 aB;omega⟩
  ·exact ⟨h,by omega,fun h0=>⟨h0,by omega⟩⟩
theorem aJ9 (s:ByteArray):(∀ n∈(fF s).1,n.ok∧1≤n.seq∧n.seq≤1000000000)∧(fF s).1.length≤60000∧0≤(fF s).2∧(fF s).2≤60000000:=by
 have hz:=wQ s
 obtain ⟨h1,h2,h3⟩:=bI8 (iB s).1 ([],0) hz.1 (fun n hn=>by cases hn)
 have:=h3 (Int.le_refl _)
 unfold fF
 simp only[length_nil] at h2 this
 exact ⟨h1,by omega,by omega,by omega⟩
/-! ### Notes behind a mark -/
def jG:List Note×Int→List Note→List Note
 | a,[]=>a.1
 | a,n::ns=>if n.seq≤a.2 then jG a ns else if ¬ n.seq - 1=a.2 then a.1 else jG (a.1++[n],n.seq) ns
theorem oV (a:List Note×Int) (n:Note) (ns:List Note):jG a (n::ns)=if n.seq≤a.2 then jG a ns else if ¬ n.seq - 1=a.2 then a.1 else jG (a.1++[n],n.seq) ns:=rfl
structure SiJ (ns:List Note) (q:Int) (g:Nat×List Note×Int):Prop where
 eq:jG g.2 (ns.drop g.1)=jG ([],q) ns
 le:g.1≤ns.length
 len:g.2.1.length≤g.1
 i64:I64 g.2.2
theorem SiJ.start {ns:List Note} {q:Int} (h:I64 q):SiJ ns q (0,[],q):=⟨rfl,Nat.zero_le _,Nat.le_refl _,h⟩
section
variable {ns:List Note} {q:Int} {g:Nat×List Note×Int} {n:Note} (h:SiJ ns q g)
include h
theorem SiJ.all (hk:¬ (g.1:Int)<ns.length):g.2.1=jG ([],q) ns:=by
 have:=h.eq
 rw[drop_eq_nil_of_le aB] at this
 exact this
theorem SiJ.skip (hb:ns[g.1]? = some n) (hn:n.seq≤g.2.2):SiJ ns q (g.1+1,g.2):=by
 obtain ⟨hk,rfl⟩:=gsi_.1 hb
 have:=h.eq
 rw[drop_eq_getElem_cons hk,oV] at this
 rw[if_pos hn] at this
 exact ⟨this,hk,by have:=h.len;show g.2.1.length≤g.1+1;omega,h.i64⟩
theorem SiJ.stop (hb:ns[g.1]? = some n) (hn:¬ n.seq≤g.2.2) (h2:¬ n.seq - 1=g.2.2):g.2.1=jG ([],q) ns:=by
 obtain ⟨hk,rfl⟩:=gsi_.1 hb
 have:=h.eq
 rw[drop_eq_getElem_cons hk,oV] at this
 rw[if_neg hn,if_pos h2] at this
 exact this
theorem SiJ.next (hb:ns[g.1]? = some n) (hn:¬ n.seq≤g.2.2) (h2:n.seq - 1=g.2.2) (h6:I64 n.seq):SiJ ns q (g.1+1,g.2.1++[n],n.seq):=by
 obtain ⟨hk,rfl⟩:=gsi_.1 hb
 have:=h.eq
 rw[drop_eq_getElem_cons hk,oV] at this
 rw[if_neg hn,if_neg (by simpa using h2)] at this
 exact ⟨this,hk,by have:=h.len;simp only[length_append,length_singleton];omega,h6⟩
end
theorem aH2:∀ (ns:List Note) (a:List Note×Int),(∀ n∈jG a ns,n∈a.1∨n∈ns)∧(jG a ns).length≤a.1.length+ns.length
 | [],a=>⟨fun n h => .inl h,Nat.le_refl _⟩
 | m::ns,a=>by
  rw[oV]
  split
  ·obtain ⟨h1,h2⟩:=aH2 ns a
   exact ⟨fun n h=>(h1 n h).imp id (mem_cons_of_mem _),by simp only[length_cons];omega⟩
  split
  ·exact ⟨fun n h => .inl h,by omega⟩
  ·obtain ⟨h1,h2⟩:=aH2 ns (a.1++[m],m.seq)
   refine ⟨fun n h => ?_,by simp only[length_append,length_nil,length_cons] at *;omega⟩
   rcases h1 n h with h | h
   ·rcases mem_append.1 h with h | h
    ·exact .inl h
    ·simp only[mem_singleton] at h;exact .inr (by rw[h];exact mem_cons_self)
   ·exact .inr (mem_cons_of_mem _ h)
def vC (y:Yard) (i:Nat):List Int:=y.now::y.seq::(y.shelf.take i).flatMap gZ
def aC4 (y:Yard) (i:Nat) (l:List Entry) (k:Nat):List Int:=vC y i++((l.length:Int)::(l.take k).flatMap gG)
def rV (y:Yard) (i:Nat):List Int:=vC y y.shelf.length++((y.runs.length:Int)::(y.runs.take i).flatMap lJ)
def aC3 (y:Yard) (i:Nat) (r:Run) (k:Nat):List Int:=rV y i++(r.id::(mX r.plan++(r.state::(r.tasks.take k).flatMap gX)))
theorem bI3 (y:Yard):rV y y.runs.length=eV y:=by
 unfold rV vC eV
 rw[take_length,take_length]
 rfl
theorem qF {α β:Type} {f:α→List β} {xs:List α} {i:Nat} {x:α} (h:xs[i]? = some x):(xs.take (i+1)).flatMap f=(xs.take i).flatMap f++f x:=by
 obtain ⟨hi,rfl⟩:=gsi_.1 h
 rw[take_succ_eq_append_getElem hi,flatMap_append]
 simp
theorem outE_next {y:Yard} {i:Nat} {l:List Entry} {k:Nat} {e:Entry} (h:l[k]? = some e):aC4 y i l k++gG e=aC4 y i l (k+1):=by
 unfold aC4
 rw[qF h]
 simp[append_assoc]
theorem bI4 {y:Yard} {i:Nat} {l:List Entry} (h:y.shelf[i]? = some l):aC4 y i l l.length=vC y (i+1):=by
 unfold aC4 vC
 rw[qF h,take_length]
 simp[gZ]
theorem outT_next {y:Yard} {i:Nat} {r:Run} {k:Nat} {e:Task} (h:r.tasks[k]? = some e):aC3 y i r k++gX e=aC3 y i r (k+1):=by
 unfold aC3
 rw[qF h]
 simp[append_assoc]
theorem bI2 {y:Yard} {i:Nat} {r:Run} (h:y.runs[i]? = some r):aC3 y i r r.tasks.length=rV y (i+1):=by
 unfold aC3 rV
 rw[qF h,take_length]
 simp[lJ,append_assoc]
theorem cG8 (y:Yard) (i:Nat) (r:Run):((rV y i++[r.id])++mX r.plan)++[r.state]=aC3 y i r 0:=by
 unfold aC3
 simp[append_assoc]
theorem outE_0 (y:Yard) (i:Nat) (l:List Entry):vC y i++[(l.length:Int)]=aC4 y i l 0:=by
 unfold aC4
 simp
theorem outR_0 (y:Yard):vC y y.shelf.length++[(y.runs.length:Int)]=rV y 0:=by
 unfold rV
 simp
/-! ### How many they are -/
theorem xM {α β:Type} {f:α→List β} {g:α→Nat} {c:Nat} (h:∀ x,(f x).length≤c*(g x+1)):∀ xs:List α,(xs.flatMap f).length≤c*(xs.length+(xs.map g).sum)
 | []=>by simp
 | x::xs=>by
  have ih:=xM h xs
  have h1:=h x
  rw[flatMap_cons,length_append,map_cons,sum_cons,length_cons]
  have e:c*(xs.length+1+(g x+(xs.map g).sum))=c*(g x+1)+c*(xs.length+(xs.map g).sum):=by
   rw[← Nat.mul_add];congr 1;omega
  omega
theorem bD2 {α β:Type} {f:α→List β} {c:Nat} (h:∀ x,(f x).length≤c) (xs:List α):(xs.flatMap f).length≤c*xs.length:=by
 have h1:=xM (f:=f) (g:=fun _=>0) (c:=c) (fun x=>by simpa using h x) xs
 have h2:(xs.map fun _=>0).sum=0:=by
  induction xs with
  | nil=>rfl
  | cons a xs ih=>rw[map_cons,sum_cons,ih (xM (f:=f) (g:=fun _=>0) (c:=c) (fun x=>by simpa using h x) xs)]
 rw[h2] at h1
 exact h1
theorem yE (y:Yard):(eV y).length≤3+8*y.wt:=by
 have h1:(y.shelf.flatMap gZ).length≤8*(y.shelf.length+(y.shelf.map fun l=>l.length).sum):=xM (fun l=>by
  have:=bD2 (f:=gG) (c:=4) (fun _=>by simp[gG]) l
  simp only[gZ,length_cons];omega) _
 have h2:(y.runs.flatMap lJ).length≤8*(y.runs.length+(y.runs.map fun q:Run=>q.wt).sum):=xM (fun q=>by
  have a:=bD2 (f:=gX) (c:=4) (fun _=>by simp[gX]) q.tasks
  have b:=bD2 (f:=pS) (c:=2) (fun _=>by simp[pS]) q.plan.edges
  rw[lJ,sE]
  simp only[Run.wt,Plan.wt,length_cons,length_append];omega) _
 unfold Yard.wt wtL eV
 simp only[length_cons,length_append]
 omega
theorem aJ8 (y:Yard) (i:Nat):rV y i <+: eV y:=by
 rw[← bI3]
 unfold rV
 rw[take_length]
 refine ⟨(y.runs.drop i).flatMap lJ,?_⟩
 rw[append_assoc,cons_append,← flatMap_append,take_append_drop]
theorem xB (y:Yard) (i:Nat):vC y i <+: eV y:=by
 refine List.IsPrefix.trans ?_ (aJ8 y 0)
 unfold rV vC
 rw[take_length]
 refine ⟨(y.shelf.drop i).flatMap gZ++((y.runs.length:Int)::(y.runs.take 0).flatMap lJ),?_⟩
 simp only[cons_append,← append_assoc,← flatMap_append,take_append_drop]
theorem outE_pre {y:Yard} {i:Nat} {l:List Entry} (h:y.shelf[i]? = some l) (k:Nat):aC4 y i l k <+: eV y:=by
 refine List.IsPrefix.trans ?_ (xB y (i+1))
 rw[← bI4 h]
 unfold aC4
 rw[take_length]
 refine ⟨(l.drop k).flatMap gG,?_⟩
 rw[append_assoc,cons_append,← flatMap_append,take_append_drop]
theorem bI1 {y:Yard} {i:Nat} {r:Run} (h:y.runs[i]? = some r) (k:Nat):aC3 y i r k <+: eV y:=by
 refine List.IsPrefix.trans ?_ (aJ8 y (i+1))
 rw[← bI2 h]
 unfold aC3
 rw[take_length]
 refine ⟨(r.tasks.drop k).flatMap gX,?_⟩
 simp only[append_assoc,cons_append,← flatMap_append,take_append_drop]
theorem uZ {a:List Int} {y:Yard} (h:a <+: eV y) (hw:y.wt≤1048576):a.length≤8388611:=by
 have:=h.length_le
 have:=yE y
 omega
theorem aD3 {α:Type} {g:α→Nat}:∀ {xs:List α} {x:α},x∈xs→g x≤(xs.map g).sum
 | a::xs,x,h=>by
  rw[map_cons,sum_cons]
  rcases mem_cons.1 h with rfl | h
  ·omega
  ·have:=aD3 (g:=g) h;omega
theorem run_wt_le {y:Yard} {r:Run} (h:r∈y.runs):r.wt≤y.wt:=by
 have:=aD3 (g:=fun q:Run=>q.wt) h
 unfold Yard.wt wtL
 omega
theorem shelf_wt_le {y:Yard} {l:List Entry} (h:l∈y.shelf):l.length≤y.wt:=by
 have:=aD3 (g:=fun q:List Entry=>q.length) h
 unfold Yard.wt wtL
 omega
theorem aR0 (y:Yard):y.shelf.length≤y.wt∧y.runs.length≤y.wt:=by unfold Yard.wt wtL;omega
theorem uR (l:List Int):(gJ l).length≤5*l.length:=bD2 (fun n=>by
 have:=eR n
 unfold cB9
 exact this) l
theorem zX {l:List Int} {k:Nat} {z:Int} (h:l[k]? = some z):gJ (l.take k)++(aW z).data.toList=gJ (l.take (k+1)):=(qF h).symm
theorem yardT_size {y:Yard} (hw:y.wt≤1048576):(jC y).size≤1000000000:=by
 unfold jC
 split
 ·have h1:=uR (eV y)
  have h2:=yE y
  show (gJ (eV y)).toArray.size≤_
  rw[size_toArray]
  omega
 decide
theorem cA3 (y:Yard) (hw:y.wt≤1048576):Ct1 prog 118 [.S y] [.B (aM y)]:=lF y hw
theorem YardOkSD (y:Yard) (hw:y.wt≤1048576):Ct1 prog 185 [.S y] [.B (aM y)]:=lE y hw
theorem VarsI (l:List Int) (hl:l.length≤20000000):Ct1 prog 203 [.L l] [.T ⟨(gJ l).toArray⟩]:=
 vc func203 (fun hg => .w UInt8 5 3 <| .l (Γ:=Nat) (fun k=>k≤l.length) (fun k=>l.length - k) [6,7] [] [0] (fun k=>[vR 3 1,vI 8 k]) (fun k=>[oR 1 5 (gJ (l.take k))]) 0 fun k hk t=>
  let hb:(gJ (l.take k)).length≤5*l.length:=by have:=uR (l.take k);rw[length_take] at this;omega
  .s ((k:Int)<l.length)
   (fun h => .x l k (h:=by omega) fun z hz gz => .c func202 (bN2 z) fun _ => .bs (gJ (l.take k)) (aW z) (by have:=eR z;unfold maxLen;omega) (by have:=eR z;omega) <|
    .g 1 (zX hz) <| .p k 1 (h:=by unfold I64;omega) <| .n t (k+1) [])
   (fun h => .g 1 (show gJ (l.take k)=gJ l by rw[take_of_length_le aB]) <| .so (gJ l) <| .rt () ⟨trivial,trivial⟩)) aD
theorem entryNs_good {e:Entry} (h:e.ok):∀ y∈gG e,(inferInstance:Dsh Int).good y:=by
 obtain ⟨h1,h2,h3,h4⟩:=h
 intro y hy
 simp only[gG,mem_cons,not_mem_nil,or_false] at hy
 rcases hy with rfl | rfl | rfl | rfl
 ·exact h1
 ·exact h2
 ·exact h3
 exact h4
theorem taskNs_good {e:Task} (h:e.ok):∀ y∈gX e,(inferInstance:Dsh Int).good y:=by
 obtain ⟨h1,h2,h3,h4⟩:=h
 intro y hy
 simp only[gX,mem_cons,not_mem_nil,or_false] at hy
 rcases hy with rfl | rfl | rfl | rfl
 ·exact h1
 ·exact h2
 ·exact h3
 exact h4
theorem yardT_no {y:Yard} (h:aM y=false):(⟨#[]⟩:ByteArray)=jC y:=by unfold jC;rw[if_neg (by rw[h];simp)]
theorem yardT_yes {y:Yard} (h:aM y=true):(⟨(gJ (eV y)).toArray⟩:ByteArray)=jC y:=by unfold jC;rw[if_pos h]
theorem aY2 (y:Yard) (hw:y.wt≤1048576):Ct1 prog 195 [.S y] [.T (jC y)]:=
 .one (jC y) (rk:=fun a=>[.T a])<|vc func195 (fun hg => .c func118 (cA3 y hw) (hg:=⟨hg.1.1,trivial⟩) fun _ => .v (aM y)
  (fun hb => .rt ⟨#[]⟩ ⟨yardT_no hb,trivial⟩)
  (fun hb=>let hsl:y.shelf.length≤1048576:=Nat.le_trans (aR0 y).1 hw
   let hrl:y.runs.length≤1048576:=Nat.le_trans (aR0 y).2 hw
   .lr (inferInstance:Dsh Int) gA 19 [y.now,y.seq] (by simp) (bE4 hg.1.1.1 hg.1.1.2) <|
   .l (Γ:=Nat) (fun i=>i≤y.shelf.length) (fun i=>y.shelf.length - i) [1,21,22] [2] [0,1] (fun i=>[vR 3 3,vI 23 i]) (fun i=>[oR 3 3 (vC y i)]) 0 fun i hi t=>
   let m1:=uZ (xB y i) hw
   .s ((i:Int)<y.shelf.length)
    (fun h => .x y.shelf i (h:=by omega) fun l hl gl=>let hll:l.length≤1048576:=Nat.le_trans (shelf_wt_le (mem_of_getElem? hl)) hw
     .a (vC y i) (l.length:Int) 8 (hy:=by show I64 _;unfold I64;omega) (h63:=by unfold maxLen;omega) (hby:=by omega) <|
     .g 3 (outE_0 y i l) <| .l (Γ:=Nat) (fun k=>k≤l.length) (fun k=>l.length - k) [1,21,22,23,32,33] [2] [0,1,5] (fun k=>[vR 3 3,vI 34 k]) (fun k=>[oR 3 3 (aC4 y i l k)]) 0 fun k hk t2=>
     let m2:=uZ (outE_pre hl k) hw
     .s ((k:Int)<l.length)
      (fun h2 => .x l k (h:=by omega) fun e he ge => .ap (inferInstance:Dsh Int) (aC4 y i l k) (gG e) (entryNs_good ge) 8 (by simp only[gG,length_cons,length_nil];unfold maxLen;omega) (by simp only[gG,length_cons,length_nil];omega) <|
       .g 3 (outE_next (y:=y) (i:=i) he) <| .p k 1 (h:=by unfold I64;omega) <| .n t2 (k+1) [])
      (fun h2 => .g 3 (show aC4 y i l k=vC y (i+1) by rw[show k=l.length by omega];exact bI4 hl) <| .p i 1 (h:=by unfold I64;omega) <| .n t (i+1) []))
    (fun h => .g 3 (show vC y i=vC y y.shelf.length by rw[show i=y.shelf.length by omega]) <| .a (vC y y.shelf.length) (y.runs.length:Int) 8 (hy:=by show I64 _;unfold I64;omega) (h63:=by have:=uZ (xB y y.shelf.length) hw;unfold maxLen;omega) (hby:=by have:=uZ (xB y y.shelf.length) hw;omega) <|
     .g 3 (outR_0 y) <| .l (Γ:=Nat) (fun i=>i≤y.runs.length) (fun i=>y.runs.length - i) [1,58,59] [2] [0,1] (fun i=>[vR 3 3,vI 60 i]) (fun i=>[oR 3 3 (rV y i)]) 0 fun i hi t=>
     let m1:=uZ (aJ8 y i) hw
     .s ((i:Int)<y.runs.length)
      (fun h => .x y.runs i (h:=by omega) fun r hr gr=>let gr:r.ok:=gr
       let hwr:r.wt≤1048576:=Nat.le_trans (run_wt_le (mem_of_getElem? hr)) hw
       let m0:=uZ (bI1 hr 0) hw
       let mm:(rV y i).length+(mX r.plan).length+2≤8388611:=by have:=m0;rw[← cG8] at this;simp only[length_append,length_cons,length_nil] at this;omega
       .a (rV y i) r.id 8 (hy:=gr.1) (h63:=by unfold maxLen;omega) (hby:=by omega) <|
       .c func301 (PlanNumbersI r.plan (by unfold Run.wt Plan.wt at hwr;omega)) (hg:=⟨gr.2.1,trivial⟩) fun _=>
       .as (inferInstance:Shape Int) gA (rV y i++[r.id]) (mX r.plan) 8 (by simp only[length_append,length_cons,length_nil];unfold maxLen;omega) (by simp only[length_append,length_cons,length_nil];omega) <|
       .a ((rV y i++[r.id])++mX r.plan) r.state 8 (hy:=gr.2.2) (h63:=by simp only[length_append,length_cons,length_nil];unfold maxLen;omega) (hby:=by simp only[length_append,length_cons,length_nil];omega) <|
       .g 3 (cG8 y i r) <| .l (Γ:=Nat) (fun k=>k≤r.tasks.length) (fun k=>r.tasks.length - k) [1,58,59,60,79,80] [2] [0,1,7] (fun k=>[vR 3 3,vI 81 k]) (fun k=>[oR 3 3 (aC3 y i r k)]) 0 fun k hk t2=>
       let m2:=uZ (bI1 hr k) hw
       .s ((k:Int)<r.tasks.length)
        (fun h2 => .x r.tasks k (h:=by omega) fun e he ge => .ap (inferInstance:Dsh Int) (aC3 y i r k) (gX e) (taskNs_good ge) 8 (by simp only[gX,length_cons,length_nil];unfold maxLen;omega) (by simp only[gX,length_cons,length_nil];omega) <|
         .g 3 (outT_next (y:=y) (i:=i) he) <| .p k 1 (h:=by unfold Run.wt at hwr;unfold I64;omega) <| .n t2 (k+1) [])
        (fun h2 => .g 3 (show aC3 y i r k=rV y (i+1) by rw[show k=r.tasks.length by omega];exact bI2 hr) <| .p i 1 (h:=by unfold I64;omega) <| .n t (i+1) []))
      (fun h => .g 3 (show rV y i=eV y by rw[show i=y.runs.length by omega];exact bI3 y) <| .c func203 (VarsI (eV y) (by have:=yE y;omega)) fun _ => .rt ⟨(gJ (eV y)).toArray⟩ ⟨yardT_yes hb,trivial⟩)))) aD
def mU (l:List Int):ByteArray:=⟨(gJ l).toArray⟩
theorem strOf_size (l:List Int):(mU l).size≤5*l.length:=by
 have:=uR l
 show (gJ l).toArray.size≤_
 simpa using this
theorem str_step {l:List Int} {k:Nat} {z:Int} (h:l[k]? = some z):mU (l.take k)++aW z=mU (l.take (k+1)):=by
 apply ByteArray.ext
 rw[ByteArray.data_append]
 apply Array.toList_inj.1
 show _=gJ (l.take (k+1))
 rw[← zX h]
 simp[mU]
theorem VarsS (l:List Int) (hl:l.length≤20000000):Ct1 prog 218 [.L l] [.T (mU l)]:=
 vc func218 (fun hg => .l (Γ:=Nat) (fun k=>k≤l.length) (fun k=>l.length - k) [0] [] [0] (fun k=>[vT 3 (mU (l.take k)),vI 4 k]) (fun _=>[]) 0 fun k hk t=>
  let hb:(mU (l.take k)).size≤5*l.length:=by have:=strOf_size (l.take k);rw[length_take] at this;omega
  .s ((k:Int)<l.length)
   (fun h => .x l k (h:=by omega) fun z hz gz => .c func214 (aY3 z) fun _ => .pb .add (kZ (mU (l.take k)) (aW z) (by have:=eR z;omega)) <|
    .rv 17 (.string (mU (l.take (k+1)))) (y := .string (mU (l.take k)++aW z)) (by rw[str_step hz]) <| .p k 1 (h:=by unfold I64;omega) <| .n t (k+1) [])
   (fun h => .rv 3 (.string (mU l)) (y := .string (mU (l.take k))) (by rw[take_of_length_le aB]) <| .rt () ⟨trivial,trivial⟩)) aD
theorem bG7 {s:ByteArray} (h:(60000:Int)<s.size):(([]:List ByteArray),(0:Int))=iB s:=by unfold iB;rw[if_pos h]
theorem aM4 (s:ByteArray) (a:Nat) (h:s.size≤1048576):(inferInstance:Dsh ByteArray).good (bV s a).1:=by
 show _≤maxLen
 unfold bV maxLen
 split
 ·exact Nat.zero_le _
 split
 ·simp only[ByteArray.size_extract];omega
 exact Nat.zero_le _
theorem wP {s:ByteArray} {g:List ByteArray×Nat} (h:ScJ s g) (hs:s.size≤1048576):g.1.length+1≤maxLen∧(g.1.length+1)*16≤140737488355328:=by
 have:=h.len;have:=h.le;unfold maxLen;omega
theorem ScanOf_i (s:ByteArray) (hs:s.size≤1048576):Ct1 prog 187 [.T s] [.L (iB s).1,.I (iB s).2]:=
 .one (iB s) (rk:=fun q=>[.L q.1,.I q.2])<|vc func187 (fun hg => .s ((60000:Int)<s.size)
  (fun h => .rt ([],0) ⟨bG7 h,trivial⟩)
  (fun h => .w ByteArray 9 4 <| .l (Γ:=List ByteArray×Nat) (ScJ s) (fun g=>s.size - g.2) [0] [] [] (fun g=>[vR 4 0,vI 5 g.2]) (fun g=>[oR 0 9 g.1]) ([],0) (h:=ScJ.start s) fun g hJ t=>
   .c func295 (FrameAt_i s g.2 hs hJ.le) fun _ => .s ((bV s g.2).2<0)
    (fun hb => .rt (g.1,(g.2:Int)) ⟨hJ.done h hb,trivial⟩)
    (fun hb => .ex (hJ.next hb) fun b hx => .rv 7 (I (b:Int)) (congrArg I hx.1) <| .a g.1 (bV s g.2).1 16 (hy:=aM4 s g.2 hs) (h63:=(wP hJ hs).1) (hby:=(wP hJ hs).2) <|
     .n t (g.1++[(bV s g.2).1],b) [] hx.2.2 (by have:=hx.2.1;have:=hx.2.2.le;dsimp only at *;omega)))) aD
theorem ScanOf_s (s:ByteArray) (hs:s.size≤1048576):Ct1 prog 212 [.T s] [.L (iB s).1,.I (iB s).2]:=
 .one (iB s) (rk:=fun q=>[.L q.1,.I q.2])<|vc func212 (fun hg => .e ByteArray <| .s ((60000:Int)<s.size)
  (fun h => .rt ([],0) ⟨bG7 h,trivial⟩)
  (fun h => .l (Γ:=List ByteArray×Nat) (ScJ s) (fun g=>s.size - g.2) [0] [] [] (fun g=>[vR 4 0,vI 5 g.2]) (fun g=>[oR 0 9 g.1]) ([],0) (h:=ScJ.start s) fun g hJ t=>
   .s ((g.2:Int)<s.size)
    (fun h2 => .c func320 (FrameAt_s s g.2 hs hJ.le) fun _ => .s ((bV s g.2).2<0)
     (fun hb => .rt (g.1,(g.2:Int)) ⟨hJ.done h hb,trivial⟩)
     (fun hb => .ex (hJ.next hb) fun b hx => .rv 7 (I (b:Int)) (congrArg I hx.1) <| .a g.1 (bV s g.2).1 16 (hy:=aM4 s g.2 hs) (h63:=(wP hJ hs).1) (hby:=(wP hJ hs).2) <|
      .n t (g.1++[(bV s g.2).1],b) [] hx.2.2 (by have:=hx.2.1;have:=hx.2.2.le;dsimp only at *;omega)))
    (fun h2 => .rt (g.1,(g.2:Int)) ⟨hJ.done h (frameAt_end h2),trivial⟩))) aD
theorem aG1 {n:Note} (h:n.ok):∀ y∈[n.seq,n.deed.kind],(inferInstance:Dsh Int).good y:=bE4 h.1 h.2.1
theorem aK1 {n:Note} (h:n.deed.plan.edges.length≤31):(dN n).length≤100:=by
 have:=rO n.deed
 unfold dN
 simp only[length_cons]
 omega
theorem aP7 (n:Note):Ct1 prog 105 [.S n] [.T (gV n)]:=
 .one (gV n) (rk:=fun t=>[.T t])<|vc func105 (fun (hg:gin [Par.S n])=>let gn:n.ok:=hg.1.1
  .c func151 (bN5 n.deed) (hg:=⟨gn.2,trivial⟩) fun _ => .v (bA n.deed)
  (fun h => .rt ⟨#[]⟩ ⟨nZ (fun hc=>by rw[h] at hc;cases hc.1),trivial⟩)
  (fun h => .c func92 (bZ n.seq 1 1000000000) fun _ => .v (inB n.seq 1 1000000000)
   (fun h2 => .rt ⟨#[]⟩ ⟨nZ (fun hc=>by rw[h2] at hc;cases hc.2.1),trivial⟩)
   (fun h2=>let he:=(oJ h).2.1
    let hl:=rO n.deed
    let fin:D prog (fun t:ByteArray=>t=gV n∧rgd [Rk.T t]) := .as (inferInstance:Shape Int) gA [n.seq,n.deed.kind] (bK n.deed) 8 (by simp only[length_cons,length_nil];unfold maxLen;omega) (by simp only[length_cons,length_nil];omega) <|
     .c func203 (VarsI (dN n) (by have:=aK1 he;omega)) fun _ => .s ((400:Int)<(aQ6 (dN n)).size)
     (fun h3 => .rt ⟨#[]⟩ ⟨nZ (fun hc=>by omega),trivial⟩)
     (fun h3 => .rt (aQ6 (dN n)) ⟨yW ⟨h,h2,by omega⟩,trivial⟩)
    .pm fun i=>match i with
     | 5 => .lr (inferInstance:Dsh Int) gA 999999 [n.seq,n.deed.kind] (by simp) (aG1 gn) <| .c func204 (vY n.deed aB) (hg:=⟨gn.2,trivial⟩) fun _=>fin
     | _ => .c func204 (vY n.deed aB) (hg:=⟨gn.2,trivial⟩) fun _ => .lr (inferInstance:Dsh Int) gA 999999 [n.seq,n.deed.kind] (by simp) (aG1 gn) fin))) aD
noncomputable def cH6 (n:Note) (j:Nat) (h:bA n.deed=true) (h2:inB n.seq 1 1000000000=true):D prog (fun t:ByteArray=>t=gV n∧rgd [Rk.T t]):=
 .sh j <| .c func218 (VarsS (dN n) (by have:=aK1 (oJ h).2.1;omega)) fun _ => .s ((400:Int)<(mU (dN n)).size)
  (fun h3 => .rt ⟨#[]⟩ ⟨nZ (fun hc=>by have:(aQ6 (dN n)).size=(mU (dN n)).size:=rfl;omega),trivial⟩)
  (fun h3 => .rt (mU (dN n)) ⟨yW ⟨h,h2,by have:(aQ6 (dN n)).size=(mU (dN n)).size:=rfl;omega⟩,trivial⟩)
theorem aP6 (n:Note):Ct1 prog 114 [.S n] [.T (gV n)]:=
 .one (gV n) (rk:=fun t=>[.T t])<|vc func114 (fun (hg:gin [Par.S n])=>let gn:n.ok:=hg.1.1
  let gd:n.deed.ok:=gn.2
  let gi:Dsh Int:=inferInstance
  let d:=n.deed
  .c func217 (bN4 n.deed) (hg:=⟨gn.2,trivial⟩) fun _ => .v (bA n.deed)
  (fun h => .rt ⟨#[]⟩ ⟨nZ (fun hc=>by rw[h] at hc;cases hc.1),trivial⟩)
  (fun h => .c func138 (InV n.seq 1 1000000000) fun _ => .v (inB n.seq 1 1000000000)
   (fun h2 => .rt ⟨#[]⟩ ⟨nZ (fun hc=>by rw[h2] at hc;cases hc.2.1),trivial⟩)
   (fun h2=>let he:d.plan.edges.length≤31:=(oJ h).2.1
    let add:∀ ys:List Int,(∀ y∈ys,(inferInstance:Dsh Int).good y)→ys.length≤6→ys=bK d→D prog (fun t:ByteArray=>t=gV n∧rgd [Rk.T t]):=fun ys hy hl e => .ap gi [n.seq,d.kind] ys hy 8 (by simp only[length_cons,length_nil];unfold maxLen;omega) (by simp only[length_cons,length_nil];omega) <| .g 3 (show [n.seq,d.kind]++ys=dN n by rw[e];rfl)<|cH6 n 3 h h2
    .lr gi gA 22 [n.seq,n.deed.kind] (by simp) (aG1 gn) <| .s (d.kind=1)
     (fun k1 => .ap gi [n.seq,d.kind] (kR d) (good6 gd aB) 8 (by simp only[kR,length_cons,length_nil];unfold maxLen;omega) (by simp only[kR,length_cons,length_nil];omega) <|
      .l (Γ:=Nat) (fun k=>k≤d.plan.edges.length) (fun k=>d.plan.edges.length - k) [777777,22,27,47] [777777] [777777] (fun k=>[vI 5 k,vR 4 3]) (fun k=>[oR 3 3 ([n.seq,d.kind]++(kR d++dB (d.plan.edges.take k)))]) 0 fun k hk t=>
       let hln:([n.seq,d.kind]++(kR d++dB (d.plan.edges.take k))).length≤70:=(by rw[length_append,length_append,nI,length_take];simp only[length_cons,length_nil];omega)
       .s ((k:Int)<d.plan.edges.length)
        (fun h5 => .x d.plan.edges k (h:=by omega) fun e he ge => .y he fun _ => .ap gi ([n.seq,d.kind]++(kR d++dB (d.plan.edges.take k))) [e.from_,e.to_] (bE4 (show e.ok from ge).1 (show e.ok from ge).2) 8 (by simp only[length_cons,length_nil];unfold maxLen;omega) (by simp only[length_cons,length_nil];omega) <|
         .g 3 (show ([n.seq,d.kind]++(kR d++dB (d.plan.edges.take k)))++[e.from_,e.to_]=[n.seq,d.kind]++(kR d++dB (d.plan.edges.take (k+1))) by rw[append_assoc,append_assoc,bZ0 he]) <| .p k 1 (h:=by unfold I64;omega) <| .n t (k+1) [])
        (fun h5 => .g 3 (show [n.seq,d.kind]++(kR d++dB (d.plan.edges.take k))=dN n by rw[cH4 k1 h5];rfl)<|cH6 n 3 h h2))
     (fun k1 => .s (d.kind=2)
      (fun k2=>add [d.worker,d.draw] (bE4 gd.2.2.2.2.2.1 gd.2.2.2.2.2.2) (by simp) (cH3 k2))
      (fun k2=>let three:d.kind=3∨d.kind=4→D prog (fun t:ByteArray=>t=gV n∧rgd [Rk.T t]):=fun k=>add [d.run,d.task,d.try_] (fun z hz=>(mem_cons.1 hz).elim (fun e=>by rw[e];exact gd.2.1) (bE4 gd.2.2.2.1 gd.2.2.2.2.1 z)) (by simp) (cH2 k)
       let one:d.kind=6∨d.kind=7→D prog (fun t:ByteArray=>t=gV n∧rgd [Rk.T t]):=fun k=>add [d.run] (all1 gd.2.1) (by simp) (cH1 k)
       .s (d.kind=3) (fun k=>three (.inl k)) (fun k3 => .s (d.kind=4) (fun k=>three (.inr k)) (fun k4 => .s (d.kind=6) (fun k=>one (.inl k)) (fun k6 => .s (d.kind=7) (fun k=>one (.inr k)) (fun k7=>
        .g 3 (show [n.seq,d.kind]=dN n by unfold dN;rw[← cH0 k1 k2 aB aB])<|cH6 n 3 h h2)))))))))  aD
structure MJ {σ β:Type} (bad:σ→Bool) (one:σ→σ×β) (In:σ→Prop) (x0:σ) (m:Int) (g:Nat×σ×List β):Prop where
 le:g.1≤m.toNat
 eq:(g.2.1,g.2.2)=bF bad one x0 g.1
 inn:In g.2.1
 len:g.2.2.length≤g.1
section
variable {σ β:Type} {bad:σ→Bool} {one:σ→σ×β} {In:σ→Prop} {x0:σ} {m:Int} {g:Nat×σ×List β}
theorem MJ.start (h:In x0):MJ bad one In x0 m (0,x0,[]):=⟨Nat.zero_le _,rfl,h,Nat.le_refl _⟩
theorem MJ.next (h:MJ bad one In x0 m g) (hI:∀ x,In x→In (one x).1) (hm:(g.1:Int)<m) (hb:bad g.2.1=false):MJ bad one In x0 m (g.1+1,(one g.2.1).1,g.2.2++[(one g.2.1).2]):=by
 have e1:(bF bad one x0 g.1).1=g.2.1:=by rw[← h.eq]
 have e2:(bF bad one x0 g.1).2=g.2.2:=by rw[← h.eq]
 refine ⟨by show g.1+1≤m.toNat;omega,?_,hI _ h.inn,by have:=h.len;simp only[length_append,length_singleton];omega⟩
 show _=(if bad (bF bad one x0 g.1).1=true then _ else _)
 rw[e1,e2,if_neg (by rw[hb];simp)]
theorem MJ.all (h:MJ bad one In x0 m g) (hm:¬ (g.1:Int)<m):(g.2.1,g.2.2)=bF bad one x0 m.toNat:=by
 rw[h.eq,show g.1=m.toNat by have:=h.le;omega]
theorem MJ.stop (h:MJ bad one In x0 m g) (hb:bad g.2.1=true):(g.2.1,g.2.2)=bF bad one x0 m.toNat:=by
 have e1:(bF bad one x0 g.1).1=g.2.1:=by rw[← h.eq]
 rw[h.eq,many_bad (by rw[e1];exact hb) _ h.le]
end
def lbx (x:LIn):List Tc:=[.v (.string x.s),.v (I x.at_),.b x.bad]
noncomputable def aQ7 (k m:Int) (x:LIn):LIn:=linR.lim k m x
theorem bP3 {k m:Int} {x:LIn} (h:k<m):aQ7 k m x=⟨x.s,x.at_,true⟩:=by
 show (if _ then _ else _)=_;rw[if_pos h]
theorem bP4 {k m:Int} {x:LIn} (h:¬ k<m):aQ7 k m x=x:=by
 show (if _ then _ else _)=_;rw[if_neg h]
theorem shelfL_eq (x:LIn):qU x=dL linR x:=by
 have key:∀ (y:LIn) i,fB y i=bF LIn.bad (kE linR) y i:=by
  intro y i
  induction i with
  | zero=>rfl
  | succ i ih=>
   show (if _ then _ else _)=(if _ then _ else _)
   rw[ih];rfl
 unfold qU
 rw[key]
 rfl
section
variable {A:Type} {R:A→Prop}
noncomputable def cG5 (x x0:LIn) (a b c d m:Int) (h4:I64 a∧I64 b∧I64 c∧I64 d) (hm:m≤1000000000) (hi:x0.in_) (e:∀ y es,(y,es)=bF LIn.bad (iV linR) x0 m.toNat→(y,(⟨a,b,c,d,es⟩:Plan))=eY linR x):D prog (fun q:LIn×Plan=>q=eY linR x∧rgd [Rk.S q.2]):=
 .r0 (inferInstance:Shape Edge) 239 <| .lp (Γ:=Nat×LIn×List Edge) (fun g=>MJ LIn.bad (iV linR) LIn.in_ x0 m g) (fun g=>m.toNat - g.1) [0,2,3,4] [1,1000000] [] (fun g=>[vI 5 g.1]) (fun g=>[oR 3 239 g.2.2,oB 2 [.v (I a),.v (I b),.v (I c),.v (I d),.r 3],oB 0 (lbx g.2.1)]) (0,x0,[]) (MJ.start hi) [] fun g hJ t=>
  .s ((g.1:Int)<m)
   (fun h => .sb (!g.2.1.bad)
    (fun hb=>cmL g.2.1 hJ.inn<|cmL (aI g.2.1).1 (bI hJ.inn) <|
     .a g.2.2 (iV linR g.2.1).2 16 (hy:=bZ1 linB _ hJ.inn) (h63:=by have:=hJ.len;have:=hJ.le;unfold maxLen;omega) (hby:=by have:=hJ.len;have:=hJ.le;omega) <| .p g.1 1 (h:=by unfold I64;omega) <|
     .n t (g.1+1,(iV linR g.2.1).1,g.2.2++[(iV linR g.2.1).2]) [] (hJ.next (aE9 linB) h (bnT hb)) (by dsimp only;omega))
    (fun hb => .rt (g.2.1,⟨a,b,c,d,g.2.2⟩) ⟨e _ _ (hJ.stop (bnF hb)),h4,trivial⟩))
   (fun h => .rt (g.2.1,⟨a,b,c,d,g.2.2⟩) ⟨e _ _ (hJ.all h),h4,trivial⟩)
end
theorem PlanL (x:LIn) (h:x.in_):Cm prog 322 [] inferInstance x (fun _:Unit=>True) (fun _=>(eY linR x).1) (fun _=>[.S (eY linR x).2]):=
 Cm.one (eY linR x) (y:=fun a=>a.1) (rk:=fun a=>[.S a.2])<|vcm func322 (fun hg hn=>
  let x1:=(aI x).1
  let x2:=(aI x1).1
  let x3:=(aI x2).1
  let x4:=(aI x3).1
  let h1:=bI h
  let h2:=bI h1
  let h3:=bI h2
  let h4:=bI h3
  cmL x h<|cmL x1 h1<|cmL x2 h2<|cmL x3 h3<|cmL x4 h4 <| .s ((31:Int)<(aI x4).2)
  (fun h8=>cG5 x ⟨(aI x4).1.s,(aI x4).1.at_,true⟩ (aI x).2 (aI x1).2 (aI x2).2 (aI x3).2 (aI x4).2 ⟨bX _,bX _,bX _,bX _⟩ (qA x4) (bI h4) (fun y es he=>by
   show _=(fun q:LIn×List Edge=>(q.1,(⟨(aI x).2,(aI x1).2,(aI x2).2,(aI x3).2,q.2⟩:Plan))) (bF LIn.bad (iV linR) (aQ7 31 (aI x4).2 (aI x4).1) (aI x4).2.toNat)
   rw[bP3 h8,← he]))
  (fun h8=>cG5 x (aI x4).1 (aI x).2 (aI x1).2 (aI x2).2 (aI x3).2 (aI x4).2 ⟨bX _,bX _,bX _,bX _⟩ (qA x4) (bI h4) (fun y es he=>by
   show _=(fun q:LIn×List Edge=>(q.1,(⟨(aI x).2,(aI x1).2,(aI x2).2,(aI x3).2,q.2⟩:Plan))) (bF LIn.bad (iV linR) (aQ7 31 (aI x4).2 (aI x4).1) (aI x4).2.toNat)
   rw[bP4 h8,← he]))) aD
section
variable {A:Type} {R:A→Prop}
noncomputable def cmP (x:LIn) (h:x.in_) (k:gds [Rk.S (eY linR x).2]→D prog R):D prog R := .cm 322 func322 (PlanL x h) trivial fun _ _ _ hg=>k hg
noncomputable def cG0 (x x0:LIn) (id:Int) (p:Plan) (st:Int) (hok:I64 id∧p.ok∧I64 st) (hl:p.edges.length≤9223372036854775807) (hm:p.tasks≤1000000000) (hi:x0.in_) (e:∀ y ts,(y,ts)=bF LIn.bad (iH linR) x0 p.tasks.toNat→(y,(⟨id,p,st,ts⟩:Run))=iE linR x):D prog (fun q:LIn×Run=>q=iE linR x∧rgd [Rk.S q.2]):=
 .r0 (inferInstance:Shape Task) 158 <| .lp (Γ:=Nat×LIn×List Task) (fun g=>MJ LIn.bad (iH linR) LIn.in_ x0 p.tasks g) (fun g=>p.tasks.toNat - g.1) [0,2,3] [1,3,1000000] [] (fun g=>[vI 4 g.1]) (fun g=>[oR 4 158 g.2.2,oB 2 [.v (I id),.v (I p.prio),.v (I p.most),.v (I p.wait),.v (I p.tasks),.r 3,.v (I st),.r 4],oB 0 (lbx g.2.1)]) (0,x0,[]) (MJ.start hi) [] fun g hJ t=>
  .s ((g.1:Int)<p.tasks)
   (fun h => .sb (!g.2.1.bad)
    (fun hb=>let x1:=(aI g.2.1).1
     let x2:=(aI x1).1
     let x3:=(aI x2).1
     cmL g.2.1 hJ.inn<|cmL x1 (bI hJ.inn)<|cmL x2 (bI (bI hJ.inn))<|cmL x3 (bI (bI (bI hJ.inn))) <|
     .a g.2.2 (iH linR g.2.1).2 32 (hy:=bS7 linB _ hJ.inn) (h63:=by have:=hJ.len;have:=hJ.le;unfold maxLen;omega) (hby:=by have:=hJ.len;have:=hJ.le;omega) <| .p g.1 1 (h:=by unfold I64;omega) <|
     .n t (g.1+1,(iH linR g.2.1).1,g.2.2++[(iH linR g.2.1).2]) [] (hJ.next (aD1 linB) h (bnT hb)) (by dsimp only;omega))
    (fun hb => .rt (g.2.1,⟨id,p,st,g.2.2⟩) ⟨e _ _ (hJ.stop (bnF hb)),hok,trivial⟩))
   (fun h => .rt (g.2.1,⟨id,p,st,g.2.2⟩) ⟨e _ _ (hJ.all h),hok,trivial⟩)
end
theorem RunL (x:LIn) (h:x.in_):Cm prog 351 [] inferInstance x (fun _:Unit=>True) (fun _=>(iE linR x).1) (fun _=>[.S (iE linR x).2]):=
 Cm.one (iE linR x) (y:=fun a=>a.1) (rk:=fun a=>[.S a.2])<|vcm func351 (fun hg hn=>
  let x1:=(aI x).1
  let h1:=bI h
  let q:=eY linR x1
  let h2:=wY linB x1 h1
  cmL x h<|cmP x1 h1 fun gd=>cmL q.1 h2 <| .s ((12:Int)<q.2.tasks)
  (fun h8=>cG0 x ⟨(aI q.1).1.s,(aI q.1).1.at_,true⟩ (aI x).2 q.2 (aI q.1).2 ⟨bX _,tH linB x1 h1,bX _⟩ gd.1.2.1 (vA linB x1 h1).2 (bI h2) (fun y es he=>by
   show _=(fun z:LIn×List Task=>(z.1,(⟨(aI x).2,q.2,(aI q.1).2,z.2⟩:Run))) (bF LIn.bad (iH linR) (aQ7 12 q.2.tasks (aI q.1).1) q.2.tasks.toNat)
   rw[bP3 h8,← he]))
  (fun h8=>cG0 x (aI q.1).1 (aI x).2 q.2 (aI q.1).2 ⟨bX _,tH linB x1 h1,bX _⟩ gd.1.2.1 (vA linB x1 h1).2 (bI h2) (fun y es he=>by
   show _=(fun z:LIn×List Task=>(z.1,(⟨(aI x).2,q.2,(aI q.1).2,z.2⟩:Run))) (bF LIn.bad (iH linR) (aQ7 12 q.2.tasks (aI q.1).1) q.2.tasks.toNat)
   rw[bP4 h8,← he]))) aD
end Go.Proofs.YtanpcpoogkdlaaaGreat
