/-
  The law on MarkOf, walked.
  What is handed to a law, taken out of the row's reading: it is data in memory, as the walks want it.
  A law's arguments, taken out of the row's reading.
-/
import Derived.ProofKit
import Derived.OpenShut
import Derived.Test.YtanpcpoogkdlaaaGreatQ01
import Derived.Test.YtanpcpoogkdlaaaGreatQ02
import Derived.Test.YtanpcpoogkdlaaaGreatQ03
import Derived.Test.YtanpcpoogkdlaaaGreatQ05
namespace Go.Proofs.YtanpcpoogkdlaaaGreat
set_option linter.unusedSimpArgs false
set_option linter.unusedVariables false
set_option maxRecDepth 100000
set_option maxHeartbeats 2000000
open Go.RowKit Go.Proofs.Tryz List
theorem markOf_law (w : World) (cs0 : List Value) (x0 : Disk) (fp0 : List Nat) (hc0 : Shape.C w cs0 x0 fp0) :
  Calls prog 5 #[.agg cs0.toArray] w fun e w' => e = .returned (.bool true) ∧ Below w.heap.size w w' := by
 have hwm : (moY x0).wt ≤ x0.wt + 100 := moC_wt x0
 refine dS func5 rfl ntmps5 aV (wp_seq (aA (sg (aI (cs := cs0) rfl (St.start w) ?_)))); intro b1 W2 hb3 st4
 refine sg (aE (aB (wp_seq (aA (sg (aE (aB (wp_seq (aA (rc st4 4 Ag.nil.put.put.put.put [3] [(3, I (szL 1048576 x0.wt))] [qw 0 rfl (Shape.len hc0), qc func33 rfl (fun W s b => szDisk_n W (aX hc0 s.below) 1048576 aC aC)] aD fun f11 W12 h11_ st13 hb14 => (aB (wp_seq (wp_seq ?_)))))))))))))
 refine aA (sg (aG (h11_.at 3) (sg (bL rfl rfl (aB (aJ rfl (fun h17p => ?_) (fun h17p => ?_)))))))
 ·have h17q := yI h17p aC
  refine wp_seq (aA (sg (aE (aB (wr (aL results5 rfl ?_))))))
  exact ⟨rfl, st13.below⟩
 have h17q := yJ h17p aC
 refine wp_skip (wp_seq (aA (sg (cW oT rfl (h11_.at 1) (st13.get 0 rfl) (Shape.len hc0) (sg (dD func35 rfl rfl ((nW W12 (aX hc0 st13.below) (by first | exact hw | omega | (simp only [Plan.wt, Run.wt, Yard.wt, Deed.wt, Note.wt, File.wt, Disk.wt, Engine.wt, WorldD.wt, ActD.wt, Span.wt, Crew.wt] at *; omega))).mono ?_))))))); rintro _ W24 ⟨cs22, fp22, rfl, hk25⟩; refine ⟨_, rfl, ?_⟩
 have st26 := St.call st13 hk25
 refine sg (dD func34 rfl rfl ((MarkOfSC W24 (dP (st26.get 0 rfl) rfl) aC).mono ?_)); rintro _ W30 ⟨cs28, fp28, rfl, hk31⟩; refine ⟨_, rfl, ?_⟩
 have st32 := St.call st26 hk31
 refine rn st32 4 h11_.put.put.put.put.put [] [(26, .agg cs28.toArray), (27, I (moN x0)), (28, .bool (moB x0))] [] aD fun f35 h35_ => (sg (bO mE st32 ?_)); intro b36 W37 hb38 st39
 refine sgn (bC (cs := cs28) fM (dP (st39.get 1 rfl) rfl) rfl (h35_.at 26) st39 rfl ?_); intro W41 st42
 refine sg (aF (h35_.at 27) (sg (aF (h35_.at 28) (aB (wp_seq (aA (sg (cW oT rfl (h35_.at 1) (st42.get 3 rfl) (Shape.len hc0) (sg (dD func35 rfl rfl ((nW W41 (aX hc0 st42.below) (by first | exact hw | omega | (simp only [Plan.wt, Run.wt, Yard.wt, Deed.wt, Note.wt, File.wt, Disk.wt, Engine.wt, WorldD.wt, ActD.wt, Span.wt, Crew.wt] at *; omega))).mono ?_))))))))))); rintro _ W49 ⟨cs47, fp47, rfl, hk50⟩; refine ⟨_, rfl, ?_⟩
 have st51 := St.call st42 hk50
 refine sg (bO vY st51 ?_); intro b53 W54 hb55 st56
 refine sgn (bC (cs := cs47) mM (dP (st56.get 1 rfl) rfl) rfl rfl st56 rfl ?_); intro W58 st59
 refine aB (wp_seq (aA (sg (cW mM rfl rfl (st59.get 0 rfl) (Shape.len (dP (st59.get 1 rfl) rfl)) (sg (dD func25 rfl rfl ((yF W58 (dP (st59.get 1 rfl) rfl) aC).mono ?_))))))); rintro _ W64 ⟨cs62, fp62, rfl, hk65⟩; refine ⟨_, rfl, ?_⟩
 have st66 := St.call st59 hk65
 refine lw h35_.put.put.put.put.put.put.put.put [(1, pt_ b1), (4, pt_ b36), (5, I (moN x0)), (6, .bool (moB x0)), (7, pt_ b53), (33, .tuple #[.agg cs62.toArray, I (moN x0), .bool (moB x0)])] aD fun h70_ => (rn st66 4 h70_ [] [(34, .agg cs62.toArray), (35, I (moN x0)), (36, .bool (moB x0))] [] aD fun f69 h69_ => (sg (bO mE st66 ?_))); intro b71 W72 hb73 st74
 refine sgn (bC (cs := cs62) fM (dP (st74.get 1 rfl) rfl) rfl (h69_.at 34) st74 rfl ?_); intro W76 st77
 refine sg (aF (h69_.at 35) (sg (aF (h69_.at 36) (aB (wp_seq (wp_seq (aA ?_)))))))
 rcases bd (!(eqB (moY x0) (moY x0))) with h81 | h81
 ·rcases Decidable.em ((moN x0) = (moN x0)) with h82p | h82p
  ·have h82 := gQ h82p
   refine rc st77 12 h69_.put.put.put [] [(46, .bool false), (47, .bool (moB x0)), (48, .bool (moB x0))] [qw 0 rfl (Shape.len (dP (st77.get 1 rfl) rfl)), qw 4 rfl (Shape.len (dP (st77.get 5 rfl) rfl)), qc func36 rfl (fun W s b => tO W (dP (s.get 1 rfl) rfl) (dP (s.get 5 rfl) rfl)), qk h81, qk h82] aD fun f83 W84 h83_ st85 hb86 => (sgo 46 rfl aV (aE4 (h83_.at 46) rfl) (sF underlying4 (h83_.at 47) (h83_.at 48) (sg (gW (h83_.at 46) rfl (aB (bU rfl (fun h89 => ?_) (fun h89 => ?_)))))))
   ·exact absurd (aN h89) (by simp)
   refine wp_skip (wp_seq (wp_seq (rA 3 [(some 2, none, .of (ι := List Value × List Nat) [53] (fun ⟨cs90, fp90⟩ => [.agg cs90.toArray]) (fun ⟨cs90, fp90⟩ => Res.own (α := Disk) (.agg cs90.toArray) x0 fp90))] [(true, .is (.agg cs47.toArray)), (true, .is (.agg cs0.toArray)), (false, .ex (fun (cs90 : List Value) => .agg cs90.toArray))] mix aD aD aD aD (rs0 := []) rfl st85 (Below.refl _ _) ⟨(fun f W hst hbl hd hf => cW mM rfl ((hf 7 rfl).trans (h83_.at 7)) (hst.get 2 rfl) (Shape.len (dP (hst.get 3 rfl) rfl)) brq), (fun f W hst hbl hd hf => cW oT rfl ((hf 1 rfl).trans (h83_.at 1)) (hst.get 7 rfl) (Shape.len hc0) brq), ?_, trivial⟩ ?_)))
   ·intro f W ru oth hu hst hbl hd hf
    have hn_ : ru = [] := hu
    subst hn_
    try simp only [tT, tC] at hst
    refine (dD func35 rfl (hd 1 52 rfl rfl) ((nW W (aX hc0 hst.below) (by first | exact hw | omega | (simp only [Plan.wt, Run.wt, Yard.wt, Deed.wt, Note.wt, File.wt, Disk.wt, Engine.wt, WorldD.wt, ActD.wt, Span.wt, Crew.wt] at *; omega))).mono ?_)); rintro _ W92 ⟨cs90, fp90, rfl, hk93⟩; refine ⟨_, rfl, ?_⟩
    have st94 := St.call hst hk93
    exact ⟨⟨cs90, rfl⟩, ⟨_, ⟨_, _, rfl, ⟨(cs90, fp90), (ce rfl rfl), rfl⟩, rfl⟩, st94⟩, (hbl.trans (Below.mono hk93.below hbl.size))⟩
   intro f96 W97 rs_ hAL_ st100 hbl101 hv98 hf99
   obtain ⟨_, _, rfl, ⟨⟨cs90, fp90⟩, he102, rfl⟩, hn_⟩ := hAL_
   have hn_ : _ = [] := hn_
   subst hn_
   have hu102_53 : f96 53 = .agg cs90.toArray := congrArg (fun l => l.getD 0 undef) he102
   try simp only [tT, tC] at st100
   refine rc st100 2 (Ag.cons (show f96 1 = pt_ b1 from ((hf99 1 rfl).trans (h83_.at 1))) (Ag.cons (show f96 4 = pt_ b36 from ((hf99 4 rfl).trans (h83_.at 4))) (Ag.cons (show f96 5 = I (moN x0) from ((hf99 5 rfl).trans (h83_.at 5))) (Ag.cons (show f96 6 = .bool (moB x0) from ((hf99 6 rfl).trans (h83_.at 6))) (Ag.cons (show f96 7 = pt_ b53 from ((hf99 7 rfl).trans (h83_.at 7))) (Ag.cons (show f96 8 = pt_ b71 from ((hf99 8 rfl).trans (h83_.at 8))) (Ag.cons (show f96 9 = I (moN x0) from ((hf99 9 rfl).trans (h83_.at 9))) (Ag.cons (show f96 10 = .bool (moB x0) from ((hf99 10 rfl).trans (h83_.at 10))) (Ag.cons (show f96 51 = .agg cs47.toArray from (hv98 0 51 aV rfl)) (Ag.cons (show f96 53 = .agg cs90.toArray from hu102_53) Ag.nil)))))))))) [] [(55, .bool (!(eqB x0 x0)))] [qc func37 rfl (fun W s b => eqDisk_n W (dP (s.get 4 rfl) rfl) (dP (s.get 0 rfl) rfl)), .o] aD fun f105 W106 h105_ st107 hb108 => (aB (bU (h105_.at 55) (fun h109 => ?_) (fun h109 => ?_)))
   ·exact absurd (aN h109) (by rw [cD rfl]; decide)
   refine wp_skip (wp_seq (aA (sg (aE (aB (wp_seq (aA (sg (cW mM rfl (h105_.at 7) (st107.get 3 rfl) (Shape.len (dP (st107.get 4 rfl) rfl)) (sg (aG (v := I 1) rfl (sg (bV func38 rfl rfl rfl ((markDisk_n st107.f4 1 aC (by have := nt_Disk x0; omega)).mono ?_)))))))))))))); rintro _ W114 ⟨fp117, rfl, st116⟩; refine ⟨_, rfl, ?_⟩
   refine sg (aF (v := I (1 + (iD x0 : Nat))) rfl (aB (wp_seq (wp_seq (aA ?_)))))
   rcases nem ((1 + (iD x0 : Nat)) < 0) with h122p | h122p
   ·have h122 := decide_eq_false h122p
    refine rc st116 16 h105_.put.put.put.put.put [] [(72, .bool false), (73, .bool (moB x0)), (74, .bool (moB x0))] [qk h122, qw 2 rfl (Shape.len (dP (st116.get 3 rfl) rfl)), qw 5 rfl (Shape.len (dP (st116.get 6 rfl) rfl)), qc func36 rfl (fun W s b => tO W (dP (s.get 3 rfl) rfl) (dP (s.get 6 rfl) rfl)), qk h81, qk h82] aD fun f123 W124 h123_ st125 hb126 => (sgo 72 rfl aV (aE4 (h123_.at 72) rfl) (sF underlying4 (h123_.at 73) (h123_.at 74) (sg (gW (h123_.at 72) rfl (aB (kG rfl h89 (wp_skip (wp_seq (aA (sg (aE (aB (wp_seq (aA ?_))))))))))))))
    refine sg (cW fM rfl (h123_.at 8) (st125.get 2 rfl) (Shape.len (dP (st125.get 3 rfl) rfl)) (sg (aG (v := I 1) rfl (sg (bV func39 rfl rfl rfl ((markYard_n st125.f3 1 aC (by have := wN (moY x0); omega)).mono ?_)))))); rintro _ W133 ⟨fp136, rfl, st135⟩; refine ⟨_, rfl, ?_⟩
    refine sg (aF (v := I (1 + (cN (moY x0) : Nat))) rfl (aB (wp_seq (aA (sg (aE (aB (wp_seq (aA (sg (cW fM rfl (h123_.at 8) (st135.get 3 rfl) (Shape.len (dP (st135.get 0 rfl) rfl)) (sg (aG (v := I 1) rfl (sg (bV func40 rfl rfl rfl ((tK W133 (x := (moY x0)) (dP (st135.get 0 rfl) rfl) aC (by have := wN (moY x0); omega)).mono ?_)))))))))))))))); rintro _ W144 ⟨rfl, hk145⟩; refine ⟨_, rfl, ?_⟩
    have st146 := St.call st135 hk145
    refine sg (aF (v := I (1 + (cN (moY x0) : Nat))) rfl (aB (wp_seq (wp_seq (aA (sg (aG (v := I (1 + (cN (moY x0) : Nat))) rfl (sg (bL rfl rfl (aB (aJ rfl (fun h152p => ?_) (fun h152p => ?_))))))))))))
    ·have h152 := decide_eq_true h152p
     omega
    have h152 := decide_eq_false h152p
    refine wp_skip (wp_seq (wp_seq (aA (lw h123_.put.put.put.put.put.put.put.put.put.put.put.put.put.put [(1, pt_ b1), (4, pt_ b36), (5, I (moN x0)), (6, .bool (moB x0)), (8, pt_ b71), (12, I (1 + (cN (moY x0) : Nat))), (13, I (1 + (cN (moY x0) : Nat)))] aD fun h155_ => (rn st146 3 h155_ [] [(87, .bool (!decide (((1 + (cN (moY x0) : Nat)) : Int) = (1 + (cN (moY x0) : Nat)))))] [.o] aD fun f154 h154_ => (aB (bH (h154_.at 87) (fun h156p => ?_) (fun h156p => ?_))))))))
    ·have h156 := gP h156p
     exact absurd rfl h156p
    have h156 := gQ h156p
    refine wp_skip (wp_seq (aA (sg (cW oT rfl (h154_.at 1) (st146.get 8 rfl) (Shape.len hc0) (sg (dD func35 rfl rfl ((nW W144 (aX hc0 st146.below) (by first | exact hw | omega | (simp only [Plan.wt, Run.wt, Yard.wt, Deed.wt, Note.wt, File.wt, Disk.wt, Engine.wt, WorldD.wt, ActD.wt, Span.wt, Crew.wt] at *; omega))).mono ?_))))))); rintro _ W161 ⟨cs159, fp159, rfl, hk162⟩; refine ⟨_, rfl, ?_⟩
    have st163 := St.call st146 hk162
    refine sg (dD func25 rfl rfl ((yF W161 (dP (st163.get 0 rfl) rfl) aC).mono ?_)); rintro _ W167 ⟨cs165, fp165, rfl, hk168⟩; refine ⟨_, rfl, ?_⟩
    have st169 := St.call st163 hk168
    refine rn st169 4 h154_.put.put.put [] [(92, .agg cs165.toArray), (93, I (moN x0)), (94, .bool (moB x0))] [] aD fun f172 h172_ => (sg (bO mE st169 ?_)); intro b173 W174 hb175 st176
    refine sgn (bC (cs := cs165) fM (dP (st176.get 1 rfl) rfl) rfl (h172_.at 92) st176 rfl ?_); intro W178 st179
    refine sg (aF (h172_.at 93) (sg (aF (h172_.at 94) (aB (wp_seq (wp_seq (aA (rc st179 12 h172_.put.put.put [] [(104, .bool false), (105, .bool (moB x0)), (106, .bool (moB x0))] [qw 0 rfl (Shape.len (dP (st179.get 1 rfl) rfl)), qw 8 rfl (Shape.len (dP (st179.get 9 rfl) rfl)), qc func36 rfl (fun W s b => tO W (dP (s.get 1 rfl) rfl) (dP (s.get 9 rfl) rfl)), qk h81, qk h82] aD fun f183 W184 h183_ st185 hb186 => (sgo 104 rfl aV (aE4 (h183_.at 104) rfl) (sF underlying4 (h183_.at 105) (h183_.at 106) (sg (gW (h183_.at 104) rfl (aB (kG rfl h89 (wp_skip ?_)))))))))))))))
    refine wp_seq (aA (sg (aE (aB (wp_seq (aA (sg (cW fM rfl (h183_.at 8) (st185.get 6 rfl) (Shape.len (dP (st185.get 3 rfl) rfl)) (sg (aG (v := I 1) rfl (sg (bV func40 rfl rfl rfl ((tK W184 (x := (moY x0)) (dP (st185.get 3 rfl) rfl) aC (by have := wN (moY x0); omega)).mono ?_))))))))))))); rintro _ W193 ⟨rfl, hk194⟩; refine ⟨_, rfl, ?_⟩
    have st195 := St.call st185 hk194
    refine sg (aF (v := I (1 + (cN (moY x0) : Nat))) rfl (aB (wp_seq (wp_seq (aA (sg (aG (v := I (1 + (cN (moY x0) : Nat))) rfl (sg (bL rfl rfl (aB (kG rfl h152 (wp_skip (wp_seq (wp_seq ?_))))))))))))))
    refine aA (lw h183_.put.put.put.put.put.put.put.put.put [(12, I (1 + (cN (moY x0) : Nat))), (13, I (1 + (cN (moY x0) : Nat)))] aD fun h203_ => (rn st195 3 h203_ [] [(116, .bool false)] [qk h156] aD fun f202 h202_ => (aB (kG (h202_.at 116) rfl (wp_skip (wp_seq (aA (sg (aE (aB (wr (aL results5 rfl ?_))))))))))))
    exact ⟨rfl, st195.below⟩
   have h122 := decide_eq_true h122p
   omega
  have h82 := gP h82p
  exact absurd rfl h82p
 exact absurd (aN h81) (by rw [cD rfl]; decide)
end Go.Proofs.YtanpcpoogkdlaaaGreat
namespace Go.Proofs.YtanpcpoogkdlaaaGreat
set_option linter.unusedSimpArgs false
set_option linter.unusedVariables false
set_option maxRecDepth 100000
set_option maxHeartbeats 2000000
open Go.ChangeShapes Go.WideShapes Go.ChangeAt Go.RowKit Go.Deep
def uE (t : TypeId) (α : Type) [Shape α] : Prop := ∀ {H : Type} (enc : TypeId × Value → H) (w : World) (fuel : Nat) (cs : List Value) (x : DataW H × List MemPlace),
 DataW.trod enc Tryz.prog w 0 (fun _ => true) true fuel t cs = some x → ∃ (a : α) (fp : List Nat), Shape.C w cs a fp

theorem wf_I64 {n : Int} (h : (Lit.int .i64 n).wf = true) : I64 n := by
 have := bounds_i64 h
 exact this

theorem opens_slice {t e : TypeId} {α : Type} [Shape α] (ht : Tryz.prog.underlying t = some (.slice e)) (hC : Tryz.prog.cellsOf e = Shape.size α) (hp : 0 < Shape.size α) (he : uE e α) : uE t (List α) := by
 intro H enc w fuel cs x h
 rcases open_slice ht h with ⟨rfl, _⟩ | ⟨a, len, cap, m, n, D, Pl, rfl, _, hl, hm, hmm, _, hi⟩
 ·exact ⟨[], [], _, rfl, none, 0, rfl, Nat.le_refl _, by omega, .inl ⟨rfl, rfl⟩⟩
 simp only [if_true] at hmm
 subst hmm
 unfold maxLen at hm
 have key : ∀ k, k ≤ len → 0 < len → ∃ (xs : List α) (fp : List Nat), xs.length = k ∧ a.spot = none ∧ SlAt w a.block a.off xs fp := by
  intro k
  induction k with
  | zero =>
   intro _ hlp
   obtain ⟨cs', hc, _⟩ := hi 0 aC
   obtain ⟨_, hcl, hat⟩ := World.cells?_some hc
   rw [hC] at hcl hat
   have h0 := hat 0 hp
   have : a.spot = none := by
    have hlt : 0 < cs'.length := by omega
    rw [List.getElem?_eq_getElem hlt] at h0
    simpa [Addr.add] using World.cell?_spot h0
   exact ⟨[], [], rfl, this, rfl⟩
  | succ k ih =>
   intro hk hlp
   obtain ⟨xs, fp, hxl, hsp, hS⟩ := ih aC hlp
   obtain ⟨cs', hc, ht'⟩ := hi k aC
   obtain ⟨_, hcl, hat⟩ := World.cells?_some hc
   rw [hC] at hcl hat
   obtain ⟨x, f, hx⟩ := he enc w n cs' _ ht'
   refine ⟨xs ++ [x], fp ++ f, by simp [hxl], hsp, SlAt.snoc hS ?_ hx⟩
   intro j v hj
   have hjl : j < cs'.length := (gsi_.1 hj).1
   have := hat j aC
   rw [hj] at this
   rw [← this, hxl]
   obtain ⟨ab, ao, asp⟩ := a
   simp only at hsp
   subst hsp
   rw [Addr.add_mid, Addr.add_mid]
 by_cases hlp : 0 < len
 ·obtain ⟨xs, fp, hxl, hsp, hS⟩ := key len (Nat.le_refl _) hlp
  obtain ⟨ab, ao, asp⟩ := a
  simp only at hsp
  subst hsp
  subst hxl
  have hne : xs ≠ [] := by rintro rfl; simp at hlp
  refine ⟨xs, ab :: fp, _, rfl, _, m, rfl, hl, hm, .inr ⟨ab, ao, fp, hne, rfl, rfl, ?_, hS⟩⟩
  cases xs with
  | nil => exact absurd rfl hne
  | cons x xs =>
   obtain ⟨cs', f1, f2, hr, hc, _, _⟩ := hS
   have hl' := Shape.len hc
   have h0 := hr 0 _ (List.getElem?_eq_getElem aC)
   exact World.block_lt_of_cell? w _ h0
 obtain rfl : len = 0 := by omega
 exact ⟨[], [], _, rfl, _, m, rfl, by simp, hm, .inl ⟨rfl, rfl⟩⟩

theorem oL : uE 9 ByteArray := by
 intro H enc w fuel cs x h
 obtain ⟨s, rfl, _, hs⟩ := DataW.trod_string Tryz.underlying9 h
 exact ⟨s, [], rfl, rfl, hs⟩

theorem mX {H : Type} {enc : TypeId × Value → H} {W W' : World} (hl : laidOutB Tryz.prog = true) (hb : Below W.heap.size W W') : ∀ {ts : List TypeId} {vs : List Value} {ds : List (DataW H)} {p : List MemPlace},
  (∀ t ∈ ts, Tryz.prog.readableRec t = true ∧ t < Tryz.prog.types.size) → DataW.TrodAll enc Tryz.prog W 0 (fun _ => true) true ts vs ds p → (∀ x ∈ p, x.block < W.heap.size) →
  DataW.TrodAll enc Tryz.prog W' 0 (fun b => decide (b < W.heap.size)) true ts vs ds p
 | [], _, _, _, _, h, _ => by
  obtain ⟨rfl, rfl, rfl⟩ := trodAll_nil h
  exact trodAll_mk0
 | t :: ts, _, _, _, ht, h, hp => by
  obtain ⟨v1, vs1, d1, ds1, p1, q1, rfl, rfl, rfl, h1, r1⟩ := trodAll_cons h
  exact trodAll_cons_mk (Below.trod hl (ht t (by simp)).1 (ht t (by simp)).2 h1 hb (fun x hx => hp x (by simp [hx]))) (mX hl hb (fun t' h' => ht t' (by simp [h'])) r1 (fun x hx => hp x (by simp [hx])))

theorem open_param_struct {H : Type} {enc : TypeId × Value → H} {W : World} {base : Nat} {t : TypeId} {fs : Array Field} {α : Type} [Shape α] (ht : Tryz.prog.underlying t = some (.struct fs)) (ho : uE t α) {v : Value} {d : DataW H} {p : List MemPlace}
  (hv : Value.okWide Tryz.prog W .any base t v) (h : DataW.Trod enc Tryz.prog W 0 (fun _ => true) true t v d p) : ∃ (cs : List Value) (x : α) (fp : List Nat), v = .agg cs.toArray ∧ Shape.C W cs x fp := by
 obtain ⟨cs, rfl, hsz⟩ := okWide_struct ht hv
 obtain ⟨fuel, hf⟩ := h
 obtain ⟨x, fp, hc⟩ := ho enc W fuel _ _ hf
 exact ⟨cs.toList, x, fp, rfl, hc⟩
theorem ownKnobTry : ownKnob Tryz.prog.godebug = none := by kernel_rfl
theorem laidOutTry : laidOutB Tryz.prog = true := by kernel_rfl
end Go.Proofs.YtanpcpoogkdlaaaGreat
namespace Go.Proofs.YtanpcpoogkdlaaaGreat
set_option linter.unusedSimpArgs false
set_option linter.unusedVariables false
set_option maxRecDepth 100000
set_option maxHeartbeats 2000000
open Go.ChangeShapes Go.WideShapes Go.ChangeAt Go.RowKit Go.Deep
theorem opens_File : uE 253 File := by
 intro H enc w fuel cs x h
 obtain ⟨xs, n, _, hx, hl, hlen, hf⟩ := DataW.trod_struct Tryz.underlying253 h
 have hl' : cs.length = 3 := hl
 have hlen' : xs.length = 3 := hlen
 match cs, hl', xs, hlen' with
 | [c0, c1, c2], _, [y0, y1, y2], _ =>
  obtain ⟨s0, fs0, e0, _, ws0⟩ := oL enc w n _ _ (hf 0 _ rfl)
  have e0' : [c0] = [.string s0] := e0
  obtain rfl := List.singleton_inj.1 e0'
  obtain ⟨s1, fs1, e1, _, ws1⟩ := oL enc w n _ _ (hf 1 _ rfl)
  have e1' : [c1] = [.string s1] := e1
  obtain rfl := List.singleton_inj.1 e1'
  obtain ⟨n2, e2, _, w2⟩ := DataW.trod_int Tryz.underlying3 (hf 2 _ rfl)
  have e2' : [c2] = [I n2] := e2
  obtain rfl := List.singleton_inj.1 e2'
  exact ⟨⟨s0, s1, n2⟩, [], rfl, rfl, ⟨ws0, ws1, wf_I64 w2⟩⟩
theorem opens_FileS : uE 58 (List File) := opens_slice Tryz.underlying58 aD aV opens_File
theorem opens_Disk : uE 60 Disk := by
 intro H enc w fuel cs x h
 obtain ⟨xs, n, _, hx, hl, hlen, hf⟩ := DataW.trod_struct Tryz.underlying60 h
 have hl' : cs.length = 1 := hl
 have hlen' : xs.length = 1 := hlen
 match cs, hl', xs, hlen' with
 | [c0], _, [y0], _ =>
  obtain ⟨l0, g0, u0, e0, s0⟩ := opens_FileS enc w n _ _ (hf 0 _ rfl)
  have e0' : [c0] = [u0] := e0
  obtain rfl := List.singleton_inj.1 e0'
  exact ⟨⟨l0⟩, _, _, g0, rfl, trivial, s0, rfl⟩
end Go.Proofs.YtanpcpoogkdlaaaGreat
