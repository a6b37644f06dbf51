/-
  No cell of these rows narrows 'for every input' (looked for: loops, veiled, ifaces, maps, wideKeys, modest, calm, conditions, laid).
  DERIVED. THE GIVEN ROWS OF THIS SEAT. 7 by the template 'for every input the law returns true; each argument reads behind the call as it read before'; 0 by the template 'total and deterministic' (their statements: YtchnllpegfbleaaGreatTotals.lean).
  GIVEN WITH THE SEED: the statements are not yours to turn. If you find one false, say at which input.
  Laid BY PROGRAM, IN A SANDBOX (cutbox-rows.mjs): the forced cells as the released guide's own fill.sh prints them over the translation 9e90511dcee572e6… (all of the seat's roots in one cut). By AI agents, Wed Nov 11 2026. No macro, syntax, notation, axiom, sorry.
-/
import Derived.Test.YtchnllpegfbleaaGreatChecked
import GoSem.Claim
import GoSem.ClaimJoined
import GoSem.ClaimMapViews
import Derived.JoinedTies
import Derived.KernelRfl
namespace Go.Proofs.YtchnllpegfbleaaGreat
/- THE CELL 'sum', in the pinned program and in every row, IS THE sha256 OF THE DUMP (.gsa) THAT YtchnllpegfbleaaGreatProg.lean LOADS. Nothing in Lean hashes anything: it is a label: what it is worth is what the hold of that sum in a sandbox is worth. -/
noncomputable def Tryz.pinned : Pinned := { name := "ytchnllpegfbleaagreat", sum := "9e90511dcee572e6dbd679caf68a43983dbdf944c3ee2c5e230bc230cb83d658", checked := Tryz.checked }
namespace Rows
def none {H : Type} : Left H := { results := [], args := [] }

/-- 'laws.FnExactCrewOk': WHATEVER THE INPUT: true; the input reads as it did. -/
def fnExactCrewOkSpec : ChangeSpec := { name := "fnExactCrewOk", fn := fun _ => fun
  | [d] => { results := [.lit (.bool true)], args := [d] }
  | _ => none }
def fnExactCrewOkRow : OpenClaim := { program := "ytchnllpegfbleaagreat", sum := "9e90511dcee572e6dbd679caf68a43983dbdf944c3ee2c5e230bc230cb83d658", func := "loop.example/g00965/laws.FnExactCrewOk", spec := "fnExactCrewOk", unfollowed := true, recurses := true, apart := false }
def FnExactCrewOkSaid : Prop := fnExactCrewOkRow.holds Tryz.pinned (OpenSpec.ofChange fnExactCrewOkSpec)

/-- ITS FALSE NEIGHBOUR: 'it returns false'. Refute it at one input. -/
def fnExactCrewOkWrong : ChangeSpec := { name := "fnExactCrewOk", fn := fun _ => fun
  | [d] => { results := [.lit (.bool false)], args := [d] }
  | _ => none }
def FnExactCrewOkWrongFalsely : Prop := fnExactCrewOkRow.holds Tryz.pinned (OpenSpec.ofChange fnExactCrewOkWrong)

/-- 'laws.FnExactCrewNew': WHATEVER THE INPUT: true; the input reads as it did. -/
def fnExactCrewNewSpec : ChangeSpec := { name := "fnExactCrewNew", fn := fun _ => fun
  | [d1, d2] => { results := [.lit (.bool true)], args := [d1, d2] }
  | _ => none }
def fnExactCrewNewRow : OpenClaim := { program := "ytchnllpegfbleaagreat", sum := "9e90511dcee572e6dbd679caf68a43983dbdf944c3ee2c5e230bc230cb83d658", func := "loop.example/g00965/laws.FnExactCrewNew", spec := "fnExactCrewNew", inPlace := ["slices.overlaps[loop.example/g00965/impl.Entry]"], unfollowed := true, recurses := true, apart := false }
def FnExactCrewNewSaid : Prop := fnExactCrewNewRow.holds Tryz.pinned (OpenSpec.ofChange fnExactCrewNewSpec)

/-- ITS FALSE NEIGHBOUR: 'it returns false'. Refute it at one input. -/
def fnExactCrewNewWrong : ChangeSpec := { name := "fnExactCrewNew", fn := fun _ => fun
  | [d1, d2] => { results := [.lit (.bool false)], args := [d1, d2] }
  | _ => none }
def FnExactCrewNewWrongFalsely : Prop := fnExactCrewNewRow.holds Tryz.pinned (OpenSpec.ofChange fnExactCrewNewWrong)

/-- 'laws.FnExactFinishes': WHATEVER THE INPUT: true; the input reads as it did. -/
def fnExactFinishesSpec : ChangeSpec := { name := "fnExactFinishes", fn := fun _ => fun
  | [d1, d2, d3] => { results := [.lit (.bool true)], args := [d1, d2, d3] }
  | _ => none }
def fnExactFinishesRow : OpenClaim := { program := "ytchnllpegfbleaagreat", sum := "9e90511dcee572e6dbd679caf68a43983dbdf944c3ee2c5e230bc230cb83d658", func := "loop.example/g00965/laws.FnExactFinishes", spec := "fnExactFinishes", inPlace := ["slices.overlaps[loop.example/g00965/impl.Entry]"], unfollowed := true, recurses := true, apart := false }
def FnExactFinishesSaid : Prop := fnExactFinishesRow.holds Tryz.pinned (OpenSpec.ofChange fnExactFinishesSpec)

/-- ITS FALSE NEIGHBOUR: 'it returns false'. Refute it at one input. -/
def fnExactFinishesWrong : ChangeSpec := { name := "fnExactFinishes", fn := fun _ => fun
  | [d1, d2, d3] => { results := [.lit (.bool false)], args := [d1, d2, d3] }
  | _ => none }
def FnExactFinishesWrongFalsely : Prop := fnExactFinishesRow.holds Tryz.pinned (OpenSpec.ofChange fnExactFinishesWrong)

/-- 'laws.FnExactTurn': WHATEVER THE INPUT: true; the input reads as it did. -/
def fnExactTurnSpec : ChangeSpec := { name := "fnExactTurn", fn := fun _ => fun
  | [d1, d2] => { results := [.lit (.bool true)], args := [d1, d2] }
  | _ => none }
def fnExactTurnRow : OpenClaim := { program := "ytchnllpegfbleaagreat", sum := "9e90511dcee572e6dbd679caf68a43983dbdf944c3ee2c5e230bc230cb83d658", func := "loop.example/g00965/laws.FnExactTurn", spec := "fnExactTurn", inPlace := ["slices.overlaps[loop.example/g00965/impl.Entry]"], unfollowed := true, recurses := true, apart := false }
def FnExactTurnSaid : Prop := fnExactTurnRow.holds Tryz.pinned (OpenSpec.ofChange fnExactTurnSpec)

/-- ITS FALSE NEIGHBOUR: 'it returns false'. Refute it at one input. -/
def fnExactTurnWrong : ChangeSpec := { name := "fnExactTurn", fn := fun _ => fun
  | [d1, d2] => { results := [.lit (.bool false)], args := [d1, d2] }
  | _ => none }
def FnExactTurnWrongFalsely : Prop := fnExactTurnRow.holds Tryz.pinned (OpenSpec.ofChange fnExactTurnWrong)

/-- 'laws.FnExactWorkOff': WHATEVER THE INPUT: true; the input reads as it did. -/
def fnExactWorkOffSpec : ChangeSpec := { name := "fnExactWorkOff", fn := fun _ => fun
  | [d1, d2] => { results := [.lit (.bool true)], args := [d1, d2] }
  | _ => none }
def fnExactWorkOffRow : OpenClaim := { program := "ytchnllpegfbleaagreat", sum := "9e90511dcee572e6dbd679caf68a43983dbdf944c3ee2c5e230bc230cb83d658", func := "loop.example/g00965/laws.FnExactWorkOff", spec := "fnExactWorkOff", inPlace := ["slices.overlaps[loop.example/g00965/impl.Entry]"], unfollowed := true, recurses := true, apart := false }
def FnExactWorkOffSaid : Prop := fnExactWorkOffRow.holds Tryz.pinned (OpenSpec.ofChange fnExactWorkOffSpec)

/-- ITS FALSE NEIGHBOUR: 'it returns false'. Refute it at one input. -/
def fnExactWorkOffWrong : ChangeSpec := { name := "fnExactWorkOff", fn := fun _ => fun
  | [d1, d2] => { results := [.lit (.bool false)], args := [d1, d2] }
  | _ => none }
def FnExactWorkOffWrongFalsely : Prop := fnExactWorkOffRow.holds Tryz.pinned (OpenSpec.ofChange fnExactWorkOffWrong)

/-- 'laws.FnExactOrderedBy': WHATEVER THE INPUT: true; the input reads as it did. -/
def fnExactOrderedBySpec : ChangeSpec := { name := "fnExactOrderedBy", fn := fun _ => fun
  | [d1, d2, d3] => { results := [.lit (.bool true)], args := [d1, d2, d3] }
  | _ => none }
def fnExactOrderedByRow : OpenClaim := { program := "ytchnllpegfbleaagreat", sum := "9e90511dcee572e6dbd679caf68a43983dbdf944c3ee2c5e230bc230cb83d658", func := "loop.example/g00965/laws.FnExactOrderedBy", spec := "fnExactOrderedBy", inPlace := ["slices.overlaps[loop.example/g00965/impl.Entry]"], unfollowed := true, recurses := true, apart := false }
def FnExactOrderedBySaid : Prop := fnExactOrderedByRow.holds Tryz.pinned (OpenSpec.ofChange fnExactOrderedBySpec)

/-- ITS FALSE NEIGHBOUR: 'it returns false'. Refute it at one input. -/
def fnExactOrderedByWrong : ChangeSpec := { name := "fnExactOrderedBy", fn := fun _ => fun
  | [d1, d2, d3] => { results := [.lit (.bool false)], args := [d1, d2, d3] }
  | _ => none }
def FnExactOrderedByWrongFalsely : Prop := fnExactOrderedByRow.holds Tryz.pinned (OpenSpec.ofChange fnExactOrderedByWrong)

/-- 'laws.FnExactLineUp': WHATEVER THE INPUT: true; the input reads as it did. -/
def fnExactLineUpSpec : ChangeSpec := { name := "fnExactLineUp", fn := fun _ => fun
  | [d1, d2] => { results := [.lit (.bool true)], args := [d1, d2] }
  | _ => none }
def fnExactLineUpRow : OpenClaim := { program := "ytchnllpegfbleaagreat", sum := "9e90511dcee572e6dbd679caf68a43983dbdf944c3ee2c5e230bc230cb83d658", func := "loop.example/g00965/laws.FnExactLineUp", spec := "fnExactLineUp", inPlace := ["slices.overlaps[loop.example/g00965/impl.Entry]"], unfollowed := true, recurses := true, apart := false }
def FnExactLineUpSaid : Prop := fnExactLineUpRow.holds Tryz.pinned (OpenSpec.ofChange fnExactLineUpSpec)

/-- ITS FALSE NEIGHBOUR: 'it returns false'. Refute it at one input. -/
def fnExactLineUpWrong : ChangeSpec := { name := "fnExactLineUp", fn := fun _ => fun
  | [d1, d2] => { results := [.lit (.bool false)], args := [d1, d2] }
  | _ => none }
def FnExactLineUpWrongFalsely : Prop := fnExactLineUpRow.holds Tryz.pinned (OpenSpec.ofChange fnExactLineUpWrong)

/- THE SECOND FORM. 'bulk': how many values and letters a reading holds, each counted each time it is reached (what is shared counts as often as it is met; a slice's spare places count too). A statement '..UptoSaid' is the law's where the arguments, and the package variables that the reading takes, are together of bulk at most 1048576: NARROWER than '..Said'. Prove '..Said' where nothing that the law and all that it calls make is longer than what came in: it says more and counts as full. Else prove '..UptoSaid'. A law counts once. -/
mutual
def uptoBulk {H : Type} : DataW H → Nat
  | .lit (.string bytes) => bytes.length + 1
  | .lit _ => 1
  | .nil => 1
  | .ptr d => uptoBulk d + 1
  | .slice elems spare => uptoBulkAll elems + uptoBulkAll spare + 1
  | .agg parts => uptoBulkAll parts + 1
  | .iface _ d => uptoBulk d + 1
  | .map entries => uptoBulkEntries entries + 1
  | .held _ => 1
def uptoBulkAll {H : Type} : List (DataW H) → Nat
  | [] => 0
  | d :: r => uptoBulk d + uptoBulkAll r
def uptoBulkEntries {H : Type} : List (Lit × DataW H) → Nat
  | [] => 0
  | x :: r => uptoBulkEntry x + uptoBulkEntries r
def uptoBulkEntry {H : Type} : Lit × DataW H → Nat
  | (.string bytes, d) => bytes.length + uptoBulk d + 1
  | (_, d) => uptoBulk d + 1
 end
def uptoSmall : (H : Type) → List (DataW H) → Bool := fun _ ds => decide (uptoBulkAll ds ≤ 1048576)
def OpenSpec.upto (s : _root_.Go.ChangeSpec) : _root_.Go.OpenSpec := { _root_.Go.OpenSpec.ofChange s with cond := some uptoSmall }

/-- 'laws.FnExactCrewOk', WHERE WHAT IT READS IS OF BULK AT MOST 1048576: true; the input reads as it did. -/
def fnExactCrewOkUptoRow : OpenClaim := { program := "ytchnllpegfbleaagreat", sum := "9e90511dcee572e6dbd679caf68a43983dbdf944c3ee2c5e230bc230cb83d658", func := "loop.example/g00965/laws.FnExactCrewOk", spec := "fnExactCrewOk", unfollowed := true, recurses := true, apart := false, narrowed := true }
def FnExactCrewOkUptoSaid : Prop := fnExactCrewOkUptoRow.holds Tryz.pinned (OpenSpec.upto fnExactCrewOkSpec)

/-- 'laws.FnExactCrewNew', WHERE WHAT IT READS IS OF BULK AT MOST 1048576: true; the input reads as it did. -/
def fnExactCrewNewUptoRow : OpenClaim := { program := "ytchnllpegfbleaagreat", sum := "9e90511dcee572e6dbd679caf68a43983dbdf944c3ee2c5e230bc230cb83d658", func := "loop.example/g00965/laws.FnExactCrewNew", spec := "fnExactCrewNew", inPlace := ["slices.overlaps[loop.example/g00965/impl.Entry]"], unfollowed := true, recurses := true, apart := false, narrowed := true }
def FnExactCrewNewUptoSaid : Prop := fnExactCrewNewUptoRow.holds Tryz.pinned (OpenSpec.upto fnExactCrewNewSpec)

/-- 'laws.FnExactFinishes', WHERE WHAT IT READS IS OF BULK AT MOST 1048576: true; the input reads as it did. -/
def fnExactFinishesUptoRow : OpenClaim := { program := "ytchnllpegfbleaagreat", sum := "9e90511dcee572e6dbd679caf68a43983dbdf944c3ee2c5e230bc230cb83d658", func := "loop.example/g00965/laws.FnExactFinishes", spec := "fnExactFinishes", inPlace := ["slices.overlaps[loop.example/g00965/impl.Entry]"], unfollowed := true, recurses := true, apart := false, narrowed := true }
def FnExactFinishesUptoSaid : Prop := fnExactFinishesUptoRow.holds Tryz.pinned (OpenSpec.upto fnExactFinishesSpec)

/-- 'laws.FnExactTurn', WHERE WHAT IT READS IS OF BULK AT MOST 1048576: true; the input reads as it did. -/
def fnExactTurnUptoRow : OpenClaim := { program := "ytchnllpegfbleaagreat", sum := "9e90511dcee572e6dbd679caf68a43983dbdf944c3ee2c5e230bc230cb83d658", func := "loop.example/g00965/laws.FnExactTurn", spec := "fnExactTurn", inPlace := ["slices.overlaps[loop.example/g00965/impl.Entry]"], unfollowed := true, recurses := true, apart := false, narrowed := true }
def FnExactTurnUptoSaid : Prop := fnExactTurnUptoRow.holds Tryz.pinned (OpenSpec.upto fnExactTurnSpec)

/-- 'laws.FnExactWorkOff', WHERE WHAT IT READS IS OF BULK AT MOST 1048576: true; the input reads as it did. -/
def fnExactWorkOffUptoRow : OpenClaim := { program := "ytchnllpegfbleaagreat", sum := "9e90511dcee572e6dbd679caf68a43983dbdf944c3ee2c5e230bc230cb83d658", func := "loop.example/g00965/laws.FnExactWorkOff", spec := "fnExactWorkOff", inPlace := ["slices.overlaps[loop.example/g00965/impl.Entry]"], unfollowed := true, recurses := true, apart := false, narrowed := true }
def FnExactWorkOffUptoSaid : Prop := fnExactWorkOffUptoRow.holds Tryz.pinned (OpenSpec.upto fnExactWorkOffSpec)

/-- 'laws.FnExactOrderedBy', WHERE WHAT IT READS IS OF BULK AT MOST 1048576: true; the input reads as it did. -/
def fnExactOrderedByUptoRow : OpenClaim := { program := "ytchnllpegfbleaagreat", sum := "9e90511dcee572e6dbd679caf68a43983dbdf944c3ee2c5e230bc230cb83d658", func := "loop.example/g00965/laws.FnExactOrderedBy", spec := "fnExactOrderedBy", inPlace := ["slices.overlaps[loop.example/g00965/impl.Entry]"], unfollowed := true, recurses := true, apart := false, narrowed := true }
def FnExactOrderedByUptoSaid : Prop := fnExactOrderedByUptoRow.holds Tryz.pinned (OpenSpec.upto fnExactOrderedBySpec)

/-- 'laws.FnExactLineUp', WHERE WHAT IT READS IS OF BULK AT MOST 1048576: true; the input reads as it did. -/
def fnExactLineUpUptoRow : OpenClaim := { program := "ytchnllpegfbleaagreat", sum := "9e90511dcee572e6dbd679caf68a43983dbdf944c3ee2c5e230bc230cb83d658", func := "loop.example/g00965/laws.FnExactLineUp", spec := "fnExactLineUp", inPlace := ["slices.overlaps[loop.example/g00965/impl.Entry]"], unfollowed := true, recurses := true, apart := false, narrowed := true }
def FnExactLineUpUptoSaid : Prop := fnExactLineUpUptoRow.holds Tryz.pinned (OpenSpec.upto fnExactLineUpSpec)

end Rows
end Go.Proofs.YtchnllpegfbleaaGreat
