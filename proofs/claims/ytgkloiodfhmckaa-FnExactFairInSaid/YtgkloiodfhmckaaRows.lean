/-
  No cell of these rows narrows 'for every input' (looked for: loops, veiled, ifaces, maps, wideKeys, modest, calm, conditions, laid).
  DERIVED. THE GIVEN ROWS OF THIS SEAT. 6 by the template 'for every input the law returns true; each argument reads behind the call as it read before'; 0 by the template 'total and deterministic' (their statements: YtgkloiodfhmckaaTotals.lean).
  GIVEN WITH THE SEED: the statements are not yours to turn. If you find one false, say at which input.
  Laid BY PROGRAM, IN A SANDBOX (cutbox-rows.mjs): the forced cells as the released guide's own fill.sh prints them over the translation 9da466a8f6955609… (all of the seat's roots in one cut). By AI agents, Wed Nov 11 2026. No macro, syntax, notation, axiom, sorry.
-/
import Derived.Test.YtgkloiodfhmckaaChecked
import GoSem.Claim
import GoSem.ClaimJoined
import GoSem.ClaimMapViews
import Derived.JoinedTies
import Derived.KernelRfl
namespace Go.Proofs.Ytgkloiodfhmckaa
/- THE CELL 'sum', in the pinned program and in every row, IS THE sha256 OF THE DUMP (.gsa) THAT YtgkloiodfhmckaaProg.lean LOADS. Nothing in Lean hashes anything: it is a label: what it is worth is what the hold of that sum in a sandbox is worth. -/
noncomputable def Try.pinned : Pinned := { name := "ytgkloiodfhmckaa", sum := "9da466a8f6955609414d8799d7ef6f01934d9bfd3ac105f8880e7beed9b89b2d", checked := Try.checked }
namespace Rows
def none {H : Type} : Left H := { results := [], args := [] }

/-- 'laws.FnExactRoundRobin': WHATEVER THE INPUT: true; the input reads as it did. -/
def fnExactRoundRobinSpec : ChangeSpec := { name := "fnExactRoundRobin", fn := fun _ => fun
  | [d1, d2] => { results := [.lit (.bool true)], args := [d1, d2] }
  | _ => none }
def fnExactRoundRobinRow : OpenClaim := { program := "ytgkloiodfhmckaa", sum := "9da466a8f6955609414d8799d7ef6f01934d9bfd3ac105f8880e7beed9b89b2d", func := "loop.example/g00965/laws.FnExactRoundRobin", spec := "fnExactRoundRobin", apart := false }
def FnExactRoundRobinSaid : Prop := fnExactRoundRobinRow.holds Try.pinned (OpenSpec.ofChange fnExactRoundRobinSpec)

/-- ITS FALSE NEIGHBOUR: 'it returns false'. Refute it at one input. -/
def fnExactRoundRobinWrong : ChangeSpec := { name := "fnExactRoundRobin", fn := fun _ => fun
  | [d1, d2] => { results := [.lit (.bool false)], args := [d1, d2] }
  | _ => none }
def FnExactRoundRobinWrongFalsely : Prop := fnExactRoundRobinRow.holds Try.pinned (OpenSpec.ofChange fnExactRoundRobinWrong)

/-- 'laws.FnExactFairIn': WHATEVER THE INPUT: true; the input reads as it did. -/
def fnExactFairInSpec : ChangeSpec := { name := "fnExactFairIn", fn := fun _ => fun
  | [d1, d2, d3] => { results := [.lit (.bool true)], args := [d1, d2, d3] }
  | _ => none }
def fnExactFairInRow : OpenClaim := { program := "ytgkloiodfhmckaa", sum := "9da466a8f6955609414d8799d7ef6f01934d9bfd3ac105f8880e7beed9b89b2d", func := "loop.example/g00965/laws.FnExactFairIn", spec := "fnExactFairIn", apart := false }
def FnExactFairInSaid : Prop := fnExactFairInRow.holds Try.pinned (OpenSpec.ofChange fnExactFairInSpec)

/-- ITS FALSE NEIGHBOUR: 'it returns false'. Refute it at one input. -/
def fnExactFairInWrong : ChangeSpec := { name := "fnExactFairIn", fn := fun _ => fun
  | [d1, d2, d3] => { results := [.lit (.bool false)], args := [d1, d2, d3] }
  | _ => none }
def FnExactFairInWrongFalsely : Prop := fnExactFairInRow.holds Try.pinned (OpenSpec.ofChange fnExactFairInWrong)

/-- 'laws.FnExactNoTwice': WHATEVER THE INPUT: true; the input reads as it did. -/
def fnExactNoTwiceSpec : ChangeSpec := { name := "fnExactNoTwice", fn := fun _ => fun
  | [d] => { results := [.lit (.bool true)], args := [d] }
  | _ => none }
def fnExactNoTwiceRow : OpenClaim := { program := "ytgkloiodfhmckaa", sum := "9da466a8f6955609414d8799d7ef6f01934d9bfd3ac105f8880e7beed9b89b2d", func := "loop.example/g00965/laws.FnExactNoTwice", spec := "fnExactNoTwice", apart := false }
def FnExactNoTwiceSaid : Prop := fnExactNoTwiceRow.holds Try.pinned (OpenSpec.ofChange fnExactNoTwiceSpec)

/-- ITS FALSE NEIGHBOUR: 'it returns false'. Refute it at one input. -/
def fnExactNoTwiceWrong : ChangeSpec := { name := "fnExactNoTwice", fn := fun _ => fun
  | [d] => { results := [.lit (.bool false)], args := [d] }
  | _ => none }
def FnExactNoTwiceWrongFalsely : Prop := fnExactNoTwiceRow.holds Try.pinned (OpenSpec.ofChange fnExactNoTwiceWrong)

/-- 'laws.FnExactRising': WHATEVER THE INPUT: true; the input reads as it did. -/
def fnExactRisingSpec : ChangeSpec := { name := "fnExactRising", fn := fun _ => fun
  | [d] => { results := [.lit (.bool true)], args := [d] }
  | _ => none }
def fnExactRisingRow : OpenClaim := { program := "ytgkloiodfhmckaa", sum := "9da466a8f6955609414d8799d7ef6f01934d9bfd3ac105f8880e7beed9b89b2d", func := "loop.example/g00965/laws.FnExactRising", spec := "fnExactRising", apart := false }
def FnExactRisingSaid : Prop := fnExactRisingRow.holds Try.pinned (OpenSpec.ofChange fnExactRisingSpec)

/-- ITS FALSE NEIGHBOUR: 'it returns false'. Refute it at one input. -/
def fnExactRisingWrong : ChangeSpec := { name := "fnExactRising", fn := fun _ => fun
  | [d] => { results := [.lit (.bool false)], args := [d] }
  | _ => none }
def FnExactRisingWrongFalsely : Prop := fnExactRisingRow.holds Try.pinned (OpenSpec.ofChange fnExactRisingWrong)

/-- 'laws.FnExactAhead2': WHATEVER THE INPUT: true; the input reads as it did. -/
def fnExactAhead2Spec : ChangeSpec := { name := "fnExactAhead2", fn := fun _ => fun
  | [d1, d2] => { results := [.lit (.bool true)], args := [d1, d2] }
  | _ => none }
def fnExactAhead2Row : OpenClaim := { program := "ytgkloiodfhmckaa", sum := "9da466a8f6955609414d8799d7ef6f01934d9bfd3ac105f8880e7beed9b89b2d", func := "loop.example/g00965/laws.FnExactAhead2", spec := "fnExactAhead2", apart := false }
def FnExactAhead2Said : Prop := fnExactAhead2Row.holds Try.pinned (OpenSpec.ofChange fnExactAhead2Spec)

/-- ITS FALSE NEIGHBOUR: 'it returns false'. Refute it at one input. -/
def fnExactAhead2Wrong : ChangeSpec := { name := "fnExactAhead2", fn := fun _ => fun
  | [d1, d2] => { results := [.lit (.bool false)], args := [d1, d2] }
  | _ => none }
def FnExactAhead2WrongFalsely : Prop := fnExactAhead2Row.holds Try.pinned (OpenSpec.ofChange fnExactAhead2Wrong)

/-- 'laws.FnExactTellsOf': WHATEVER THE INPUT: true; the input reads as it did. -/
def fnExactTellsOfSpec : ChangeSpec := { name := "fnExactTellsOf", fn := fun _ => fun
  | [d1, d2] => { results := [.lit (.bool true)], args := [d1, d2] }
  | _ => none }
def fnExactTellsOfRow : OpenClaim := { program := "ytgkloiodfhmckaa", sum := "9da466a8f6955609414d8799d7ef6f01934d9bfd3ac105f8880e7beed9b89b2d", func := "loop.example/g00965/laws.FnExactTellsOf", spec := "fnExactTellsOf", apart := false }
def FnExactTellsOfSaid : Prop := fnExactTellsOfRow.holds Try.pinned (OpenSpec.ofChange fnExactTellsOfSpec)

/-- ITS FALSE NEIGHBOUR: 'it returns false'. Refute it at one input. -/
def fnExactTellsOfWrong : ChangeSpec := { name := "fnExactTellsOf", fn := fun _ => fun
  | [d1, d2] => { results := [.lit (.bool false)], args := [d1, d2] }
  | _ => none }
def FnExactTellsOfWrongFalsely : Prop := fnExactTellsOfRow.holds Try.pinned (OpenSpec.ofChange fnExactTellsOfWrong)

/- THE SECOND FORM. 'bulk': how many values and letters a reading holds, each counted each time it is reached (what is shared counts as often as it is met; a slice's spare places count too). A statement '..UptoSaid' is the law's where the arguments, and the package variables that the reading takes, are together of bulk at most 1048576: NARROWER than '..Said'. Prove '..Said' where nothing that the law and all that it calls make is longer than what came in: it says more and counts as full. Else prove '..UptoSaid'. A law counts once. -/
mutual
def uptoBulk {H : Type} : DataW H → Nat
  | .lit (.string bytes) => bytes.length + 1
  | .lit _ => 1
  | .nil => 1
  | .ptr d => uptoBulk d + 1
  | .slice elems spare => uptoBulkAll elems + uptoBulkAll spare + 1
  | .agg parts => uptoBulkAll parts + 1
  | .iface _ d => uptoBulk d + 1
  | .map entries => uptoBulkEntries entries + 1
  | .held _ => 1
def uptoBulkAll {H : Type} : List (DataW H) → Nat
  | [] => 0
  | d :: r => uptoBulk d + uptoBulkAll r
def uptoBulkEntries {H : Type} : List (Lit × DataW H) → Nat
  | [] => 0
  | x :: r => uptoBulkEntry x + uptoBulkEntries r
def uptoBulkEntry {H : Type} : Lit × DataW H → Nat
  | (.string bytes, d) => bytes.length + uptoBulk d + 1
  | (_, d) => uptoBulk d + 1
 end
def uptoSmall : (H : Type) → List (DataW H) → Bool := fun _ ds => decide (uptoBulkAll ds ≤ 1048576)
def OpenSpec.upto (s : _root_.Go.ChangeSpec) : _root_.Go.OpenSpec := { _root_.Go.OpenSpec.ofChange s with cond := some uptoSmall }

/-- 'laws.FnExactRoundRobin', WHERE WHAT IT READS IS OF BULK AT MOST 1048576: true; the input reads as it did. -/
def fnExactRoundRobinUptoRow : OpenClaim := { program := "ytgkloiodfhmckaa", sum := "9da466a8f6955609414d8799d7ef6f01934d9bfd3ac105f8880e7beed9b89b2d", func := "loop.example/g00965/laws.FnExactRoundRobin", spec := "fnExactRoundRobin", apart := false, narrowed := true }
def FnExactRoundRobinUptoSaid : Prop := fnExactRoundRobinUptoRow.holds Try.pinned (OpenSpec.upto fnExactRoundRobinSpec)

/-- 'laws.FnExactFairIn', WHERE WHAT IT READS IS OF BULK AT MOST 1048576: true; the input reads as it did. -/
def fnExactFairInUptoRow : OpenClaim := { program := "ytgkloiodfhmckaa", sum := "9da466a8f6955609414d8799d7ef6f01934d9bfd3ac105f8880e7beed9b89b2d", func := "loop.example/g00965/laws.FnExactFairIn", spec := "fnExactFairIn", apart := false, narrowed := true }
def FnExactFairInUptoSaid : Prop := fnExactFairInUptoRow.holds Try.pinned (OpenSpec.upto fnExactFairInSpec)

/-- 'laws.FnExactNoTwice', WHERE WHAT IT READS IS OF BULK AT MOST 1048576: true; the input reads as it did. -/
def fnExactNoTwiceUptoRow : OpenClaim := { program := "ytgkloiodfhmckaa", sum := "9da466a8f6955609414d8799d7ef6f01934d9bfd3ac105f8880e7beed9b89b2d", func := "loop.example/g00965/laws.FnExactNoTwice", spec := "fnExactNoTwice", apart := false, narrowed := true }
def FnExactNoTwiceUptoSaid : Prop := fnExactNoTwiceUptoRow.holds Try.pinned (OpenSpec.upto fnExactNoTwiceSpec)

/-- 'laws.FnExactRising', WHERE WHAT IT READS IS OF BULK AT MOST 1048576: true; the input reads as it did. -/
def fnExactRisingUptoRow : OpenClaim := { program := "ytgkloiodfhmckaa", sum := "9da466a8f6955609414d8799d7ef6f01934d9bfd3ac105f8880e7beed9b89b2d", func := "loop.example/g00965/laws.FnExactRising", spec := "fnExactRising", apart := false, narrowed := true }
def FnExactRisingUptoSaid : Prop := fnExactRisingUptoRow.holds Try.pinned (OpenSpec.upto fnExactRisingSpec)

/-- 'laws.FnExactAhead2', WHERE WHAT IT READS IS OF BULK AT MOST 1048576: true; the input reads as it did. -/
def fnExactAhead2UptoRow : OpenClaim := { program := "ytgkloiodfhmckaa", sum := "9da466a8f6955609414d8799d7ef6f01934d9bfd3ac105f8880e7beed9b89b2d", func := "loop.example/g00965/laws.FnExactAhead2", spec := "fnExactAhead2", apart := false, narrowed := true }
def FnExactAhead2UptoSaid : Prop := fnExactAhead2UptoRow.holds Try.pinned (OpenSpec.upto fnExactAhead2Spec)

/-- 'laws.FnExactTellsOf', WHERE WHAT IT READS IS OF BULK AT MOST 1048576: true; the input reads as it did. -/
def fnExactTellsOfUptoRow : OpenClaim := { program := "ytgkloiodfhmckaa", sum := "9da466a8f6955609414d8799d7ef6f01934d9bfd3ac105f8880e7beed9b89b2d", func := "loop.example/g00965/laws.FnExactTellsOf", spec := "fnExactTellsOf", apart := false, narrowed := true }
def FnExactTellsOfUptoSaid : Prop := fnExactTellsOfUptoRow.holds Try.pinned (OpenSpec.upto fnExactTellsOfSpec)

end Rows
end Go.Proofs.Ytgkloiodfhmckaa
