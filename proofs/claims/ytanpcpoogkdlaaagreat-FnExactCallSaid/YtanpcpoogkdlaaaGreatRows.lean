/-
  No cell of these rows narrows 'for every input' (looked for: loops, veiled, ifaces, maps, wideKeys, modest, calm, conditions, laid).
  DERIVED. THE GIVEN ROWS OF THIS SEAT. 12 by the template 'for every input the law returns true; each argument reads behind the call as it read before'; 0 by the template 'total and deterministic' (their statements: YtanpcpoogkdlaaaGreatTotals.lean).
  GIVEN WITH THE SEED: the statements are not yours to turn. If you find one false, say at which input.
  Laid BY PROGRAM, IN A SANDBOX (cutbox-rows.mjs): the forced cells as the released guide's own fill.sh prints them over the translation ecb9edfe1819fb0e… (all of the seat's roots in one cut). By AI agents, Wed Nov 11 2026. No macro, syntax, notation, axiom, sorry.
-/
import Derived.Test.YtanpcpoogkdlaaaGreatChecked
import GoSem.Claim
import GoSem.ClaimJoined
import GoSem.ClaimMapViews
import Derived.JoinedTies
import Derived.KernelRfl
namespace Go.Proofs.YtanpcpoogkdlaaaGreat
/- THE CELL 'sum', in the pinned program and in every row, IS THE sha256 OF THE DUMP (.gsa) THAT YtanpcpoogkdlaaaGreatProg.lean LOADS. Nothing in Lean hashes anything: it is a label: what it is worth is what the hold of that sum in a sandbox is worth. -/
noncomputable def Tryz.pinned : Pinned := { name := "ytanpcpoogkdlaaagreat", sum := "ecb9edfe1819fb0e09fb3fe33b05c7beef0089f0f8f3de6ce3867307105aaa8e", checked := Tryz.checked }
namespace Rows
def none {H : Type} : Left H := { results := [], args := [] }

/-- 'laws.FnMarked': WHATEVER THE INPUT: true; the input reads as it did. -/
def fnMarkedSpec : ChangeSpec := { name := "fnMarked", fn := fun _ => fun
  | [d] => { results := [.lit (.bool true)], args := [d] }
  | _ => none }
def fnMarkedRow : OpenClaim := { program := "ytanpcpoogkdlaaagreat", sum := "ecb9edfe1819fb0e09fb3fe33b05c7beef0089f0f8f3de6ce3867307105aaa8e", func := "loop.example/g00965/laws.FnMarked", spec := "fnMarked", inPlace := ["slices.overlaps[loop.example/g00965/impl.Entry]"], unfollowed := true, recurses := true, apart := false }
def FnMarkedSaid : Prop := fnMarkedRow.holds Tryz.pinned (OpenSpec.ofChange fnMarkedSpec)

/-- ITS FALSE NEIGHBOUR: 'it returns false'. Refute it at one input. -/
def fnMarkedWrong : ChangeSpec := { name := "fnMarked", fn := fun _ => fun
  | [d] => { results := [.lit (.bool false)], args := [d] }
  | _ => none }
def FnMarkedWrongFalsely : Prop := fnMarkedRow.holds Tryz.pinned (OpenSpec.ofChange fnMarkedWrong)

/-- 'laws.FnBoots': WHATEVER THE INPUT: true; the input reads as it did. -/
def fnBootsSpec : ChangeSpec := { name := "fnBoots", fn := fun _ => fun
  | [d] => { results := [.lit (.bool true)], args := [d] }
  | _ => none }
def fnBootsRow : OpenClaim := { program := "ytanpcpoogkdlaaagreat", sum := "ecb9edfe1819fb0e09fb3fe33b05c7beef0089f0f8f3de6ce3867307105aaa8e", func := "loop.example/g00965/laws.FnBoots", spec := "fnBoots", inPlace := ["slices.overlaps[loop.example/g00965/impl.Entry]"], unfollowed := true, recurses := true, apart := false }
def FnBootsSaid : Prop := fnBootsRow.holds Tryz.pinned (OpenSpec.ofChange fnBootsSpec)

/-- ITS FALSE NEIGHBOUR: 'it returns false'. Refute it at one input. -/
def fnBootsWrong : ChangeSpec := { name := "fnBoots", fn := fun _ => fun
  | [d] => { results := [.lit (.bool false)], args := [d] }
  | _ => none }
def FnBootsWrongFalsely : Prop := fnBootsRow.holds Tryz.pinned (OpenSpec.ofChange fnBootsWrong)

/-- 'laws.FnExactMarkOf': WHATEVER THE INPUT: true; the input reads as it did. -/
def fnExactMarkOfSpec : ChangeSpec := { name := "fnExactMarkOf", fn := fun _ => fun
  | [d] => { results := [.lit (.bool true)], args := [d] }
  | _ => none }
def fnExactMarkOfRow : OpenClaim := { program := "ytanpcpoogkdlaaagreat", sum := "ecb9edfe1819fb0e09fb3fe33b05c7beef0089f0f8f3de6ce3867307105aaa8e", func := "loop.example/g00965/laws.FnExactMarkOf", spec := "fnExactMarkOf", unfollowed := true, recurses := true, apart := false }
def FnExactMarkOfSaid : Prop := fnExactMarkOfRow.holds Tryz.pinned (OpenSpec.ofChange fnExactMarkOfSpec)

/-- ITS FALSE NEIGHBOUR: 'it returns false'. Refute it at one input. -/
def fnExactMarkOfWrong : ChangeSpec := { name := "fnExactMarkOf", fn := fun _ => fun
  | [d] => { results := [.lit (.bool false)], args := [d] }
  | _ => none }
def FnExactMarkOfWrongFalsely : Prop := fnExactMarkOfRow.holds Tryz.pinned (OpenSpec.ofChange fnExactMarkOfWrong)

/-- 'laws.FnExactMarkStep': WHATEVER THE INPUT: true; the input reads as it did. -/
def fnExactMarkStepSpec : ChangeSpec := { name := "fnExactMarkStep", fn := fun _ => fun
  | [d1, d2] => { results := [.lit (.bool true)], args := [d1, d2] }
  | _ => none }
def fnExactMarkStepRow : OpenClaim := { program := "ytanpcpoogkdlaaagreat", sum := "ecb9edfe1819fb0e09fb3fe33b05c7beef0089f0f8f3de6ce3867307105aaa8e", func := "loop.example/g00965/laws.FnExactMarkStep", spec := "fnExactMarkStep", unfollowed := true, recurses := true, apart := false }
def FnExactMarkStepSaid : Prop := fnExactMarkStepRow.holds Tryz.pinned (OpenSpec.ofChange fnExactMarkStepSpec)

/-- ITS FALSE NEIGHBOUR: 'it returns false'. Refute it at one input. -/
def fnExactMarkStepWrong : ChangeSpec := { name := "fnExactMarkStep", fn := fun _ => fun
  | [d1, d2] => { results := [.lit (.bool false)], args := [d1, d2] }
  | _ => none }
def FnExactMarkStepWrongFalsely : Prop := fnExactMarkStepRow.holds Tryz.pinned (OpenSpec.ofChange fnExactMarkStepWrong)

/-- 'laws.FnExactMark': WHATEVER THE INPUT: true; the input reads as it did. -/
def fnExactMarkSpec : ChangeSpec := { name := "fnExactMark", fn := fun _ => fun
  | [d1, d2] => { results := [.lit (.bool true)], args := [d1, d2] }
  | _ => none }
def fnExactMarkRow : OpenClaim := { program := "ytanpcpoogkdlaaagreat", sum := "ecb9edfe1819fb0e09fb3fe33b05c7beef0089f0f8f3de6ce3867307105aaa8e", func := "loop.example/g00965/laws.FnExactMark", spec := "fnExactMark", unfollowed := true, recurses := true, apart := false }
def FnExactMarkSaid : Prop := fnExactMarkRow.holds Tryz.pinned (OpenSpec.ofChange fnExactMarkSpec)

/-- ITS FALSE NEIGHBOUR: 'it returns false'. Refute it at one input. -/
def fnExactMarkWrong : ChangeSpec := { name := "fnExactMark", fn := fun _ => fun
  | [d1, d2] => { results := [.lit (.bool false)], args := [d1, d2] }
  | _ => none }
def FnExactMarkWrongFalsely : Prop := fnExactMarkRow.holds Tryz.pinned (OpenSpec.ofChange fnExactMarkWrong)

/-- 'laws.FnMarkTold': WHATEVER THE INPUT: true; the input reads as it did. -/
def fnMarkToldSpec : ChangeSpec := { name := "fnMarkTold", fn := fun _ => fun
  | [d] => { results := [.lit (.bool true)], args := [d] }
  | _ => none }
def fnMarkToldRow : OpenClaim := { program := "ytanpcpoogkdlaaagreat", sum := "ecb9edfe1819fb0e09fb3fe33b05c7beef0089f0f8f3de6ce3867307105aaa8e", func := "loop.example/g00965/laws.FnMarkTold", spec := "fnMarkTold", unfollowed := true, recurses := true, apart := false }
def FnMarkToldSaid : Prop := fnMarkToldRow.holds Tryz.pinned (OpenSpec.ofChange fnMarkToldSpec)

/-- ITS FALSE NEIGHBOUR: 'it returns false'. Refute it at one input. -/
def fnMarkToldWrong : ChangeSpec := { name := "fnMarkTold", fn := fun _ => fun
  | [d] => { results := [.lit (.bool false)], args := [d] }
  | _ => none }
def FnMarkToldWrongFalsely : Prop := fnMarkToldRow.holds Tryz.pinned (OpenSpec.ofChange fnMarkToldWrong)

/-- 'laws.FnEngines': WHATEVER THE INPUT: true; the input reads as it did. -/
def fnEnginesSpec : ChangeSpec := { name := "fnEngines", fn := fun _ => fun
  | [d] => { results := [.lit (.bool true)], args := [d] }
  | _ => none }
def fnEnginesRow : OpenClaim := { program := "ytanpcpoogkdlaaagreat", sum := "ecb9edfe1819fb0e09fb3fe33b05c7beef0089f0f8f3de6ce3867307105aaa8e", func := "loop.example/g00965/laws.FnEngines", spec := "fnEngines", inPlace := ["slices.overlaps[loop.example/g00965/impl.Entry]"], unfollowed := true, recurses := true, apart := false }
def FnEnginesSaid : Prop := fnEnginesRow.holds Tryz.pinned (OpenSpec.ofChange fnEnginesSpec)

/-- ITS FALSE NEIGHBOUR: 'it returns false'. Refute it at one input. -/
def fnEnginesWrong : ChangeSpec := { name := "fnEngines", fn := fun _ => fun
  | [d] => { results := [.lit (.bool false)], args := [d] }
  | _ => none }
def FnEnginesWrongFalsely : Prop := fnEnginesRow.holds Tryz.pinned (OpenSpec.ofChange fnEnginesWrong)

/-- 'laws.FnExactStays': WHATEVER THE INPUT: true; the input reads as it did. -/
def fnExactStaysSpec : ChangeSpec := { name := "fnExactStays", fn := fun _ => fun
  | [d] => { results := [.lit (.bool true)], args := [d] }
  | _ => none }
def fnExactStaysRow : OpenClaim := { program := "ytanpcpoogkdlaaagreat", sum := "ecb9edfe1819fb0e09fb3fe33b05c7beef0089f0f8f3de6ce3867307105aaa8e", func := "loop.example/g00965/laws.FnExactStays", spec := "fnExactStays", inPlace := ["slices.overlaps[loop.example/g00965/impl.Entry]"], unfollowed := true, recurses := true, apart := false }
def FnExactStaysSaid : Prop := fnExactStaysRow.holds Tryz.pinned (OpenSpec.ofChange fnExactStaysSpec)

/-- ITS FALSE NEIGHBOUR: 'it returns false'. Refute it at one input. -/
def fnExactStaysWrong : ChangeSpec := { name := "fnExactStays", fn := fun _ => fun
  | [d] => { results := [.lit (.bool false)], args := [d] }
  | _ => none }
def FnExactStaysWrongFalsely : Prop := fnExactStaysRow.holds Tryz.pinned (OpenSpec.ofChange fnExactStaysWrong)

/-- 'laws.FnExactRecovered': WHATEVER THE INPUT: true; the input reads as it did. -/
def fnExactRecoveredSpec : ChangeSpec := { name := "fnExactRecovered", fn := fun _ => fun
  | [d] => { results := [.lit (.bool true)], args := [d] }
  | _ => none }
def fnExactRecoveredRow : OpenClaim := { program := "ytanpcpoogkdlaaagreat", sum := "ecb9edfe1819fb0e09fb3fe33b05c7beef0089f0f8f3de6ce3867307105aaa8e", func := "loop.example/g00965/laws.FnExactRecovered", spec := "fnExactRecovered", inPlace := ["slices.overlaps[loop.example/g00965/impl.Entry]"], unfollowed := true, recurses := true, apart := false }
def FnExactRecoveredSaid : Prop := fnExactRecoveredRow.holds Tryz.pinned (OpenSpec.ofChange fnExactRecoveredSpec)

/-- ITS FALSE NEIGHBOUR: 'it returns false'. Refute it at one input. -/
def fnExactRecoveredWrong : ChangeSpec := { name := "fnExactRecovered", fn := fun _ => fun
  | [d] => { results := [.lit (.bool false)], args := [d] }
  | _ => none }
def FnExactRecoveredWrongFalsely : Prop := fnExactRecoveredRow.holds Tryz.pinned (OpenSpec.ofChange fnExactRecoveredWrong)

/-- 'laws.FnExactCall': WHATEVER THE INPUT: true; the input reads as it did. -/
def fnExactCallSpec : ChangeSpec := { name := "fnExactCall", fn := fun _ => fun
  | [d1, d2] => { results := [.lit (.bool true)], args := [d1, d2] }
  | _ => none }
def fnExactCallRow : OpenClaim := { program := "ytanpcpoogkdlaaagreat", sum := "ecb9edfe1819fb0e09fb3fe33b05c7beef0089f0f8f3de6ce3867307105aaa8e", func := "loop.example/g00965/laws.FnExactCall", spec := "fnExactCall", inPlace := ["slices.overlaps[loop.example/g00965/impl.Entry]"], unfollowed := true, recurses := true, apart := false }
def FnExactCallSaid : Prop := fnExactCallRow.holds Tryz.pinned (OpenSpec.ofChange fnExactCallSpec)

/-- ITS FALSE NEIGHBOUR: 'it returns false'. Refute it at one input. -/
def fnExactCallWrong : ChangeSpec := { name := "fnExactCall", fn := fun _ => fun
  | [d1, d2] => { results := [.lit (.bool false)], args := [d1, d2] }
  | _ => none }
def FnExactCallWrongFalsely : Prop := fnExactCallRow.holds Tryz.pinned (OpenSpec.ofChange fnExactCallWrong)

/-- 'laws.FnExactBoot': WHATEVER THE INPUT: true; the input reads as it did. -/
def fnExactBootSpec : ChangeSpec := { name := "fnExactBoot", fn := fun _ => fun
  | [d] => { results := [.lit (.bool true)], args := [d] }
  | _ => none }
def fnExactBootRow : OpenClaim := { program := "ytanpcpoogkdlaaagreat", sum := "ecb9edfe1819fb0e09fb3fe33b05c7beef0089f0f8f3de6ce3867307105aaa8e", func := "loop.example/g00965/laws.FnExactBoot", spec := "fnExactBoot", inPlace := ["slices.overlaps[loop.example/g00965/impl.Entry]"], unfollowed := true, recurses := true, apart := false }
def FnExactBootSaid : Prop := fnExactBootRow.holds Tryz.pinned (OpenSpec.ofChange fnExactBootSpec)

/-- ITS FALSE NEIGHBOUR: 'it returns false'. Refute it at one input. -/
def fnExactBootWrong : ChangeSpec := { name := "fnExactBoot", fn := fun _ => fun
  | [d] => { results := [.lit (.bool false)], args := [d] }
  | _ => none }
def FnExactBootWrongFalsely : Prop := fnExactBootRow.holds Tryz.pinned (OpenSpec.ofChange fnExactBootWrong)

/-- 'laws.FnExactPlayed': WHATEVER THE INPUT: true; the input reads as it did. -/
def fnExactPlayedSpec : ChangeSpec := { name := "fnExactPlayed", fn := fun _ => fun
  | [d] => { results := [.lit (.bool true)], args := [d] }
  | _ => none }
def fnExactPlayedRow : OpenClaim := { program := "ytanpcpoogkdlaaagreat", sum := "ecb9edfe1819fb0e09fb3fe33b05c7beef0089f0f8f3de6ce3867307105aaa8e", func := "loop.example/g00965/laws.FnExactPlayed", spec := "fnExactPlayed", inPlace := ["slices.overlaps[loop.example/g00965/impl.Entry]"], unfollowed := true, recurses := true, apart := false }
def FnExactPlayedSaid : Prop := fnExactPlayedRow.holds Tryz.pinned (OpenSpec.ofChange fnExactPlayedSpec)

/-- ITS FALSE NEIGHBOUR: 'it returns false'. Refute it at one input. -/
def fnExactPlayedWrong : ChangeSpec := { name := "fnExactPlayed", fn := fun _ => fun
  | [d] => { results := [.lit (.bool false)], args := [d] }
  | _ => none }
def FnExactPlayedWrongFalsely : Prop := fnExactPlayedRow.holds Tryz.pinned (OpenSpec.ofChange fnExactPlayedWrong)

/- THE SECOND FORM. 'bulk': how many values and letters a reading holds, each counted each time it is reached (what is shared counts as often as it is met; a slice's spare places count too). A statement '..UptoSaid' is the law's where the arguments, and the package variables that the reading takes, are together of bulk at most 1048576: NARROWER than '..Said'. Prove '..Said' where nothing that the law and all that it calls make is longer than what came in: it says more and counts as full. Else prove '..UptoSaid'. A law counts once. -/
mutual
def uptoBulk {H : Type} : DataW H → Nat
  | .lit (.string bytes) => bytes.length + 1
  | .lit _ => 1
  | .nil => 1
  | .ptr d => uptoBulk d + 1
  | .slice elems spare => uptoBulkAll elems + uptoBulkAll spare + 1
  | .agg parts => uptoBulkAll parts + 1
  | .iface _ d => uptoBulk d + 1
  | .map entries => uptoBulkEntries entries + 1
  | .held _ => 1
def uptoBulkAll {H : Type} : List (DataW H) → Nat
  | [] => 0
  | d :: r => uptoBulk d + uptoBulkAll r
def uptoBulkEntries {H : Type} : List (Lit × DataW H) → Nat
  | [] => 0
  | x :: r => uptoBulkEntry x + uptoBulkEntries r
def uptoBulkEntry {H : Type} : Lit × DataW H → Nat
  | (.string bytes, d) => bytes.length + uptoBulk d + 1
  | (_, d) => uptoBulk d + 1
 end
def uptoSmall : (H : Type) → List (DataW H) → Bool := fun _ ds => decide (uptoBulkAll ds ≤ 1048576)
def OpenSpec.upto (s : _root_.Go.ChangeSpec) : _root_.Go.OpenSpec := { _root_.Go.OpenSpec.ofChange s with cond := some uptoSmall }

/-- 'laws.FnMarked', WHERE WHAT IT READS IS OF BULK AT MOST 1048576: true; the input reads as it did. -/
def fnMarkedUptoRow : OpenClaim := { program := "ytanpcpoogkdlaaagreat", sum := "ecb9edfe1819fb0e09fb3fe33b05c7beef0089f0f8f3de6ce3867307105aaa8e", func := "loop.example/g00965/laws.FnMarked", spec := "fnMarked", inPlace := ["slices.overlaps[loop.example/g00965/impl.Entry]"], unfollowed := true, recurses := true, apart := false, narrowed := true }
def FnMarkedUptoSaid : Prop := fnMarkedUptoRow.holds Tryz.pinned (OpenSpec.upto fnMarkedSpec)

/-- 'laws.FnBoots', WHERE WHAT IT READS IS OF BULK AT MOST 1048576: true; the input reads as it did. -/
def fnBootsUptoRow : OpenClaim := { program := "ytanpcpoogkdlaaagreat", sum := "ecb9edfe1819fb0e09fb3fe33b05c7beef0089f0f8f3de6ce3867307105aaa8e", func := "loop.example/g00965/laws.FnBoots", spec := "fnBoots", inPlace := ["slices.overlaps[loop.example/g00965/impl.Entry]"], unfollowed := true, recurses := true, apart := false, narrowed := true }
def FnBootsUptoSaid : Prop := fnBootsUptoRow.holds Tryz.pinned (OpenSpec.upto fnBootsSpec)

/-- 'laws.FnExactMarkOf', WHERE WHAT IT READS IS OF BULK AT MOST 1048576: true; the input reads as it did. -/
def fnExactMarkOfUptoRow : OpenClaim := { program := "ytanpcpoogkdlaaagreat", sum := "ecb9edfe1819fb0e09fb3fe33b05c7beef0089f0f8f3de6ce3867307105aaa8e", func := "loop.example/g00965/laws.FnExactMarkOf", spec := "fnExactMarkOf", unfollowed := true, recurses := true, apart := false, narrowed := true }
def FnExactMarkOfUptoSaid : Prop := fnExactMarkOfUptoRow.holds Tryz.pinned (OpenSpec.upto fnExactMarkOfSpec)

/-- 'laws.FnExactMarkStep', WHERE WHAT IT READS IS OF BULK AT MOST 1048576: true; the input reads as it did. -/
def fnExactMarkStepUptoRow : OpenClaim := { program := "ytanpcpoogkdlaaagreat", sum := "ecb9edfe1819fb0e09fb3fe33b05c7beef0089f0f8f3de6ce3867307105aaa8e", func := "loop.example/g00965/laws.FnExactMarkStep", spec := "fnExactMarkStep", unfollowed := true, recurses := true, apart := false, narrowed := true }
def FnExactMarkStepUptoSaid : Prop := fnExactMarkStepUptoRow.holds Tryz.pinned (OpenSpec.upto fnExactMarkStepSpec)

/-- 'laws.FnExactMark', WHERE WHAT IT READS IS OF BULK AT MOST 1048576: true; the input reads as it did. -/
def fnExactMarkUptoRow : OpenClaim := { program := "ytanpcpoogkdlaaagreat", sum := "ecb9edfe1819fb0e09fb3fe33b05c7beef0089f0f8f3de6ce3867307105aaa8e", func := "loop.example/g00965/laws.FnExactMark", spec := "fnExactMark", unfollowed := true, recurses := true, apart := false, narrowed := true }
def FnExactMarkUptoSaid : Prop := fnExactMarkUptoRow.holds Tryz.pinned (OpenSpec.upto fnExactMarkSpec)

/-- 'laws.FnMarkTold', WHERE WHAT IT READS IS OF BULK AT MOST 1048576: true; the input reads as it did. -/
def fnMarkToldUptoRow : OpenClaim := { program := "ytanpcpoogkdlaaagreat", sum := "ecb9edfe1819fb0e09fb3fe33b05c7beef0089f0f8f3de6ce3867307105aaa8e", func := "loop.example/g00965/laws.FnMarkTold", spec := "fnMarkTold", unfollowed := true, recurses := true, apart := false, narrowed := true }
def FnMarkToldUptoSaid : Prop := fnMarkToldUptoRow.holds Tryz.pinned (OpenSpec.upto fnMarkToldSpec)

/-- 'laws.FnEngines', WHERE WHAT IT READS IS OF BULK AT MOST 1048576: true; the input reads as it did. -/
def fnEnginesUptoRow : OpenClaim := { program := "ytanpcpoogkdlaaagreat", sum := "ecb9edfe1819fb0e09fb3fe33b05c7beef0089f0f8f3de6ce3867307105aaa8e", func := "loop.example/g00965/laws.FnEngines", spec := "fnEngines", inPlace := ["slices.overlaps[loop.example/g00965/impl.Entry]"], unfollowed := true, recurses := true, apart := false, narrowed := true }
def FnEnginesUptoSaid : Prop := fnEnginesUptoRow.holds Tryz.pinned (OpenSpec.upto fnEnginesSpec)

/-- 'laws.FnExactStays', WHERE WHAT IT READS IS OF BULK AT MOST 1048576: true; the input reads as it did. -/
def fnExactStaysUptoRow : OpenClaim := { program := "ytanpcpoogkdlaaagreat", sum := "ecb9edfe1819fb0e09fb3fe33b05c7beef0089f0f8f3de6ce3867307105aaa8e", func := "loop.example/g00965/laws.FnExactStays", spec := "fnExactStays", inPlace := ["slices.overlaps[loop.example/g00965/impl.Entry]"], unfollowed := true, recurses := true, apart := false, narrowed := true }
def FnExactStaysUptoSaid : Prop := fnExactStaysUptoRow.holds Tryz.pinned (OpenSpec.upto fnExactStaysSpec)

/-- 'laws.FnExactRecovered', WHERE WHAT IT READS IS OF BULK AT MOST 1048576: true; the input reads as it did. -/
def fnExactRecoveredUptoRow : OpenClaim := { program := "ytanpcpoogkdlaaagreat", sum := "ecb9edfe1819fb0e09fb3fe33b05c7beef0089f0f8f3de6ce3867307105aaa8e", func := "loop.example/g00965/laws.FnExactRecovered", spec := "fnExactRecovered", inPlace := ["slices.overlaps[loop.example/g00965/impl.Entry]"], unfollowed := true, recurses := true, apart := false, narrowed := true }
def FnExactRecoveredUptoSaid : Prop := fnExactRecoveredUptoRow.holds Tryz.pinned (OpenSpec.upto fnExactRecoveredSpec)

/-- 'laws.FnExactCall', WHERE WHAT IT READS IS OF BULK AT MOST 1048576: true; the input reads as it did. -/
def fnExactCallUptoRow : OpenClaim := { program := "ytanpcpoogkdlaaagreat", sum := "ecb9edfe1819fb0e09fb3fe33b05c7beef0089f0f8f3de6ce3867307105aaa8e", func := "loop.example/g00965/laws.FnExactCall", spec := "fnExactCall", inPlace := ["slices.overlaps[loop.example/g00965/impl.Entry]"], unfollowed := true, recurses := true, apart := false, narrowed := true }
def FnExactCallUptoSaid : Prop := fnExactCallUptoRow.holds Tryz.pinned (OpenSpec.upto fnExactCallSpec)

/-- 'laws.FnExactBoot', WHERE WHAT IT READS IS OF BULK AT MOST 1048576: true; the input reads as it did. -/
def fnExactBootUptoRow : OpenClaim := { program := "ytanpcpoogkdlaaagreat", sum := "ecb9edfe1819fb0e09fb3fe33b05c7beef0089f0f8f3de6ce3867307105aaa8e", func := "loop.example/g00965/laws.FnExactBoot", spec := "fnExactBoot", inPlace := ["slices.overlaps[loop.example/g00965/impl.Entry]"], unfollowed := true, recurses := true, apart := false, narrowed := true }
def FnExactBootUptoSaid : Prop := fnExactBootUptoRow.holds Tryz.pinned (OpenSpec.upto fnExactBootSpec)

/-- 'laws.FnExactPlayed', WHERE WHAT IT READS IS OF BULK AT MOST 1048576: true; the input reads as it did. -/
def fnExactPlayedUptoRow : OpenClaim := { program := "ytanpcpoogkdlaaagreat", sum := "ecb9edfe1819fb0e09fb3fe33b05c7beef0089f0f8f3de6ce3867307105aaa8e", func := "loop.example/g00965/laws.FnExactPlayed", spec := "fnExactPlayed", inPlace := ["slices.overlaps[loop.example/g00965/impl.Entry]"], unfollowed := true, recurses := true, apart := false, narrowed := true }
def FnExactPlayedUptoSaid : Prop := fnExactPlayedUptoRow.holds Tryz.pinned (OpenSpec.upto fnExactPlayedSpec)

end Rows
end Go.Proofs.YtanpcpoogkdlaaaGreat
