/-
  No cell of these rows narrows 'for every input' (looked for: loops, veiled, ifaces, maps, wideKeys, modest, calm, conditions, laid).
  DERIVED. THE GIVEN ROWS OF THIS SEAT. 10 by the template 'for every input the law returns true; each argument reads behind the call as it read before'; 0 by the template 'total and deterministic' (their statements: YtbnjncjplkbijaaTotals.lean).
  GIVEN WITH THE SEED: the statements are not yours to turn. If you find one false, say at which input.
  Laid BY PROGRAM, IN A SANDBOX (cutbox-rows.mjs): the forced cells as the released guide's own fill.sh prints them over the translation 5a31faea234bfb10… (all of the seat's roots in one cut). By AI agents, Wed Nov 11 2026. No macro, syntax, notation, axiom, sorry.
-/
import Derived.Test.YtbnjncjplkbijaaChecked
import GoSem.Claim
import GoSem.ClaimJoined
import GoSem.ClaimMapViews
import Derived.JoinedTies
import Derived.KernelRfl
namespace Go.Proofs.Ytbnjncjplkbijaa
/- THE CELL 'sum', in the pinned program and in every row, IS THE sha256 OF THE DUMP (.gsa) THAT YtbnjncjplkbijaaProg.lean LOADS. Nothing in Lean hashes anything: it is a label: what it is worth is what the hold of that sum in a sandbox is worth. -/
noncomputable def Try.pinned : Pinned := { name := "ytbnjncjplkbijaa", sum := "5a31faea234bfb105a51028b64ec8ef71b9f6fefa18ec0aff55f2f95f8c72fe1", checked := Try.checked }
namespace Rows
def none {H : Type} : Left H := { results := [], args := [] }

/-- 'laws.FnExactOverlaps': WHATEVER THE INPUT: true; the input reads as it did. -/
def fnExactOverlapsSpec : ChangeSpec := { name := "fnExactOverlaps", fn := fun _ => fun
  | [d] => { results := [.lit (.bool true)], args := [d] }
  | _ => none }
def fnExactOverlapsRow : OpenClaim := { program := "ytbnjncjplkbijaa", sum := "5a31faea234bfb105a51028b64ec8ef71b9f6fefa18ec0aff55f2f95f8c72fe1", func := "loop.example/g00965/laws.FnExactOverlaps", spec := "fnExactOverlaps", apart := false }
def FnExactOverlapsSaid : Prop := fnExactOverlapsRow.holds Try.pinned (OpenSpec.ofChange fnExactOverlapsSpec)

/-- ITS FALSE NEIGHBOUR: 'it returns false'. Refute it at one input. -/
def fnExactOverlapsWrong : ChangeSpec := { name := "fnExactOverlaps", fn := fun _ => fun
  | [d] => { results := [.lit (.bool false)], args := [d] }
  | _ => none }
def FnExactOverlapsWrongFalsely : Prop := fnExactOverlapsRow.holds Try.pinned (OpenSpec.ofChange fnExactOverlapsWrong)

/-- 'laws.FnExactSpanOk': WHATEVER THE INPUT: true; the input reads as it did. -/
def fnExactSpanOkSpec : ChangeSpec := { name := "fnExactSpanOk", fn := fun _ => fun
  | [d] => { results := [.lit (.bool true)], args := [d] }
  | _ => none }
def fnExactSpanOkRow : OpenClaim := { program := "ytbnjncjplkbijaa", sum := "5a31faea234bfb105a51028b64ec8ef71b9f6fefa18ec0aff55f2f95f8c72fe1", func := "loop.example/g00965/laws.FnExactSpanOk", spec := "fnExactSpanOk", apart := false }
def FnExactSpanOkSaid : Prop := fnExactSpanOkRow.holds Try.pinned (OpenSpec.ofChange fnExactSpanOkSpec)

/-- ITS FALSE NEIGHBOUR: 'it returns false'. Refute it at one input. -/
def fnExactSpanOkWrong : ChangeSpec := { name := "fnExactSpanOk", fn := fun _ => fun
  | [d] => { results := [.lit (.bool false)], args := [d] }
  | _ => none }
def FnExactSpanOkWrongFalsely : Prop := fnExactSpanOkRow.holds Try.pinned (OpenSpec.ofChange fnExactSpanOkWrong)

/-- 'laws.FnExactAllOver': WHATEVER THE INPUT: true; the input reads as it did. -/
def fnExactAllOverSpec : ChangeSpec := { name := "fnExactAllOver", fn := fun _ => fun
  | [d] => { results := [.lit (.bool true)], args := [d] }
  | _ => none }
def fnExactAllOverRow : OpenClaim := { program := "ytbnjncjplkbijaa", sum := "5a31faea234bfb105a51028b64ec8ef71b9f6fefa18ec0aff55f2f95f8c72fe1", func := "loop.example/g00965/laws.FnExactAllOver", spec := "fnExactAllOver", apart := false }
def FnExactAllOverSaid : Prop := fnExactAllOverRow.holds Try.pinned (OpenSpec.ofChange fnExactAllOverSpec)

/-- ITS FALSE NEIGHBOUR: 'it returns false'. Refute it at one input. -/
def fnExactAllOverWrong : ChangeSpec := { name := "fnExactAllOver", fn := fun _ => fun
  | [d] => { results := [.lit (.bool false)], args := [d] }
  | _ => none }
def FnExactAllOverWrongFalsely : Prop := fnExactAllOverRow.holds Try.pinned (OpenSpec.ofChange fnExactAllOverWrong)

/-- 'laws.FnExactHandsOf': WHATEVER THE INPUT: true; the input reads as it did. -/
def fnExactHandsOfSpec : ChangeSpec := { name := "fnExactHandsOf", fn := fun _ => fun
  | [d1, d2] => { results := [.lit (.bool true)], args := [d1, d2] }
  | _ => none }
def fnExactHandsOfRow : OpenClaim := { program := "ytbnjncjplkbijaa", sum := "5a31faea234bfb105a51028b64ec8ef71b9f6fefa18ec0aff55f2f95f8c72fe1", func := "loop.example/g00965/laws.FnExactHandsOf", spec := "fnExactHandsOf", apart := false }
def FnExactHandsOfSaid : Prop := fnExactHandsOfRow.holds Try.pinned (OpenSpec.ofChange fnExactHandsOfSpec)

/-- ITS FALSE NEIGHBOUR: 'it returns false'. Refute it at one input. -/
def fnExactHandsOfWrong : ChangeSpec := { name := "fnExactHandsOf", fn := fun _ => fun
  | [d1, d2] => { results := [.lit (.bool false)], args := [d1, d2] }
  | _ => none }
def FnExactHandsOfWrongFalsely : Prop := fnExactHandsOfRow.holds Try.pinned (OpenSpec.ofChange fnExactHandsOfWrong)

/-- 'laws.FnExactLeftIn': WHATEVER THE INPUT: true; the input reads as it did. -/
def fnExactLeftInSpec : ChangeSpec := { name := "fnExactLeftIn", fn := fun _ => fun
  | [d] => { results := [.lit (.bool true)], args := [d] }
  | _ => none }
def fnExactLeftInRow : OpenClaim := { program := "ytbnjncjplkbijaa", sum := "5a31faea234bfb105a51028b64ec8ef71b9f6fefa18ec0aff55f2f95f8c72fe1", func := "loop.example/g00965/laws.FnExactLeftIn", spec := "fnExactLeftIn", apart := false }
def FnExactLeftInSaid : Prop := fnExactLeftInRow.holds Try.pinned (OpenSpec.ofChange fnExactLeftInSpec)

/-- ITS FALSE NEIGHBOUR: 'it returns false'. Refute it at one input. -/
def fnExactLeftInWrong : ChangeSpec := { name := "fnExactLeftIn", fn := fun _ => fun
  | [d] => { results := [.lit (.bool false)], args := [d] }
  | _ => none }
def FnExactLeftInWrongFalsely : Prop := fnExactLeftInRow.holds Try.pinned (OpenSpec.ofChange fnExactLeftInWrong)

/-- 'laws.FnExactEnoughFor': WHATEVER THE INPUT: true; the input reads as it did. -/
def fnExactEnoughForSpec : ChangeSpec := { name := "fnExactEnoughFor", fn := fun _ => fun
  | [d1, d2] => { results := [.lit (.bool true)], args := [d1, d2] }
  | _ => none }
def fnExactEnoughForRow : OpenClaim := { program := "ytbnjncjplkbijaa", sum := "5a31faea234bfb105a51028b64ec8ef71b9f6fefa18ec0aff55f2f95f8c72fe1", func := "loop.example/g00965/laws.FnExactEnoughFor", spec := "fnExactEnoughFor", apart := false }
def FnExactEnoughForSaid : Prop := fnExactEnoughForRow.holds Try.pinned (OpenSpec.ofChange fnExactEnoughForSpec)

/-- ITS FALSE NEIGHBOUR: 'it returns false'. Refute it at one input. -/
def fnExactEnoughForWrong : ChangeSpec := { name := "fnExactEnoughFor", fn := fun _ => fun
  | [d1, d2] => { results := [.lit (.bool false)], args := [d1, d2] }
  | _ => none }
def FnExactEnoughForWrongFalsely : Prop := fnExactEnoughForRow.holds Try.pinned (OpenSpec.ofChange fnExactEnoughForWrong)

/-- 'laws.FnExactCountsOf': WHATEVER THE INPUT: true; the input reads as it did. -/
def fnExactCountsOfSpec : ChangeSpec := { name := "fnExactCountsOf", fn := fun _ => fun
  | [d] => { results := [.lit (.bool true)], args := [d] }
  | _ => none }
def fnExactCountsOfRow : OpenClaim := { program := "ytbnjncjplkbijaa", sum := "5a31faea234bfb105a51028b64ec8ef71b9f6fefa18ec0aff55f2f95f8c72fe1", func := "loop.example/g00965/laws.FnExactCountsOf", spec := "fnExactCountsOf", unfollowed := true, recurses := true, apart := false }
def FnExactCountsOfSaid : Prop := fnExactCountsOfRow.holds Try.pinned (OpenSpec.ofChange fnExactCountsOfSpec)

/-- ITS FALSE NEIGHBOUR: 'it returns false'. Refute it at one input. -/
def fnExactCountsOfWrong : ChangeSpec := { name := "fnExactCountsOf", fn := fun _ => fun
  | [d] => { results := [.lit (.bool false)], args := [d] }
  | _ => none }
def FnExactCountsOfWrongFalsely : Prop := fnExactCountsOfRow.holds Try.pinned (OpenSpec.ofChange fnExactCountsOfWrong)

/-- 'laws.FnExactOldestOf': WHATEVER THE INPUT: true; the input reads as it did. -/
def fnExactOldestOfSpec : ChangeSpec := { name := "fnExactOldestOf", fn := fun _ => fun
  | [d] => { results := [.lit (.bool true)], args := [d] }
  | _ => none }
def fnExactOldestOfRow : OpenClaim := { program := "ytbnjncjplkbijaa", sum := "5a31faea234bfb105a51028b64ec8ef71b9f6fefa18ec0aff55f2f95f8c72fe1", func := "loop.example/g00965/laws.FnExactOldestOf", spec := "fnExactOldestOf", unfollowed := true, recurses := true, apart := false }
def FnExactOldestOfSaid : Prop := fnExactOldestOfRow.holds Try.pinned (OpenSpec.ofChange fnExactOldestOfSpec)

/-- ITS FALSE NEIGHBOUR: 'it returns false'. Refute it at one input. -/
def fnExactOldestOfWrong : ChangeSpec := { name := "fnExactOldestOf", fn := fun _ => fun
  | [d] => { results := [.lit (.bool false)], args := [d] }
  | _ => none }
def FnExactOldestOfWrongFalsely : Prop := fnExactOldestOfRow.holds Try.pinned (OpenSpec.ofChange fnExactOldestOfWrong)

/-- 'laws.FnExactViewOf': WHATEVER THE INPUT: true; the input reads as it did. -/
def fnExactViewOfSpec : ChangeSpec := { name := "fnExactViewOf", fn := fun _ => fun
  | [d1, d2] => { results := [.lit (.bool true)], args := [d1, d2] }
  | _ => none }
def fnExactViewOfRow : OpenClaim := { program := "ytbnjncjplkbijaa", sum := "5a31faea234bfb105a51028b64ec8ef71b9f6fefa18ec0aff55f2f95f8c72fe1", func := "loop.example/g00965/laws.FnExactViewOf", spec := "fnExactViewOf", unfollowed := true, recurses := true, apart := false }
def FnExactViewOfSaid : Prop := fnExactViewOfRow.holds Try.pinned (OpenSpec.ofChange fnExactViewOfSpec)

/-- ITS FALSE NEIGHBOUR: 'it returns false'. Refute it at one input. -/
def fnExactViewOfWrong : ChangeSpec := { name := "fnExactViewOf", fn := fun _ => fun
  | [d1, d2] => { results := [.lit (.bool false)], args := [d1, d2] }
  | _ => none }
def FnExactViewOfWrongFalsely : Prop := fnExactViewOfRow.holds Try.pinned (OpenSpec.ofChange fnExactViewOfWrong)

/-- 'laws.FnExactBusyOf': WHATEVER THE INPUT: true; the input reads as it did. -/
def fnExactBusyOfSpec : ChangeSpec := { name := "fnExactBusyOf", fn := fun _ => fun
  | [d] => { results := [.lit (.bool true)], args := [d] }
  | _ => none }
def fnExactBusyOfRow : OpenClaim := { program := "ytbnjncjplkbijaa", sum := "5a31faea234bfb105a51028b64ec8ef71b9f6fefa18ec0aff55f2f95f8c72fe1", func := "loop.example/g00965/laws.FnExactBusyOf", spec := "fnExactBusyOf", apart := false }
def FnExactBusyOfSaid : Prop := fnExactBusyOfRow.holds Try.pinned (OpenSpec.ofChange fnExactBusyOfSpec)

/-- ITS FALSE NEIGHBOUR: 'it returns false'. Refute it at one input. -/
def fnExactBusyOfWrong : ChangeSpec := { name := "fnExactBusyOf", fn := fun _ => fun
  | [d] => { results := [.lit (.bool false)], args := [d] }
  | _ => none }
def FnExactBusyOfWrongFalsely : Prop := fnExactBusyOfRow.holds Try.pinned (OpenSpec.ofChange fnExactBusyOfWrong)

/- THE SECOND FORM. 'bulk': how many values and letters a reading holds, each counted each time it is reached (what is shared counts as often as it is met; a slice's spare places count too). A statement '..UptoSaid' is the law's where the arguments, and the package variables that the reading takes, are together of bulk at most 1048576: NARROWER than '..Said'. Prove '..Said' where nothing that the law and all that it calls make is longer than what came in: it says more and counts as full. Else prove '..UptoSaid'. A law counts once. -/
mutual
def uptoBulk {H : Type} : DataW H → Nat
  | .lit (.string bytes) => bytes.length + 1
  | .lit _ => 1
  | .nil => 1
  | .ptr d => uptoBulk d + 1
  | .slice elems spare => uptoBulkAll elems + uptoBulkAll spare + 1
  | .agg parts => uptoBulkAll parts + 1
  | .iface _ d => uptoBulk d + 1
  | .map entries => uptoBulkEntries entries + 1
  | .held _ => 1
def uptoBulkAll {H : Type} : List (DataW H) → Nat
  | [] => 0
  | d :: r => uptoBulk d + uptoBulkAll r
def uptoBulkEntries {H : Type} : List (Lit × DataW H) → Nat
  | [] => 0
  | x :: r => uptoBulkEntry x + uptoBulkEntries r
def uptoBulkEntry {H : Type} : Lit × DataW H → Nat
  | (.string bytes, d) => bytes.length + uptoBulk d + 1
  | (_, d) => uptoBulk d + 1
 end
def uptoSmall : (H : Type) → List (DataW H) → Bool := fun _ ds => decide (uptoBulkAll ds ≤ 1048576)
def OpenSpec.upto (s : _root_.Go.ChangeSpec) : _root_.Go.OpenSpec := { _root_.Go.OpenSpec.ofChange s with cond := some uptoSmall }

/-- 'laws.FnExactOverlaps', WHERE WHAT IT READS IS OF BULK AT MOST 1048576: true; the input reads as it did. -/
def fnExactOverlapsUptoRow : OpenClaim := { program := "ytbnjncjplkbijaa", sum := "5a31faea234bfb105a51028b64ec8ef71b9f6fefa18ec0aff55f2f95f8c72fe1", func := "loop.example/g00965/laws.FnExactOverlaps", spec := "fnExactOverlaps", apart := false, narrowed := true }
def FnExactOverlapsUptoSaid : Prop := fnExactOverlapsUptoRow.holds Try.pinned (OpenSpec.upto fnExactOverlapsSpec)

/-- 'laws.FnExactSpanOk', WHERE WHAT IT READS IS OF BULK AT MOST 1048576: true; the input reads as it did. -/
def fnExactSpanOkUptoRow : OpenClaim := { program := "ytbnjncjplkbijaa", sum := "5a31faea234bfb105a51028b64ec8ef71b9f6fefa18ec0aff55f2f95f8c72fe1", func := "loop.example/g00965/laws.FnExactSpanOk", spec := "fnExactSpanOk", apart := false, narrowed := true }
def FnExactSpanOkUptoSaid : Prop := fnExactSpanOkUptoRow.holds Try.pinned (OpenSpec.upto fnExactSpanOkSpec)

/-- 'laws.FnExactAllOver', WHERE WHAT IT READS IS OF BULK AT MOST 1048576: true; the input reads as it did. -/
def fnExactAllOverUptoRow : OpenClaim := { program := "ytbnjncjplkbijaa", sum := "5a31faea234bfb105a51028b64ec8ef71b9f6fefa18ec0aff55f2f95f8c72fe1", func := "loop.example/g00965/laws.FnExactAllOver", spec := "fnExactAllOver", apart := false, narrowed := true }
def FnExactAllOverUptoSaid : Prop := fnExactAllOverUptoRow.holds Try.pinned (OpenSpec.upto fnExactAllOverSpec)

/-- 'laws.FnExactHandsOf', WHERE WHAT IT READS IS OF BULK AT MOST 1048576: true; the input reads as it did. -/
def fnExactHandsOfUptoRow : OpenClaim := { program := "ytbnjncjplkbijaa", sum := "5a31faea234bfb105a51028b64ec8ef71b9f6fefa18ec0aff55f2f95f8c72fe1", func := "loop.example/g00965/laws.FnExactHandsOf", spec := "fnExactHandsOf", apart := false, narrowed := true }
def FnExactHandsOfUptoSaid : Prop := fnExactHandsOfUptoRow.holds Try.pinned (OpenSpec.upto fnExactHandsOfSpec)

/-- 'laws.FnExactLeftIn', WHERE WHAT IT READS IS OF BULK AT MOST 1048576: true; the input reads as it did. -/
def fnExactLeftInUptoRow : OpenClaim := { program := "ytbnjncjplkbijaa", sum := "5a31faea234bfb105a51028b64ec8ef71b9f6fefa18ec0aff55f2f95f8c72fe1", func := "loop.example/g00965/laws.FnExactLeftIn", spec := "fnExactLeftIn", apart := false, narrowed := true }
def FnExactLeftInUptoSaid : Prop := fnExactLeftInUptoRow.holds Try.pinned (OpenSpec.upto fnExactLeftInSpec)

/-- 'laws.FnExactEnoughFor', WHERE WHAT IT READS IS OF BULK AT MOST 1048576: true; the input reads as it did. -/
def fnExactEnoughForUptoRow : OpenClaim := { program := "ytbnjncjplkbijaa", sum := "5a31faea234bfb105a51028b64ec8ef71b9f6fefa18ec0aff55f2f95f8c72fe1", func := "loop.example/g00965/laws.FnExactEnoughFor", spec := "fnExactEnoughFor", apart := false, narrowed := true }
def FnExactEnoughForUptoSaid : Prop := fnExactEnoughForUptoRow.holds Try.pinned (OpenSpec.upto fnExactEnoughForSpec)

/-- 'laws.FnExactCountsOf', WHERE WHAT IT READS IS OF BULK AT MOST 1048576: true; the input reads as it did. -/
def fnExactCountsOfUptoRow : OpenClaim := { program := "ytbnjncjplkbijaa", sum := "5a31faea234bfb105a51028b64ec8ef71b9f6fefa18ec0aff55f2f95f8c72fe1", func := "loop.example/g00965/laws.FnExactCountsOf", spec := "fnExactCountsOf", unfollowed := true, recurses := true, apart := false, narrowed := true }
def FnExactCountsOfUptoSaid : Prop := fnExactCountsOfUptoRow.holds Try.pinned (OpenSpec.upto fnExactCountsOfSpec)

/-- 'laws.FnExactOldestOf', WHERE WHAT IT READS IS OF BULK AT MOST 1048576: true; the input reads as it did. -/
def fnExactOldestOfUptoRow : OpenClaim := { program := "ytbnjncjplkbijaa", sum := "5a31faea234bfb105a51028b64ec8ef71b9f6fefa18ec0aff55f2f95f8c72fe1", func := "loop.example/g00965/laws.FnExactOldestOf", spec := "fnExactOldestOf", unfollowed := true, recurses := true, apart := false, narrowed := true }
def FnExactOldestOfUptoSaid : Prop := fnExactOldestOfUptoRow.holds Try.pinned (OpenSpec.upto fnExactOldestOfSpec)

/-- 'laws.FnExactViewOf', WHERE WHAT IT READS IS OF BULK AT MOST 1048576: true; the input reads as it did. -/
def fnExactViewOfUptoRow : OpenClaim := { program := "ytbnjncjplkbijaa", sum := "5a31faea234bfb105a51028b64ec8ef71b9f6fefa18ec0aff55f2f95f8c72fe1", func := "loop.example/g00965/laws.FnExactViewOf", spec := "fnExactViewOf", unfollowed := true, recurses := true, apart := false, narrowed := true }
def FnExactViewOfUptoSaid : Prop := fnExactViewOfUptoRow.holds Try.pinned (OpenSpec.upto fnExactViewOfSpec)

/-- 'laws.FnExactBusyOf', WHERE WHAT IT READS IS OF BULK AT MOST 1048576: true; the input reads as it did. -/
def fnExactBusyOfUptoRow : OpenClaim := { program := "ytbnjncjplkbijaa", sum := "5a31faea234bfb105a51028b64ec8ef71b9f6fefa18ec0aff55f2f95f8c72fe1", func := "loop.example/g00965/laws.FnExactBusyOf", spec := "fnExactBusyOf", apart := false, narrowed := true }
def FnExactBusyOfUptoSaid : Prop := fnExactBusyOfUptoRow.holds Try.pinned (OpenSpec.upto fnExactBusyOfSpec)

end Rows
end Go.Proofs.Ytbnjncjplkbijaa
