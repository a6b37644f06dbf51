/-
  DERIVED. GIVEN WITH THE SEED: THE CARDS: each row of YtchnllpegfbleaaDoorRows.lean that lists a variable, with what it lists TIED to the program's text (the seventh form; the later family's looks); each row that meets fmt, with fmt's text TOLD by the authors' own Lean function (tested against real Go, not proved from fmt's source: count such statements apart). THE CARD IS WHAT COUNTS. Prove the row's statement (the work); the ties are given (YtchnllpegfbleaaDoorTie.lean); close each card by the builder's one call (the guide's Derived/Test/ToyasCard.lean, 'card_holds'). Laid BY PROGRAM, IN A SANDBOX (cutbox-door.mjs). By AI agents, Wed Nov 11 2026. No macro, syntax, notation, axiom, sorry.
-/
import Derived.Test.YtchnllpegfbleaaDoorRows
import GoSem.ClaimSeven
namespace Go.Proofs.YtchnllpegfbleaaDoor
namespace Rows

/-- THE TIED CARD OF 'laws.FnExactReplyLine'. -/
def fnExactReplyLineCard : Claim7 := { stood := { row := fnExactReplyLineRow, standIns := [], harness := (true, "c09a420bd1a8572977c1fd6eb06bb90963c038862af3cf7857796dff5a273416"), looks := true }, kinds := [], alts := [], laidByText := true, laidKinds := [.data, .data, .data], laidTests := true, laidLooks := .later }
def FnExactReplyLineCardSaid : Prop := Claim7.holds Tryd.pinned (.plain (OpenSpec.ofChange fnExactReplyLineSpec)) fnExactReplyLineCard

/-- THE TIED CARD OF 'laws.FnExactRunLine'. -/
def fnExactRunLineCard : Claim7 := { stood := { row := fnExactRunLineRow, standIns := [], harness := (true, "c09a420bd1a8572977c1fd6eb06bb90963c038862af3cf7857796dff5a273416"), looks := true }, kinds := [], alts := [], laidByText := true, laidKinds := [.data, .data, .data], laidTests := true, laidLooks := .later }
def FnExactRunLineCardSaid : Prop := Claim7.holds Tryd.pinned (.plain (OpenSpec.ofChange fnExactRunLineSpec)) fnExactRunLineCard

/-- THE TIED CARD OF 'laws.FnExactDeedLine'. -/
def fnExactDeedLineCard : Claim7 := { stood := { row := fnExactDeedLineRow, standIns := [], harness := (true, "c09a420bd1a8572977c1fd6eb06bb90963c038862af3cf7857796dff5a273416"), looks := true }, kinds := [], alts := [], laidByText := true, laidKinds := [.data, .data, .data], laidTests := true, laidLooks := .later }
def FnExactDeedLineCardSaid : Prop := Claim7.holds Tryd.pinned (.plain (OpenSpec.ofChange fnExactDeedLineSpec)) fnExactDeedLineCard

/-- THE TIED CARD OF 'laws.FnExactReadDeed'. -/
def fnExactReadDeedCard : Claim7 := { stood := { row := fnExactReadDeedRow, standIns := [], harness := (true, "c09a420bd1a8572977c1fd6eb06bb90963c038862af3cf7857796dff5a273416"), looks := true }, kinds := [], alts := [], laidByText := true, laidKinds := [.data, .data, .data, .data, .sentinel, .sentinel, .pinned], laidTests := true, laidLooks := .later }
def FnExactReadDeedCardSaid : Prop := Claim7.holds Tryd.pinned (.plain (OpenSpec.ofChange fnExactReadDeedSpec)) fnExactReadDeedCard

/-- THE SECOND FORM's CARD OF 'laws.FnExactReplyLine'. -/
def fnExactReplyLineUptoCard : Claim7 := { stood := { row := fnExactReplyLineUptoRow, standIns := [], harness := (true, "c09a420bd1a8572977c1fd6eb06bb90963c038862af3cf7857796dff5a273416"), looks := true }, kinds := [], alts := [], laidByText := true, laidKinds := [.data, .data, .data], laidTests := true, laidLooks := .later }
def FnExactReplyLineUptoCardSaid : Prop := Claim7.holds Tryd.pinned (.plain (OpenSpec.upto fnExactReplyLineSpec)) fnExactReplyLineUptoCard

/-- THE SECOND FORM's CARD OF 'laws.FnExactRunLine'. -/
def fnExactRunLineUptoCard : Claim7 := { stood := { row := fnExactRunLineUptoRow, standIns := [], harness := (true, "c09a420bd1a8572977c1fd6eb06bb90963c038862af3cf7857796dff5a273416"), looks := true }, kinds := [], alts := [], laidByText := true, laidKinds := [.data, .data, .data], laidTests := true, laidLooks := .later }
def FnExactRunLineUptoCardSaid : Prop := Claim7.holds Tryd.pinned (.plain (OpenSpec.upto fnExactRunLineSpec)) fnExactRunLineUptoCard

/-- THE SECOND FORM's CARD OF 'laws.FnExactDeedLine'. -/
def fnExactDeedLineUptoCard : Claim7 := { stood := { row := fnExactDeedLineUptoRow, standIns := [], harness := (true, "c09a420bd1a8572977c1fd6eb06bb90963c038862af3cf7857796dff5a273416"), looks := true }, kinds := [], alts := [], laidByText := true, laidKinds := [.data, .data, .data], laidTests := true, laidLooks := .later }
def FnExactDeedLineUptoCardSaid : Prop := Claim7.holds Tryd.pinned (.plain (OpenSpec.upto fnExactDeedLineSpec)) fnExactDeedLineUptoCard

/-- THE SECOND FORM's CARD OF 'laws.FnExactReadDeed'. -/
def fnExactReadDeedUptoCard : Claim7 := { stood := { row := fnExactReadDeedUptoRow, standIns := [], harness := (true, "c09a420bd1a8572977c1fd6eb06bb90963c038862af3cf7857796dff5a273416"), looks := true }, kinds := [], alts := [], laidByText := true, laidKinds := [.data, .data, .data, .data, .sentinel, .sentinel, .pinned], laidTests := true, laidLooks := .later }
def FnExactReadDeedUptoCardSaid : Prop := Claim7.holds Tryd.pinned (.plain (OpenSpec.upto fnExactReadDeedSpec)) fnExactReadDeedUptoCard
end Rows
end Go.Proofs.YtchnllpegfbleaaDoor
