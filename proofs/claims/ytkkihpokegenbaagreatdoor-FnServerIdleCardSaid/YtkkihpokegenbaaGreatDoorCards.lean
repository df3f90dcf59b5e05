/-
  DERIVED. GIVEN WITH THE SEED: THE CARDS: each row of YtkkihpokegenbaaGreatDoorRows.lean that lists a variable, with what it lists TIED to the program's text (the seventh form; the later family's looks); each row that meets fmt, with fmt's text TOLD by the authors' own Lean function (tested against real Go, not proved from fmt's source: count such statements apart). THE CARD IS WHAT COUNTS. Prove the row's statement (the work); the ties are given (YtkkihpokegenbaaGreatDoorTie.lean); close each card by the builder's one call (the guide's Derived/Test/ToyasCard.lean, 'card_holds'). Laid BY PROGRAM, IN A SANDBOX (cutbox-door.mjs). By AI agents, Wed Nov 11 2026. No macro, syntax, notation, axiom, sorry.
-/
import Derived.Test.YtkkihpokegenbaaGreatDoorRows
import GoSem.ClaimSeven
namespace Go.Proofs.YtkkihpokegenbaaGreatDoor
namespace Rows

/-- THE TIED CARD OF 'laws.FnServerIdle'. -/
def fnServerIdleCard : Claim7 := { stood := { row := fnServerIdleRow, standIns := [], harness := (true, "4ad571dafbe78088b2e532e3ee7d23d23306b8c0b38d0f8507fefad3b79c782c"), looks := true }, kinds := [], alts := [], laidByText := true, laidKinds := [.data, .data, .data, .data, .sentinel, .sentinel, .pinned], laidTests := true, laidLooks := .later }
def FnServerIdleCardSaid : Prop := Claim7.holds Tryz.pinned (.plain (OpenSpec.ofChange fnServerIdleSpec)) fnServerIdleCard

/-- THE TIED CARD OF 'laws.FnExactTurnServer'. -/
def fnExactTurnServerCard : Claim7 := { stood := { row := fnExactTurnServerRow, standIns := [], harness := (true, "4ad571dafbe78088b2e532e3ee7d23d23306b8c0b38d0f8507fefad3b79c782c"), looks := true }, kinds := [], alts := [], laidByText := true, laidKinds := [.data, .data, .data, .data, .sentinel, .sentinel, .pinned], laidTests := true, laidLooks := .later }
def FnExactTurnServerCardSaid : Prop := Claim7.holds Tryz.pinned (.plain (OpenSpec.ofChange fnExactTurnServerSpec)) fnExactTurnServerCard

/-- THE TIED CARD OF 'laws.FnExactRunServer'. -/
def fnExactRunServerCard : Claim7 := { stood := { row := fnExactRunServerRow, standIns := [], harness := (true, "4ad571dafbe78088b2e532e3ee7d23d23306b8c0b38d0f8507fefad3b79c782c"), looks := true }, kinds := [], alts := [], laidByText := true, laidKinds := [.data, .data, .data, .data, .sentinel, .sentinel, .pinned], laidTests := true, laidLooks := .later }
def FnExactRunServerCardSaid : Prop := Claim7.holds Tryz.pinned (.plain (OpenSpec.ofChange fnExactRunServerSpec)) fnExactRunServerCard

/-- THE TIED CARD OF 'laws.FnRunServer'. -/
def fnRunServerCard : Claim7 := { stood := { row := fnRunServerRow, standIns := [], harness := (true, "4ad571dafbe78088b2e532e3ee7d23d23306b8c0b38d0f8507fefad3b79c782c"), looks := true }, kinds := [], alts := [], laidByText := true, laidKinds := [.data, .data, .data, .data, .sentinel, .sentinel, .pinned], laidTests := true, laidLooks := .later }
def FnRunServerCardSaid : Prop := Claim7.holds Tryz.pinned (.plain (OpenSpec.ofChange fnRunServerSpec)) fnRunServerCard

/-- THE TIED CARD OF 'laws.FnExactExpectedFrames'. -/
def fnExactExpectedFramesCard : Claim7 := { stood := { row := fnExactExpectedFramesRow, standIns := [], harness := (true, "4ad571dafbe78088b2e532e3ee7d23d23306b8c0b38d0f8507fefad3b79c782c"), looks := true }, kinds := [], alts := [], laidByText := true, laidKinds := [.data, .data, .data, .data, .sentinel, .sentinel, .pinned], laidTests := true, laidLooks := .later }
def FnExactExpectedFramesCardSaid : Prop := Claim7.holds Tryz.pinned (.plain (OpenSpec.ofChange fnExactExpectedFramesSpec)) fnExactExpectedFramesCard

/-- THE SECOND FORM's CARD OF 'laws.FnServerIdle'. -/
def fnServerIdleUptoCard : Claim7 := { stood := { row := fnServerIdleUptoRow, standIns := [], harness := (true, "4ad571dafbe78088b2e532e3ee7d23d23306b8c0b38d0f8507fefad3b79c782c"), looks := true }, kinds := [], alts := [], laidByText := true, laidKinds := [.data, .data, .data, .data, .sentinel, .sentinel, .pinned], laidTests := true, laidLooks := .later }
def FnServerIdleUptoCardSaid : Prop := Claim7.holds Tryz.pinned (.plain (OpenSpec.upto fnServerIdleSpec)) fnServerIdleUptoCard

/-- THE SECOND FORM's CARD OF 'laws.FnExactTurnServer'. -/
def fnExactTurnServerUptoCard : Claim7 := { stood := { row := fnExactTurnServerUptoRow, standIns := [], harness := (true, "4ad571dafbe78088b2e532e3ee7d23d23306b8c0b38d0f8507fefad3b79c782c"), looks := true }, kinds := [], alts := [], laidByText := true, laidKinds := [.data, .data, .data, .data, .sentinel, .sentinel, .pinned], laidTests := true, laidLooks := .later }
def FnExactTurnServerUptoCardSaid : Prop := Claim7.holds Tryz.pinned (.plain (OpenSpec.upto fnExactTurnServerSpec)) fnExactTurnServerUptoCard

/-- THE SECOND FORM's CARD OF 'laws.FnExactRunServer'. -/
def fnExactRunServerUptoCard : Claim7 := { stood := { row := fnExactRunServerUptoRow, standIns := [], harness := (true, "4ad571dafbe78088b2e532e3ee7d23d23306b8c0b38d0f8507fefad3b79c782c"), looks := true }, kinds := [], alts := [], laidByText := true, laidKinds := [.data, .data, .data, .data, .sentinel, .sentinel, .pinned], laidTests := true, laidLooks := .later }
def FnExactRunServerUptoCardSaid : Prop := Claim7.holds Tryz.pinned (.plain (OpenSpec.upto fnExactRunServerSpec)) fnExactRunServerUptoCard

/-- THE SECOND FORM's CARD OF 'laws.FnRunServer'. -/
def fnRunServerUptoCard : Claim7 := { stood := { row := fnRunServerUptoRow, standIns := [], harness := (true, "4ad571dafbe78088b2e532e3ee7d23d23306b8c0b38d0f8507fefad3b79c782c"), looks := true }, kinds := [], alts := [], laidByText := true, laidKinds := [.data, .data, .data, .data, .sentinel, .sentinel, .pinned], laidTests := true, laidLooks := .later }
def FnRunServerUptoCardSaid : Prop := Claim7.holds Tryz.pinned (.plain (OpenSpec.upto fnRunServerSpec)) fnRunServerUptoCard

/-- THE SECOND FORM's CARD OF 'laws.FnExactExpectedFrames'. -/
def fnExactExpectedFramesUptoCard : Claim7 := { stood := { row := fnExactExpectedFramesUptoRow, standIns := [], harness := (true, "4ad571dafbe78088b2e532e3ee7d23d23306b8c0b38d0f8507fefad3b79c782c"), looks := true }, kinds := [], alts := [], laidByText := true, laidKinds := [.data, .data, .data, .data, .sentinel, .sentinel, .pinned], laidTests := true, laidLooks := .later }
def FnExactExpectedFramesUptoCardSaid : Prop := Claim7.holds Tryz.pinned (.plain (OpenSpec.upto fnExactExpectedFramesSpec)) fnExactExpectedFramesUptoCard
end Rows
end Go.Proofs.YtkkihpokegenbaaGreatDoor
