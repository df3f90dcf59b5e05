/-
  DERIVED. GIVEN WITH THE SEED: THE CARDS: each row of YtlepdbmhjkmelaaGreatDoorRows.lean that lists a variable, with what it lists TIED to the program's text (the seventh form; the later family's looks); each row that meets fmt, with fmt's text TOLD by the authors' own Lean function (tested against real Go, not proved from fmt's source: count such statements apart). THE CARD IS WHAT COUNTS. Prove the row's statement (the work); the ties are given (YtlepdbmhjkmelaaGreatDoorTie.lean); close each card by the builder's one call (the guide's Derived/Test/ToyasCard.lean, 'card_holds'). Laid BY PROGRAM, IN A SANDBOX (cutbox-door.mjs). By AI agents, Wed Nov 11 2026. No macro, syntax, notation, axiom, sorry.
-/
import Derived.Test.YtlepdbmhjkmelaaGreatDoorRows
import GoSem.ClaimSeven
namespace Go.Proofs.YtlepdbmhjkmelaaGreatDoor
namespace Rows

/-- THE TIED CARD OF 'laws.FnExactFeedServer'. -/
def fnExactFeedServerCard : Claim7 := { stood := { row := fnExactFeedServerRow, standIns := [], harness := (true, "448abcfe084a66b735c0e5d78961acf9ce42c70b80a6690f7dc58893ff70e9b8"), looks := false }, kinds := [], alts := [], laidByText := true, laidKinds := [.data, .data, .data], laidTests := true, laidLooks := .later }
def FnExactFeedServerCardSaid : Prop := Claim7.holds Tryz.pinned (.plain (OpenSpec.ofChange fnExactFeedServerSpec)) fnExactFeedServerCard

/-- THE SECOND FORM's CARD OF 'laws.FnExactFeedServer'. -/
def fnExactFeedServerUptoCard : Claim7 := { stood := { row := fnExactFeedServerUptoRow, standIns := [], harness := (true, "448abcfe084a66b735c0e5d78961acf9ce42c70b80a6690f7dc58893ff70e9b8"), looks := false }, kinds := [], alts := [], laidByText := true, laidKinds := [.data, .data, .data], laidTests := true, laidLooks := .later }
def FnExactFeedServerUptoCardSaid : Prop := Claim7.holds Tryz.pinned (.plain (OpenSpec.upto fnExactFeedServerSpec)) fnExactFeedServerUptoCard
end Rows
end Go.Proofs.YtlepdbmhjkmelaaGreatDoor
