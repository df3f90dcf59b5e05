/-
  DERIVED. GIVEN WITH THE SEED: THE CARDS: each row of YtepkgoabhlnkbaaGreatDoorRows.lean that lists a variable, with what it lists TIED to the program's text (the seventh form; the later family's looks); each row that meets fmt, with fmt's text TOLD by the authors' own Lean function (tested against real Go, not proved from fmt's source: count such statements apart). THE CARD IS WHAT COUNTS. Prove the row's statement (the work); the ties are given (YtepkgoabhlnkbaaGreatDoorTie.lean); close each card by the builder's one call (the guide's Derived/Test/ToyasCard.lean, 'card_holds'). Laid BY PROGRAM, IN A SANDBOX (cutbox-door.mjs). By AI agents, Wed Nov 11 2026. No macro, syntax, notation, axiom, sorry.
-/
import Derived.Test.YtepkgoabhlnkbaaGreatDoorRows
import GoSem.ClaimSeven
namespace Go.Proofs.YtepkgoabhlnkbaaGreatDoor
namespace Rows

/-- THE TIED CARD OF 'laws.FnExactSessionValid'. -/
def fnExactSessionValidCard : Claim7 := { stood := { row := fnExactSessionValidRow, standIns := [], harness := (true, "fe8935a49063eda5230aefd5be4410b4cb52ee253a2781a863450db38f880bc3"), looks := false }, kinds := [], alts := [], laidByText := true, laidKinds := [.data, .data, .data], laidTests := true, laidLooks := .later }
def FnExactSessionValidCardSaid : Prop := Claim7.holds Tryz.pinned (.plain (OpenSpec.ofChange fnExactSessionValidSpec)) fnExactSessionValidCard

/-- THE SECOND FORM's CARD OF 'laws.FnExactSessionValid'. -/
def fnExactSessionValidUptoCard : Claim7 := { stood := { row := fnExactSessionValidUptoRow, standIns := [], harness := (true, "fe8935a49063eda5230aefd5be4410b4cb52ee253a2781a863450db38f880bc3"), looks := false }, kinds := [], alts := [], laidByText := true, laidKinds := [.data, .data, .data], laidTests := true, laidLooks := .later }
def FnExactSessionValidUptoCardSaid : Prop := Claim7.holds Tryz.pinned (.plain (OpenSpec.upto fnExactSessionValidSpec)) fnExactSessionValidUptoCard
end Rows
end Go.Proofs.YtepkgoabhlnkbaaGreatDoor
