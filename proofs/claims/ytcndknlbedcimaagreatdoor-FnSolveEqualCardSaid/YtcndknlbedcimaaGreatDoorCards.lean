/-
  DERIVED. GIVEN WITH THE SEED: THE CARDS: each row of YtcndknlbedcimaaGreatDoorRows.lean that lists a variable, with what it lists TIED to the program's text (the seventh form; the later family's looks); each row that meets fmt, with fmt's text TOLD by the authors' own Lean function (tested against real Go, not proved from fmt's source: count such statements apart). THE CARD IS WHAT COUNTS. Prove the row's statement (the work); the ties are given (YtcndknlbedcimaaGreatDoorTie.lean); close each card by the builder's one call (the guide's Derived/Test/ToyasCard.lean, 'card_holds'). Laid BY PROGRAM, IN A SANDBOX (cutbox-door.mjs). By AI agents, Wed Nov 11 2026. No macro, syntax, notation, axiom, sorry.
-/
import Derived.Test.YtcndknlbedcimaaGreatDoorRows
import GoSem.ClaimSeven
namespace Go.Proofs.YtcndknlbedcimaaGreatDoor
namespace Rows

/-- THE TIED CARD OF 'laws.FnExactSolve'. -/
def fnExactSolveCard : Claim7 := { stood := { row := fnExactSolveRow, standIns := [], harness := (true, "85d6079aa7e1929119bb64a026b38742f8a7569ec9eceaa1cb430e94ebb04aed"), looks := false }, kinds := [], alts := [], laidByText := true, laidKinds := [.data, .data, .data], laidTests := true, laidLooks := .later }
def FnExactSolveCardSaid : Prop := Claim7.holds Tryz.pinned (.plain (OpenSpec.ofChange fnExactSolveSpec)) fnExactSolveCard

/-- THE TIED CARD OF 'laws.FnExactSolveIndexed'. -/
def fnExactSolveIndexedCard : Claim7 := { stood := { row := fnExactSolveIndexedRow, standIns := [], harness := (true, "85d6079aa7e1929119bb64a026b38742f8a7569ec9eceaa1cb430e94ebb04aed"), looks := false }, kinds := [], alts := [], laidByText := true, laidKinds := [.data, .data, .data], laidTests := true, laidLooks := .later }
def FnExactSolveIndexedCardSaid : Prop := Claim7.holds Tryz.pinned (.plain (OpenSpec.ofChange fnExactSolveIndexedSpec)) fnExactSolveIndexedCard

/-- THE TIED CARD OF 'laws.FnSolveEqual'. -/
def fnSolveEqualCard : Claim7 := { stood := { row := fnSolveEqualRow, standIns := [], harness := (true, "85d6079aa7e1929119bb64a026b38742f8a7569ec9eceaa1cb430e94ebb04aed"), looks := false }, kinds := [], alts := [], laidByText := true, laidKinds := [.data, .data, .data], laidTests := true, laidLooks := .later }
def FnSolveEqualCardSaid : Prop := Claim7.holds Tryz.pinned (.plain (OpenSpec.ofChange fnSolveEqualSpec)) fnSolveEqualCard

/-- THE TIED CARD OF 'laws.FnKeyInstance'. -/
def fnKeyInstanceCard : Claim7 := { stood := { row := fnKeyInstanceRow, standIns := [], harness := (true, "85d6079aa7e1929119bb64a026b38742f8a7569ec9eceaa1cb430e94ebb04aed"), looks := false }, kinds := [], alts := [], laidByText := true, laidKinds := [.data, .data, .data], laidTests := true, laidLooks := .later }
def FnKeyInstanceCardSaid : Prop := Claim7.holds Tryz.pinned (.plain (OpenSpec.ofChange fnKeyInstanceSpec)) fnKeyInstanceCard

/-- THE SECOND FORM's CARD OF 'laws.FnExactSolve'. -/
def fnExactSolveUptoCard : Claim7 := { stood := { row := fnExactSolveUptoRow, standIns := [], harness := (true, "85d6079aa7e1929119bb64a026b38742f8a7569ec9eceaa1cb430e94ebb04aed"), looks := false }, kinds := [], alts := [], laidByText := true, laidKinds := [.data, .data, .data], laidTests := true, laidLooks := .later }
def FnExactSolveUptoCardSaid : Prop := Claim7.holds Tryz.pinned (.plain (OpenSpec.upto fnExactSolveSpec)) fnExactSolveUptoCard

/-- THE SECOND FORM's CARD OF 'laws.FnExactSolveIndexed'. -/
def fnExactSolveIndexedUptoCard : Claim7 := { stood := { row := fnExactSolveIndexedUptoRow, standIns := [], harness := (true, "85d6079aa7e1929119bb64a026b38742f8a7569ec9eceaa1cb430e94ebb04aed"), looks := false }, kinds := [], alts := [], laidByText := true, laidKinds := [.data, .data, .data], laidTests := true, laidLooks := .later }
def FnExactSolveIndexedUptoCardSaid : Prop := Claim7.holds Tryz.pinned (.plain (OpenSpec.upto fnExactSolveIndexedSpec)) fnExactSolveIndexedUptoCard

/-- THE SECOND FORM's CARD OF 'laws.FnSolveEqual'. -/
def fnSolveEqualUptoCard : Claim7 := { stood := { row := fnSolveEqualUptoRow, standIns := [], harness := (true, "85d6079aa7e1929119bb64a026b38742f8a7569ec9eceaa1cb430e94ebb04aed"), looks := false }, kinds := [], alts := [], laidByText := true, laidKinds := [.data, .data, .data], laidTests := true, laidLooks := .later }
def FnSolveEqualUptoCardSaid : Prop := Claim7.holds Tryz.pinned (.plain (OpenSpec.upto fnSolveEqualSpec)) fnSolveEqualUptoCard

/-- THE SECOND FORM's CARD OF 'laws.FnKeyInstance'. -/
def fnKeyInstanceUptoCard : Claim7 := { stood := { row := fnKeyInstanceUptoRow, standIns := [], harness := (true, "85d6079aa7e1929119bb64a026b38742f8a7569ec9eceaa1cb430e94ebb04aed"), looks := false }, kinds := [], alts := [], laidByText := true, laidKinds := [.data, .data, .data], laidTests := true, laidLooks := .later }
def FnKeyInstanceUptoCardSaid : Prop := Claim7.holds Tryz.pinned (.plain (OpenSpec.upto fnKeyInstanceSpec)) fnKeyInstanceUptoCard
end Rows
end Go.Proofs.YtcndknlbedcimaaGreatDoor
