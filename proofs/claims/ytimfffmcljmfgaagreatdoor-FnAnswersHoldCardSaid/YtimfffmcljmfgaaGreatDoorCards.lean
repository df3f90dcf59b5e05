/-
  DERIVED. GIVEN WITH THE SEED: THE CARDS: each row of YtimfffmcljmfgaaGreatDoorRows.lean that lists a variable, with what it lists TIED to the program's text (the seventh form; the later family's looks); each row that meets fmt, with fmt's text TOLD by the authors' own Lean function (tested against real Go, not proved from fmt's source: count such statements apart). THE CARD IS WHAT COUNTS. Prove the row's statement (the work); the ties are given (YtimfffmcljmfgaaGreatDoorTie.lean); close each card by the builder's one call (the guide's Derived/Test/ToyasCard.lean, 'card_holds'). Laid BY PROGRAM, IN A SANDBOX (cutbox-door.mjs). By AI agents, Wed Nov 11 2026. No macro, syntax, notation, axiom, sorry.
-/
import Derived.Test.YtimfffmcljmfgaaGreatDoorRows
import GoSem.ClaimSeven
namespace Go.Proofs.YtimfffmcljmfgaaGreatDoor
namespace Rows

/-- THE TIED CARD OF 'laws.FnExactSolveIndexed'. -/
def fnExactSolveIndexedCard : Claim7 := { stood := { row := fnExactSolveIndexedRow, standIns := [], harness := (true, "35a9d5ba51d683bf6a5ce4e922c04c75025bcab1a1de1b217ce7602da35b80a8"), looks := false }, kinds := [], alts := [], laidByText := true, laidKinds := [.data, .data, .data], laidTests := true, laidLooks := .later }
def FnExactSolveIndexedCardSaid : Prop := Claim7.holds Tryz.pinned (.plain (OpenSpec.ofChange fnExactSolveIndexedSpec)) fnExactSolveIndexedCard

/-- THE TIED CARD OF 'laws.FnSolveIndexed'. -/
def fnSolveIndexedCard : Claim7 := { stood := { row := fnSolveIndexedRow, standIns := [], harness := (true, "35a9d5ba51d683bf6a5ce4e922c04c75025bcab1a1de1b217ce7602da35b80a8"), looks := false }, kinds := [], alts := [], laidByText := true, laidKinds := [.data, .data, .data], laidTests := true, laidLooks := .later }
def FnSolveIndexedCardSaid : Prop := Claim7.holds Tryz.pinned (.plain (OpenSpec.ofChange fnSolveIndexedSpec)) fnSolveIndexedCard

/-- THE TIED CARD OF 'laws.FnExactRoundRobin'. -/
def fnExactRoundRobinCard : Claim7 := { stood := { row := fnExactRoundRobinRow, standIns := [], harness := (true, "35a9d5ba51d683bf6a5ce4e922c04c75025bcab1a1de1b217ce7602da35b80a8"), looks := false }, kinds := [], alts := [], laidByText := true, laidKinds := [.data, .data, .data], laidTests := true, laidLooks := .later }
def FnExactRoundRobinCardSaid : Prop := Claim7.holds Tryz.pinned (.plain (OpenSpec.ofChange fnExactRoundRobinSpec)) fnExactRoundRobinCard

/-- THE TIED CARD OF 'laws.FnRoundRobin'. -/
def fnRoundRobinCard : Claim7 := { stood := { row := fnRoundRobinRow, standIns := [], harness := (true, "35a9d5ba51d683bf6a5ce4e922c04c75025bcab1a1de1b217ce7602da35b80a8"), looks := false }, kinds := [], alts := [], laidByText := true, laidKinds := [.data, .data, .data], laidTests := true, laidLooks := .later }
def FnRoundRobinCardSaid : Prop := Claim7.holds Tryz.pinned (.plain (OpenSpec.ofChange fnRoundRobinSpec)) fnRoundRobinCard

/-- THE TIED CARD OF 'laws.FnTurnSize'. -/
def fnTurnSizeCard : Claim7 := { stood := { row := fnTurnSizeRow, standIns := [], harness := (true, "35a9d5ba51d683bf6a5ce4e922c04c75025bcab1a1de1b217ce7602da35b80a8"), looks := false }, kinds := [], alts := [], laidByText := true, laidKinds := [.data, .data, .data], laidTests := true, laidLooks := .later }
def FnTurnSizeCardSaid : Prop := Claim7.holds Tryz.pinned (.plain (OpenSpec.ofChange fnTurnSizeSpec)) fnTurnSizeCard

/-- THE TIED CARD OF 'laws.FnTurnOrder'. -/
def fnTurnOrderCard : Claim7 := { stood := { row := fnTurnOrderRow, standIns := [], harness := (true, "35a9d5ba51d683bf6a5ce4e922c04c75025bcab1a1de1b217ce7602da35b80a8"), looks := false }, kinds := [], alts := [], laidByText := true, laidKinds := [.data, .data, .data], laidTests := true, laidLooks := .later }
def FnTurnOrderCardSaid : Prop := Claim7.holds Tryz.pinned (.plain (OpenSpec.ofChange fnTurnOrderSpec)) fnTurnOrderCard

/-- THE TIED CARD OF 'laws.FnKeyInstance'. -/
def fnKeyInstanceCard : Claim7 := { stood := { row := fnKeyInstanceRow, standIns := [], harness := (true, "35a9d5ba51d683bf6a5ce4e922c04c75025bcab1a1de1b217ce7602da35b80a8"), looks := false }, kinds := [], alts := [], laidByText := true, laidKinds := [.data, .data, .data], laidTests := true, laidLooks := .later }
def FnKeyInstanceCardSaid : Prop := Claim7.holds Tryz.pinned (.plain (OpenSpec.ofChange fnKeyInstanceSpec)) fnKeyInstanceCard

/-- THE TIED CARD OF 'laws.FnAnswerGoals'. -/
def fnAnswerGoalsCard : Claim7 := { stood := { row := fnAnswerGoalsRow, standIns := [], harness := (true, "35a9d5ba51d683bf6a5ce4e922c04c75025bcab1a1de1b217ce7602da35b80a8"), looks := false }, kinds := [], alts := [], laidByText := true, laidKinds := [.data, .data, .data], laidTests := true, laidLooks := .later }
def FnAnswerGoalsCardSaid : Prop := Claim7.holds Tryz.pinned (.plain (OpenSpec.ofChange fnAnswerGoalsSpec)) fnAnswerGoalsCard

/-- THE TIED CARD OF 'laws.FnSolveFacts'. -/
def fnSolveFactsCard : Claim7 := { stood := { row := fnSolveFactsRow, standIns := [], harness := (true, "35a9d5ba51d683bf6a5ce4e922c04c75025bcab1a1de1b217ce7602da35b80a8"), looks := false }, kinds := [], alts := [], laidByText := true, laidKinds := [.data, .data, .data], laidTests := true, laidLooks := .later }
def FnSolveFactsCardSaid : Prop := Claim7.holds Tryz.pinned (.plain (OpenSpec.ofChange fnSolveFactsSpec)) fnSolveFactsCard

/-- THE TIED CARD OF 'laws.FnAnswersHold'. -/
def fnAnswersHoldCard : Claim7 := { stood := { row := fnAnswersHoldRow, standIns := [], harness := (true, "35a9d5ba51d683bf6a5ce4e922c04c75025bcab1a1de1b217ce7602da35b80a8"), looks := false }, kinds := [], alts := [], laidByText := true, laidKinds := [.data, .data, .data], laidTests := true, laidLooks := .later }
def FnAnswersHoldCardSaid : Prop := Claim7.holds Tryz.pinned (.plain (OpenSpec.ofChange fnAnswersHoldSpec)) fnAnswersHoldCard

/-- THE TIED CARD OF 'laws.FnAnswerValid'. -/
def fnAnswerValidCard : Claim7 := { stood := { row := fnAnswerValidRow, standIns := [], harness := (true, "35a9d5ba51d683bf6a5ce4e922c04c75025bcab1a1de1b217ce7602da35b80a8"), looks := false }, kinds := [], alts := [], laidByText := true, laidKinds := [.data, .data, .data], laidTests := true, laidLooks := .later }
def FnAnswerValidCardSaid : Prop := Claim7.holds Tryz.pinned (.plain (OpenSpec.ofChange fnAnswerValidSpec)) fnAnswerValidCard

/-- THE TIED CARD OF 'laws.FnExactRunCode'. -/
def fnExactRunCodeCard : Claim7 := { stood := { row := fnExactRunCodeRow, standIns := [], harness := (true, "35a9d5ba51d683bf6a5ce4e922c04c75025bcab1a1de1b217ce7602da35b80a8"), looks := false }, kinds := [], alts := [], laidByText := true, laidKinds := [.data, .data, .data], laidTests := true, laidLooks := .later }
def FnExactRunCodeCardSaid : Prop := Claim7.holds Tryz.pinned (.plain (OpenSpec.ofChange fnExactRunCodeSpec)) fnExactRunCodeCard

/-- THE SECOND FORM's CARD OF 'laws.FnExactSolveIndexed'. -/
def fnExactSolveIndexedUptoCard : Claim7 := { stood := { row := fnExactSolveIndexedUptoRow, standIns := [], harness := (true, "35a9d5ba51d683bf6a5ce4e922c04c75025bcab1a1de1b217ce7602da35b80a8"), looks := false }, kinds := [], alts := [], laidByText := true, laidKinds := [.data, .data, .data], laidTests := true, laidLooks := .later }
def FnExactSolveIndexedUptoCardSaid : Prop := Claim7.holds Tryz.pinned (.plain (OpenSpec.upto fnExactSolveIndexedSpec)) fnExactSolveIndexedUptoCard

/-- THE SECOND FORM's CARD OF 'laws.FnSolveIndexed'. -/
def fnSolveIndexedUptoCard : Claim7 := { stood := { row := fnSolveIndexedUptoRow, standIns := [], harness := (true, "35a9d5ba51d683bf6a5ce4e922c04c75025bcab1a1de1b217ce7602da35b80a8"), looks := false }, kinds := [], alts := [], laidByText := true, laidKinds := [.data, .data, .data], laidTests := true, laidLooks := .later }
def FnSolveIndexedUptoCardSaid : Prop := Claim7.holds Tryz.pinned (.plain (OpenSpec.upto fnSolveIndexedSpec)) fnSolveIndexedUptoCard

/-- THE SECOND FORM's CARD OF 'laws.FnExactRoundRobin'. -/
def fnExactRoundRobinUptoCard : Claim7 := { stood := { row := fnExactRoundRobinUptoRow, standIns := [], harness := (true, "35a9d5ba51d683bf6a5ce4e922c04c75025bcab1a1de1b217ce7602da35b80a8"), looks := false }, kinds := [], alts := [], laidByText := true, laidKinds := [.data, .data, .data], laidTests := true, laidLooks := .later }
def FnExactRoundRobinUptoCardSaid : Prop := Claim7.holds Tryz.pinned (.plain (OpenSpec.upto fnExactRoundRobinSpec)) fnExactRoundRobinUptoCard

/-- THE SECOND FORM's CARD OF 'laws.FnRoundRobin'. -/
def fnRoundRobinUptoCard : Claim7 := { stood := { row := fnRoundRobinUptoRow, standIns := [], harness := (true, "35a9d5ba51d683bf6a5ce4e922c04c75025bcab1a1de1b217ce7602da35b80a8"), looks := false }, kinds := [], alts := [], laidByText := true, laidKinds := [.data, .data, .data], laidTests := true, laidLooks := .later }
def FnRoundRobinUptoCardSaid : Prop := Claim7.holds Tryz.pinned (.plain (OpenSpec.upto fnRoundRobinSpec)) fnRoundRobinUptoCard

/-- THE SECOND FORM's CARD OF 'laws.FnTurnSize'. -/
def fnTurnSizeUptoCard : Claim7 := { stood := { row := fnTurnSizeUptoRow, standIns := [], harness := (true, "35a9d5ba51d683bf6a5ce4e922c04c75025bcab1a1de1b217ce7602da35b80a8"), looks := false }, kinds := [], alts := [], laidByText := true, laidKinds := [.data, .data, .data], laidTests := true, laidLooks := .later }
def FnTurnSizeUptoCardSaid : Prop := Claim7.holds Tryz.pinned (.plain (OpenSpec.upto fnTurnSizeSpec)) fnTurnSizeUptoCard

/-- THE SECOND FORM's CARD OF 'laws.FnTurnOrder'. -/
def fnTurnOrderUptoCard : Claim7 := { stood := { row := fnTurnOrderUptoRow, standIns := [], harness := (true, "35a9d5ba51d683bf6a5ce4e922c04c75025bcab1a1de1b217ce7602da35b80a8"), looks := false }, kinds := [], alts := [], laidByText := true, laidKinds := [.data, .data, .data], laidTests := true, laidLooks := .later }
def FnTurnOrderUptoCardSaid : Prop := Claim7.holds Tryz.pinned (.plain (OpenSpec.upto fnTurnOrderSpec)) fnTurnOrderUptoCard

/-- THE SECOND FORM's CARD OF 'laws.FnKeyInstance'. -/
def fnKeyInstanceUptoCard : Claim7 := { stood := { row := fnKeyInstanceUptoRow, standIns := [], harness := (true, "35a9d5ba51d683bf6a5ce4e922c04c75025bcab1a1de1b217ce7602da35b80a8"), looks := false }, kinds := [], alts := [], laidByText := true, laidKinds := [.data, .data, .data], laidTests := true, laidLooks := .later }
def FnKeyInstanceUptoCardSaid : Prop := Claim7.holds Tryz.pinned (.plain (OpenSpec.upto fnKeyInstanceSpec)) fnKeyInstanceUptoCard

/-- THE SECOND FORM's CARD OF 'laws.FnAnswerGoals'. -/
def fnAnswerGoalsUptoCard : Claim7 := { stood := { row := fnAnswerGoalsUptoRow, standIns := [], harness := (true, "35a9d5ba51d683bf6a5ce4e922c04c75025bcab1a1de1b217ce7602da35b80a8"), looks := false }, kinds := [], alts := [], laidByText := true, laidKinds := [.data, .data, .data], laidTests := true, laidLooks := .later }
def FnAnswerGoalsUptoCardSaid : Prop := Claim7.holds Tryz.pinned (.plain (OpenSpec.upto fnAnswerGoalsSpec)) fnAnswerGoalsUptoCard

/-- THE SECOND FORM's CARD OF 'laws.FnSolveFacts'. -/
def fnSolveFactsUptoCard : Claim7 := { stood := { row := fnSolveFactsUptoRow, standIns := [], harness := (true, "35a9d5ba51d683bf6a5ce4e922c04c75025bcab1a1de1b217ce7602da35b80a8"), looks := false }, kinds := [], alts := [], laidByText := true, laidKinds := [.data, .data, .data], laidTests := true, laidLooks := .later }
def FnSolveFactsUptoCardSaid : Prop := Claim7.holds Tryz.pinned (.plain (OpenSpec.upto fnSolveFactsSpec)) fnSolveFactsUptoCard

/-- THE SECOND FORM's CARD OF 'laws.FnAnswersHold'. -/
def fnAnswersHoldUptoCard : Claim7 := { stood := { row := fnAnswersHoldUptoRow, standIns := [], harness := (true, "35a9d5ba51d683bf6a5ce4e922c04c75025bcab1a1de1b217ce7602da35b80a8"), looks := false }, kinds := [], alts := [], laidByText := true, laidKinds := [.data, .data, .data], laidTests := true, laidLooks := .later }
def FnAnswersHoldUptoCardSaid : Prop := Claim7.holds Tryz.pinned (.plain (OpenSpec.upto fnAnswersHoldSpec)) fnAnswersHoldUptoCard

/-- THE SECOND FORM's CARD OF 'laws.FnAnswerValid'. -/
def fnAnswerValidUptoCard : Claim7 := { stood := { row := fnAnswerValidUptoRow, standIns := [], harness := (true, "35a9d5ba51d683bf6a5ce4e922c04c75025bcab1a1de1b217ce7602da35b80a8"), looks := false }, kinds := [], alts := [], laidByText := true, laidKinds := [.data, .data, .data], laidTests := true, laidLooks := .later }
def FnAnswerValidUptoCardSaid : Prop := Claim7.holds Tryz.pinned (.plain (OpenSpec.upto fnAnswerValidSpec)) fnAnswerValidUptoCard

/-- THE SECOND FORM's CARD OF 'laws.FnExactRunCode'. -/
def fnExactRunCodeUptoCard : Claim7 := { stood := { row := fnExactRunCodeUptoRow, standIns := [], harness := (true, "35a9d5ba51d683bf6a5ce4e922c04c75025bcab1a1de1b217ce7602da35b80a8"), looks := false }, kinds := [], alts := [], laidByText := true, laidKinds := [.data, .data, .data], laidTests := true, laidLooks := .later }
def FnExactRunCodeUptoCardSaid : Prop := Claim7.holds Tryz.pinned (.plain (OpenSpec.upto fnExactRunCodeSpec)) fnExactRunCodeUptoCard
end Rows
end Go.Proofs.YtimfffmcljmfgaaGreatDoor
