/-
  DERIVED. GIVEN WITH THE SEED: THE CARDS: each row of YthigelfjekcbmaaGreatDoorRows.lean that lists a variable, with what it lists TIED to the program's text (the seventh form; the later family's looks); each row that meets fmt, with fmt's text TOLD by the authors' own Lean function (tested against real Go, not proved from fmt's source: count such statements apart). THE CARD IS WHAT COUNTS. Prove the row's statement (the work); the ties are given (YthigelfjekcbmaaGreatDoorTie.lean); close each card by the builder's one call (the guide's Derived/Test/ToyasCard.lean, 'card_holds'). Laid BY PROGRAM, IN A SANDBOX (cutbox-door.mjs). By AI agents, Wed Nov 11 2026. No macro, syntax, notation, axiom, sorry.
-/
import Derived.Test.YthigelfjekcbmaaGreatDoorRows
import GoSem.ClaimSeven
namespace Go.Proofs.YthigelfjekcbmaaGreatDoor
namespace Rows

/-- THE TIED CARD OF 'laws.FnExactSliceSession'. -/
def fnExactSliceSessionCard : Claim7 := { stood := { row := fnExactSliceSessionRow, standIns := [], harness := (true, "94032daa4ea14b1a96c79b4538a5bb7bdae72593153229f10066d087018480d7"), looks := false }, kinds := [], alts := [], laidByText := true, laidKinds := [.data, .data, .data], laidTests := true, laidLooks := .later }
def FnExactSliceSessionCardSaid : Prop := Claim7.holds Tryz.pinned (.plain (OpenSpec.ofChange fnExactSliceSessionSpec)) fnExactSliceSessionCard

/-- THE TIED CARD OF 'laws.FnExactDrainSession'. -/
def fnExactDrainSessionCard : Claim7 := { stood := { row := fnExactDrainSessionRow, standIns := [], harness := (true, "94032daa4ea14b1a96c79b4538a5bb7bdae72593153229f10066d087018480d7"), looks := false }, kinds := [], alts := [], laidByText := true, laidKinds := [.data, .data, .data], laidTests := true, laidLooks := .later }
def FnExactDrainSessionCardSaid : Prop := Claim7.holds Tryz.pinned (.plain (OpenSpec.ofChange fnExactDrainSessionSpec)) fnExactDrainSessionCard

/-- THE TIED CARD OF 'laws.FnSolveCut'. -/
def fnSolveCutCard : Claim7 := { stood := { row := fnSolveCutRow, standIns := [], harness := (true, "94032daa4ea14b1a96c79b4538a5bb7bdae72593153229f10066d087018480d7"), looks := false }, kinds := [], alts := [], laidByText := true, laidKinds := [.data, .data, .data], laidTests := true, laidLooks := .later }
def FnSolveCutCardSaid : Prop := Claim7.holds Tryz.pinned (.plain (OpenSpec.ofChange fnSolveCutSpec)) fnSolveCutCard

/-- THE TIED CARD OF 'laws.FnSessionValid'. -/
def fnSessionValidCard : Claim7 := { stood := { row := fnSessionValidRow, standIns := [], harness := (true, "94032daa4ea14b1a96c79b4538a5bb7bdae72593153229f10066d087018480d7"), looks := false }, kinds := [], alts := [], laidByText := true, laidKinds := [.data, .data, .data], laidTests := true, laidLooks := .later }
def FnSessionValidCardSaid : Prop := Claim7.holds Tryz.pinned (.plain (OpenSpec.ofChange fnSessionValidSpec)) fnSessionValidCard

/-- THE TIED CARD OF 'laws.FnSessionIdle'. -/
def fnSessionIdleCard : Claim7 := { stood := { row := fnSessionIdleRow, standIns := [], harness := (true, "94032daa4ea14b1a96c79b4538a5bb7bdae72593153229f10066d087018480d7"), looks := false }, kinds := [], alts := [], laidByText := true, laidKinds := [.data, .data, .data], laidTests := true, laidLooks := .later }
def FnSessionIdleCardSaid : Prop := Claim7.holds Tryz.pinned (.plain (OpenSpec.ofChange fnSessionIdleSpec)) fnSessionIdleCard

/-- THE TIED CARD OF 'laws.FnSliceSession'. -/
def fnSliceSessionCard : Claim7 := { stood := { row := fnSliceSessionRow, standIns := [], harness := (true, "94032daa4ea14b1a96c79b4538a5bb7bdae72593153229f10066d087018480d7"), looks := false }, kinds := [], alts := [], laidByText := true, laidKinds := [.data, .data, .data], laidTests := true, laidLooks := .later }
def FnSliceSessionCardSaid : Prop := Claim7.holds Tryz.pinned (.plain (OpenSpec.ofChange fnSliceSessionSpec)) fnSliceSessionCard

/-- THE TIED CARD OF 'laws.FnSliceTwice'. -/
def fnSliceTwiceCard : Claim7 := { stood := { row := fnSliceTwiceRow, standIns := [], harness := (true, "94032daa4ea14b1a96c79b4538a5bb7bdae72593153229f10066d087018480d7"), looks := false }, kinds := [], alts := [], laidByText := true, laidKinds := [.data, .data, .data], laidTests := true, laidLooks := .later }
def FnSliceTwiceCardSaid : Prop := Claim7.holds Tryz.pinned (.plain (OpenSpec.ofChange fnSliceTwiceSpec)) fnSliceTwiceCard

/-- THE TIED CARD OF 'laws.FnSessionSame'. -/
def fnSessionSameCard : Claim7 := { stood := { row := fnSessionSameRow, standIns := [], harness := (true, "94032daa4ea14b1a96c79b4538a5bb7bdae72593153229f10066d087018480d7"), looks := false }, kinds := [], alts := [], laidByText := true, laidKinds := [.data, .data, .data], laidTests := true, laidLooks := .later }
def FnSessionSameCardSaid : Prop := Claim7.holds Tryz.pinned (.plain (OpenSpec.ofChange fnSessionSameSpec)) fnSessionSameCard

/-- THE TIED CARD OF 'laws.FnDrainSession'. -/
def fnDrainSessionCard : Claim7 := { stood := { row := fnDrainSessionRow, standIns := [], harness := (true, "94032daa4ea14b1a96c79b4538a5bb7bdae72593153229f10066d087018480d7"), looks := false }, kinds := [], alts := [], laidByText := true, laidKinds := [.data, .data, .data], laidTests := true, laidLooks := .later }
def FnDrainSessionCardSaid : Prop := Claim7.holds Tryz.pinned (.plain (OpenSpec.ofChange fnDrainSessionSpec)) fnDrainSessionCard

/-- THE TIED CARD OF 'laws.FnExactSolveIndexed'. -/
def fnExactSolveIndexedCard : Claim7 := { stood := { row := fnExactSolveIndexedRow, standIns := [], harness := (true, "94032daa4ea14b1a96c79b4538a5bb7bdae72593153229f10066d087018480d7"), looks := false }, kinds := [], alts := [], laidByText := true, laidKinds := [.data, .data, .data], laidTests := true, laidLooks := .later }
def FnExactSolveIndexedCardSaid : Prop := Claim7.holds Tryz.pinned (.plain (OpenSpec.ofChange fnExactSolveIndexedSpec)) fnExactSolveIndexedCard

/-- THE TIED CARD OF 'laws.FnSolveIndexed'. -/
def fnSolveIndexedCard : Claim7 := { stood := { row := fnSolveIndexedRow, standIns := [], harness := (true, "94032daa4ea14b1a96c79b4538a5bb7bdae72593153229f10066d087018480d7"), looks := false }, kinds := [], alts := [], laidByText := true, laidKinds := [.data, .data, .data], laidTests := true, laidLooks := .later }
def FnSolveIndexedCardSaid : Prop := Claim7.holds Tryz.pinned (.plain (OpenSpec.ofChange fnSolveIndexedSpec)) fnSolveIndexedCard

/-- THE TIED CARD OF 'laws.FnExactRoundRobin'. -/
def fnExactRoundRobinCard : Claim7 := { stood := { row := fnExactRoundRobinRow, standIns := [], harness := (true, "94032daa4ea14b1a96c79b4538a5bb7bdae72593153229f10066d087018480d7"), looks := false }, kinds := [], alts := [], laidByText := true, laidKinds := [.data, .data, .data], laidTests := true, laidLooks := .later }
def FnExactRoundRobinCardSaid : Prop := Claim7.holds Tryz.pinned (.plain (OpenSpec.ofChange fnExactRoundRobinSpec)) fnExactRoundRobinCard

/-- THE SECOND FORM's CARD OF 'laws.FnExactSliceSession'. -/
def fnExactSliceSessionUptoCard : Claim7 := { stood := { row := fnExactSliceSessionUptoRow, standIns := [], harness := (true, "94032daa4ea14b1a96c79b4538a5bb7bdae72593153229f10066d087018480d7"), looks := false }, kinds := [], alts := [], laidByText := true, laidKinds := [.data, .data, .data], laidTests := true, laidLooks := .later }
def FnExactSliceSessionUptoCardSaid : Prop := Claim7.holds Tryz.pinned (.plain (OpenSpec.upto fnExactSliceSessionSpec)) fnExactSliceSessionUptoCard

/-- THE SECOND FORM's CARD OF 'laws.FnExactDrainSession'. -/
def fnExactDrainSessionUptoCard : Claim7 := { stood := { row := fnExactDrainSessionUptoRow, standIns := [], harness := (true, "94032daa4ea14b1a96c79b4538a5bb7bdae72593153229f10066d087018480d7"), looks := false }, kinds := [], alts := [], laidByText := true, laidKinds := [.data, .data, .data], laidTests := true, laidLooks := .later }
def FnExactDrainSessionUptoCardSaid : Prop := Claim7.holds Tryz.pinned (.plain (OpenSpec.upto fnExactDrainSessionSpec)) fnExactDrainSessionUptoCard

/-- THE SECOND FORM's CARD OF 'laws.FnSolveCut'. -/
def fnSolveCutUptoCard : Claim7 := { stood := { row := fnSolveCutUptoRow, standIns := [], harness := (true, "94032daa4ea14b1a96c79b4538a5bb7bdae72593153229f10066d087018480d7"), looks := false }, kinds := [], alts := [], laidByText := true, laidKinds := [.data, .data, .data], laidTests := true, laidLooks := .later }
def FnSolveCutUptoCardSaid : Prop := Claim7.holds Tryz.pinned (.plain (OpenSpec.upto fnSolveCutSpec)) fnSolveCutUptoCard

/-- THE SECOND FORM's CARD OF 'laws.FnSessionValid'. -/
def fnSessionValidUptoCard : Claim7 := { stood := { row := fnSessionValidUptoRow, standIns := [], harness := (true, "94032daa4ea14b1a96c79b4538a5bb7bdae72593153229f10066d087018480d7"), looks := false }, kinds := [], alts := [], laidByText := true, laidKinds := [.data, .data, .data], laidTests := true, laidLooks := .later }
def FnSessionValidUptoCardSaid : Prop := Claim7.holds Tryz.pinned (.plain (OpenSpec.upto fnSessionValidSpec)) fnSessionValidUptoCard

/-- THE SECOND FORM's CARD OF 'laws.FnSessionIdle'. -/
def fnSessionIdleUptoCard : Claim7 := { stood := { row := fnSessionIdleUptoRow, standIns := [], harness := (true, "94032daa4ea14b1a96c79b4538a5bb7bdae72593153229f10066d087018480d7"), looks := false }, kinds := [], alts := [], laidByText := true, laidKinds := [.data, .data, .data], laidTests := true, laidLooks := .later }
def FnSessionIdleUptoCardSaid : Prop := Claim7.holds Tryz.pinned (.plain (OpenSpec.upto fnSessionIdleSpec)) fnSessionIdleUptoCard

/-- THE SECOND FORM's CARD OF 'laws.FnSliceSession'. -/
def fnSliceSessionUptoCard : Claim7 := { stood := { row := fnSliceSessionUptoRow, standIns := [], harness := (true, "94032daa4ea14b1a96c79b4538a5bb7bdae72593153229f10066d087018480d7"), looks := false }, kinds := [], alts := [], laidByText := true, laidKinds := [.data, .data, .data], laidTests := true, laidLooks := .later }
def FnSliceSessionUptoCardSaid : Prop := Claim7.holds Tryz.pinned (.plain (OpenSpec.upto fnSliceSessionSpec)) fnSliceSessionUptoCard

/-- THE SECOND FORM's CARD OF 'laws.FnSliceTwice'. -/
def fnSliceTwiceUptoCard : Claim7 := { stood := { row := fnSliceTwiceUptoRow, standIns := [], harness := (true, "94032daa4ea14b1a96c79b4538a5bb7bdae72593153229f10066d087018480d7"), looks := false }, kinds := [], alts := [], laidByText := true, laidKinds := [.data, .data, .data], laidTests := true, laidLooks := .later }
def FnSliceTwiceUptoCardSaid : Prop := Claim7.holds Tryz.pinned (.plain (OpenSpec.upto fnSliceTwiceSpec)) fnSliceTwiceUptoCard

/-- THE SECOND FORM's CARD OF 'laws.FnSessionSame'. -/
def fnSessionSameUptoCard : Claim7 := { stood := { row := fnSessionSameUptoRow, standIns := [], harness := (true, "94032daa4ea14b1a96c79b4538a5bb7bdae72593153229f10066d087018480d7"), looks := false }, kinds := [], alts := [], laidByText := true, laidKinds := [.data, .data, .data], laidTests := true, laidLooks := .later }
def FnSessionSameUptoCardSaid : Prop := Claim7.holds Tryz.pinned (.plain (OpenSpec.upto fnSessionSameSpec)) fnSessionSameUptoCard

/-- THE SECOND FORM's CARD OF 'laws.FnDrainSession'. -/
def fnDrainSessionUptoCard : Claim7 := { stood := { row := fnDrainSessionUptoRow, standIns := [], harness := (true, "94032daa4ea14b1a96c79b4538a5bb7bdae72593153229f10066d087018480d7"), looks := false }, kinds := [], alts := [], laidByText := true, laidKinds := [.data, .data, .data], laidTests := true, laidLooks := .later }
def FnDrainSessionUptoCardSaid : Prop := Claim7.holds Tryz.pinned (.plain (OpenSpec.upto fnDrainSessionSpec)) fnDrainSessionUptoCard

/-- THE SECOND FORM's CARD OF 'laws.FnExactSolveIndexed'. -/
def fnExactSolveIndexedUptoCard : Claim7 := { stood := { row := fnExactSolveIndexedUptoRow, standIns := [], harness := (true, "94032daa4ea14b1a96c79b4538a5bb7bdae72593153229f10066d087018480d7"), looks := false }, kinds := [], alts := [], laidByText := true, laidKinds := [.data, .data, .data], laidTests := true, laidLooks := .later }
def FnExactSolveIndexedUptoCardSaid : Prop := Claim7.holds Tryz.pinned (.plain (OpenSpec.upto fnExactSolveIndexedSpec)) fnExactSolveIndexedUptoCard

/-- THE SECOND FORM's CARD OF 'laws.FnSolveIndexed'. -/
def fnSolveIndexedUptoCard : Claim7 := { stood := { row := fnSolveIndexedUptoRow, standIns := [], harness := (true, "94032daa4ea14b1a96c79b4538a5bb7bdae72593153229f10066d087018480d7"), looks := false }, kinds := [], alts := [], laidByText := true, laidKinds := [.data, .data, .data], laidTests := true, laidLooks := .later }
def FnSolveIndexedUptoCardSaid : Prop := Claim7.holds Tryz.pinned (.plain (OpenSpec.upto fnSolveIndexedSpec)) fnSolveIndexedUptoCard

/-- THE SECOND FORM's CARD OF 'laws.FnExactRoundRobin'. -/
def fnExactRoundRobinUptoCard : Claim7 := { stood := { row := fnExactRoundRobinUptoRow, standIns := [], harness := (true, "94032daa4ea14b1a96c79b4538a5bb7bdae72593153229f10066d087018480d7"), looks := false }, kinds := [], alts := [], laidByText := true, laidKinds := [.data, .data, .data], laidTests := true, laidLooks := .later }
def FnExactRoundRobinUptoCardSaid : Prop := Claim7.holds Tryz.pinned (.plain (OpenSpec.upto fnExactRoundRobinSpec)) fnExactRoundRobinUptoCard
end Rows
end Go.Proofs.YthigelfjekcbmaaGreatDoor
