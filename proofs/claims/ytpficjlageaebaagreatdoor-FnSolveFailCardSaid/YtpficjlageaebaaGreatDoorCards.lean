/-
  DERIVED. GIVEN WITH THE SEED: THE CARDS: each row of YtpficjlageaebaaGreatDoorRows.lean that lists a variable, with what it lists TIED to the program's text (the seventh form; the later family's looks); each row that meets fmt, with fmt's text TOLD by the authors' own Lean function (tested against real Go, not proved from fmt's source: count such statements apart). THE CARD IS WHAT COUNTS. Prove the row's statement (the work); the ties are given (YtpficjlageaebaaGreatDoorTie.lean); close each card by the builder's one call (the guide's Derived/Test/ToyasCard.lean, 'card_holds'). Laid BY PROGRAM, IN A SANDBOX (cutbox-door.mjs). By AI agents, Wed Nov 11 2026. No macro, syntax, notation, axiom, sorry.
-/
import Derived.Test.YtpficjlageaebaaGreatDoorRows
import GoSem.ClaimSeven
namespace Go.Proofs.YtpficjlageaebaaGreatDoor
namespace Rows

/-- THE TIED CARD OF 'laws.FnExactSolveIndexed'. -/
def fnExactSolveIndexedCard : Claim7 := { stood := { row := fnExactSolveIndexedRow, standIns := [], harness := (true, "051c1bf98127da73e297ad1c5fa4eda58bb75418594256229fc5542e05003646"), looks := false }, kinds := [], alts := [], laidByText := true, laidKinds := [.data, .data, .data], laidTests := true, laidLooks := .later }
def FnExactSolveIndexedCardSaid : Prop := Claim7.holds Tryz.pinned (.plain (OpenSpec.ofChange fnExactSolveIndexedSpec)) fnExactSolveIndexedCard

/-- THE TIED CARD OF 'laws.FnExactSliceSession'. -/
def fnExactSliceSessionCard : Claim7 := { stood := { row := fnExactSliceSessionRow, standIns := [], harness := (true, "051c1bf98127da73e297ad1c5fa4eda58bb75418594256229fc5542e05003646"), looks := false }, kinds := [], alts := [], laidByText := true, laidKinds := [.data, .data, .data], laidTests := true, laidLooks := .later }
def FnExactSliceSessionCardSaid : Prop := Claim7.holds Tryz.pinned (.plain (OpenSpec.ofChange fnExactSliceSessionSpec)) fnExactSliceSessionCard

/-- THE TIED CARD OF 'laws.FnExactDrainSession'. -/
def fnExactDrainSessionCard : Claim7 := { stood := { row := fnExactDrainSessionRow, standIns := [], harness := (true, "051c1bf98127da73e297ad1c5fa4eda58bb75418594256229fc5542e05003646"), looks := false }, kinds := [], alts := [], laidByText := true, laidKinds := [.data, .data, .data], laidTests := true, laidLooks := .later }
def FnExactDrainSessionCardSaid : Prop := Claim7.holds Tryz.pinned (.plain (OpenSpec.ofChange fnExactDrainSessionSpec)) fnExactDrainSessionCard

/-- THE TIED CARD OF 'laws.FnSolvePrefix'. -/
def fnSolvePrefixCard : Claim7 := { stood := { row := fnSolvePrefixRow, standIns := [], harness := (true, "051c1bf98127da73e297ad1c5fa4eda58bb75418594256229fc5542e05003646"), looks := false }, kinds := [], alts := [], laidByText := true, laidKinds := [.data, .data, .data], laidTests := true, laidLooks := .later }
def FnSolvePrefixCardSaid : Prop := Claim7.holds Tryz.pinned (.plain (OpenSpec.ofChange fnSolvePrefixSpec)) fnSolvePrefixCard

/-- THE TIED CARD OF 'laws.FnSolveFuel'. -/
def fnSolveFuelCard : Claim7 := { stood := { row := fnSolveFuelRow, standIns := [], harness := (true, "051c1bf98127da73e297ad1c5fa4eda58bb75418594256229fc5542e05003646"), looks := false }, kinds := [], alts := [], laidByText := true, laidKinds := [.data, .data, .data], laidTests := true, laidLooks := .later }
def FnSolveFuelCardSaid : Prop := Claim7.holds Tryz.pinned (.plain (OpenSpec.ofChange fnSolveFuelSpec)) fnSolveFuelCard

/-- THE TIED CARD OF 'laws.FnSolveTrue'. -/
def fnSolveTrueCard : Claim7 := { stood := { row := fnSolveTrueRow, standIns := [], harness := (true, "051c1bf98127da73e297ad1c5fa4eda58bb75418594256229fc5542e05003646"), looks := false }, kinds := [], alts := [], laidByText := true, laidKinds := [.data, .data, .data], laidTests := true, laidLooks := .later }
def FnSolveTrueCardSaid : Prop := Claim7.holds Tryz.pinned (.plain (OpenSpec.ofChange fnSolveTrueSpec)) fnSolveTrueCard

/-- THE TIED CARD OF 'laws.FnSolveFail'. -/
def fnSolveFailCard : Claim7 := { stood := { row := fnSolveFailRow, standIns := [], harness := (true, "051c1bf98127da73e297ad1c5fa4eda58bb75418594256229fc5542e05003646"), looks := false }, kinds := [], alts := [], laidByText := true, laidKinds := [.data, .data, .data], laidTests := true, laidLooks := .later }
def FnSolveFailCardSaid : Prop := Claim7.holds Tryz.pinned (.plain (OpenSpec.ofChange fnSolveFailSpec)) fnSolveFailCard

/-- THE SECOND FORM's CARD OF 'laws.FnExactSolveIndexed'. -/
def fnExactSolveIndexedUptoCard : Claim7 := { stood := { row := fnExactSolveIndexedUptoRow, standIns := [], harness := (true, "051c1bf98127da73e297ad1c5fa4eda58bb75418594256229fc5542e05003646"), looks := false }, kinds := [], alts := [], laidByText := true, laidKinds := [.data, .data, .data], laidTests := true, laidLooks := .later }
def FnExactSolveIndexedUptoCardSaid : Prop := Claim7.holds Tryz.pinned (.plain (OpenSpec.upto fnExactSolveIndexedSpec)) fnExactSolveIndexedUptoCard

/-- THE SECOND FORM's CARD OF 'laws.FnExactSliceSession'. -/
def fnExactSliceSessionUptoCard : Claim7 := { stood := { row := fnExactSliceSessionUptoRow, standIns := [], harness := (true, "051c1bf98127da73e297ad1c5fa4eda58bb75418594256229fc5542e05003646"), looks := false }, kinds := [], alts := [], laidByText := true, laidKinds := [.data, .data, .data], laidTests := true, laidLooks := .later }
def FnExactSliceSessionUptoCardSaid : Prop := Claim7.holds Tryz.pinned (.plain (OpenSpec.upto fnExactSliceSessionSpec)) fnExactSliceSessionUptoCard

/-- THE SECOND FORM's CARD OF 'laws.FnExactDrainSession'. -/
def fnExactDrainSessionUptoCard : Claim7 := { stood := { row := fnExactDrainSessionUptoRow, standIns := [], harness := (true, "051c1bf98127da73e297ad1c5fa4eda58bb75418594256229fc5542e05003646"), looks := false }, kinds := [], alts := [], laidByText := true, laidKinds := [.data, .data, .data], laidTests := true, laidLooks := .later }
def FnExactDrainSessionUptoCardSaid : Prop := Claim7.holds Tryz.pinned (.plain (OpenSpec.upto fnExactDrainSessionSpec)) fnExactDrainSessionUptoCard

/-- THE SECOND FORM's CARD OF 'laws.FnSolvePrefix'. -/
def fnSolvePrefixUptoCard : Claim7 := { stood := { row := fnSolvePrefixUptoRow, standIns := [], harness := (true, "051c1bf98127da73e297ad1c5fa4eda58bb75418594256229fc5542e05003646"), looks := false }, kinds := [], alts := [], laidByText := true, laidKinds := [.data, .data, .data], laidTests := true, laidLooks := .later }
def FnSolvePrefixUptoCardSaid : Prop := Claim7.holds Tryz.pinned (.plain (OpenSpec.upto fnSolvePrefixSpec)) fnSolvePrefixUptoCard

/-- THE SECOND FORM's CARD OF 'laws.FnSolveFuel'. -/
def fnSolveFuelUptoCard : Claim7 := { stood := { row := fnSolveFuelUptoRow, standIns := [], harness := (true, "051c1bf98127da73e297ad1c5fa4eda58bb75418594256229fc5542e05003646"), looks := false }, kinds := [], alts := [], laidByText := true, laidKinds := [.data, .data, .data], laidTests := true, laidLooks := .later }
def FnSolveFuelUptoCardSaid : Prop := Claim7.holds Tryz.pinned (.plain (OpenSpec.upto fnSolveFuelSpec)) fnSolveFuelUptoCard

/-- THE SECOND FORM's CARD OF 'laws.FnSolveTrue'. -/
def fnSolveTrueUptoCard : Claim7 := { stood := { row := fnSolveTrueUptoRow, standIns := [], harness := (true, "051c1bf98127da73e297ad1c5fa4eda58bb75418594256229fc5542e05003646"), looks := false }, kinds := [], alts := [], laidByText := true, laidKinds := [.data, .data, .data], laidTests := true, laidLooks := .later }
def FnSolveTrueUptoCardSaid : Prop := Claim7.holds Tryz.pinned (.plain (OpenSpec.upto fnSolveTrueSpec)) fnSolveTrueUptoCard

/-- THE SECOND FORM's CARD OF 'laws.FnSolveFail'. -/
def fnSolveFailUptoCard : Claim7 := { stood := { row := fnSolveFailUptoRow, standIns := [], harness := (true, "051c1bf98127da73e297ad1c5fa4eda58bb75418594256229fc5542e05003646"), looks := false }, kinds := [], alts := [], laidByText := true, laidKinds := [.data, .data, .data], laidTests := true, laidLooks := .later }
def FnSolveFailUptoCardSaid : Prop := Claim7.holds Tryz.pinned (.plain (OpenSpec.upto fnSolveFailSpec)) fnSolveFailUptoCard
end Rows
end Go.Proofs.YtpficjlageaebaaGreatDoor
