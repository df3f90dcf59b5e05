/-
  DERIVED. GIVEN WITH THE SEED: THE CARDS: each row of YtieofkhcboolkaaGreatDoorRows.lean that lists a variable, with what it lists TIED to the program's text (the seventh form; the later family's looks); each row that meets fmt, with fmt's text TOLD by the authors' own Lean function (tested against real Go, not proved from fmt's source: count such statements apart). THE CARD IS WHAT COUNTS. Prove the row's statement (the work); the ties are given (YtieofkhcboolkaaGreatDoorTie.lean); close each card by the builder's one call (the guide's Derived/Test/ToyasCard.lean, 'card_holds'). Laid BY PROGRAM, IN A SANDBOX (cutbox-door.mjs). By AI agents, Wed Nov 11 2026. No macro, syntax, notation, axiom, sorry.
-/
import Derived.Test.YtieofkhcboolkaaGreatDoorRows
import GoSem.ClaimSeven
namespace Go.Proofs.YtieofkhcboolkaaGreatDoor
namespace Rows

/-- THE TIED CARD OF 'laws.FnTurnOrder'. -/
def fnTurnOrderCard : Claim7 := { stood := { row := fnTurnOrderRow, standIns := [], harness := (true, "5ac40d088460fd31efcb4e8be2bfc96a53873949d201157e5bb18c952d020935"), looks := false }, kinds := [], alts := [], laidByText := true, laidKinds := [.data, .data, .data], laidTests := true, laidLooks := .later }
def FnTurnOrderCardSaid : Prop := Claim7.holds Tryz.pinned (.plain (OpenSpec.ofChange fnTurnOrderSpec)) fnTurnOrderCard

/-- THE TIED CARD OF 'laws.FnAnswerGoals'. -/
def fnAnswerGoalsCard : Claim7 := { stood := { row := fnAnswerGoalsRow, standIns := [], harness := (true, "5ac40d088460fd31efcb4e8be2bfc96a53873949d201157e5bb18c952d020935"), looks := false }, kinds := [], alts := [], laidByText := true, laidKinds := [.data, .data, .data], laidTests := true, laidLooks := .later }
def FnAnswerGoalsCardSaid : Prop := Claim7.holds Tryz.pinned (.plain (OpenSpec.ofChange fnAnswerGoalsSpec)) fnAnswerGoalsCard

/-- THE TIED CARD OF 'laws.FnAnswerValid'. -/
def fnAnswerValidCard : Claim7 := { stood := { row := fnAnswerValidRow, standIns := [], harness := (true, "5ac40d088460fd31efcb4e8be2bfc96a53873949d201157e5bb18c952d020935"), looks := false }, kinds := [], alts := [], laidByText := true, laidKinds := [.data, .data, .data], laidTests := true, laidLooks := .later }
def FnAnswerValidCardSaid : Prop := Claim7.holds Tryz.pinned (.plain (OpenSpec.ofChange fnAnswerValidSpec)) fnAnswerValidCard

/-- THE TIED CARD OF 'laws.FnKeyInstance'. -/
def fnKeyInstanceCard : Claim7 := { stood := { row := fnKeyInstanceRow, standIns := [], harness := (true, "5ac40d088460fd31efcb4e8be2bfc96a53873949d201157e5bb18c952d020935"), looks := false }, kinds := [], alts := [], laidByText := true, laidKinds := [.data, .data, .data], laidTests := true, laidLooks := .later }
def FnKeyInstanceCardSaid : Prop := Claim7.holds Tryz.pinned (.plain (OpenSpec.ofChange fnKeyInstanceSpec)) fnKeyInstanceCard

/-- THE TIED CARD OF 'laws.FnExactFeedServer'. -/
def fnExactFeedServerCard : Claim7 := { stood := { row := fnExactFeedServerRow, standIns := [], harness := (true, "5ac40d088460fd31efcb4e8be2bfc96a53873949d201157e5bb18c952d020935"), looks := false }, kinds := [], alts := [], laidByText := true, laidKinds := [.data, .data, .data], laidTests := true, laidLooks := .later }
def FnExactFeedServerCardSaid : Prop := Claim7.holds Tryz.pinned (.plain (OpenSpec.ofChange fnExactFeedServerSpec)) fnExactFeedServerCard

/-- THE SECOND FORM's CARD OF 'laws.FnTurnOrder'. -/
def fnTurnOrderUptoCard : Claim7 := { stood := { row := fnTurnOrderUptoRow, standIns := [], harness := (true, "5ac40d088460fd31efcb4e8be2bfc96a53873949d201157e5bb18c952d020935"), looks := false }, kinds := [], alts := [], laidByText := true, laidKinds := [.data, .data, .data], laidTests := true, laidLooks := .later }
def FnTurnOrderUptoCardSaid : Prop := Claim7.holds Tryz.pinned (.plain (OpenSpec.upto fnTurnOrderSpec)) fnTurnOrderUptoCard

/-- THE SECOND FORM's CARD OF 'laws.FnAnswerGoals'. -/
def fnAnswerGoalsUptoCard : Claim7 := { stood := { row := fnAnswerGoalsUptoRow, standIns := [], harness := (true, "5ac40d088460fd31efcb4e8be2bfc96a53873949d201157e5bb18c952d020935"), looks := false }, kinds := [], alts := [], laidByText := true, laidKinds := [.data, .data, .data], laidTests := true, laidLooks := .later }
def FnAnswerGoalsUptoCardSaid : Prop := Claim7.holds Tryz.pinned (.plain (OpenSpec.upto fnAnswerGoalsSpec)) fnAnswerGoalsUptoCard

/-- THE SECOND FORM's CARD OF 'laws.FnAnswerValid'. -/
def fnAnswerValidUptoCard : Claim7 := { stood := { row := fnAnswerValidUptoRow, standIns := [], harness := (true, "5ac40d088460fd31efcb4e8be2bfc96a53873949d201157e5bb18c952d020935"), looks := false }, kinds := [], alts := [], laidByText := true, laidKinds := [.data, .data, .data], laidTests := true, laidLooks := .later }
def FnAnswerValidUptoCardSaid : Prop := Claim7.holds Tryz.pinned (.plain (OpenSpec.upto fnAnswerValidSpec)) fnAnswerValidUptoCard

/-- THE SECOND FORM's CARD OF 'laws.FnKeyInstance'. -/
def fnKeyInstanceUptoCard : Claim7 := { stood := { row := fnKeyInstanceUptoRow, standIns := [], harness := (true, "5ac40d088460fd31efcb4e8be2bfc96a53873949d201157e5bb18c952d020935"), looks := false }, kinds := [], alts := [], laidByText := true, laidKinds := [.data, .data, .data], laidTests := true, laidLooks := .later }
def FnKeyInstanceUptoCardSaid : Prop := Claim7.holds Tryz.pinned (.plain (OpenSpec.upto fnKeyInstanceSpec)) fnKeyInstanceUptoCard

/-- THE SECOND FORM's CARD OF 'laws.FnExactFeedServer'. -/
def fnExactFeedServerUptoCard : Claim7 := { stood := { row := fnExactFeedServerUptoRow, standIns := [], harness := (true, "5ac40d088460fd31efcb4e8be2bfc96a53873949d201157e5bb18c952d020935"), looks := false }, kinds := [], alts := [], laidByText := true, laidKinds := [.data, .data, .data], laidTests := true, laidLooks := .later }
def FnExactFeedServerUptoCardSaid : Prop := Claim7.holds Tryz.pinned (.plain (OpenSpec.upto fnExactFeedServerSpec)) fnExactFeedServerUptoCard
end Rows
end Go.Proofs.YtieofkhcboolkaaGreatDoor
