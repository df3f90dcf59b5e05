import Derived.Test.YtieofkhcboolkaaGreatDoorRows
import Derived.Test.YtieofkhcboolkaaGreatDoorCards
import Derived.Test.YtieofkhcboolkaaGreatDoorTie
import Derived.Test.YtieofkhcboolkaaGreatDoorVas
import Derived.LaidMore
import Derived.SevenTiedAt
set_option linter.unusedSimpArgs false
set_option linter.unusedVariables false
set_option maxRecDepth 100000

namespace Go.Proofs.YtieofkhcboolkaaGreatDoor
open Go.ChangeShapes Go.WideShapes Go.ChangeAt Go.RowKit Go.AW
theorem aSW:ownKnob Tryz.prog.godebug=none:=by kernel_rfl
theorem aSV:laidOutB Tryz.prog=true:=by kernel_rfl
theorem aZC:Tryz.prog.stopsHeard=true:=by kernel_rfl
theorem aZB:Tryz.prog.mayEnter=true:=by kernel_rfl
theorem aZD:(Rows.fnTurnOrderRow.lifted == Tryz.prog.liftsFinal)=true:=by kernel_rfl
theorem aZG:(Tryz.prog.make == some Rows.fnTurnOrderRow.make)=true:=by kernel_rfl
theorem aZF:Tryz.prog.mainIs=some (true, "5ac40d088460fd31efcb4e8be2bfc96a53873949d201157e5bb18c952d020935".toList):=by kernel_rfl
theorem aZE:false=Tryz.prog.looks []:=by kernel_rfl
end Go.Proofs.YtieofkhcboolkaaGreatDoor

