import Derived.Test.YtieofkhcboolkaaGreatDoorRows
import Derived.Test.YtieofkhcboolkaaGreatDoorCards
import Derived.Test.YtieofkhcboolkaaGreatDoorTie
import Derived.Test.YtieofkhcboolkaaGreatDoorKqm
import Derived.LaidMore
import Derived.SevenTiedAt
set_option linter.unusedSimpArgs false
set_option linter.unusedVariables false
set_option maxRecDepth 100000

namespace Go.Proofs.YtieofkhcboolkaaGreatDoor
open Go.ChangeShapes Go.WideShapes Go.ChangeAt Go.RowKit Go.AW
theorem UX:ownKnob Tryz.prog.godebug=none:=by kernel_rfl
theorem UW:laidOutB Tryz.prog=true:=by kernel_rfl
theorem Y8:Tryz.prog.stopsHeard=true:=by kernel_rfl
theorem Y7:Tryz.prog.mayEnter=true:=by kernel_rfl
theorem Y9:(Rows.fnTurnOrderRow.lifted == Tryz.prog.liftsFinal)=true:=by kernel_rfl
theorem ZC:(Tryz.prog.make == some Rows.fnTurnOrderRow.make)=true:=by kernel_rfl
theorem ZB:Tryz.prog.mainIs=some (true, "5ac40d088460fd31efcb4e8be2bfc96a53873949d201157e5bb18c952d020935".toList):=by kernel_rfl
theorem ZA:false=Tryz.prog.looks []:=by kernel_rfl
end Go.Proofs.YtieofkhcboolkaaGreatDoor

