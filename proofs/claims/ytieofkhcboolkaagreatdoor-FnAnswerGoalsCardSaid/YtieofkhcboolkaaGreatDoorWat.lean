import Derived.Test.YtieofkhcboolkaaGreatDoorRows
import Derived.Test.YtieofkhcboolkaaGreatDoorCards
import Derived.Test.YtieofkhcboolkaaGreatDoorTie
import Derived.Test.YtieofkhcboolkaaGreatDoorWas
import Derived.LaidMore
import Derived.SevenTiedAt
set_option linter.unusedSimpArgs false
set_option linter.unusedVariables false
set_option maxRecDepth 100000

namespace Go.Proofs.YtieofkhcboolkaaGreatDoor
open Go.ChangeShapes Go.WideShapes Go.ChangeAt Go.RowKit Go.AW
theorem VF:ownKnob Tryz.prog.godebug=none:=by kernel_rfl
theorem VD:laidOutB Tryz.prog=true:=by kernel_rfl
theorem Y0:Tryz.prog.stopsHeard=true:=by kernel_rfl
theorem YZ:Tryz.prog.mayEnter=true:=by kernel_rfl
theorem Y1:(Rows.fnTurnOrderRow.lifted == Tryz.prog.liftsFinal)=true:=by kernel_rfl
theorem Y4:(Tryz.prog.make == some Rows.fnTurnOrderRow.make)=true:=by kernel_rfl
theorem Y3:Tryz.prog.mainIs=some (true, "5ac40d088460fd31efcb4e8be2bfc96a53873949d201157e5bb18c952d020935".toList):=by kernel_rfl
theorem Y2:false=Tryz.prog.looks []:=by kernel_rfl
end Go.Proofs.YtieofkhcboolkaaGreatDoor

