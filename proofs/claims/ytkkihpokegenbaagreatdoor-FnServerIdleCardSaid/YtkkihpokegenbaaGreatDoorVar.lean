import Derived.Test.YtkkihpokegenbaaGreatDoorRows
import Derived.Test.YtkkihpokegenbaaGreatDoorCards
import Derived.Test.YtkkihpokegenbaaGreatDoorTie
import Derived.Test.YtkkihpokegenbaaGreatDoorVaq
import Derived.LaidMore
import Derived.SevenTiedAt
set_option linter.unusedSimpArgs false
set_option linter.unusedVariables false
set_option maxRecDepth 100000

namespace Go.Proofs.YtkkihpokegenbaaGreatDoor
open Go.ChangeShapes Go.WideShapes Go.ChangeAt Go.RowKit Go.AW
theorem aL6:ownKnob Tryz.prog.godebug=none:=by kernel_rfl
theorem aL5:laidOutB Tryz.prog=true:=by kernel_rfl
theorem aSF:Tryz.prog.stopsHeard=true:=by kernel_rfl
theorem aSE:Tryz.prog.mayEnter=true:=by kernel_rfl
theorem aSG:(Rows.fnServerIdleRow.lifted == Tryz.prog.liftsFinal)=true:=by kernel_rfl
theorem aSJ:(Tryz.prog.make == some Rows.fnServerIdleRow.make)=true:=by kernel_rfl
theorem aSI:Tryz.prog.mainIs=some (true, "4ad571dafbe78088b2e532e3ee7d23d23306b8c0b38d0f8507fefad3b79c782c".toList):=by kernel_rfl
theorem aSH:true=Tryz.prog.looks []:=by kernel_rfl
end Go.Proofs.YtkkihpokegenbaaGreatDoor

