import Derived.Test.YtimfffmcljmfgaaGreatDoorRows
import Derived.Test.YtimfffmcljmfgaaGreatDoorCards
import Derived.Test.YtimfffmcljmfgaaGreatDoorTie
import Derived.Test.YtimfffmcljmfgaaGreatDoorUxy
import Derived.LaidMore
import Derived.SevenTiedAt
set_option linter.unusedSimpArgs false
set_option linter.unusedVariables false
set_option maxRecDepth 100000

namespace Go.Proofs.YtimfffmcljmfgaaGreatDoor
open Go.ChangeShapes Go.WideShapes Go.ChangeAt Go.RowKit Go.AW
theorem ZB:ownKnob Tryz.prog.godebug=none:=by kernel_rfl
theorem ZA:laidOutB Tryz.prog=true:=by kernel_rfl
theorem aCT:Tryz.prog.stopsHeard=true:=by kernel_rfl
theorem aCS:Tryz.prog.mayEnter=true:=by kernel_rfl
theorem aCU:(Rows.fnExactSolveIndexedRow.lifted == Tryz.prog.liftsFinal)=true:=by kernel_rfl
theorem aCX:(Tryz.prog.make == some Rows.fnExactSolveIndexedRow.make)=true:=by kernel_rfl
theorem aCW:Tryz.prog.mainIs=some (true, "35a9d5ba51d683bf6a5ce4e922c04c75025bcab1a1de1b217ce7602da35b80a8".toList):=by kernel_rfl
theorem aCV:false=Tryz.prog.looks []:=by kernel_rfl
end Go.Proofs.YtimfffmcljmfgaaGreatDoor

