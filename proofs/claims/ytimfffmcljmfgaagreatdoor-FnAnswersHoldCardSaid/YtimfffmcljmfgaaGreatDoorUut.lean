import Derived.Test.YtimfffmcljmfgaaGreatDoorRows
import Derived.Test.YtimfffmcljmfgaaGreatDoorCards
import Derived.Test.YtimfffmcljmfgaaGreatDoorTie
import Derived.Test.YtimfffmcljmfgaaGreatDoorUus
import Derived.LaidMore
import Derived.SevenTiedAt
set_option linter.unusedSimpArgs false
set_option linter.unusedVariables false
set_option maxRecDepth 100000

namespace Go.Proofs.YtimfffmcljmfgaaGreatDoor
open Go.ChangeShapes Go.WideShapes Go.ChangeAt Go.RowKit Go.AW
theorem aPD:ownKnob Tryz.prog.godebug=none:=by kernel_rfl
theorem aPC:laidOutB Tryz.prog=true:=by kernel_rfl
theorem aUO:Tryz.prog.stopsHeard=true:=by kernel_rfl
theorem aUN:Tryz.prog.mayEnter=true:=by kernel_rfl
theorem aUP:(Rows.fnExactSolveIndexedRow.lifted == Tryz.prog.liftsFinal)=true:=by kernel_rfl
theorem aUS:(Tryz.prog.make == some Rows.fnExactSolveIndexedRow.make)=true:=by kernel_rfl
theorem aUR:Tryz.prog.mainIs=some (true, "35a9d5ba51d683bf6a5ce4e922c04c75025bcab1a1de1b217ce7602da35b80a8".toList):=by kernel_rfl
theorem aUQ:false=Tryz.prog.looks []:=by kernel_rfl
end Go.Proofs.YtimfffmcljmfgaaGreatDoor

