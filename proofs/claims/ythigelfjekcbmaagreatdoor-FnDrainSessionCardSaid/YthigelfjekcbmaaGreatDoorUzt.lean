import Derived.Test.YthigelfjekcbmaaGreatDoorRows
import Derived.Test.YthigelfjekcbmaaGreatDoorCards
import Derived.Test.YthigelfjekcbmaaGreatDoorTie
import Derived.Test.YthigelfjekcbmaaGreatDoorUzs
import Derived.LaidMore
import Derived.SevenTiedAt
set_option linter.unusedSimpArgs false
set_option linter.unusedVariables false
set_option maxRecDepth 100000

namespace Go.Proofs.YthigelfjekcbmaaGreatDoor
open Go.ChangeShapes Go.WideShapes Go.ChangeAt Go.RowKit Go.AW
theorem BL:ownKnob Tryz.prog.godebug=none:=by kernel_rfl
theorem BK:laidOutB Tryz.prog=true:=by kernel_rfl
theorem B6:Tryz.prog.stopsHeard=true:=by kernel_rfl
theorem B5:Tryz.prog.mayEnter=true:=by kernel_rfl
theorem B7:(Rows.fnExactSliceSessionRow.lifted == Tryz.prog.liftsFinal)=true:=by kernel_rfl
theorem CA:(Tryz.prog.make == some Rows.fnExactSliceSessionRow.make)=true:=by kernel_rfl
theorem B9:Tryz.prog.mainIs=some (true, "94032daa4ea14b1a96c79b4538a5bb7bdae72593153229f10066d087018480d7".toList):=by kernel_rfl
theorem B8:false=Tryz.prog.looks []:=by kernel_rfl
end Go.Proofs.YthigelfjekcbmaaGreatDoor

