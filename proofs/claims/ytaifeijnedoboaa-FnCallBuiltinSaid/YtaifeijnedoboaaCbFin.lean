
/- 'FnCallBuiltin': goals hold with their bindings; no conditions. -/
import Derived.Test.YtaifeijnedoboaaRows
import Derived.Test.YtaifeijnedoboaaCbFinh
import Derived.Test.YtaifeijnedoboaaCbFini
namespace Go.Proofs.Ytaifeijnedoboaa
open Go.ChangeShapes Go.WideShapes Go.ChangeAt Go.RowKit Go.AW

theorem Tryown : ownKnob Try.prog.godebug = none := by kernel_rfl
theorem Trylaid : laidOutB Try.prog = true := by kernel_rfl

end Go.Proofs.Ytaifeijnedoboaa
