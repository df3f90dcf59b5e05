/- What a law is handed, read as data; the law's row from a contract. -/
import Derived.Test.YtaifeijnedoboaaCbFine
import Derived.ProofKit
import Derived.Test.YtaifeijnedoboaaCbFinh
import Derived.Test.YtaifeijnedoboaaCbFing
namespace Go.AW
open Go.ChangeShapes Go.WideShapes Go.ChangeAt Go.RowKit

/-- No block is owned. -/
abbrev none0 : Store := fun _ => none

section
variable {H : Type} {enc : TypeId × Value → H} {P : Program} {w : World}

/-- Whatever is read as type t is data. -/
def Reads (enc : TypeId × Value → H) (P : Program) (w : World) (t n : Nat) {α : Type} (av : α → AV) : Prop :=
  ∀ cs x, DataW.trod enc P w 0 (fun _ => true) true n t cs = some x → ∃ a : α, VC w.heap none0 (av a) cs

/-! ### The row -/
end
end Go.AW


/- Bytes, read. -/
namespace Go.AW
open Go.Proofs.Try
set_option maxRecDepth 100000
section
variable {H : Type} {enc : TypeId × Value → H} {w : World}
end
end Go.AW


/- Terms, answers, numbers and bytes, read. -/
namespace Go.AW
open Go.Proofs.Try
set_option maxRecDepth 100000
section
variable {H : Type} {enc : TypeId × Value → H} {w : World}

end
end Go.AW
