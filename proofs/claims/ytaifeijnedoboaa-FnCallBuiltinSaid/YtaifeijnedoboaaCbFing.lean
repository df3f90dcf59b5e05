/- Closed facts on the types of the program. -/
import Derived.Test.YtaifeijnedoboaaProg
import Derived.Test.YtaifeijnedoboaaCbFinf
import Derived.KernelRfl
namespace Go.AW
end Go.AW
