/- The evaluation's rules as one theorem. -/
import Derived.Test.YtaifeijnedoboaaCbFine
namespace Go.AW
end Go.AW
