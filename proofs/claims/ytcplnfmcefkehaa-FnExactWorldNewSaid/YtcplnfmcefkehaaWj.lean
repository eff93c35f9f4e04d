/- Walks: TreeCheck, the reference's and the program's. -/
import Derived.Test.YtcplnfmcefkehaaWi
namespace Go.Proofs.Ytcplnfmcefkehaa
open Go.RowKit

end Go.Proofs.Ytcplnfmcefkehaa
