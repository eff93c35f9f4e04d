/- Walks: bits, leaves of a feed. -/
import Derived.Test.YtcplnfmcefkehaaWk
namespace Go.Proofs.Ytcplnfmcefkehaa
open Go.RowKit

end Go.Proofs.Ytcplnfmcefkehaa
