/- Walks: leaves, peaks, digests of trees. -/
import Derived.Test.YtcplnfmcefkehaaWc
namespace Go.Proofs.Ytcplnfmcefkehaa
open Go.RowKit

end Go.Proofs.Ytcplnfmcefkehaa
