/- Walks: the reference's proofs. -/
import Derived.Test.YtcplnfmcefkehaaWg
namespace Go.Proofs.Ytcplnfmcefkehaa
open Go.RowKit

end Go.Proofs.Ytcplnfmcefkehaa
