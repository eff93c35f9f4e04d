/- Walks: the reference's check of a proof. -/
import Derived.Test.YtcplnfmcefkehaaWh
namespace Go.Proofs.Ytcplnfmcefkehaa
open Go.RowKit

end Go.Proofs.Ytcplnfmcefkehaa
