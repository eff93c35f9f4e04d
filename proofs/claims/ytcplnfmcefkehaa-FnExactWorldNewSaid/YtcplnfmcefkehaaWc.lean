/- Walks: roots of trees. -/
import Derived.Test.YtcplnfmcefkehaaWb
namespace Go.Proofs.Ytcplnfmcefkehaa
open Go.RowKit

end Go.Proofs.Ytcplnfmcefkehaa
