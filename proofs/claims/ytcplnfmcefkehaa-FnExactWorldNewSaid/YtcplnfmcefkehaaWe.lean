/- Walks: peaks and their digest in the program's way. -/
import Derived.Test.YtcplnfmcefkehaaWd
namespace Go.Proofs.Ytcplnfmcefkehaa
open Go.RowKit

end Go.Proofs.Ytcplnfmcefkehaa
