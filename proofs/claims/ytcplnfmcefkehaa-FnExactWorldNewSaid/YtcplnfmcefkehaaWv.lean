/- Walks: a code is opened; numbers are drawn. -/
import Derived.Test.YtcplnfmcefkehaaWq
namespace Go.Proofs.Ytcplnfmcefkehaa
open Go.RowKit

abbrev RU := R1 (fun b : UInt8 => Value.int .u8 (b.toNat : Int))
end Go.Proofs.Ytcplnfmcefkehaa
