/- Walks: toFeed; marks; what is held. -/
import Derived.Test.YtcplnfmcefkehaaWr
namespace Go.Proofs.Ytcplnfmcefkehaa
open Go.RowKit

/-- A fresh feed value: its slices are rows from block B on. -/
structure FeedO (B : Nat) (w : World) (f : Fd) (vb vh : Value) : Prop where
  bl : O1 Value.string B 9 w vb f.bl
  hv : O1 Value.bool B 4 w vh f.hv
theorem FeedO.r {B : Nat} {w : World} {f : Fd} {vb vh : Value} (h : FeedO B w f vb vh) : FeedR w f vb vh := ⟨h.bl.r1, h.hv.r1⟩
theorem FeedO.below {B : Nat} {w w' : World} {f : Fd} {vb vh : Value} (h : FeedO B w f vb vh) (hb : Below w.heap.size w w') : FeedO B w' f vb vh := ⟨h.bl.below hb, h.hv.below hb⟩
theorem FeedO.mono {B B' : Nat} {w : World} {f : Fd} {vb vh : Value} (h : FeedO B w f vb vh) (hB : B' ≤ B) : FeedO B' w f vb vh := ⟨h.bl.mono hB, h.hv.mono hB⟩
theorem FeedO.mid {B B1 B2 : Nat} {w w' : World} {f : Fd} {vb vh : Value} (h : FeedO B w f vb vh) (hb : Mid B1 B2 w w') (hB : B2 ≤ B) : FeedO B w' f vb vh := ⟨h.bl.mid hb hB, h.hv.mid hb hB⟩

end Go.Proofs.Ytcplnfmcefkehaa
