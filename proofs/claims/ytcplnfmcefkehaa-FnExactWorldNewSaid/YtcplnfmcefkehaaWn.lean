/- Walks: FeedValid of the reference. -/
import Derived.Test.YtcplnfmcefkehaaWm
namespace Go.Proofs.Ytcplnfmcefkehaa
open Go.RowKit

theorem l11Empty_any (w : World) : Calls Try.prog 28 #[] w fun e w' => e = .returned (.agg #[.int .i64 0, .int .i64 0, .int .i64 0]) ∧ Below w.heap.size w w' := by
  go_enter Try.func28, Try.ntmps28
  go_wp2
  exact bodyPost_ret (v := .agg #[.int .i64 0, .int .i64 0, .int .i64 0]) (by simp [results, Try.results28, go_sem]) rfl ⟨rfl, by repeat (first | exact Below.refl _ _ | refine Below.setCell ?_ (Nat.le_refl _) _ | refine Below.alloc ?_ (Nat.le_refl _) _)⟩
end Go.Proofs.Ytcplnfmcefkehaa
