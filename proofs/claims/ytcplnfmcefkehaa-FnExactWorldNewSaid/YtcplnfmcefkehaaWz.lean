/- Walks: blocks are drawn; a feed is copied. -/
import Derived.Test.YtcplnfmcefkehaaWy
namespace Go.Proofs.Ytcplnfmcefkehaa
open Go.RowKit

theorem box_cells {w : World} {p : Nat} {t : TypeId} {x0 x1 x2 x3 x4 x5 : Value} (h : w.heap[p]? = some (.cells #[x0, x1, x2, x3, x4, x5] t (0, 0))) :
    w.cell? ⟨p, 0, none⟩ = some x0 ∧ w.cell? ⟨p, 1, none⟩ = some x1 ∧ w.cell? ⟨p, 2, none⟩ = some x2 ∧ w.cell? ⟨p, 3, none⟩ = some x3 ∧ w.cell? ⟨p, 4, none⟩ = some x4 ∧ w.cell? ⟨p, 5, none⟩ = some x5 ∧ ∀ i, w.frozen? ⟨p, i, none⟩ = false :=
  ⟨cell_of_row _ _ 0 _ _ _ h, cell_of_row _ _ 1 _ _ _ h, cell_of_row _ _ 2 _ _ _ h, cell_of_row _ _ 3 _ _ _ h, cell_of_row _ _ 4 _ _ _ h, cell_of_row _ _ 5 _ _ _ h, fun i => by simp [World.frozen?, h]⟩
/-- What a copy of a feed leaves. -/
def CopyPost (f : Fd) (w : World) (e : Ending) (w' : World) : Prop :=
  ∃ ub uh, e = .returned (.agg #[.int .i64 f.pub, .int .i64 f.hd.len, .int .i64 f.hd.dg, .int .i64 f.hd.sg, ub, uh]) ∧ FeedO w.heap.size w' f ub uh ∧ Below w.heap.size w w'
end Go.Proofs.Ytcplnfmcefkehaa
