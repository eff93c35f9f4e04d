/- Walks: messages, signed heads, bits, leaves of a feed. -/
import Derived.Test.YtcplnfmcefkehaaWj
namespace Go.Proofs.Ytcplnfmcefkehaa
open Go.RowKit

theorem isKey_b {n : Int} {b : Bool} (h : Hid (key n = b)) (w : World) : Calls Try.prog 29 #[.int .i64 n] w fun e w' => e = .returned (.bool b) ∧ w = w' := by
  rw [← h.out]; exact isKey_any n w
theorem l3Key_b {n : Int} {b : Bool} (h : Hid (key n = b)) (w : World) : Calls Try.prog 9 #[.int .i64 n] w fun e w' => e = .returned (.bool b) ∧ w = w' := by
  rw [← h.out]; exact l3Key_any n w
theorem within_b {n x y : Int} {b : Bool} (h : Hid (inB n x y = b)) (w : World) : Calls Try.prog 30 #[.int .i64 n, .int .i64 x, .int .i64 y] w fun e w' => e = .returned (.bool b) ∧ w = w' := by
  rw [← h.out]; exact within_any n x y w
theorem l6In_b {n x y : Int} {b : Bool} (h : Hid (inB n x y = b)) (w : World) : Calls Try.prog 10 #[.int .i64 n, .int .i64 x, .int .i64 y] w fun e w' => e = .returned (.bool b) ∧ w = w' := by
  rw [← h.out]; exact l6In_any n x y w
end Go.Proofs.Ytcplnfmcefkehaa
