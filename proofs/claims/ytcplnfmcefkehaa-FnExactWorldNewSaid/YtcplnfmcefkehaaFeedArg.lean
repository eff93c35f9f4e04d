/- The row's last step: a Feed among the arguments, opened to what the walks take. No condition. -/
import Derived.Test.YtcplnfmcefkehaaOpen
import Derived.Test.YtcplnfmcefkehaaWm
namespace Go.Proofs.Ytcplnfmcefkehaa
open Go.RowKit Go.ChangeShapes Go.WideShapes Go.Deep

theorem own : ownKnob Try.prog.godebug = none := by kernel_rfl
theorem laid : laidOutB Try.prog = true := by kernel_rfl
section
variable {H : Type} {enc : TypeId × Value → H} {w : World} {base : Nat} {held : Bool}
set_option maxRecDepth 100000 in
theorem open_i64 {r : Reach} {b0 : Nat} {v : Value} {d : DataW H} {p : List MemPlace} {spare : Nat → Bool} (h : DataW.Trod enc Try.prog w base spare held 3 v d p) (hv : Value.okWide Try.prog w r b0 3 v) : ∃ n : Int, v = .int .i64 n ∧ (Lit.int .i64 n).wf = true := by
  obtain ⟨n, h1, _, _, h2⟩ := open_int Try.underlying3 hv h
  exact ⟨n, h1, h2⟩
end
end Go.Proofs.Ytcplnfmcefkehaa
