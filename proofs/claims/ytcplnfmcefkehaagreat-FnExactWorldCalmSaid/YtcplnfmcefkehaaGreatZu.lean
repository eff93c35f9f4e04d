/- Walk: a block in transit is delivered or lost. No condition but the weak invariant. -/
import Derived.Test.YtcplnfmcefkehaaGreatCC
import Derived.Test.YtcplnfmcefkehaaGreatCD
set_option linter.unusedVariables false
set_option linter.unusedSimpArgs false
namespace Go.Proofs.YtcplnfmcefkehaaGreat
open Go.RowKit
attribute [local go_sem ↓] Go.wp_at_zero Go.wp_at_succ

theorem qgB {f o : Fd} {i : Int} {t : ByteArray} {proof : List Int} {ok : Bool} (h : Hid (qes f i t proof = (o, ok))) (vb vh pv : Value) (w : World) (hf : qaU w f vb vh) (ht : t.size ≤ maxLen) (hp : RI w pv proof) :
 Calls Tryz.prog 145 #[.agg #[.int .i64 f.pub, .int .i64 f.hd.len, .int .i64 f.hd.dg, .int .i64 f.hd.sg, vb, vh], .int .i64 i, .string t, pv] w (qg9 o ok w) := by
 have := qk6 f i t proof vb vh pv w hf ht hp
 rw [h.out] at this
 exact this
end Go.Proofs.YtcplnfmcefkehaaGreat
