/- Walks: FeedValid of the program. -/
import Derived.Test.YtcplnfmcefkehaaWl
import Derived.Test.YtcplnfmcefkehaaPuref
namespace Go.Proofs.Ytcplnfmcefkehaa
open Go.RowKit

theorem run_head_neq (a1 a2 a3 b1 b2 b3 : Int) (w : World) :
    (binOp .neq 35 (.agg #[.int .i64 a1, .int .i64 a2, .int .i64 a3]) (.agg #[.int .i64 b1, .int .i64 b2, .int .i64 b3])).run Try.prog w = .ok (.bool (!(a1 == b1 && a2 == b2 && a3 == b3))) w := by
  rw [run_neq_struct, run_equalIn_agg _ _ _ _ _ (by kernel_rfl) (by kernel_rfl)]
  simp [go_sem]
  by_cases h1 : a1 = b1 <;> by_cases h2 : a2 = b2 <;> by_cases h3 : a3 = b3 <;> simp [h1, h2, h3]
theorem hn16_of_check {p D S : Int} {n : Nat} (h : hcheck p ⟨n, D, S⟩ = true) : n ≤ 16 := by
  simp only [hcheck, Bool.and_eq_true] at h
  have := inB_true.1 h.1.1.1.2
  omega
theorem hn16_of_zero {D S : Int} {n : Nat} (h : ((n : Int) == 0 && D == 0 && S == 0) = true) : n ≤ 16 := by
  simp only [Bool.and_eq_true, beq_iff_eq] at h
  omega
/-- The feed value f, with its slices' values, reads in the world w. -/
structure FeedR (w : World) (f : Fd) (vb vh : Value) : Prop where
  bl : RS w vb f.bl
  hv : RB w vh f.hv
theorem FeedR.below {w w' : World} {f : Fd} {vb vh : Value} (h : FeedR w f vb vh) (hb : Below w.heap.size w w') : FeedR w' f vb vh := ⟨h.bl.below hb, h.hv.below hb⟩
theorem FeedR.alloc {w : World} {f : Fd} {vb vh : Value} (h : FeedR w f vb vh) (o : Obj) : FeedR (w.alloc o) f vb vh := ⟨h.bl.alloc o, h.hv.alloc o⟩

end Go.Proofs.Ytcplnfmcefkehaa
