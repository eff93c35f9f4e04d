/- Walks: ranges, digests, keys. Each function returns its plain function's value and leaves the world alone. -/
import Derived.Test.YtcplnfmcefkehaaMem
import Derived.Test.YtcplnfmcefkehaaPure
namespace Go.Proofs.Ytcplnfmcefkehaa
open Go.RowKit

theorem l6In_any (n a b : Int) (w : World) :
    Calls Try.prog 10 #[.int .i64 n, .int .i64 a, .int .i64 b] w fun e w' => e = .returned (.bool (inB n a b)) ∧ w = w' := by
  go_enter Try.func10, Try.ntmps10
  go_wp2
  all_goals (go_ret; exact ⟨retb (by unfold inB; simp <;> omega), rfl⟩)
theorem within_any (n a b : Int) (w : World) :
    Calls Try.prog 30 #[.int .i64 n, .int .i64 a, .int .i64 b] w fun e w' => e = .returned (.bool (inB n a b)) ∧ w = w' := by
  go_enter Try.func30, Try.ntmps30
  go_wp2
  all_goals (go_ret; exact ⟨retb (by unfold inB; simp <;> omega), rfl⟩)
theorem l3Key_any (n : Int) (w : World) :
    Calls Try.prog 9 #[.int .i64 n] w fun e w' => e = .returned (.bool (key n)) ∧ w = w' := by
  go_enter Try.func9, Try.ntmps9
  go_wp2_with (go_at_call 10; refine (l6In_any _ _ _ _).mono ?_; rintro e w' ⟨rfl, rfl⟩)
  go_ret; exact ⟨rfl, rfl⟩
theorem isKey_any (n : Int) (w : World) :
    Calls Try.prog 29 #[.int .i64 n] w fun e w' => e = .returned (.bool (key n)) ∧ w = w' := by
  go_enter Try.func29, Try.ntmps29
  go_wp2_with (go_at_call 30; refine (within_any _ _ _ _).mono ?_; rintro e w' ⟨rfl, rfl⟩)
  go_ret; exact ⟨rfl, rfl⟩

theorem HeadPublic_i (s : Int) (w : World) :
    Calls Try.prog 15 #[.int .i64 s] w fun e w' => e = .returned (.int .i64 (if key s then s * 5 % 997 else 0)) ∧ w = w' := by
  cases hk : key s
  · go_enter Try.func15, Try.ntmps15
    go_wp2_with (go_at_call 29; refine (isKey_any _ _).mono ?_; rintro e w' ⟨rfl, rfl⟩)
    go_ret; exact ⟨rfl, rfl⟩
  · have ⟨h0, h1⟩ := key_true.1 hk
    go_enter Try.func15, Try.ntmps15
    go_wp2_with (go_at_call 29; refine (isKey_any _ _).mono ?_; rintro e w' ⟨rfl, rfl⟩)
    go_ret; exact ⟨rfl, rfl⟩
theorem HeadPublic_s (s : Int) (w : World) :
    Calls Try.prog 12 #[.int .i64 s] w fun e w' => e = .returned (.int .i64 (if key s then s * 5 % 997 else 0)) ∧ w = w' := by
  cases hk : key s
  · go_enter Try.func12, Try.ntmps12
    go_wp2_with (go_at_call 9; refine (l3Key_any _ _).mono ?_; rintro e w' ⟨rfl, rfl⟩)
    go_ret; exact ⟨rfl, rfl⟩
  · have ⟨h0, h1⟩ := key_true.1 hk
    go_enter Try.func12, Try.ntmps12
    go_wp2_with (go_at_call 9; refine (l3Key_any _ _).mono ?_; rintro e w' ⟨rfl, rfl⟩)
    go_ret; exact ⟨rfl, rfl⟩
end Go.Proofs.Ytcplnfmcefkehaa
