/- Walks: ranges, digests, keys. Each function returns its plain function's value and leaves the world alone. -/
import Derived.Test.YtlhiabnablbkpaaMem
import Derived.Test.YtlhiabnablbkpaaPure
namespace Go.Proofs.Ytlhiabnablbkpaa
open Go.RowKit

theorem l6In_any (n a b : Int) (w : World) :
    Calls Try.prog 66 #[.int .i64 n, .int .i64 a, .int .i64 b] w fun e w' => e = .returned (.bool (inB n a b)) ∧ w = w' := by
  go_enter Try.func66, Try.ntmps66
  go_wp2
  all_goals (go_ret; exact ⟨retb (by unfold inB; simp <;> omega), rfl⟩)
theorem within_any (n a b : Int) (w : World) :
    Calls Try.prog 72 #[.int .i64 n, .int .i64 a, .int .i64 b] w fun e w' => e = .returned (.bool (inB n a b)) ∧ w = w' := by
  go_enter Try.func72, Try.ntmps72
  go_wp2
  all_goals (go_ret; exact ⟨retb (by unfold inB; simp <;> omega), rfl⟩)
theorem l1Digest_any (n : Int) (w : World) :
    Calls Try.prog 130 #[.int .i64 n] w fun e w' => e = .returned (.bool (dig n)) ∧ w = w' := by
  go_enter Try.func130, Try.ntmps130
  go_wp2_with (go_at_call 66; refine (l6In_any _ _ _ _).mono ?_; rintro e w' ⟨rfl, rfl⟩)
  go_ret; exact ⟨rfl, rfl⟩
theorem isDigest_any (n : Int) (w : World) :
    Calls Try.prog 87 #[.int .i64 n] w fun e w' => e = .returned (.bool (dig n)) ∧ w = w' := by
  go_enter Try.func87, Try.ntmps87
  go_wp2_with (go_at_call 72; refine (within_any _ _ _ _).mono ?_; rintro e w' ⟨rfl, rfl⟩)
  go_ret; exact ⟨rfl, rfl⟩
theorem l3Key_any (n : Int) (w : World) :
    Calls Try.prog 99 #[.int .i64 n] w fun e w' => e = .returned (.bool (key n)) ∧ w = w' := by
  go_enter Try.func99, Try.ntmps99
  go_wp2_with (go_at_call 66; refine (l6In_any _ _ _ _).mono ?_; rintro e w' ⟨rfl, rfl⟩)
  go_ret; exact ⟨rfl, rfl⟩
theorem isKey_any (n : Int) (w : World) :
    Calls Try.prog 124 #[.int .i64 n] w fun e w' => e = .returned (.bool (key n)) ∧ w = w' := by
  go_enter Try.func124, Try.ntmps124
  go_wp2_with (go_at_call 72; refine (within_any _ _ _ _).mono ?_; rintro e w' ⟨rfl, rfl⟩)
  go_ret; exact ⟨rfl, rfl⟩

theorem l1Text_any (s : ByteArray) (w : World) (hs : s.size ≤ maxLen) :
    Calls Try.prog 119 #[.string s] w fun e w' => e = .returned (.int .i64 (textD s.data.toList)) ∧ w = w' := by
  unfold maxLen at hs
  go_enter Try.func119, Try.ntmps119
  go_wp2
  go_loop [3, 4] (fun n i => ∃ k : Nat, k ≤ s.size ∧ i = .int .i64 k ∧ n = .int .i64 (textD (s.data.toList.take k))) (fun _ i => s.size - (intOf i).toNat)
  case atStart => exact ⟨0, Nat.zero_le _, rfl, rfl⟩
  case round =>
    obtain ⟨k, hk, rfl, rfl⟩ := hrel
    have hd := textD_bd (s.data.toList.take k)
    by_cases hlt : k < s.size
    · have hb : (s[k].toNat : Int) < 256 := by have := s[k].toNat_lt; omega
      have HS := Lib.hid (textD_snoc (s.data.toList.take k) s[k])
      have HT := Lib.hid (take_snoc hlt)
      generalize textD (s.data.toList.take k) = t at *
      go_wp2
      go_round
      case rel => exact ⟨k + 1, by omega, by go_num, by rw [HT.out, HS.out]⟩
      case measure => simp [intOf]; omega
    · go_wp2
      go_ret
      exact ⟨reti (by rw [List.take_of_length_le (by simp; omega)]), rfl⟩
theorem DigestText_ok (s : ByteArray) (w : World) (hs : s.size ≤ 8) :
    Calls Try.prog 35 #[.string s] w fun e w' => e = .returned (.int .i64 (textD s.data.toList)) ∧ w = w' := by
  go_enter Try.func35, Try.ntmps35
  go_wp2
  go_loop [3, 4] (fun n i => ∃ k : Nat, k ≤ s.size ∧ i = .int .i64 k ∧ n = .int .i64 (textD (s.data.toList.take k))) (fun _ i => s.size - (intOf i).toNat)
  case atStart => exact ⟨0, Nat.zero_le _, rfl, rfl⟩
  case round =>
    obtain ⟨k, hk, rfl, rfl⟩ := hrel
    have hd := textD_bd (s.data.toList.take k)
    by_cases hlt : k < s.size
    · have hb : (s[k].toNat : Int) < 256 := by have := s[k].toNat_lt; omega
      have HS := Lib.hid (textD_snoc (s.data.toList.take k) s[k])
      have HT := Lib.hid (take_snoc hlt)
      generalize textD (s.data.toList.take k) = t at *
      go_wp2
      go_round
      case rel => exact ⟨k + 1, by omega, by go_num, by rw [HT.out, HS.out]⟩
      case measure => simp [intOf]; omega
    · go_wp2
      go_ret
      exact ⟨reti (by rw [List.take_of_length_le (by simp; omega)]), rfl⟩
theorem DigestText_no (s : ByteArray) (w : World) (hm : s.size ≤ maxLen) (hs : 8 < s.size) :
    Calls Try.prog 35 #[.string s] w fun e w' => e = .returned (.int .i64 (-1)) ∧ w = w' := by
  unfold maxLen at hm
  go_enter Try.func35, Try.ntmps35
  go_wp2
  go_ret; exact ⟨rfl, rfl⟩

theorem l1Pair_any (a b : Int) (w : World) (ha : dig a = true) (hb : dig b = true) :
    Calls Try.prog 154 #[.int .i64 a, .int .i64 b] w fun e w' => e = .returned (.int .i64 (pair a b)) ∧ w = w' := by
  have ⟨ha0, ha1⟩ := dig_true.1 ha; clear ha
  have ⟨hb0, hb1⟩ := dig_true.1 hb; clear hb
  go_enter Try.func154, Try.ntmps154
  go_wp2
  go_ret; exact ⟨reti (by unfold pair; omega), rfl⟩
theorem DigestPair_any (a b : Int) (w : World) (ha : dig a = true) (hb : dig b = true) :
    Calls Try.prog 91 #[.int .i64 a, .int .i64 b] w fun e w' => e = .returned (.int .i64 (pair a b)) ∧ w = w' := by
  have ⟨ha0, ha1⟩ := dig_true.1 ha
  have ⟨hb0, hb1⟩ := dig_true.1 hb
  go_enter Try.func91, Try.ntmps91
  go_wp2_with (go_at_call 87; refine (isDigest_any _ _).mono ?_; rintro e w' ⟨rfl, rfl⟩)
  go_ret; exact ⟨reti (by unfold pair; omega), rfl⟩
theorem l3Message_any (a b : Int) (w : World) (ha : dig a = true) (hb : dig b = true) :
    Calls Try.prog 131 #[.int .i64 a, .int .i64 b] w fun e w' => e = .returned (.int .i64 (pair a b + 1)) ∧ w = w' := by
  have ⟨hp0, hp1⟩ := pair_bd a b
  go_enter Try.func131, Try.ntmps131
  go_wp2_with (go_at_call 154; refine (l1Pair_any _ _ _ ha hb).mono ?_; rintro e w' ⟨rfl, rfl⟩)
  go_ret; exact ⟨rfl, rfl⟩
theorem HeadPublic_i (s : Int) (w : World) :
    Calls Try.prog 103 #[.int .i64 s] w fun e w' => e = .returned (.int .i64 (if key s then s * 5 % 997 else 0)) ∧ w = w' := by
  cases hk : key s
  · go_enter Try.func103, Try.ntmps103
    go_wp2_with (go_at_call 124; refine (isKey_any _ _).mono ?_; rintro e w' ⟨rfl, rfl⟩)
    go_ret; exact ⟨rfl, rfl⟩
  · have ⟨h0, h1⟩ := key_true.1 hk
    go_enter Try.func103, Try.ntmps103
    go_wp2_with (go_at_call 124; refine (isKey_any _ _).mono ?_; rintro e w' ⟨rfl, rfl⟩)
    go_ret; exact ⟨rfl, rfl⟩
theorem HeadPublic_s (s : Int) (w : World) :
    Calls Try.prog 101 #[.int .i64 s] w fun e w' => e = .returned (.int .i64 (if key s then s * 5 % 997 else 0)) ∧ w = w' := by
  cases hk : key s
  · go_enter Try.func101, Try.ntmps101
    go_wp2_with (go_at_call 99; refine (l3Key_any _ _).mono ?_; rintro e w' ⟨rfl, rfl⟩)
    go_ret; exact ⟨rfl, rfl⟩
  · have ⟨h0, h1⟩ := key_true.1 hk
    go_enter Try.func101, Try.ntmps101
    go_wp2_with (go_at_call 99; refine (l3Key_any _ _).mono ?_; rintro e w' ⟨rfl, rfl⟩)
    go_ret; exact ⟨rfl, rfl⟩
end Go.Proofs.Ytlhiabnablbkpaa
