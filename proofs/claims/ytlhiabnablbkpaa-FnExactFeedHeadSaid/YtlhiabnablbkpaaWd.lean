/- Walks: leaves, peaks, digests of trees. -/
import Derived.Test.YtlhiabnablbkpaaWc
namespace Go.Proofs.Ytlhiabnablbkpaa
open Go.RowKit

theorem areDigests_any (l : List Int) (v : Value) (w : World) (hv : RI w v l) :
    Calls Try.prog 88 #[v] w fun e w' => e = .returned (.bool (digs l)) ∧ w = w' := by
  have hm := hv.len
  obtain ⟨A, c, rfl, h1, h2, h3⟩ := hv
  unfold maxLen at hm
  go_enter Try.func88, Try.ntmps88
  go_wp2
  go_loop [7] (fun i => ∃ k : Nat, k ≤ l.length ∧ i = .int .i64 k ∧ Hid (digs (l.take k) = true)) (fun i => l.length - (intOf i).toNat)
  case atStart => exact ⟨0, Nat.zero_le _, rfl, Lib.hid rfl⟩
  case round =>
    obtain ⟨k, hk, rfl, Hd⟩ := hrel
    by_cases hlt : k < l.length
    · obtain ⟨b, o, rfl, hb, hc⟩ := h3 (by omega)
      have hcell := hc k hlt
      clear hc h3
      cases hx : dig l[k]
      · have HX := Lib.hid hx
        go_wp2_with (go_at_call 87; refine (isDigest_any _ _).mono ?_; rintro e w' ⟨rfl, rfl⟩)
        go_ret; exact ⟨retb (digs_no hlt HX.out).symm, rfl⟩
      · have HX := Lib.hid hx
        go_wp2_with (go_at_call 87; refine (isDigest_any _ _).mono ?_; rintro e w' ⟨rfl, rfl⟩)
        go_round
        case rel => exact ⟨k + 1, by omega, by go_num, Lib.hid (digs_snoc hlt Hd.out HX.out)⟩
        case measure => simp [intOf]; omega
    · go_wp2
      go_ret; exact ⟨retb (digs_all (by omega) Hd.out).symm, rfl⟩
theorem l2Digests_any (l : List Int) (v : Value) (w : World) (hv : RI w v l) :
    Calls Try.prog 150 #[v] w fun e w' => e = .returned (.bool (digs l)) ∧ w = w' := by
  have hm := hv.len
  obtain ⟨A, c, rfl, h1, h2, h3⟩ := hv
  unfold maxLen at hm
  go_enter Try.func150, Try.ntmps150
  go_wp2
  go_loop [3] (fun i => ∃ k : Nat, k ≤ l.length ∧ i = .int .i64 k ∧ Hid (digs (l.take k) = true)) (fun i => l.length - (intOf i).toNat)
  case atStart => exact ⟨0, Nat.zero_le _, rfl, Lib.hid rfl⟩
  case round =>
    obtain ⟨k, hk, rfl, Hd⟩ := hrel
    by_cases hlt : k < l.length
    · obtain ⟨b, o, rfl, hb, hc⟩ := h3 (by omega)
      have hcell := hc k hlt
      clear hc h3
      cases hx : dig l[k]
      · have HX := Lib.hid hx
        go_wp2_with (go_at_call 130; refine (l1Digest_any _ _).mono ?_; rintro e w' ⟨rfl, rfl⟩)
        go_ret; exact ⟨retb (digs_no hlt HX.out).symm, rfl⟩
      · have HX := Lib.hid hx
        go_wp2_with (go_at_call 130; refine (l1Digest_any _ _).mono ?_; rintro e w' ⟨rfl, rfl⟩)
        go_round
        case rel => exact ⟨k + 1, by omega, by go_num, Lib.hid (digs_snoc hlt Hd.out HX.out)⟩
        case measure => simp [intOf]; omega
    · go_wp2
      go_ret; exact ⟨retb (digs_all (by omega) Hd.out).symm, rfl⟩
theorem l2Leaves_any (l : List Int) (v : Value) (w : World) (hv : RI w v l) :
    Calls Try.prog 136 #[v] w fun e w' => e = .returned (.bool (leavesOk l)) ∧ w = w' := by
  have hm := hv.len
  obtain ⟨A, c, rfl, h1, h2, h3⟩ := hv
  unfold maxLen at hm
  go_enter Try.func136, Try.ntmps136
  go_wp2
  go_loop [3] (fun i => ∃ k : Nat, k ≤ l.length ∧ i = .int .i64 k ∧ Hid (digs (l.take k) = true)) (fun i => l.length - (intOf i).toNat)
  case atStart => exact ⟨0, Nat.zero_le _, rfl, Lib.hid rfl⟩
  case round =>
    obtain ⟨k, hk, rfl, Hd⟩ := hrel
    by_cases hlt : k < l.length
    · obtain ⟨b, o, rfl, hb, hc⟩ := h3 (by omega)
      have hcell := hc k hlt
      clear hc h3
      cases hx : dig l[k]
      · have HX := Lib.hid hx
        go_wp2_with (go_at_call 130; refine (l1Digest_any _ _).mono ?_; rintro e w' ⟨rfl, rfl⟩)
        go_ret; exact ⟨retb (by simp [leavesOk, digs_no hlt HX.out]), rfl⟩
      · have HX := Lib.hid hx
        go_wp2_with (go_at_call 130; refine (l1Digest_any _ _).mono ?_; rintro e w' ⟨rfl, rfl⟩)
        go_round
        case rel => exact ⟨k + 1, by omega, by go_num, Lib.hid (digs_snoc hlt Hd.out HX.out)⟩
        case measure => simp [intOf]; omega
    · go_wp2
      go_ret; exact ⟨retb (by simp [leavesOk, digs_all (by omega) Hd.out]; try omega), rfl⟩
theorem areLeaves_any (l : List Int) (v : Value) (w : World) (hv : RI w v l) :
    Calls Try.prog 94 #[v] w fun e w' => e = .returned (.bool (leavesOk l)) ∧ w = w' := by
  have hm := hv.len
  have hv' := hv
  obtain ⟨A, c, rfl, h1, h2, h3⟩ := hv
  unfold maxLen at hm
  clear h3
  by_cases h16 : l.length ≤ 16
  · have h16' : decide ((l.length : Int) ≤ 16) = true := by simp; omega
    go_enter Try.func94, Try.ntmps94
    go_wp2_with (go_at_call 88; refine (areDigests_any l _ _ hv').mono ?_; rintro e w' ⟨rfl, rfl⟩)
    go_ret; exact ⟨retb (by simp [leavesOk, h16]), rfl⟩
  · have h16' : decide ((l.length : Int) ≤ 16) = false := by simp; omega
    go_enter Try.func94, Try.ntmps94
    go_wp2_with (go_at_call 88; refine (areDigests_any l _ _ hv').mono ?_; rintro e w' ⟨rfl, rfl⟩)
    go_ret; exact ⟨retb (by simp [leavesOk, h16]), rfl⟩

theorem digestOf_any (n : Int) (l : List Int) (v : Value) (w : World) (hn : dig n = true) (hl : digs l = true) (hv : RI w v l) :
    Calls Try.prog 93 #[.int .i64 n, v] w fun e w' => e = .returned (.int .i64 (fold n l)) ∧ w = w' := by
  have hm := hv.len
  obtain ⟨A, c, rfl, h1, h2, h3⟩ := hv
  unfold maxLen at hm
  have HN := Lib.hid hn; clear hn
  have HL := Lib.hid hl; clear hl
  go_enter Try.func93, Try.ntmps93
  go_wp2
  go_loop [0, 9] (fun t i => ∃ k : Nat, k ≤ l.length ∧ i = .int .i64 k ∧ t = .int .i64 (fold n (l.take k))) (fun _ i => l.length - (intOf i).toNat)
  case atStart => exact ⟨0, Nat.zero_le _, rfl, rfl⟩
  case round =>
    obtain ⟨k, hk, rfl, rfl⟩ := hrel
    by_cases hlt : k < l.length
    · obtain ⟨b, o, rfl, hb, hc⟩ := h3 (by omega)
      have hcell := hc k hlt
      clear hc h3
      have HS := Lib.hid (take_snocI hlt)
      go_wp2_with (go_at_call 91; refine (DigestPair_any _ _ _ (fold_dig HN.out _) (digs_get HL.out hlt)).mono ?_; rintro e w' ⟨rfl, rfl⟩)
      go_round
      case rel => exact ⟨k + 1, by omega, by go_num, by rw [HS.out, fold_snoc]⟩
      case measure => simp [intOf]; omega
    · go_wp2
      go_ret; exact ⟨reti (by rw [List.take_of_length_le (by omega)]), rfl⟩
theorem l2Fold_any (n : Int) (l : List Int) (v : Value) (w : World) (hn : dig n = true) (hl : digs l = true) (hv : RI w v l) :
    Calls Try.prog 155 #[.int .i64 n, v] w fun e w' => e = .returned (.int .i64 (fold n l)) ∧ w = w' := by
  have hm := hv.len
  obtain ⟨A, c, rfl, h1, h2, h3⟩ := hv
  unfold maxLen at hm
  have HN := Lib.hid hn; clear hn
  have HL := Lib.hid hl; clear hl
  go_enter Try.func155, Try.ntmps155
  go_wp2
  go_loop [5, 6] (fun t i => ∃ k : Nat, k ≤ l.length ∧ i = .int .i64 k ∧ t = .int .i64 (fold n (l.take k))) (fun _ i => l.length - (intOf i).toNat)
  case atStart => exact ⟨0, Nat.zero_le _, rfl, rfl⟩
  case round =>
    obtain ⟨k, hk, rfl, rfl⟩ := hrel
    by_cases hlt : k < l.length
    · obtain ⟨b, o, rfl, hb, hc⟩ := h3 (by omega)
      have hcell := hc k hlt
      clear hc h3
      have HS := Lib.hid (take_snocI hlt)
      go_wp2_with (go_at_call 154; refine (l1Pair_any _ _ _ (fold_dig HN.out _) (digs_get HL.out hlt)).mono ?_; rintro e w' ⟨rfl, rfl⟩)
      go_round
      case rel => exact ⟨k + 1, by omega, by go_num, by rw [HS.out, fold_snoc]⟩
      case measure => simp [intOf]; omega
    · go_wp2
      go_ret; exact ⟨reti (by rw [List.take_of_length_le (by omega)]), rfl⟩
end Go.Proofs.Ytlhiabnablbkpaa
