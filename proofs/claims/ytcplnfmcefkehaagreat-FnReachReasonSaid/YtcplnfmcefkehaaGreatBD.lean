/- Walks: TreeCheck, the reference's and the program's. | Walks: messages, signed heads, bits, leaves of a feed. | Walks: bits, leaves of a feed. -/
import Derived.Test.YtcplnfmcefkehaaGreatBC
namespace Go.Proofs.YtcplnfmcefkehaaGreat
open Go.RowKit

theorem TreeCheck_s (dg n i leaf : Int) (l : List Int) (v : Value) (w : World) (hv : RI w v l) :
    Calls Tryz.prog 196 #[.int .i64 dg, .int .i64 n, .int .i64 i, .int .i64 leaf, v] w fun e w' => e = .returned (.bool (checkOf dg n i leaf l)) ∧ w = w' := by
  have HV := Lib.hid hv; clear hv
  cases hA : inB n 1 16
  · have HA := Lib.hid hA
    have HR : Hid (checkOf dg n i leaf l = false) := Lib.hid (by simp [checkOf, hA])
    clear hA
    go_enter Tryz.func196, Tryz.ntmps196
    go_wp2_with (go_at_call 85; refine (l6In_any _ _ _ _).mono ?_; rw [HA.out]; rintro e w' ⟨rfl, rfl⟩)
    go_ret; exact ⟨retb HR.out.symm, rfl⟩
  have HA := Lib.hid hA
  have hA' := inB_true.1 hA
  cases hB : inB i 0 (n - 1)
  · have HB := Lib.hid hB
    have HR : Hid (checkOf dg n i leaf l = false) := Lib.hid (by simp [checkOf, hB])
    clear hA hB
    go_enter Tryz.func196, Tryz.ntmps196
    go_wp2_with (first
      | (go_at_call 85; refine (l6In_any _ _ _ _).mono ?_; (first | rw [HA.out] | rw [HB.out]); rintro e w' ⟨rfl, rfl⟩))
    go_ret; exact ⟨retb HR.out.symm, rfl⟩
  have HB := Lib.hid hB
  have hB' := inB_true.1 hB
  cases hC : dig leaf
  · have HC := Lib.hid hC
    have HR : Hid (checkOf dg n i leaf l = false) := Lib.hid (by simp [checkOf, hC])
    clear hA hB hC
    go_enter Tryz.func196, Tryz.ntmps196
    go_wp2_with (first
      | (go_at_call 85; refine (l6In_any _ _ _ _).mono ?_; (first | rw [HA.out] | rw [HB.out]); rintro e w' ⟨rfl, rfl⟩)
      | (go_at_call 152; refine (l1Digest_any _ _).mono ?_; rw [HC.out]; rintro e w' ⟨rfl, rfl⟩))
    go_ret; exact ⟨retb HR.out.symm, rfl⟩
  have HC := Lib.hid hC
  cases hD : digs l
  · have HD := Lib.hid hD
    have HR : Hid (checkOf dg n i leaf l = false) := Lib.hid (by simp [checkOf, hD])
    clear hA hB hC hD
    go_enter Tryz.func196, Tryz.ntmps196
    go_wp2_with (first
      | (go_at_call 85; refine (l6In_any _ _ _ _).mono ?_; (first | rw [HA.out] | rw [HB.out]); rintro e w' ⟨rfl, rfl⟩)
      | (go_at_call 152; refine (l1Digest_any _ _).mono ?_; rw [HC.out]; rintro e w' ⟨rfl, rfl⟩)
      | (go_at_call 206; refine (l2Digests_any l _ _ HV.out).mono ?_; rw [HD.out]; rintro e w' ⟨rfl, rfl⟩))
    go_ret; exact ⟨retb HR.out.symm, rfl⟩
  have HD := Lib.hid hD
  obtain ⟨N, rfl⟩ := Int.eq_ofNat_of_zero_le (show 0 ≤ n by omega)
  obtain ⟨I, rfl⟩ := Int.eq_ofNat_of_zero_le (show 0 ≤ i by omega)
  have HR : Hid (checkOf dg N I leaf l = checkAt dg N I leaf l) := Lib.hid (by simp [checkOf, hA, hB, hC, hD])
  have hN : N ≤ 16 := by omega
  have hI : I < N := by omega
  clear hA hB hC hD hA' hB'
  go_enter Tryz.func196, Tryz.ntmps196
  go_wp2_with (first
    | (go_at_call 85; refine (l6In_any _ _ _ _).mono ?_; (first | rw [HA.out] | rw [HB.out]); rintro e w' ⟨rfl, rfl⟩)
    | (go_at_call 152; refine (l1Digest_any _ _).mono ?_; rw [HC.out]; rintro e w' ⟨rfl, rfl⟩)
    | (go_at_call 206; refine (l2Digests_any l _ _ HV.out).mono ?_; rw [HD.out]; rintro e w' ⟨rfl, rfl⟩)
    | (go_at_call 207; refine (l2Check_any dg leaf N I l _ _ HV.out hN hI HC.out HD.out).mono ?_; rintro e w' ⟨rfl, rfl⟩))
  go_ret; exact ⟨retb HR.out.symm, rfl⟩

end Go.Proofs.YtcplnfmcefkehaaGreat
namespace Go.Proofs.YtcplnfmcefkehaaGreat
open Go.RowKit

theorem message_any (a b c : Int) (w : World) (ha : dig a = true) (hb : dig b = true) :
    Calls Tryz.prog 166 #[.agg #[.int .i64 a, .int .i64 b, .int .i64 c]] w fun e w' => e = .returned (.int .i64 (pair a b + 1)) ∧ Below w.heap.size w w' := by
  have ⟨hp0, hp1⟩ := pair_bd a b
  have HA := Lib.hid ha
  have HB := Lib.hid hb
  clear ha hb
  go_enter Tryz.func166, Tryz.ntmps166
  go_wp2_with (go_at_call 198; refine (DigestPair_any _ _ _ HA.out HB.out).mono ?_; rintro e w' ⟨rfl, rfl⟩)
  go_ret; exact ⟨rfl, (Below.refl _ _).alloc (Nat.le_refl _) _⟩

theorem isKey_b {n : Int} {b : Bool} (h : Hid (key n = b)) (w : World) : Calls Tryz.prog 106 #[.int .i64 n] w fun e w' => e = .returned (.bool b) ∧ w = w' := by
  rw [← h.out]; exact isKey_any n w
theorem l3Key_b {n : Int} {b : Bool} (h : Hid (key n = b)) (w : World) : Calls Tryz.prog 84 #[.int .i64 n] w fun e w' => e = .returned (.bool b) ∧ w = w' := by
  rw [← h.out]; exact l3Key_any n w
theorem within_b {n x y : Int} {b : Bool} (h : Hid (inB n x y = b)) (w : World) : Calls Tryz.prog 107 #[.int .i64 n, .int .i64 x, .int .i64 y] w fun e w' => e = .returned (.bool b) ∧ w = w' := by
  rw [← h.out]; exact within_any n x y w
theorem l6In_b {n x y : Int} {b : Bool} (h : Hid (inB n x y = b)) (w : World) : Calls Tryz.prog 85 #[.int .i64 n, .int .i64 x, .int .i64 y] w fun e w' => e = .returned (.bool b) ∧ w = w' := by
  rw [← h.out]; exact l6In_any n x y w
theorem isDigest_b {n : Int} {b : Bool} (h : Hid (dig n = b)) (w : World) : Calls Tryz.prog 165 #[.int .i64 n] w fun e w' => e = .returned (.bool b) ∧ w = w' := by
  rw [← h.out]; exact isDigest_any n w
theorem l1Digest_b {n : Int} {b : Bool} (h : Hid (dig n = b)) (w : World) : Calls Tryz.prog 152 #[.int .i64 n] w fun e w' => e = .returned (.bool b) ∧ w = w' := by
  rw [← h.out]; exact l1Digest_any n w
theorem message_b {a b c m : Int} (h : Hid (pair a b + 1 = m)) (w : World) (ha : dig a = true) (hb : dig b = true) :
    Calls Tryz.prog 166 #[.agg #[.int .i64 a, .int .i64 b, .int .i64 c]] w fun e w' => e = .returned (.int .i64 m) ∧ Below w.heap.size w w' := by
  rw [← h.out]; exact message_any a b c w ha hb
theorem l3Message_b {a b m : Int} (h : Hid (pair a b + 1 = m)) (w : World) (ha : dig a = true) (hb : dig b = true) :
    Calls Tryz.prog 153 #[.int .i64 a, .int .i64 b] w fun e w' => e = .returned (.int .i64 m) ∧ w = w' := by
  rw [← h.out]; exact l3Message_any a b w ha hb

set_option maxHeartbeats 1600000 in
theorem HeadCheck_i (p : Int) (h : Hd) (w : World) :
    Calls Tryz.prog 108 #[.int .i64 p, .agg #[.int .i64 h.len, .int .i64 h.dg, .int .i64 h.sg]] w fun e w' => e = .returned (.bool (hcheck p h)) ∧ Below w.heap.size w w' := by
  obtain ⟨L, D, S⟩ := h
  have hcases : ∃ b1 b2 b3 b4 : Bool, Hid (key p = b1) ∧ Hid (inB L 0 16 = b2) ∧ Hid (dig D = b3) ∧ Hid (key S = b4) := ⟨_, _, _, _, Lib.hid rfl, Lib.hid rfl, Lib.hid rfl, Lib.hid rfl⟩
  obtain ⟨b1, b2, b3, b4, H1, H2, H3, H4⟩ := hcases
  obtain ⟨m, HM⟩ : ∃ m, Hid (pair L D + 1 = m) := ⟨_, Lib.hid rfl⟩
  have HR : Hid (hcheck p ⟨L, D, S⟩ = (b1 && b2 && b3 && b4 && (S * 5 % 997 == p * m % 997))) := Lib.hid (by unfold hcheck; simp only [H1.out, H2.out, H3.out, H4.out, HM.out])
  have ⟨hp0, hp1⟩ := pair_bd L D
  have hm2 : 1 ≤ m := by rw [← HM.out]; omega
  have hm3 : m ≤ 991 := by rw [← HM.out]; omega
  clear hp0 hp1
  simp only
  by_cases hall : b1 = true ∧ b2 = true ∧ b3 = true ∧ b4 = true
  · obtain ⟨rfl, rfl, rfl, rfl⟩ := hall
    have k1 := key_true.1 H1.out
    have k2 := inB_true.1 H2.out
    have k4 := key_true.1 H4.out
    have hdL : dig L = true := dig_true.2 (by omega)
    have HDL := Lib.hid hdL
    clear hdL
    have hm0 : 0 ≤ p * m := Int.mul_nonneg (by omega) (by omega)
    have hm1 : p * m ≤ 996 * 991 := Int.mul_le_mul (by omega) (by omega) (by omega) (by omega)
    go_enter Tryz.func108, Tryz.ntmps108
    go_wp2
    have c0 : (w.alloc (.cells #[.int .i64 L, .int .i64 D, .int .i64 S] 55)).cell? ⟨w.heap.size, 0, none⟩ = some (.int .i64 L) := cell_of_row _ _ 0 _ _ _ (heap_alloc_new w _)
    have c1 : (w.alloc (.cells #[.int .i64 L, .int .i64 D, .int .i64 S] 55)).cell? ⟨w.heap.size, 1, none⟩ = some (.int .i64 D) := cell_of_row _ _ 1 _ _ _ (heap_alloc_new w _)
    have c2 : (w.alloc (.cells #[.int .i64 L, .int .i64 D, .int .i64 S] 55)).cell? ⟨w.heap.size, 2, none⟩ = some (.int .i64 S) := cell_of_row _ _ 2 _ _ _ (heap_alloc_new w _)
    have hW : w.heap.size < (w.alloc (.cells #[.int .i64 L, .int .i64 D, .int .i64 S] 55)).heap.size := by simp
    have hbW := (Below.refl w.heap.size w).alloc (Nat.le_refl _) (.cells #[.int .i64 L, .int .i64 D, .int .i64 S] 55)
    generalize w.alloc (.cells #[.int .i64 L, .int .i64 D, .int .i64 S] 55) = W at *
    have hup := up_cell W
    refine wp_region_up (by kernel_rfl) (by kernel_rfl) ?_
    repeat (go_big_quiet_step (first
      | (go_at_call_of 106 p; exact up_same (isKey_b H1 _))
      | (go_at_call 106; exact up_same (isKey_b H4 _))
      | (go_at_call 107; exact up_same (within_b H2 _))
      | (go_at_call 165; exact up_same (isDigest_b H3 _))
      | (go_at_call 166; exact up_call (message_b HM _ HDL.out H3.out))))
    refine wpQuiet_nil ?_
    intro w1 hw1
    have hb1 := of_up hw1
    clear hw1 hup
    go_wp2
    go_ret
    refine ⟨retb ?_, hbW.trans (hb1.mono (by omega))⟩
    rw [HR.out]
    simp
  have hlt : (b1 && b2 && b3 && b4) = false := by
    cases b1 <;> cases b2 <;> cases b3 <;> cases b4 <;> simp_all
  have HRF : Hid (hcheck p ⟨L, D, S⟩ = false) := Lib.hid (by rw [HR.out, hlt]; rfl)
  have HALL := Lib.hid hall
  clear hlt hall HR
  have HR := HRF
  clear HRF
  have HDL : Hid True := Lib.hid trivial
  cases b1
  · skip
    go_enter Tryz.func108, Tryz.ntmps108
    go_wp2
    have c0 : (w.alloc (.cells #[.int .i64 L, .int .i64 D, .int .i64 S] 55)).cell? ⟨w.heap.size, 0, none⟩ = some (.int .i64 L) := cell_of_row _ _ 0 _ _ _ (heap_alloc_new w _)
    have c1 : (w.alloc (.cells #[.int .i64 L, .int .i64 D, .int .i64 S] 55)).cell? ⟨w.heap.size, 1, none⟩ = some (.int .i64 D) := cell_of_row _ _ 1 _ _ _ (heap_alloc_new w _)
    have c2 : (w.alloc (.cells #[.int .i64 L, .int .i64 D, .int .i64 S] 55)).cell? ⟨w.heap.size, 2, none⟩ = some (.int .i64 S) := cell_of_row _ _ 2 _ _ _ (heap_alloc_new w _)
    have hW : w.heap.size < (w.alloc (.cells #[.int .i64 L, .int .i64 D, .int .i64 S] 55)).heap.size := by simp
    have hbW := (Below.refl w.heap.size w).alloc (Nat.le_refl _) (.cells #[.int .i64 L, .int .i64 D, .int .i64 S] 55)
    generalize w.alloc (.cells #[.int .i64 L, .int .i64 D, .int .i64 S] 55) = W at *
    have hup := up_cell W
    refine wp_region_up (by kernel_rfl) (by kernel_rfl) ?_
    repeat (go_big_quiet_step (first
      | (go_at_call_of 106 p; exact up_same (isKey_b H1 _))
      | (go_at_call 106; exact up_same (isKey_b H4 _))
      | (go_at_call 107; exact up_same (within_b H2 _))
      | (go_at_call 165; exact up_same (isDigest_b H3 _))
      | (go_at_call 166; exact up_call (message_b HM _ HDL.out H3.out))))
    refine wpQuiet_nil ?_
    intro w1 hw1
    have hb1 := of_up hw1
    clear hw1 hup
    go_wp2
    go_ret
    refine ⟨retb ?_, hbW.trans (hb1.mono (by omega))⟩
    rw [HR.out]
  cases b2
  · skip
    go_enter Tryz.func108, Tryz.ntmps108
    go_wp2
    have c0 : (w.alloc (.cells #[.int .i64 L, .int .i64 D, .int .i64 S] 55)).cell? ⟨w.heap.size, 0, none⟩ = some (.int .i64 L) := cell_of_row _ _ 0 _ _ _ (heap_alloc_new w _)
    have c1 : (w.alloc (.cells #[.int .i64 L, .int .i64 D, .int .i64 S] 55)).cell? ⟨w.heap.size, 1, none⟩ = some (.int .i64 D) := cell_of_row _ _ 1 _ _ _ (heap_alloc_new w _)
    have c2 : (w.alloc (.cells #[.int .i64 L, .int .i64 D, .int .i64 S] 55)).cell? ⟨w.heap.size, 2, none⟩ = some (.int .i64 S) := cell_of_row _ _ 2 _ _ _ (heap_alloc_new w _)
    have hW : w.heap.size < (w.alloc (.cells #[.int .i64 L, .int .i64 D, .int .i64 S] 55)).heap.size := by simp
    have hbW := (Below.refl w.heap.size w).alloc (Nat.le_refl _) (.cells #[.int .i64 L, .int .i64 D, .int .i64 S] 55)
    generalize w.alloc (.cells #[.int .i64 L, .int .i64 D, .int .i64 S] 55) = W at *
    have hup := up_cell W
    refine wp_region_up (by kernel_rfl) (by kernel_rfl) ?_
    repeat (go_big_quiet_step (first
      | (go_at_call_of 106 p; exact up_same (isKey_b H1 _))
      | (go_at_call 106; exact up_same (isKey_b H4 _))
      | (go_at_call 107; exact up_same (within_b H2 _))
      | (go_at_call 165; exact up_same (isDigest_b H3 _))
      | (go_at_call 166; exact up_call (message_b HM _ HDL.out H3.out))))
    refine wpQuiet_nil ?_
    intro w1 hw1
    have hb1 := of_up hw1
    clear hw1 hup
    go_wp2
    go_ret
    refine ⟨retb ?_, hbW.trans (hb1.mono (by omega))⟩
    rw [HR.out]
  cases b3
  · skip
    go_enter Tryz.func108, Tryz.ntmps108
    go_wp2
    have c0 : (w.alloc (.cells #[.int .i64 L, .int .i64 D, .int .i64 S] 55)).cell? ⟨w.heap.size, 0, none⟩ = some (.int .i64 L) := cell_of_row _ _ 0 _ _ _ (heap_alloc_new w _)
    have c1 : (w.alloc (.cells #[.int .i64 L, .int .i64 D, .int .i64 S] 55)).cell? ⟨w.heap.size, 1, none⟩ = some (.int .i64 D) := cell_of_row _ _ 1 _ _ _ (heap_alloc_new w _)
    have c2 : (w.alloc (.cells #[.int .i64 L, .int .i64 D, .int .i64 S] 55)).cell? ⟨w.heap.size, 2, none⟩ = some (.int .i64 S) := cell_of_row _ _ 2 _ _ _ (heap_alloc_new w _)
    have hW : w.heap.size < (w.alloc (.cells #[.int .i64 L, .int .i64 D, .int .i64 S] 55)).heap.size := by simp
    have hbW := (Below.refl w.heap.size w).alloc (Nat.le_refl _) (.cells #[.int .i64 L, .int .i64 D, .int .i64 S] 55)
    generalize w.alloc (.cells #[.int .i64 L, .int .i64 D, .int .i64 S] 55) = W at *
    have hup := up_cell W
    refine wp_region_up (by kernel_rfl) (by kernel_rfl) ?_
    repeat (go_big_quiet_step (first
      | (go_at_call_of 106 p; exact up_same (isKey_b H1 _))
      | (go_at_call 106; exact up_same (isKey_b H4 _))
      | (go_at_call 107; exact up_same (within_b H2 _))
      | (go_at_call 165; exact up_same (isDigest_b H3 _))
      | (go_at_call 166; exact up_call (message_b HM _ HDL.out H3.out))))
    refine wpQuiet_nil ?_
    intro w1 hw1
    have hb1 := of_up hw1
    clear hw1 hup
    go_wp2
    go_ret
    refine ⟨retb ?_, hbW.trans (hb1.mono (by omega))⟩
    rw [HR.out]
  cases b4
  · skip
    go_enter Tryz.func108, Tryz.ntmps108
    go_wp2
    have c0 : (w.alloc (.cells #[.int .i64 L, .int .i64 D, .int .i64 S] 55)).cell? ⟨w.heap.size, 0, none⟩ = some (.int .i64 L) := cell_of_row _ _ 0 _ _ _ (heap_alloc_new w _)
    have c1 : (w.alloc (.cells #[.int .i64 L, .int .i64 D, .int .i64 S] 55)).cell? ⟨w.heap.size, 1, none⟩ = some (.int .i64 D) := cell_of_row _ _ 1 _ _ _ (heap_alloc_new w _)
    have c2 : (w.alloc (.cells #[.int .i64 L, .int .i64 D, .int .i64 S] 55)).cell? ⟨w.heap.size, 2, none⟩ = some (.int .i64 S) := cell_of_row _ _ 2 _ _ _ (heap_alloc_new w _)
    have hW : w.heap.size < (w.alloc (.cells #[.int .i64 L, .int .i64 D, .int .i64 S] 55)).heap.size := by simp
    have hbW := (Below.refl w.heap.size w).alloc (Nat.le_refl _) (.cells #[.int .i64 L, .int .i64 D, .int .i64 S] 55)
    generalize w.alloc (.cells #[.int .i64 L, .int .i64 D, .int .i64 S] 55) = W at *
    have hup := up_cell W
    refine wp_region_up (by kernel_rfl) (by kernel_rfl) ?_
    repeat (go_big_quiet_step (first
      | (go_at_call_of 106 p; exact up_same (isKey_b H1 _))
      | (go_at_call 106; exact up_same (isKey_b H4 _))
      | (go_at_call 107; exact up_same (within_b H2 _))
      | (go_at_call 165; exact up_same (isDigest_b H3 _))
      | (go_at_call 166; exact up_call (message_b HM _ HDL.out H3.out))))
    refine wpQuiet_nil ?_
    intro w1 hw1
    have hb1 := of_up hw1
    clear hw1 hup
    go_wp2
    go_ret
    refine ⟨retb ?_, hbW.trans (hb1.mono (by omega))⟩
    rw [HR.out]
  · exact absurd ⟨rfl, rfl, rfl, rfl⟩ HALL.out

set_option maxHeartbeats 1600000 in
theorem HeadCheck_s (p : Int) (h : Hd) (w : World) :
    Calls Tryz.prog 89 #[.int .i64 p, .agg #[.int .i64 h.len, .int .i64 h.dg, .int .i64 h.sg]] w fun e w' => e = .returned (.bool (hcheck p h)) ∧ Below w.heap.size w w' := by
  obtain ⟨L, D, S⟩ := h
  have hcases : ∃ b1 b2 b3 b4 : Bool, Hid (key p = b1) ∧ Hid (inB L 0 16 = b2) ∧ Hid (dig D = b3) ∧ Hid (key S = b4) := ⟨_, _, _, _, Lib.hid rfl, Lib.hid rfl, Lib.hid rfl, Lib.hid rfl⟩
  obtain ⟨b1, b2, b3, b4, H1, H2, H3, H4⟩ := hcases
  obtain ⟨m, HM⟩ : ∃ m, Hid (pair L D + 1 = m) := ⟨_, Lib.hid rfl⟩
  have HR : Hid (hcheck p ⟨L, D, S⟩ = (b1 && b2 && b3 && b4 && (S * 5 % 997 == p * m % 997))) := Lib.hid (by unfold hcheck; simp only [H1.out, H2.out, H3.out, H4.out, HM.out])
  have ⟨hp0, hp1⟩ := pair_bd L D
  have hm2 : 1 ≤ m := by rw [← HM.out]; omega
  have hm3 : m ≤ 991 := by rw [← HM.out]; omega
  clear hp0 hp1
  simp only
  by_cases hall : b1 = true ∧ b2 = true ∧ b3 = true ∧ b4 = true
  · obtain ⟨rfl, rfl, rfl, rfl⟩ := hall
    have k1 := key_true.1 H1.out
    have k2 := inB_true.1 H2.out
    have k4 := key_true.1 H4.out
    have hdL : dig L = true := dig_true.2 (by omega)
    have HDL := Lib.hid hdL
    clear hdL
    have hm0 : 0 ≤ p * m := Int.mul_nonneg (by omega) (by omega)
    have hm1 : p * m ≤ 996 * 991 := Int.mul_le_mul (by omega) (by omega) (by omega) (by omega)
    go_enter Tryz.func89, Tryz.ntmps89
    go_wp2
    have c0 : (w.alloc (.cells #[.int .i64 L, .int .i64 D, .int .i64 S] 55)).cell? ⟨w.heap.size, 0, none⟩ = some (.int .i64 L) := cell_of_row _ _ 0 _ _ _ (heap_alloc_new w _)
    have c1 : (w.alloc (.cells #[.int .i64 L, .int .i64 D, .int .i64 S] 55)).cell? ⟨w.heap.size, 1, none⟩ = some (.int .i64 D) := cell_of_row _ _ 1 _ _ _ (heap_alloc_new w _)
    have c2 : (w.alloc (.cells #[.int .i64 L, .int .i64 D, .int .i64 S] 55)).cell? ⟨w.heap.size, 2, none⟩ = some (.int .i64 S) := cell_of_row _ _ 2 _ _ _ (heap_alloc_new w _)
    have hW : w.heap.size < (w.alloc (.cells #[.int .i64 L, .int .i64 D, .int .i64 S] 55)).heap.size := by simp
    have hbW := (Below.refl w.heap.size w).alloc (Nat.le_refl _) (.cells #[.int .i64 L, .int .i64 D, .int .i64 S] 55)
    generalize w.alloc (.cells #[.int .i64 L, .int .i64 D, .int .i64 S] 55) = W at *
    have hup := up_cell W
    refine wp_region_up (by kernel_rfl) (by kernel_rfl) ?_
    repeat (go_big_quiet_step (first
      | (go_at_call_of 84 p; exact up_same (l3Key_b H1 _))
      | (go_at_call 84; exact up_same (l3Key_b H4 _))
      | (go_at_call 85; exact up_same (l6In_b H2 _))
      | (go_at_call 152; exact up_same (l1Digest_b H3 _))
      | (go_at_call 153; exact up_same (l3Message_b HM _ HDL.out H3.out))))
    refine wpQuiet_nil ?_
    intro w1 hw1
    have hb1 := of_up hw1
    clear hw1 hup
    go_wp2
    go_ret
    refine ⟨retb ?_, hbW.trans (hb1.mono (by omega))⟩
    rw [HR.out]
    simp
  have hlt : (b1 && b2 && b3 && b4) = false := by
    cases b1 <;> cases b2 <;> cases b3 <;> cases b4 <;> simp_all
  have HRF : Hid (hcheck p ⟨L, D, S⟩ = false) := Lib.hid (by rw [HR.out, hlt]; rfl)
  have HALL := Lib.hid hall
  clear hlt hall HR
  have HR := HRF
  clear HRF
  have HDL : Hid True := Lib.hid trivial
  cases b1
  · skip
    go_enter Tryz.func89, Tryz.ntmps89
    go_wp2
    have c0 : (w.alloc (.cells #[.int .i64 L, .int .i64 D, .int .i64 S] 55)).cell? ⟨w.heap.size, 0, none⟩ = some (.int .i64 L) := cell_of_row _ _ 0 _ _ _ (heap_alloc_new w _)
    have c1 : (w.alloc (.cells #[.int .i64 L, .int .i64 D, .int .i64 S] 55)).cell? ⟨w.heap.size, 1, none⟩ = some (.int .i64 D) := cell_of_row _ _ 1 _ _ _ (heap_alloc_new w _)
    have c2 : (w.alloc (.cells #[.int .i64 L, .int .i64 D, .int .i64 S] 55)).cell? ⟨w.heap.size, 2, none⟩ = some (.int .i64 S) := cell_of_row _ _ 2 _ _ _ (heap_alloc_new w _)
    have hW : w.heap.size < (w.alloc (.cells #[.int .i64 L, .int .i64 D, .int .i64 S] 55)).heap.size := by simp
    have hbW := (Below.refl w.heap.size w).alloc (Nat.le_refl _) (.cells #[.int .i64 L, .int .i64 D, .int .i64 S] 55)
    generalize w.alloc (.cells #[.int .i64 L, .int .i64 D, .int .i64 S] 55) = W at *
    have hup := up_cell W
    refine wp_region_up (by kernel_rfl) (by kernel_rfl) ?_
    repeat (go_big_quiet_step (first
      | (go_at_call_of 84 p; exact up_same (l3Key_b H1 _))
      | (go_at_call 84; exact up_same (l3Key_b H4 _))
      | (go_at_call 85; exact up_same (l6In_b H2 _))
      | (go_at_call 152; exact up_same (l1Digest_b H3 _))
      | (go_at_call 153; exact up_same (l3Message_b HM _ HDL.out H3.out))))
    refine wpQuiet_nil ?_
    intro w1 hw1
    have hb1 := of_up hw1
    clear hw1 hup
    go_wp2
    go_ret
    refine ⟨retb ?_, hbW.trans (hb1.mono (by omega))⟩
    rw [HR.out]
  cases b2
  · skip
    go_enter Tryz.func89, Tryz.ntmps89
    go_wp2
    have c0 : (w.alloc (.cells #[.int .i64 L, .int .i64 D, .int .i64 S] 55)).cell? ⟨w.heap.size, 0, none⟩ = some (.int .i64 L) := cell_of_row _ _ 0 _ _ _ (heap_alloc_new w _)
    have c1 : (w.alloc (.cells #[.int .i64 L, .int .i64 D, .int .i64 S] 55)).cell? ⟨w.heap.size, 1, none⟩ = some (.int .i64 D) := cell_of_row _ _ 1 _ _ _ (heap_alloc_new w _)
    have c2 : (w.alloc (.cells #[.int .i64 L, .int .i64 D, .int .i64 S] 55)).cell? ⟨w.heap.size, 2, none⟩ = some (.int .i64 S) := cell_of_row _ _ 2 _ _ _ (heap_alloc_new w _)
    have hW : w.heap.size < (w.alloc (.cells #[.int .i64 L, .int .i64 D, .int .i64 S] 55)).heap.size := by simp
    have hbW := (Below.refl w.heap.size w).alloc (Nat.le_refl _) (.cells #[.int .i64 L, .int .i64 D, .int .i64 S] 55)
    generalize w.alloc (.cells #[.int .i64 L, .int .i64 D, .int .i64 S] 55) = W at *
    have hup := up_cell W
    refine wp_region_up (by kernel_rfl) (by kernel_rfl) ?_
    repeat (go_big_quiet_step (first
      | (go_at_call_of 84 p; exact up_same (l3Key_b H1 _))
      | (go_at_call 84; exact up_same (l3Key_b H4 _))
      | (go_at_call 85; exact up_same (l6In_b H2 _))
      | (go_at_call 152; exact up_same (l1Digest_b H3 _))
      | (go_at_call 153; exact up_same (l3Message_b HM _ HDL.out H3.out))))
    refine wpQuiet_nil ?_
    intro w1 hw1
    have hb1 := of_up hw1
    clear hw1 hup
    go_wp2
    go_ret
    refine ⟨retb ?_, hbW.trans (hb1.mono (by omega))⟩
    rw [HR.out]
  cases b3
  · skip
    go_enter Tryz.func89, Tryz.ntmps89
    go_wp2
    have c0 : (w.alloc (.cells #[.int .i64 L, .int .i64 D, .int .i64 S] 55)).cell? ⟨w.heap.size, 0, none⟩ = some (.int .i64 L) := cell_of_row _ _ 0 _ _ _ (heap_alloc_new w _)
    have c1 : (w.alloc (.cells #[.int .i64 L, .int .i64 D, .int .i64 S] 55)).cell? ⟨w.heap.size, 1, none⟩ = some (.int .i64 D) := cell_of_row _ _ 1 _ _ _ (heap_alloc_new w _)
    have c2 : (w.alloc (.cells #[.int .i64 L, .int .i64 D, .int .i64 S] 55)).cell? ⟨w.heap.size, 2, none⟩ = some (.int .i64 S) := cell_of_row _ _ 2 _ _ _ (heap_alloc_new w _)
    have hW : w.heap.size < (w.alloc (.cells #[.int .i64 L, .int .i64 D, .int .i64 S] 55)).heap.size := by simp
    have hbW := (Below.refl w.heap.size w).alloc (Nat.le_refl _) (.cells #[.int .i64 L, .int .i64 D, .int .i64 S] 55)
    generalize w.alloc (.cells #[.int .i64 L, .int .i64 D, .int .i64 S] 55) = W at *
    have hup := up_cell W
    refine wp_region_up (by kernel_rfl) (by kernel_rfl) ?_
    repeat (go_big_quiet_step (first
      | (go_at_call_of 84 p; exact up_same (l3Key_b H1 _))
      | (go_at_call 84; exact up_same (l3Key_b H4 _))
      | (go_at_call 85; exact up_same (l6In_b H2 _))
      | (go_at_call 152; exact up_same (l1Digest_b H3 _))
      | (go_at_call 153; exact up_same (l3Message_b HM _ HDL.out H3.out))))
    refine wpQuiet_nil ?_
    intro w1 hw1
    have hb1 := of_up hw1
    clear hw1 hup
    go_wp2
    go_ret
    refine ⟨retb ?_, hbW.trans (hb1.mono (by omega))⟩
    rw [HR.out]
  cases b4
  · skip
    go_enter Tryz.func89, Tryz.ntmps89
    go_wp2
    have c0 : (w.alloc (.cells #[.int .i64 L, .int .i64 D, .int .i64 S] 55)).cell? ⟨w.heap.size, 0, none⟩ = some (.int .i64 L) := cell_of_row _ _ 0 _ _ _ (heap_alloc_new w _)
    have c1 : (w.alloc (.cells #[.int .i64 L, .int .i64 D, .int .i64 S] 55)).cell? ⟨w.heap.size, 1, none⟩ = some (.int .i64 D) := cell_of_row _ _ 1 _ _ _ (heap_alloc_new w _)
    have c2 : (w.alloc (.cells #[.int .i64 L, .int .i64 D, .int .i64 S] 55)).cell? ⟨w.heap.size, 2, none⟩ = some (.int .i64 S) := cell_of_row _ _ 2 _ _ _ (heap_alloc_new w _)
    have hW : w.heap.size < (w.alloc (.cells #[.int .i64 L, .int .i64 D, .int .i64 S] 55)).heap.size := by simp
    have hbW := (Below.refl w.heap.size w).alloc (Nat.le_refl _) (.cells #[.int .i64 L, .int .i64 D, .int .i64 S] 55)
    generalize w.alloc (.cells #[.int .i64 L, .int .i64 D, .int .i64 S] 55) = W at *
    have hup := up_cell W
    refine wp_region_up (by kernel_rfl) (by kernel_rfl) ?_
    repeat (go_big_quiet_step (first
      | (go_at_call_of 84 p; exact up_same (l3Key_b H1 _))
      | (go_at_call 84; exact up_same (l3Key_b H4 _))
      | (go_at_call 85; exact up_same (l6In_b H2 _))
      | (go_at_call 152; exact up_same (l1Digest_b H3 _))
      | (go_at_call 153; exact up_same (l3Message_b HM _ HDL.out H3.out))))
    refine wpQuiet_nil ?_
    intro w1 hw1
    have hb1 := of_up hw1
    clear hw1 hup
    go_wp2
    go_ret
    refine ⟨retb ?_, hbW.trans (hb1.mono (by omega))⟩
    rw [HR.out]
  · exact absurd ⟨rfl, rfl, rfl, rfl⟩ HALL.out
end Go.Proofs.YtcplnfmcefkehaaGreat
namespace Go.Proofs.YtcplnfmcefkehaaGreat
open Go.RowKit

theorem BitsCount_any (l : List Bool) (v : Value) (w : World) (hv : RB w v l) :
    Calls Tryz.prog 33 #[v] w fun e w' => e = .returned (.int .i64 (bcount l)) ∧ w = w' := by
  have hm := hv.len
  obtain ⟨A, c, rfl, h1, h2, h3⟩ := hv
  unfold maxLen at hm
  by_cases h16 : 16 < l.length
  · have h16' : (16 : Int) < (l.length : Int) := by omega
    go_enter Tryz.func33, Tryz.ntmps33
    go_wp2
    go_ret; exact ⟨reti (by unfold bcount; rw [if_neg (by omega)]), rfl⟩
  · have h16' : ¬ (16 : Int) < (l.length : Int) := by omega
    go_enter Tryz.func33, Tryz.ntmps33
    go_wp2
    go_loop [3, 11] (fun t i => ∃ k : Nat, k ≤ l.length ∧ i = .int .i64 k ∧ t = .int .i64 (cnt (l.take k) : Nat)) (fun _ i => l.length - (intOf i).toNat)
    case atStart => exact ⟨0, Nat.zero_le _, rfl, rfl⟩
    case round =>
      obtain ⟨k, hk, rfl, rfl⟩ := hrel
      by_cases hlt : k < l.length
      · obtain ⟨b, o, rfl, hb, hc⟩ := h3 (by omega)
        have hcell := hc k hlt
        have HS : Hid (cnt (l.take (k + 1)) = cnt (l.take k) + if l[k] then 1 else 0) := Lib.hid (by rw [take_snocI hlt, cnt_snoc])
        have hcl : cnt (l.take k) ≤ k := Nat.le_trans (cnt_le _) (List.length_take_le _ _)
        clear hc h3
        generalize cnt (l.take k) = t at *
        generalize l[k] = x at *
        cases x
        · go_wp2
          go_round
          case rel => exact ⟨k + 1, by omega, by go_num, by rw [HS.out]; rfl⟩
          case measure => simp [intOf]; omega
        · go_wp2
          go_round
          case rel => exact ⟨k + 1, by omega, by go_num, by rw [HS.out]; go_num⟩
          case measure => simp [intOf]; omega
      · go_wp2
        go_ret; exact ⟨reti (by rw [List.take_of_length_le (by omega)]; unfold bcount; rw [if_pos (by omega)]), rfl⟩
theorem l4Count_any (l : List Bool) (v : Value) (w : World) (hv : RB w v l) :
    Calls Tryz.prog 92 #[v] w fun e w' => e = .returned (.int .i64 (cnt l : Nat)) ∧ w = w' := by
  have hm := hv.len
  obtain ⟨A, c, rfl, h1, h2, h3⟩ := hv
  unfold maxLen at hm
  go_enter Tryz.func92, Tryz.ntmps92
  go_wp2
  go_loop [3, 4] (fun t i => ∃ k : Nat, k ≤ l.length ∧ i = .int .i64 k ∧ t = .int .i64 (cnt (l.take k) : Nat)) (fun _ i => l.length - (intOf i).toNat)
  case atStart => exact ⟨0, Nat.zero_le _, rfl, rfl⟩
  case round =>
    obtain ⟨k, hk, rfl, rfl⟩ := hrel
    by_cases hlt : k < l.length
    · obtain ⟨b, o, rfl, hb, hc⟩ := h3 (by omega)
      have hcell := hc k hlt
      have HS : Hid (cnt (l.take (k + 1)) = cnt (l.take k) + if l[k] then 1 else 0) := Lib.hid (by rw [take_snocI hlt, cnt_snoc])
      have hcl : cnt (l.take k) ≤ k := Nat.le_trans (cnt_le _) (List.length_take_le _ _)
      clear hc h3
      generalize cnt (l.take k) = t at *
      generalize l[k] = x at *
      cases x
      · go_wp2
        go_round
        case rel => exact ⟨k + 1, by omega, by go_num, by rw [HS.out]; rfl⟩
        case measure => simp [intOf]; omega
      · go_wp2
        go_round
        case rel => exact ⟨k + 1, by omega, by go_num, by rw [HS.out]; go_num⟩
        case measure => simp [intOf]; omega
    · go_wp2
      go_ret; exact ⟨reti (by rw [List.take_of_length_le (by omega)]), rfl⟩

theorem l11Leaves_any (bl : List ByteArray) (v : Value) (w : World) (hv : RS w v bl) (hl : bl.length ≤ 10000000000) (hs : ∀ s ∈ bl, s.size ≤ maxLen) :
    Calls Tryz.prog 91 #[v] w fun e w' => ∃ v', e = .returned v' ∧ O1 (Value.int .i64) w.heap.size 3 w' v' (lvs bl) ∧ Below w.heap.size w w' := by
  have HS := Lib.hid hs; clear hs
  have HV := Lib.hid hv
  obtain ⟨A, c, rfl, h1, h2, h3⟩ := hv
  clear h3
  go_enter Tryz.func91, Tryz.ntmps91
  go_wp2
  go_loopw [3, 4] (fun out i wr => ∃ k : Nat, k ≤ bl.length ∧ i = .int .i64 k ∧ O1 (Value.int .i64) w.heap.size 3 wr out (lvs (bl.take k)) ∧ Below w.heap.size w wr) (fun _ i _ => bl.length - (intOf i).toNat)
  case atStart => exact ⟨0, Nat.zero_le _, rfl, O1.made _ _ _, (Below.refl _ _).alloc (Nat.le_refl _) _⟩
  case round =>
    obtain ⟨k, hk, rfl, hown, hb⟩ := hrel
    by_cases hlt : k < bl.length
    · obtain ⟨A', c', hA, _, _, hc⟩ := HV.out.below hb
      cases hA
      obtain ⟨b, o, rfl, hbs, hc⟩ := hc (by omega)
      have hcell := hc k hlt
      have hsz := HS.out _ (List.getElem_mem hlt)
      have HT : Hid (lvs (bl.take (k + 1)) = lvs (bl.take k) ++ [textD bl[k].data.toList]) := Lib.hid (by rw [take_snocI hlt]; unfold lvs; rw [List.map_append]; rfl)
      have hlk : (lvs (bl.take k)).length = k := by simp [lvs]; omega
      have HLK := Lib.hid hlk
      clear hc hlk
      generalize bl[k] = s at *
      go_wp2_with (first
        | (go_at_call 93; refine (l1Text_any s _ hsz).mono ?_; rintro e w' ⟨rfl, rfl⟩)
        | (at_builtin; refine app_int hown (by rw [HLK.out]; omega) hb.size rfl rfl rfl rfl ?_; intro v3 w3 hown3 hb3))
      go_roundw
      case rel => exact ⟨k + 1, by omega, by go_num, by rw [HT.out]; exact hown3, hb.trans hb3⟩
      case measure => simp [intOf]; omega
    · go_wp2
      go_ret
      exact ⟨_, rfl, by rw [List.take_of_length_le (by omega)] at hown; exact hown, hb⟩
theorem l11Whole_any (P0 : Int) (h : Hd) (vb vh : Value) (hv : List Bool) (w : World) (hh : RB w vh hv) :
    Calls Tryz.prog 41 #[.agg #[.int .i64 P0, .int .i64 h.len, .int .i64 h.dg, .int .i64 h.sg, vb, vh]] w fun e w' => e = .returned (.bool (cnt hv == hv.length)) ∧ Below w.heap.size w w' := by
  have HH := Lib.hid hh
  obtain ⟨A, c, rfl, h1, h2, h3⟩ := hh
  clear h3
  go_enter Tryz.func41, Tryz.ntmps41
  go_wp2
  have c5 : (w.alloc (.cells #[.int .i64 P0, .int .i64 h.len, .int .i64 h.dg, .int .i64 h.sg, vb, .slice A hv.length c] 59)).cell? ⟨w.heap.size, 5, none⟩ = some (.slice A hv.length c) := cell_of_row _ _ 5 _ _ _ (heap_alloc_new w _)
  have hW : w.heap.size < (w.alloc (.cells #[.int .i64 P0, .int .i64 h.len, .int .i64 h.dg, .int .i64 h.sg, vb, .slice A hv.length c] 59)).heap.size := by simp
  have hbW := (Below.refl w.heap.size w).alloc (Nat.le_refl _) (.cells #[.int .i64 P0, .int .i64 h.len, .int .i64 h.dg, .int .i64 h.sg, vb, .slice A hv.length c] 59)
  have HR := Lib.hid (HH.out.below hbW)
  generalize w.alloc (.cells #[.int .i64 P0, .int .i64 h.len, .int .i64 h.dg, .int .i64 h.sg, vb, .slice A hv.length c] 59) = W at *
  have hup := up_cell W
  refine wp_region_up (by kernel_rfl) (by kernel_rfl) ?_
  repeat (go_big_quiet_step ((go_at_call 92; exact up_same (l4Count_any _ _ _ (HR.out.up _)))))
  refine wpQuiet_nil ?_
  intro w1 hw1
  have hb1 := of_up hw1
  clear hw1 hup
  go_wp2
  go_ret
  refine ⟨retb ?_, hbW.trans (hb1.mono (by omega))⟩
  rw [Bool.eq_iff_iff]; simp; omega
theorem whole_any (P0 : Int) (h : Hd) (vb vh : Value) (hv : List Bool) (w : World) (hh : RB w vh hv) :
    Calls Tryz.prog 52 #[.agg #[.int .i64 P0, .int .i64 h.len, .int .i64 h.dg, .int .i64 h.sg, vb, vh]] w fun e w' => e = .returned (.bool (wholeB hv)) ∧ Below w.heap.size w w' := by
  have HH := Lib.hid hh
  obtain ⟨A, c, rfl, h1, h2, h3⟩ := hh
  clear h3
  go_enter Tryz.func52, Tryz.ntmps52
  go_wp2
  have c5 : (w.alloc (.cells #[.int .i64 P0, .int .i64 h.len, .int .i64 h.dg, .int .i64 h.sg, vb, .slice A hv.length c] 59)).cell? ⟨w.heap.size, 5, none⟩ = some (.slice A hv.length c) := cell_of_row _ _ 5 _ _ _ (heap_alloc_new w _)
  have hW : w.heap.size < (w.alloc (.cells #[.int .i64 P0, .int .i64 h.len, .int .i64 h.dg, .int .i64 h.sg, vb, .slice A hv.length c] 59)).heap.size := by simp
  have hbW := (Below.refl w.heap.size w).alloc (Nat.le_refl _) (.cells #[.int .i64 P0, .int .i64 h.len, .int .i64 h.dg, .int .i64 h.sg, vb, .slice A hv.length c] 59)
  have HR := Lib.hid (HH.out.below hbW)
  generalize w.alloc (.cells #[.int .i64 P0, .int .i64 h.len, .int .i64 h.dg, .int .i64 h.sg, vb, .slice A hv.length c] 59) = W at *
  have hup := up_cell W
  refine wp_region_up (by kernel_rfl) (by kernel_rfl) ?_
  repeat (go_big_quiet_step ((go_at_call 33; exact up_same (BitsCount_any _ _ _ (HR.out.up _)))))
  refine wpQuiet_nil ?_
  intro w1 hw1
  have hb1 := of_up hw1
  clear hw1 hup
  go_wp2
  go_ret
  exact ⟨rfl, hbW.trans (hb1.mono (by omega))⟩
theorem leaves_any (P0 : Int) (h : Hd) (vb vh : Value) (bl : List ByteArray) (w : World) (hv : RS w vb bl) (hl : bl.length ≤ 10000000000) (hs : ∀ s ∈ bl, s.size ≤ 8) :
    Calls Tryz.prog 110 #[.agg #[.int .i64 P0, .int .i64 h.len, .int .i64 h.dg, .int .i64 h.sg, vb, vh]] w fun e w' => ∃ v', e = .returned v' ∧ O1 (Value.int .i64) w.heap.size 3 w' v' (lvs bl) ∧ Below w.heap.size w w' := by
  have HS := Lib.hid hs; clear hs
  have HV := Lib.hid hv
  obtain ⟨A, c, rfl, h1, h2, h3⟩ := hv
  clear h3
  have hmk : ∀ o : Obj, O1 (Value.int .i64) w.heap.size 3 ((w.alloc o).alloc (.cells #[] 3)) (.slice (some ⟨w.heap.size + 1, 0, none⟩) 0 0) [] := fun o => by
    have h := O1.mono (B' := w.heap.size) (O1.made (Value.int .i64) (w.alloc o) 3) (by simp)
    simpa using h
  have HMK := Lib.hid hmk
  clear hmk
  go_enter Tryz.func110, Tryz.ntmps110
  go_wp2
  go_loopw [3, 10] (fun out i wr => ∃ k : Nat, k ≤ bl.length ∧ i = .int .i64 k ∧ O1 (Value.int .i64) w.heap.size 3 wr out (lvs (bl.take k)) ∧ Below w.heap.size w wr) (fun _ i _ => bl.length - (intOf i).toNat)
  case atStart => exact ⟨0, Nat.zero_le _, rfl, HMK.out _, ((Below.refl _ _).alloc (Nat.le_refl _) _).alloc (by simp) _⟩
  case round =>
    obtain ⟨k, hk, rfl, hown, hb⟩ := hrel
    by_cases hlt : k < bl.length
    · obtain ⟨A', c', hA, _, _, hc⟩ := HV.out.below hb
      cases hA
      obtain ⟨b, o, rfl, hbs, hc⟩ := hc (by omega)
      have hcell := hc k hlt
      have hsz := HS.out _ (List.getElem_mem hlt)
      have HT : Hid (lvs (bl.take (k + 1)) = lvs (bl.take k) ++ [textD bl[k].data.toList]) := Lib.hid (by rw [take_snocI hlt]; unfold lvs; rw [List.map_append]; rfl)
      have hlk : (lvs (bl.take k)).length = k := by simp [lvs]; omega
      have HLK := Lib.hid hlk
      clear hc hlk
      generalize bl[k] = s at *
      go_wp2_with (first
        | (go_at_call 76; refine (DigestText_ok s _ hsz).mono ?_; rintro e w' ⟨rfl, rfl⟩)
        | (at_builtin; refine app_int hown (by rw [HLK.out]; omega) hb.size rfl rfl rfl rfl ?_; intro v3 w3 hown3 hb3))
      go_roundw
      case rel => exact ⟨k + 1, by omega, by go_num, by rw [HT.out]; exact hown3, hb.trans hb3⟩
      case measure => simp [intOf]; omega
    · go_wp2
      go_ret
      exact ⟨_, rfl, by rw [List.take_of_length_le (by omega)] at hown; exact hown, hb⟩
end Go.Proofs.YtcplnfmcefkehaaGreat
