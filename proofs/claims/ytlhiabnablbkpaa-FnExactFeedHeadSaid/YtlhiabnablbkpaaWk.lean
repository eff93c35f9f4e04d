/- Walks: messages, signed heads, bits, leaves of a feed. -/
import Derived.Test.YtlhiabnablbkpaaWj
namespace Go.Proofs.Ytlhiabnablbkpaa
open Go.RowKit

theorem message_any (a b c : Int) (w : World) (ha : dig a = true) (hb : dig b = true) :
    Calls Try.prog 132 #[.agg #[.int .i64 a, .int .i64 b, .int .i64 c]] w fun e w' => e = .returned (.int .i64 (pair a b + 1)) ∧ Below w.heap.size w w' := by
  have ⟨hp0, hp1⟩ := pair_bd a b
  have HA := Lib.hid ha
  have HB := Lib.hid hb
  clear ha hb
  go_enter Try.func132, Try.ntmps132
  go_wp2_with (go_at_call 91; refine (DigestPair_any _ _ _ HA.out HB.out).mono ?_; rintro e w' ⟨rfl, rfl⟩)
  go_ret; exact ⟨rfl, (Below.refl _ _).alloc (Nat.le_refl _) _⟩

theorem isKey_b {n : Int} {b : Bool} (h : Hid (key n = b)) (w : World) : Calls Try.prog 124 #[.int .i64 n] w fun e w' => e = .returned (.bool b) ∧ w = w' := by
  rw [← h.out]; exact isKey_any n w
theorem l3Key_b {n : Int} {b : Bool} (h : Hid (key n = b)) (w : World) : Calls Try.prog 99 #[.int .i64 n] w fun e w' => e = .returned (.bool b) ∧ w = w' := by
  rw [← h.out]; exact l3Key_any n w
theorem within_b {n x y : Int} {b : Bool} (h : Hid (inB n x y = b)) (w : World) : Calls Try.prog 72 #[.int .i64 n, .int .i64 x, .int .i64 y] w fun e w' => e = .returned (.bool b) ∧ w = w' := by
  rw [← h.out]; exact within_any n x y w
theorem l6In_b {n x y : Int} {b : Bool} (h : Hid (inB n x y = b)) (w : World) : Calls Try.prog 66 #[.int .i64 n, .int .i64 x, .int .i64 y] w fun e w' => e = .returned (.bool b) ∧ w = w' := by
  rw [← h.out]; exact l6In_any n x y w
theorem isDigest_b {n : Int} {b : Bool} (h : Hid (dig n = b)) (w : World) : Calls Try.prog 87 #[.int .i64 n] w fun e w' => e = .returned (.bool b) ∧ w = w' := by
  rw [← h.out]; exact isDigest_any n w
theorem l1Digest_b {n : Int} {b : Bool} (h : Hid (dig n = b)) (w : World) : Calls Try.prog 130 #[.int .i64 n] w fun e w' => e = .returned (.bool b) ∧ w = w' := by
  rw [← h.out]; exact l1Digest_any n w
theorem message_b {a b c m : Int} (h : Hid (pair a b + 1 = m)) (w : World) (ha : dig a = true) (hb : dig b = true) :
    Calls Try.prog 132 #[.agg #[.int .i64 a, .int .i64 b, .int .i64 c]] w fun e w' => e = .returned (.int .i64 m) ∧ Below w.heap.size w w' := by
  rw [← h.out]; exact message_any a b c w ha hb
theorem l3Message_b {a b m : Int} (h : Hid (pair a b + 1 = m)) (w : World) (ha : dig a = true) (hb : dig b = true) :
    Calls Try.prog 131 #[.int .i64 a, .int .i64 b] w fun e w' => e = .returned (.int .i64 m) ∧ w = w' := by
  rw [← h.out]; exact l3Message_any a b w ha hb

set_option maxHeartbeats 1600000 in
theorem HeadCheck_i (p : Int) (h : Hd) (w : World) :
    Calls Try.prog 57 #[.int .i64 p, .agg #[.int .i64 h.len, .int .i64 h.dg, .int .i64 h.sg]] w fun e w' => e = .returned (.bool (hcheck p h)) ∧ Below w.heap.size w w' := by
  obtain ⟨L, D, S⟩ := h
  have hcases : ∃ b1 b2 b3 b4 : Bool, Hid (key p = b1) ∧ Hid (inB L 0 16 = b2) ∧ Hid (dig D = b3) ∧ Hid (key S = b4) := ⟨_, _, _, _, Lib.hid rfl, Lib.hid rfl, Lib.hid rfl, Lib.hid rfl⟩
  obtain ⟨b1, b2, b3, b4, H1, H2, H3, H4⟩ := hcases
  obtain ⟨m, HM⟩ : ∃ m, Hid (pair L D + 1 = m) := ⟨_, Lib.hid rfl⟩
  have HR : Hid (hcheck p ⟨L, D, S⟩ = (b1 && b2 && b3 && b4 && (S * 5 % 997 == p * m % 997))) := Lib.hid (by unfold hcheck; simp only [H1.out, H2.out, H3.out, H4.out, HM.out])
  have ⟨hp0, hp1⟩ := pair_bd L D
  have hm2 : 1 ≤ m := by rw [← HM.out]; omega
  have hm3 : m ≤ 991 := by rw [← HM.out]; omega
  clear hp0 hp1
  simp only
  by_cases hall : b1 = true ∧ b2 = true ∧ b3 = true ∧ b4 = true
  · obtain ⟨rfl, rfl, rfl, rfl⟩ := hall
    have k1 := key_true.1 H1.out
    have k2 := inB_true.1 H2.out
    have k4 := key_true.1 H4.out
    have hdL : dig L = true := dig_true.2 (by omega)
    have HDL := Lib.hid hdL
    clear hdL
    have hm0 : 0 ≤ p * m := Int.mul_nonneg (by omega) (by omega)
    have hm1 : p * m ≤ 996 * 991 := Int.mul_le_mul (by omega) (by omega) (by omega) (by omega)
    go_enter Try.func57, Try.ntmps57
    go_wp2
    have c0 : (w.alloc (.cells #[.int .i64 L, .int .i64 D, .int .i64 S] 32)).cell? ⟨w.heap.size, 0, none⟩ = some (.int .i64 L) := cell_of_row _ _ 0 _ _ _ (heap_alloc_new w _)
    have c1 : (w.alloc (.cells #[.int .i64 L, .int .i64 D, .int .i64 S] 32)).cell? ⟨w.heap.size, 1, none⟩ = some (.int .i64 D) := cell_of_row _ _ 1 _ _ _ (heap_alloc_new w _)
    have c2 : (w.alloc (.cells #[.int .i64 L, .int .i64 D, .int .i64 S] 32)).cell? ⟨w.heap.size, 2, none⟩ = some (.int .i64 S) := cell_of_row _ _ 2 _ _ _ (heap_alloc_new w _)
    have hW : w.heap.size < (w.alloc (.cells #[.int .i64 L, .int .i64 D, .int .i64 S] 32)).heap.size := by simp
    have hbW := (Below.refl w.heap.size w).alloc (Nat.le_refl _) (.cells #[.int .i64 L, .int .i64 D, .int .i64 S] 32)
    generalize w.alloc (.cells #[.int .i64 L, .int .i64 D, .int .i64 S] 32) = W at *
    have hup := up_cell W
    refine wp_region_up (by kernel_rfl) (by kernel_rfl) ?_
    repeat (go_big_quiet_step (first
      | (go_at_call_of 124 p; exact up_same (isKey_b H1 _))
      | (go_at_call 124; exact up_same (isKey_b H4 _))
      | (go_at_call 72; exact up_same (within_b H2 _))
      | (go_at_call 87; exact up_same (isDigest_b H3 _))
      | (go_at_call 132; exact up_call (message_b HM _ HDL.out H3.out))))
    refine wpQuiet_nil ?_
    intro w1 hw1
    have hb1 := of_up hw1
    clear hw1 hup
    go_wp2
    go_ret
    refine ⟨retb ?_, hbW.trans (hb1.mono (by omega))⟩
    rw [HR.out]
    simp
  have hlt : (b1 && b2 && b3 && b4) = false := by
    cases b1 <;> cases b2 <;> cases b3 <;> cases b4 <;> simp_all
  have HRF : Hid (hcheck p ⟨L, D, S⟩ = false) := Lib.hid (by rw [HR.out, hlt]; rfl)
  have HALL := Lib.hid hall
  clear hlt hall HR
  have HR := HRF
  clear HRF
  have HDL : Hid True := Lib.hid trivial
  cases b1
  · skip
    go_enter Try.func57, Try.ntmps57
    go_wp2
    have c0 : (w.alloc (.cells #[.int .i64 L, .int .i64 D, .int .i64 S] 32)).cell? ⟨w.heap.size, 0, none⟩ = some (.int .i64 L) := cell_of_row _ _ 0 _ _ _ (heap_alloc_new w _)
    have c1 : (w.alloc (.cells #[.int .i64 L, .int .i64 D, .int .i64 S] 32)).cell? ⟨w.heap.size, 1, none⟩ = some (.int .i64 D) := cell_of_row _ _ 1 _ _ _ (heap_alloc_new w _)
    have c2 : (w.alloc (.cells #[.int .i64 L, .int .i64 D, .int .i64 S] 32)).cell? ⟨w.heap.size, 2, none⟩ = some (.int .i64 S) := cell_of_row _ _ 2 _ _ _ (heap_alloc_new w _)
    have hW : w.heap.size < (w.alloc (.cells #[.int .i64 L, .int .i64 D, .int .i64 S] 32)).heap.size := by simp
    have hbW := (Below.refl w.heap.size w).alloc (Nat.le_refl _) (.cells #[.int .i64 L, .int .i64 D, .int .i64 S] 32)
    generalize w.alloc (.cells #[.int .i64 L, .int .i64 D, .int .i64 S] 32) = W at *
    have hup := up_cell W
    refine wp_region_up (by kernel_rfl) (by kernel_rfl) ?_
    repeat (go_big_quiet_step (first
      | (go_at_call_of 124 p; exact up_same (isKey_b H1 _))
      | (go_at_call 124; exact up_same (isKey_b H4 _))
      | (go_at_call 72; exact up_same (within_b H2 _))
      | (go_at_call 87; exact up_same (isDigest_b H3 _))
      | (go_at_call 132; exact up_call (message_b HM _ HDL.out H3.out))))
    refine wpQuiet_nil ?_
    intro w1 hw1
    have hb1 := of_up hw1
    clear hw1 hup
    go_wp2
    go_ret
    refine ⟨retb ?_, hbW.trans (hb1.mono (by omega))⟩
    rw [HR.out]
  cases b2
  · skip
    go_enter Try.func57, Try.ntmps57
    go_wp2
    have c0 : (w.alloc (.cells #[.int .i64 L, .int .i64 D, .int .i64 S] 32)).cell? ⟨w.heap.size, 0, none⟩ = some (.int .i64 L) := cell_of_row _ _ 0 _ _ _ (heap_alloc_new w _)
    have c1 : (w.alloc (.cells #[.int .i64 L, .int .i64 D, .int .i64 S] 32)).cell? ⟨w.heap.size, 1, none⟩ = some (.int .i64 D) := cell_of_row _ _ 1 _ _ _ (heap_alloc_new w _)
    have c2 : (w.alloc (.cells #[.int .i64 L, .int .i64 D, .int .i64 S] 32)).cell? ⟨w.heap.size, 2, none⟩ = some (.int .i64 S) := cell_of_row _ _ 2 _ _ _ (heap_alloc_new w _)
    have hW : w.heap.size < (w.alloc (.cells #[.int .i64 L, .int .i64 D, .int .i64 S] 32)).heap.size := by simp
    have hbW := (Below.refl w.heap.size w).alloc (Nat.le_refl _) (.cells #[.int .i64 L, .int .i64 D, .int .i64 S] 32)
    generalize w.alloc (.cells #[.int .i64 L, .int .i64 D, .int .i64 S] 32) = W at *
    have hup := up_cell W
    refine wp_region_up (by kernel_rfl) (by kernel_rfl) ?_
    repeat (go_big_quiet_step (first
      | (go_at_call_of 124 p; exact up_same (isKey_b H1 _))
      | (go_at_call 124; exact up_same (isKey_b H4 _))
      | (go_at_call 72; exact up_same (within_b H2 _))
      | (go_at_call 87; exact up_same (isDigest_b H3 _))
      | (go_at_call 132; exact up_call (message_b HM _ HDL.out H3.out))))
    refine wpQuiet_nil ?_
    intro w1 hw1
    have hb1 := of_up hw1
    clear hw1 hup
    go_wp2
    go_ret
    refine ⟨retb ?_, hbW.trans (hb1.mono (by omega))⟩
    rw [HR.out]
  cases b3
  · skip
    go_enter Try.func57, Try.ntmps57
    go_wp2
    have c0 : (w.alloc (.cells #[.int .i64 L, .int .i64 D, .int .i64 S] 32)).cell? ⟨w.heap.size, 0, none⟩ = some (.int .i64 L) := cell_of_row _ _ 0 _ _ _ (heap_alloc_new w _)
    have c1 : (w.alloc (.cells #[.int .i64 L, .int .i64 D, .int .i64 S] 32)).cell? ⟨w.heap.size, 1, none⟩ = some (.int .i64 D) := cell_of_row _ _ 1 _ _ _ (heap_alloc_new w _)
    have c2 : (w.alloc (.cells #[.int .i64 L, .int .i64 D, .int .i64 S] 32)).cell? ⟨w.heap.size, 2, none⟩ = some (.int .i64 S) := cell_of_row _ _ 2 _ _ _ (heap_alloc_new w _)
    have hW : w.heap.size < (w.alloc (.cells #[.int .i64 L, .int .i64 D, .int .i64 S] 32)).heap.size := by simp
    have hbW := (Below.refl w.heap.size w).alloc (Nat.le_refl _) (.cells #[.int .i64 L, .int .i64 D, .int .i64 S] 32)
    generalize w.alloc (.cells #[.int .i64 L, .int .i64 D, .int .i64 S] 32) = W at *
    have hup := up_cell W
    refine wp_region_up (by kernel_rfl) (by kernel_rfl) ?_
    repeat (go_big_quiet_step (first
      | (go_at_call_of 124 p; exact up_same (isKey_b H1 _))
      | (go_at_call 124; exact up_same (isKey_b H4 _))
      | (go_at_call 72; exact up_same (within_b H2 _))
      | (go_at_call 87; exact up_same (isDigest_b H3 _))
      | (go_at_call 132; exact up_call (message_b HM _ HDL.out H3.out))))
    refine wpQuiet_nil ?_
    intro w1 hw1
    have hb1 := of_up hw1
    clear hw1 hup
    go_wp2
    go_ret
    refine ⟨retb ?_, hbW.trans (hb1.mono (by omega))⟩
    rw [HR.out]
  cases b4
  · skip
    go_enter Try.func57, Try.ntmps57
    go_wp2
    have c0 : (w.alloc (.cells #[.int .i64 L, .int .i64 D, .int .i64 S] 32)).cell? ⟨w.heap.size, 0, none⟩ = some (.int .i64 L) := cell_of_row _ _ 0 _ _ _ (heap_alloc_new w _)
    have c1 : (w.alloc (.cells #[.int .i64 L, .int .i64 D, .int .i64 S] 32)).cell? ⟨w.heap.size, 1, none⟩ = some (.int .i64 D) := cell_of_row _ _ 1 _ _ _ (heap_alloc_new w _)
    have c2 : (w.alloc (.cells #[.int .i64 L, .int .i64 D, .int .i64 S] 32)).cell? ⟨w.heap.size, 2, none⟩ = some (.int .i64 S) := cell_of_row _ _ 2 _ _ _ (heap_alloc_new w _)
    have hW : w.heap.size < (w.alloc (.cells #[.int .i64 L, .int .i64 D, .int .i64 S] 32)).heap.size := by simp
    have hbW := (Below.refl w.heap.size w).alloc (Nat.le_refl _) (.cells #[.int .i64 L, .int .i64 D, .int .i64 S] 32)
    generalize w.alloc (.cells #[.int .i64 L, .int .i64 D, .int .i64 S] 32) = W at *
    have hup := up_cell W
    refine wp_region_up (by kernel_rfl) (by kernel_rfl) ?_
    repeat (go_big_quiet_step (first
      | (go_at_call_of 124 p; exact up_same (isKey_b H1 _))
      | (go_at_call 124; exact up_same (isKey_b H4 _))
      | (go_at_call 72; exact up_same (within_b H2 _))
      | (go_at_call 87; exact up_same (isDigest_b H3 _))
      | (go_at_call 132; exact up_call (message_b HM _ HDL.out H3.out))))
    refine wpQuiet_nil ?_
    intro w1 hw1
    have hb1 := of_up hw1
    clear hw1 hup
    go_wp2
    go_ret
    refine ⟨retb ?_, hbW.trans (hb1.mono (by omega))⟩
    rw [HR.out]
  · exact absurd ⟨rfl, rfl, rfl, rfl⟩ HALL.out

set_option maxHeartbeats 1600000 in
theorem HeadCheck_s (p : Int) (h : Hd) (w : World) :
    Calls Try.prog 56 #[.int .i64 p, .agg #[.int .i64 h.len, .int .i64 h.dg, .int .i64 h.sg]] w fun e w' => e = .returned (.bool (hcheck p h)) ∧ Below w.heap.size w w' := by
  obtain ⟨L, D, S⟩ := h
  have hcases : ∃ b1 b2 b3 b4 : Bool, Hid (key p = b1) ∧ Hid (inB L 0 16 = b2) ∧ Hid (dig D = b3) ∧ Hid (key S = b4) := ⟨_, _, _, _, Lib.hid rfl, Lib.hid rfl, Lib.hid rfl, Lib.hid rfl⟩
  obtain ⟨b1, b2, b3, b4, H1, H2, H3, H4⟩ := hcases
  obtain ⟨m, HM⟩ : ∃ m, Hid (pair L D + 1 = m) := ⟨_, Lib.hid rfl⟩
  have HR : Hid (hcheck p ⟨L, D, S⟩ = (b1 && b2 && b3 && b4 && (S * 5 % 997 == p * m % 997))) := Lib.hid (by unfold hcheck; simp only [H1.out, H2.out, H3.out, H4.out, HM.out])
  have ⟨hp0, hp1⟩ := pair_bd L D
  have hm2 : 1 ≤ m := by rw [← HM.out]; omega
  have hm3 : m ≤ 991 := by rw [← HM.out]; omega
  clear hp0 hp1
  simp only
  by_cases hall : b1 = true ∧ b2 = true ∧ b3 = true ∧ b4 = true
  · obtain ⟨rfl, rfl, rfl, rfl⟩ := hall
    have k1 := key_true.1 H1.out
    have k2 := inB_true.1 H2.out
    have k4 := key_true.1 H4.out
    have hdL : dig L = true := dig_true.2 (by omega)
    have HDL := Lib.hid hdL
    clear hdL
    have hm0 : 0 ≤ p * m := Int.mul_nonneg (by omega) (by omega)
    have hm1 : p * m ≤ 996 * 991 := Int.mul_le_mul (by omega) (by omega) (by omega) (by omega)
    go_enter Try.func56, Try.ntmps56
    go_wp2
    have c0 : (w.alloc (.cells #[.int .i64 L, .int .i64 D, .int .i64 S] 32)).cell? ⟨w.heap.size, 0, none⟩ = some (.int .i64 L) := cell_of_row _ _ 0 _ _ _ (heap_alloc_new w _)
    have c1 : (w.alloc (.cells #[.int .i64 L, .int .i64 D, .int .i64 S] 32)).cell? ⟨w.heap.size, 1, none⟩ = some (.int .i64 D) := cell_of_row _ _ 1 _ _ _ (heap_alloc_new w _)
    have c2 : (w.alloc (.cells #[.int .i64 L, .int .i64 D, .int .i64 S] 32)).cell? ⟨w.heap.size, 2, none⟩ = some (.int .i64 S) := cell_of_row _ _ 2 _ _ _ (heap_alloc_new w _)
    have hW : w.heap.size < (w.alloc (.cells #[.int .i64 L, .int .i64 D, .int .i64 S] 32)).heap.size := by simp
    have hbW := (Below.refl w.heap.size w).alloc (Nat.le_refl _) (.cells #[.int .i64 L, .int .i64 D, .int .i64 S] 32)
    generalize w.alloc (.cells #[.int .i64 L, .int .i64 D, .int .i64 S] 32) = W at *
    have hup := up_cell W
    refine wp_region_up (by kernel_rfl) (by kernel_rfl) ?_
    repeat (go_big_quiet_step (first
      | (go_at_call_of 99 p; exact up_same (l3Key_b H1 _))
      | (go_at_call 99; exact up_same (l3Key_b H4 _))
      | (go_at_call 66; exact up_same (l6In_b H2 _))
      | (go_at_call 130; exact up_same (l1Digest_b H3 _))
      | (go_at_call 131; exact up_same (l3Message_b HM _ HDL.out H3.out))))
    refine wpQuiet_nil ?_
    intro w1 hw1
    have hb1 := of_up hw1
    clear hw1 hup
    go_wp2
    go_ret
    refine ⟨retb ?_, hbW.trans (hb1.mono (by omega))⟩
    rw [HR.out]
    simp
  have hlt : (b1 && b2 && b3 && b4) = false := by
    cases b1 <;> cases b2 <;> cases b3 <;> cases b4 <;> simp_all
  have HRF : Hid (hcheck p ⟨L, D, S⟩ = false) := Lib.hid (by rw [HR.out, hlt]; rfl)
  have HALL := Lib.hid hall
  clear hlt hall HR
  have HR := HRF
  clear HRF
  have HDL : Hid True := Lib.hid trivial
  cases b1
  · skip
    go_enter Try.func56, Try.ntmps56
    go_wp2
    have c0 : (w.alloc (.cells #[.int .i64 L, .int .i64 D, .int .i64 S] 32)).cell? ⟨w.heap.size, 0, none⟩ = some (.int .i64 L) := cell_of_row _ _ 0 _ _ _ (heap_alloc_new w _)
    have c1 : (w.alloc (.cells #[.int .i64 L, .int .i64 D, .int .i64 S] 32)).cell? ⟨w.heap.size, 1, none⟩ = some (.int .i64 D) := cell_of_row _ _ 1 _ _ _ (heap_alloc_new w _)
    have c2 : (w.alloc (.cells #[.int .i64 L, .int .i64 D, .int .i64 S] 32)).cell? ⟨w.heap.size, 2, none⟩ = some (.int .i64 S) := cell_of_row _ _ 2 _ _ _ (heap_alloc_new w _)
    have hW : w.heap.size < (w.alloc (.cells #[.int .i64 L, .int .i64 D, .int .i64 S] 32)).heap.size := by simp
    have hbW := (Below.refl w.heap.size w).alloc (Nat.le_refl _) (.cells #[.int .i64 L, .int .i64 D, .int .i64 S] 32)
    generalize w.alloc (.cells #[.int .i64 L, .int .i64 D, .int .i64 S] 32) = W at *
    have hup := up_cell W
    refine wp_region_up (by kernel_rfl) (by kernel_rfl) ?_
    repeat (go_big_quiet_step (first
      | (go_at_call_of 99 p; exact up_same (l3Key_b H1 _))
      | (go_at_call 99; exact up_same (l3Key_b H4 _))
      | (go_at_call 66; exact up_same (l6In_b H2 _))
      | (go_at_call 130; exact up_same (l1Digest_b H3 _))
      | (go_at_call 131; exact up_same (l3Message_b HM _ HDL.out H3.out))))
    refine wpQuiet_nil ?_
    intro w1 hw1
    have hb1 := of_up hw1
    clear hw1 hup
    go_wp2
    go_ret
    refine ⟨retb ?_, hbW.trans (hb1.mono (by omega))⟩
    rw [HR.out]
  cases b2
  · skip
    go_enter Try.func56, Try.ntmps56
    go_wp2
    have c0 : (w.alloc (.cells #[.int .i64 L, .int .i64 D, .int .i64 S] 32)).cell? ⟨w.heap.size, 0, none⟩ = some (.int .i64 L) := cell_of_row _ _ 0 _ _ _ (heap_alloc_new w _)
    have c1 : (w.alloc (.cells #[.int .i64 L, .int .i64 D, .int .i64 S] 32)).cell? ⟨w.heap.size, 1, none⟩ = some (.int .i64 D) := cell_of_row _ _ 1 _ _ _ (heap_alloc_new w _)
    have c2 : (w.alloc (.cells #[.int .i64 L, .int .i64 D, .int .i64 S] 32)).cell? ⟨w.heap.size, 2, none⟩ = some (.int .i64 S) := cell_of_row _ _ 2 _ _ _ (heap_alloc_new w _)
    have hW : w.heap.size < (w.alloc (.cells #[.int .i64 L, .int .i64 D, .int .i64 S] 32)).heap.size := by simp
    have hbW := (Below.refl w.heap.size w).alloc (Nat.le_refl _) (.cells #[.int .i64 L, .int .i64 D, .int .i64 S] 32)
    generalize w.alloc (.cells #[.int .i64 L, .int .i64 D, .int .i64 S] 32) = W at *
    have hup := up_cell W
    refine wp_region_up (by kernel_rfl) (by kernel_rfl) ?_
    repeat (go_big_quiet_step (first
      | (go_at_call_of 99 p; exact up_same (l3Key_b H1 _))
      | (go_at_call 99; exact up_same (l3Key_b H4 _))
      | (go_at_call 66; exact up_same (l6In_b H2 _))
      | (go_at_call 130; exact up_same (l1Digest_b H3 _))
      | (go_at_call 131; exact up_same (l3Message_b HM _ HDL.out H3.out))))
    refine wpQuiet_nil ?_
    intro w1 hw1
    have hb1 := of_up hw1
    clear hw1 hup
    go_wp2
    go_ret
    refine ⟨retb ?_, hbW.trans (hb1.mono (by omega))⟩
    rw [HR.out]
  cases b3
  · skip
    go_enter Try.func56, Try.ntmps56
    go_wp2
    have c0 : (w.alloc (.cells #[.int .i64 L, .int .i64 D, .int .i64 S] 32)).cell? ⟨w.heap.size, 0, none⟩ = some (.int .i64 L) := cell_of_row _ _ 0 _ _ _ (heap_alloc_new w _)
    have c1 : (w.alloc (.cells #[.int .i64 L, .int .i64 D, .int .i64 S] 32)).cell? ⟨w.heap.size, 1, none⟩ = some (.int .i64 D) := cell_of_row _ _ 1 _ _ _ (heap_alloc_new w _)
    have c2 : (w.alloc (.cells #[.int .i64 L, .int .i64 D, .int .i64 S] 32)).cell? ⟨w.heap.size, 2, none⟩ = some (.int .i64 S) := cell_of_row _ _ 2 _ _ _ (heap_alloc_new w _)
    have hW : w.heap.size < (w.alloc (.cells #[.int .i64 L, .int .i64 D, .int .i64 S] 32)).heap.size := by simp
    have hbW := (Below.refl w.heap.size w).alloc (Nat.le_refl _) (.cells #[.int .i64 L, .int .i64 D, .int .i64 S] 32)
    generalize w.alloc (.cells #[.int .i64 L, .int .i64 D, .int .i64 S] 32) = W at *
    have hup := up_cell W
    refine wp_region_up (by kernel_rfl) (by kernel_rfl) ?_
    repeat (go_big_quiet_step (first
      | (go_at_call_of 99 p; exact up_same (l3Key_b H1 _))
      | (go_at_call 99; exact up_same (l3Key_b H4 _))
      | (go_at_call 66; exact up_same (l6In_b H2 _))
      | (go_at_call 130; exact up_same (l1Digest_b H3 _))
      | (go_at_call 131; exact up_same (l3Message_b HM _ HDL.out H3.out))))
    refine wpQuiet_nil ?_
    intro w1 hw1
    have hb1 := of_up hw1
    clear hw1 hup
    go_wp2
    go_ret
    refine ⟨retb ?_, hbW.trans (hb1.mono (by omega))⟩
    rw [HR.out]
  cases b4
  · skip
    go_enter Try.func56, Try.ntmps56
    go_wp2
    have c0 : (w.alloc (.cells #[.int .i64 L, .int .i64 D, .int .i64 S] 32)).cell? ⟨w.heap.size, 0, none⟩ = some (.int .i64 L) := cell_of_row _ _ 0 _ _ _ (heap_alloc_new w _)
    have c1 : (w.alloc (.cells #[.int .i64 L, .int .i64 D, .int .i64 S] 32)).cell? ⟨w.heap.size, 1, none⟩ = some (.int .i64 D) := cell_of_row _ _ 1 _ _ _ (heap_alloc_new w _)
    have c2 : (w.alloc (.cells #[.int .i64 L, .int .i64 D, .int .i64 S] 32)).cell? ⟨w.heap.size, 2, none⟩ = some (.int .i64 S) := cell_of_row _ _ 2 _ _ _ (heap_alloc_new w _)
    have hW : w.heap.size < (w.alloc (.cells #[.int .i64 L, .int .i64 D, .int .i64 S] 32)).heap.size := by simp
    have hbW := (Below.refl w.heap.size w).alloc (Nat.le_refl _) (.cells #[.int .i64 L, .int .i64 D, .int .i64 S] 32)
    generalize w.alloc (.cells #[.int .i64 L, .int .i64 D, .int .i64 S] 32) = W at *
    have hup := up_cell W
    refine wp_region_up (by kernel_rfl) (by kernel_rfl) ?_
    repeat (go_big_quiet_step (first
      | (go_at_call_of 99 p; exact up_same (l3Key_b H1 _))
      | (go_at_call 99; exact up_same (l3Key_b H4 _))
      | (go_at_call 66; exact up_same (l6In_b H2 _))
      | (go_at_call 130; exact up_same (l1Digest_b H3 _))
      | (go_at_call 131; exact up_same (l3Message_b HM _ HDL.out H3.out))))
    refine wpQuiet_nil ?_
    intro w1 hw1
    have hb1 := of_up hw1
    clear hw1 hup
    go_wp2
    go_ret
    refine ⟨retb ?_, hbW.trans (hb1.mono (by omega))⟩
    rw [HR.out]
  · exact absurd ⟨rfl, rfl, rfl, rfl⟩ HALL.out
end Go.Proofs.Ytlhiabnablbkpaa
