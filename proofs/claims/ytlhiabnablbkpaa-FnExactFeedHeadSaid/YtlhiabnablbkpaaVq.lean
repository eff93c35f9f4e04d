/- Walks: what is held of a feed. -/
import Derived.Test.YtlhiabnablbkpaaWt
namespace Go.Proofs.Ytlhiabnablbkpaa
open Go.RowKit

theorem markText_b {k : Nat} {x : ByteArray} (h : Hid (mtx k = x)) (w : World) (hk : k ≤ 1000000000000) : Calls Try.prog 141 #[.int .i64 k] w fun e w' => e = .returned (.string x) ∧ Below w.heap.size w w' := by
  rw [← h.out]; exact markText_any k w hk
set_option maxHeartbeats 800000 in
theorem heldStringS_any (n : Nat) (v : Value) (k : Nat) (w : World) (hv : RS w v ((List.range n).map fun j => mtx (k + j))) (hl : n ≤ 2000000) (hk : k ≤ 1000000000) :
    Calls Try.prog 120 #[v, .int .i64 k] w (HeldPost k n w) := by
  have HV := Lib.hid hv
  obtain ⟨A, c, rfl, h1, h2, h3⟩ := hv
  simp only [List.length_map, List.length_range] at h1 HV ⊢
  clear h1 h2 h3
  go_enter Try.func120, Try.ntmps120
  go_wp2
  go_loopw [1, 5] (fun t i wr => ∃ j : Nat, j ≤ n ∧ i = .int .i64 j ∧ t = .int .i64 ((k + j : Nat) : Int) ∧ Below w.heap.size w wr) (fun _ i _ => n - (intOf i).toNat)
  case atStart => exact ⟨0, Nat.zero_le _, rfl, rfl, Below.refl _ _⟩
  case round =>
    obtain ⟨j, hj, rfl, rfl, hb⟩ := hrel
    by_cases hlt : j < n
    · have hlt' : (j : Int) < (n : Int) := by omega
      obtain ⟨A', c', hA, _, _, hc⟩ := HV.out.below hb
      simp only [List.length_map, List.length_range] at hA hc
      cases hA
      obtain ⟨b, o, rfl, hbs, hc⟩ := hc (by omega)
      have hcell : wr.cell? ⟨b, o + j, none⟩ = some (.string (mtx (k + j))) := by
        have := hc j hlt
        simpa using this
      clear hc
      obtain ⟨x, HX⟩ : ∃ x, Hid (mtx (k + j) = x) := ⟨_, Lib.hid rfl⟩
      rw [HX.out] at hcell
      obtain ⟨kj, HKJ⟩ : ∃ kj : Nat, Hid (k + j = kj) := ⟨_, Lib.hid rfl⟩
      rw [HKJ.out] at HX
      have hkj : kj ≤ 1000000000000 := by have := HKJ.out; omega
      simp only [HKJ.out]
      go_wp2_with fail
      have hup := up_cell wr
      refine wp_region_up (by kernel_rfl) (by kernel_rfl) ?_
      repeat (go_big_quiet_step ((go_at_call 141; exact up_call (markText_b HX _ hkj))))
      refine wpQuiet_nil ?_
      intro w1 hw1
      have hb1 := of_up hw1
      clear hw1 hup
      go_wp2
      go_roundw
      case rel => exact ⟨j + 1, by omega, by go_num, by have := HKJ.out; go_num, hb.trans (hb1.mono hb.size)⟩
      case measure => simp [intOf]; omega
    · have hlt' : ¬ (j : Int) < (n : Int) := by omega
      obtain rfl : j = n := by omega
      go_wp2
      go_ret
      exact ⟨rfl, hb⟩
theorem heldBoolS_any (n : Nat) (v : Value) (k : Nat) (w : World) (hv : RB w v ((List.range n).map fun j => ((k + j) % 3 == 0))) (hl : n ≤ 2000000) (hk : k ≤ 1000000000) :
    Calls Try.prog 121 #[v, .int .i64 k] w (HeldPost k n w) := by
  obtain ⟨A, c, rfl, h1, h2, h3⟩ := hv
  simp only [List.length_map, List.length_range] at h1 h3 ⊢
  clear h1 h2
  go_enter Try.func121, Try.ntmps121
  go_wp2
  go_loop [1, 5] (fun t i => ∃ j : Nat, j ≤ n ∧ i = .int .i64 j ∧ t = .int .i64 ((k + j : Nat) : Int)) (fun _ i => n - (intOf i).toNat)
  case atStart => exact ⟨0, Nat.zero_le _, rfl, rfl⟩
  case round =>
    obtain ⟨j, hj, rfl, rfl⟩ := hrel
    by_cases hlt : j < n
    · obtain ⟨b, o, rfl, hb, hc⟩ := h3 (by omega)
      have hcell : w.cell? ⟨b, o + j, none⟩ = some (.bool ((k + j) % 3 == 0)) := by
        have := hc j hlt
        simpa using this
      clear hc h3
      by_cases h3 : (k + j) % 3 = 0
      · have h3' : ((k : Int) + (j : Int)) % 3 = 0 := by omega
        have h4 : ((k + j) % 3 == 0) = true := by simp [h3]
        rw [h4] at hcell
        clear h3 h4
        go_wp2
        go_round
        case rel => exact ⟨j + 1, by omega, by go_num, by go_num⟩
        case measure => simp [intOf]; omega
      · have h3' : (((k : Int) + (j : Int)) % 3 == 0) = false := by simp; omega
        have h4 : ((k + j) % 3 == 0) = false := by simpa using h3
        rw [h4] at hcell
        clear h3 h4
        go_wp2
        go_round
        case rel => exact ⟨j + 1, by omega, by go_num, by go_num⟩
        case measure => simp [intOf]; omega
    · obtain rfl : j = n := by omega
      go_wp2
      go_ret
      exact ⟨rfl, Below.refl _ _⟩
theorem heldFeed_any (p a b d : Int) (nb nh k : Nat) (vb vh : Value) (w : World) (h1 : RS w vb ((List.range nb).map fun j => mtx (k + j))) (h2 : RB w vh ((List.range nh).map fun j => ((k + nb + j) % 3 == 0))) (hb : nb ≤ 2000000) (hh : nh ≤ 2000000) (hk : k ≤ 1000000) :
    Calls Try.prog 49 #[.agg #[.int .i64 p, .int .i64 a, .int .i64 b, .int .i64 d, vb, vh], .int .i64 k] w fun e w' => e = .returned (.int .i64 ((k + nb + nh : Nat) : Int)) ∧ Below w.heap.size w w' := by
  have HA := Lib.hid ((Below.refl w.heap.size w).alloc (Nat.le_refl _) (.cells #[.int .i64 p, .int .i64 a, .int .i64 b, .int .i64 d, vb, vh] 34))
  have H1 := Lib.hid (h1.below HA.out)
  have H2 := Lib.hid (h2.below HA.out)
  have c5 : (w.alloc (.cells #[.int .i64 p, .int .i64 a, .int .i64 b, .int .i64 d, vb, vh] 34)).cell? ⟨w.heap.size, 5, none⟩ = some vh := cell_of_row _ _ 5 _ _ _ (heap_alloc_new w _)
  clear h1 h2
  have g1 : ¬ ((k + nb : Nat) : Int) < 0 := by omega
  have g2 : ¬ ((k + nb + nh : Nat) : Int) < 0 := by omega
  go_enter Try.func49, Try.ntmps49
  go_wp2_with fail
  refine (heldStringS_any nb _ k _ H1.out hb (by omega)).mono ?_
  rintro e w1 ⟨rfl, hb1⟩
  have c51 : w1.cell? ⟨w.heap.size, 5, none⟩ = some vh := (hb1.cell (p := ⟨w.heap.size, 5, none⟩) (by simp)).trans c5
  go_wp2_with fail
  refine (heldBoolS_any nh _ (k + nb) w1 (H2.out.below hb1) hh (by omega)).mono ?_
  rintro e w2 ⟨rfl, hb2⟩
  go_wp2
  go_ret
  exact ⟨rfl, HA.out.trans ((hb1.trans (hb2.mono hb1.size)).mono (by simp))⟩
end Go.Proofs.Ytlhiabnablbkpaa
