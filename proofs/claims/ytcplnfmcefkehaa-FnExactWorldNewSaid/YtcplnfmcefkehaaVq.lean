/- Walks: what is held of a feed. -/
import Derived.Test.YtcplnfmcefkehaaWt
namespace Go.Proofs.Ytcplnfmcefkehaa
open Go.RowKit

theorem markText_b {k : Nat} {x : ByteArray} (h : Hid (mtx k = x)) (w : World) (hk : k ≤ 1000000000000) : Calls Try.prog 38 #[.int .i64 k] w fun e w' => e = .returned (.string x) ∧ Below w.heap.size w w' := by
  rw [← h.out]; exact markText_any k w hk
set_option maxHeartbeats 800000 in
theorem heldStringS_any (n : Nat) (v : Value) (k : Nat) (w : World) (hv : RS w v ((List.range n).map fun j => mtx (k + j))) (hl : n ≤ 2000000) (hk : k ≤ 1000000000) :
    Calls Try.prog 40 #[v, .int .i64 k] w (HeldPost k n w) := by
  have HV := Lib.hid hv
  obtain ⟨A, c, rfl, h1, h2, h3⟩ := hv
  simp only [List.length_map, List.length_range] at h1 HV ⊢
  clear h1 h2 h3
  go_enter Try.func40, Try.ntmps40
  go_wp2
  go_loopw [1, 5] (fun t i wr => ∃ j : Nat, j ≤ n ∧ i = .int .i64 j ∧ t = .int .i64 ((k + j : Nat) : Int) ∧ Below w.heap.size w wr) (fun _ i _ => n - (intOf i).toNat)
  case atStart => exact ⟨0, Nat.zero_le _, rfl, rfl, Below.refl _ _⟩
  case round =>
    obtain ⟨j, hj, rfl, rfl, hb⟩ := hrel
    by_cases hlt : j < n
    · have hlt' : (j : Int) < (n : Int) := by omega
      obtain ⟨A', c', hA, _, _, hc⟩ := HV.out.below hb
      simp only [List.length_map, List.length_range] at hA hc
      cases hA
      obtain ⟨b, o, rfl, hbs, hc⟩ := hc (by omega)
      have hcell : wr.cell? ⟨b, o + j, none⟩ = some (.string (mtx (k + j))) := by
        have := hc j hlt
        simpa using this
      clear hc
      obtain ⟨x, HX⟩ : ∃ x, Hid (mtx (k + j) = x) := ⟨_, Lib.hid rfl⟩
      rw [HX.out] at hcell
      obtain ⟨kj, HKJ⟩ : ∃ kj : Nat, Hid (k + j = kj) := ⟨_, Lib.hid rfl⟩
      rw [HKJ.out] at HX
      have hkj : kj ≤ 1000000000000 := by have := HKJ.out; omega
      simp only [HKJ.out]
      go_wp2_with fail
      have hup := up_cell wr
      refine wp_region_up (by kernel_rfl) (by kernel_rfl) ?_
      repeat (go_big_quiet_step ((go_at_call 38; exact up_call (markText_b HX _ hkj))))
      refine wpQuiet_nil ?_
      intro w1 hw1
      have hb1 := of_up hw1
      clear hw1 hup
      go_wp2
      go_roundw
      case rel => exact ⟨j + 1, by omega, by go_num, by have := HKJ.out; go_num, hb.trans (hb1.mono hb.size)⟩
      case measure => simp [intOf]; omega
    · have hlt' : ¬ (j : Int) < (n : Int) := by omega
      obtain rfl : j = n := by omega
      go_wp2
      go_ret
      exact ⟨rfl, hb⟩
theorem heldBoolS_any (n : Nat) (v : Value) (k : Nat) (w : World) (hv : RB w v ((List.range n).map fun j => ((k + j) % 3 == 0))) (hl : n ≤ 2000000) (hk : k ≤ 1000000000) :
    Calls Try.prog 41 #[v, .int .i64 k] w (HeldPost k n w) := by
  obtain ⟨A, c, rfl, h1, h2, h3⟩ := hv
  simp only [List.length_map, List.length_range] at h1 h3 ⊢
  clear h1 h2
  go_enter Try.func41, Try.ntmps41
  go_wp2
  go_loop [1, 5] (fun t i => ∃ j : Nat, j ≤ n ∧ i = .int .i64 j ∧ t = .int .i64 ((k + j : Nat) : Int)) (fun _ i => n - (intOf i).toNat)
  case atStart => exact ⟨0, Nat.zero_le _, rfl, rfl⟩
  case round =>
    obtain ⟨j, hj, rfl, rfl⟩ := hrel
    by_cases hlt : j < n
    · obtain ⟨b, o, rfl, hb, hc⟩ := h3 (by omega)
      have hcell : w.cell? ⟨b, o + j, none⟩ = some (.bool ((k + j) % 3 == 0)) := by
        have := hc j hlt
        simpa using this
      clear hc h3
      by_cases h3 : (k + j) % 3 = 0
      · have h3' : ((k : Int) + (j : Int)) % 3 = 0 := by omega
        have h4 : ((k + j) % 3 == 0) = true := by simp [h3]
        rw [h4] at hcell
        clear h3 h4
        go_wp2
        go_round
        case rel => exact ⟨j + 1, by omega, by go_num, by go_num⟩
        case measure => simp [intOf]; omega
      · have h3' : (((k : Int) + (j : Int)) % 3 == 0) = false := by simp; omega
        have h4 : ((k + j) % 3 == 0) = false := by simpa using h3
        rw [h4] at hcell
        clear h3 h4
        go_wp2
        go_round
        case rel => exact ⟨j + 1, by omega, by go_num, by go_num⟩
        case measure => simp [intOf]; omega
    · obtain rfl : j = n := by omega
      go_wp2
      go_ret
      exact ⟨rfl, Below.refl _ _⟩
end Go.Proofs.Ytcplnfmcefkehaa
