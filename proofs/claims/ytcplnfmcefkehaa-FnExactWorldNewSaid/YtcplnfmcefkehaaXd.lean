/- Walks: lists of empty lists: equality, marks and holds. -/
import Derived.Test.YtcplnfmcefkehaaXb
namespace Go.Proofs.Ytcplnfmcefkehaa
open Go.RowKit

/-- The slice value v reads as a list of n empty lists. -/
def EmsR (w : World) (v : Value) (n : Nat) : Prop := ∃ F, RN 1 w v n F ∧ ∀ j, j < n → Em (F j)
theorem EmsR.below {w w' : World} {v : Value} {n : Nat} (h : EmsR w v n) (hb : Below w.heap.size w w') : EmsR w' v n := by obtain ⟨F, h1, h2⟩ := h; exact ⟨F, h1.below hb, h2⟩
theorem EmsR.sl {w : World} {v : Value} {n : Nat} (h : EmsR w v n) : ∃ A c, v = .slice A n c := by obtain ⟨F, h1, _⟩ := h; exact h1.sl
theorem EmsR.len {w : World} {v : Value} {n : Nat} (h : EmsR w v n) : n ≤ maxLen := by obtain ⟨F, h1, _⟩ := h; exact h1.len
theorem EmsR.keep {w w' : World} {v : Value} {n : Nat} (h : EmsR w v n) (hs : w.heap.size ≤ w'.heap.size) (hk : ∀ b o, some b = v.ownBlock → w'.cell? ⟨b, o, none⟩ = w.cell? ⟨b, o, none⟩) : EmsR w' v n := by
  obtain ⟨F, ⟨A, c, rfl, h1, h2, h3⟩, h4⟩ := h
  refine ⟨F, ⟨A, c, rfl, h1, h2, fun hn => ?_⟩, h4⟩
  obtain ⟨b, o, rfl, hb, hc⟩ := h3 hn
  exact ⟨b, o, rfl, by omega, fun t ht => (hk b (o + t) rfl).trans (hc t ht)⟩
theorem EmsR.at_ {w : World} {A : Option Addr} {m c n : Nat} (h : EmsR w (.slice A m c) n) {j : Nat} (hj : j < n) : ∃ b o x d, A = some ⟨b, o, none⟩ ∧ b < w.heap.size ∧ w.cell? ⟨b, o + j, none⟩ = some (.slice x 0 d) := by
  obtain ⟨F, ⟨A', c', he, h1, h2, h3⟩, h4⟩ := h
  obtain ⟨rfl, rfl, rfl⟩ : A = A' ∧ m = n ∧ c = c' := by injection he with a b c; exact ⟨a, b, c⟩
  obtain ⟨b, o, hA, hb, hc⟩ := h3 (by omega)
  obtain ⟨x, d, hx, -, -⟩ := h4 j hj
  exact ⟨b, o, x, d, hA, hb, by rw [hc j (by omega), hx]⟩
theorem eqAskSS_e (n : Nat) (va vb : Value) (w : World) (ha : EmsR w va n) (hb : EmsR w vb n) :
    Calls Try.prog 18 #[va, vb] w fun e w' => e = .returned (.bool true) ∧ Below w.heap.size w w' := by
  have HA := Lib.hid ha
  have HB := Lib.hid hb
  have hm := ha.len
  obtain ⟨A, c, rfl⟩ := ha.sl
  obtain ⟨A2, c2, rfl⟩ := hb.sl
  unfold maxLen at hm
  clear ha hb
  have hnn : ((n : Int) != (n : Int)) = false := by simp
  go_enter Try.func18, Try.ntmps18
  go_wp2
  go_loopw [5] (fun i wr => ∃ k : Nat, k ≤ n ∧ i = .int .i64 k ∧ Below w.heap.size w wr) (fun i _ => n - (intOf i).toNat)
  case atStart => exact ⟨0, Nat.zero_le _, rfl, Below.refl _ _⟩
  case round =>
    obtain ⟨k, hk, rfl, hbw⟩ := hrel
    by_cases hlt : k < n
    · obtain ⟨b, o, x, d, rfl, hbs, e0⟩ := (HA.out.below hbw).at_ hlt
      obtain ⟨b', o', x', d', rfl, hbs', e0'⟩ := (HB.out.below hbw).at_ hlt
      have hup := up_cell wr
      have hki : (k : Int) < (n : Int) := by omega
      have hk0 : (0 : Int) ≤ (k : Int) := by omega
      go_wp2
      refine wp_region_up (by kernel_rfl) (by kernel_rfl) ?_
      repeat (go_big_quiet_step ((go_at_call 33; exact up_same (eqAskS_e _ _ _ _ _))))
      refine wpQuiet_nil ?_
      intro w1 hw1
      have hb1 := of_up hw1
      clear hw1 hup
      go_wp2
      go_roundw
      case rel => exact ⟨k + 1, by omega, by go_num, hbw.trans (hb1.mono hbw.size)⟩
      case measure => simp [intOf]; omega
    · go_wp2
      go_ret
      exact ⟨rfl, hbw⟩
theorem markAskSS_e (n : Nat) (v : Value) (k : Int) (w : World) (hv : EmsR w v n) : Calls Try.prog 22 #[v, .int .i64 k] w fun e w' => e = .returned (.int .i64 k) ∧ w = w' := by
  have HA := Lib.hid hv
  have hm := hv.len
  obtain ⟨A, c, rfl⟩ := hv.sl
  unfold maxLen at hm
  clear hv
  go_enter Try.func22, Try.ntmps22
  go_wp2
  go_loop [1, 5] (fun t i => t = .int .i64 k ∧ ∃ j : Nat, j ≤ n ∧ i = .int .i64 j) (fun _ i => n - (intOf i).toNat)
  case atStart => exact ⟨rfl, 0, Nat.zero_le _, rfl⟩
  case round =>
    obtain ⟨rfl, j, hj, rfl⟩ := hrel
    by_cases hlt : j < n
    · obtain ⟨b, o, x, d, rfl, hbs, e0⟩ := HA.out.at_ hlt
      go_wp2_with (go_at_call 37; refine (markAskS_e _ _ _ _).mono ?_; rintro e w' ⟨rfl, rfl⟩)
      go_round
      case rel => exact ⟨rfl, j + 1, by omega, by go_num⟩
      case measure => simp [intOf]; omega
    · go_wp2
      go_ret
      exact ⟨rfl, rfl⟩
theorem heldAskSS_e (n : Nat) (v : Value) (k : Int) (w : World) (hv : EmsR w v n) (hk : 0 ≤ k) : Calls Try.prog 26 #[v, .int .i64 k] w fun e w' => e = .returned (.int .i64 k) ∧ w = w' := by
  have HA := Lib.hid hv
  have hm := hv.len
  obtain ⟨A, c, rfl⟩ := hv.sl
  unfold maxLen at hm
  clear hv
  have hk' : ¬ k < 0 := by omega
  go_enter Try.func26, Try.ntmps26
  go_wp2
  go_loop [1, 5] (fun t i => t = .int .i64 k ∧ ∃ j : Nat, j ≤ n ∧ i = .int .i64 j) (fun _ i => n - (intOf i).toNat)
  case atStart => exact ⟨rfl, 0, Nat.zero_le _, rfl⟩
  case round =>
    obtain ⟨rfl, j, hj, rfl⟩ := hrel
    by_cases hlt : j < n
    · obtain ⟨b, o, x, d, rfl, hbs, e0⟩ := HA.out.at_ hlt
      go_wp2_with (go_at_call 42; refine (heldAskS_e _ _ _ _).mono ?_; rintro e w' ⟨rfl, rfl⟩)
      go_round
      case rel => exact ⟨rfl, j + 1, by omega, by go_num⟩
      case measure => simp [intOf]; omega
    · go_wp2
      go_ret
      exact ⟨rfl, rfl⟩
end Go.Proofs.Ytcplnfmcefkehaa
