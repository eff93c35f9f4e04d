/- Walks: marks and holds of lists of feeds without blocks, and of lists of empty lists. -/
import Derived.Test.YtcplnfmcefkehaaXb
namespace Go.Proofs.Ytcplnfmcefkehaa
open Go.RowKit

/-- A row of feeds whose first j are marked. -/
def mF (k j : Nat) (F : Nat → Value) (t : Nat) : Value := if t / 6 < j ∧ t % 6 < 4 then .int .i64 ((k + 4 * (t / 6) + t % 6 : Nat) : Int) else F t
theorem ON.mark4 {B k j n g cap : Nat} {e : TypeId} {w : World} {F : Nat → Value} (h : ON 6 B e w (.slice (some ⟨g, 0, none⟩) n cap) n (mF k j F)) (hj : j < n) {y0 y1 y2 y3 : Int}
    (e0 : y0 = ((k + 4 * j : Nat) : Int)) (e1 : y1 = ((k + 4 * j : Nat) : Int) + 1) (e2 : y2 = ((k + 4 * j : Nat) : Int) + 2) (e3 : y3 = ((k + 4 * j : Nat) : Int) + 3) :
    ON 6 B e ((((w.setCell ⟨g, j * 6, none⟩ (.int .i64 y0)).setCell ⟨g, j * 6 + 1, none⟩ (.int .i64 y1)).setCell ⟨g, j * 6 + 2, none⟩ (.int .i64 y2)).setCell ⟨g, j * 6 + 3, none⟩ (.int .i64 y3)) (.slice (some ⟨g, 0, none⟩) n cap) n (mF k (j + 1) F)
    ∧ w.grownBy ((((w.setCell ⟨g, j * 6, none⟩ (.int .i64 y0)).setCell ⟨g, j * 6 + 1, none⟩ (.int .i64 y1)).setCell ⟨g, j * 6 + 2, none⟩ (.int .i64 y2)).setCell ⟨g, j * 6 + 3, none⟩ (.int .i64 y3)) (some g) := by
  obtain ⟨a0, g0⟩ := h.setAt (t := j * 6) (by omega) (.int .i64 y0)
  obtain ⟨a1, g1⟩ := a0.setAt (t := j * 6 + 1) (by omega) (.int .i64 y1)
  obtain ⟨a2, g2⟩ := a1.setAt (t := j * 6 + 2) (by omega) (.int .i64 y2)
  obtain ⟨a3, g3⟩ := a2.setAt (t := j * 6 + 3) (by omega) (.int .i64 y3)
  refine ⟨a3.congr fun t ht => ?_, grow_trans (grow_trans (grow_trans g0 g1) g2) g3⟩
  clear a0 a1 a2 a3 g0 g1 g2 g3 h
  subst e0 e1 e2 e3
  unfold mF
  by_cases h3 : t = j * 6 + 3
  · subst h3; rw [if_pos rfl, if_pos (by omega)]; congr 1; omega
  rw [if_neg h3]
  by_cases h2 : t = j * 6 + 2
  · subst h2; rw [if_pos rfl, if_pos (by omega)]; congr 1; omega
  rw [if_neg h2]
  by_cases h1 : t = j * 6 + 1
  · subst h1; rw [if_pos rfl, if_pos (by omega)]; congr 1; omega
  rw [if_neg h1]
  by_cases h0 : t = j * 6
  · subst h0; rw [if_pos rfl, if_pos (by omega)]; congr 1; omega
  rw [if_neg h0]
  by_cases hc : t / 6 < j ∧ t % 6 < 4
  · rw [if_pos hc, if_pos (by omega)]
  · rw [if_neg hc, if_neg (by omega)]
theorem mF_zero (k : Nat) (F : Nat → Value) : mF k 0 F = F := by funext t; unfold mF; rw [if_neg (by omega)]
theorem mF_high {k j i t : Nat} {F : Nat → Value} (h4 : 4 ≤ t) (h6 : t < 6) : mF k j F (i * 6 + t) = F (i * 6 + t) := by unfold mF; rw [if_neg (by omega)]
theorem mF_low {k j i t : Nat} {F : Nat → Value} (h4 : t < 4) (hi : i < j) : mF k j F (i * 6 + t) = .int .i64 (((k + 4 * i : Nat) : Int) + (t : Int)) := by
  unfold mF; rw [if_pos (by omega)]; congr 1; omega

set_option maxHeartbeats 800000 in
theorem markFeedS_e (n : Nat) (F : Nat → Value) (v : Value) (k B : Nat) (w : World) (hv : ON 6 B 39 w v n F) (hF : ∀ j, j < n → Em (F (j * 6 + 4)) ∧ Em (F (j * 6 + 5))) (hl : n ≤ 1000000) (hk : k ≤ 1000000) :
    Calls Try.prog 20 #[v, .int .i64 k] w fun e w' => e = .returned (.int .i64 ((k + 4 * n : Nat) : Int)) ∧ ON 6 B 39 w' v n (mF k n F) ∧ w.grownBy w' v.ownBlock := by
  have HV := Lib.hid hv
  have HF := Lib.hid hF
  obtain ⟨A, c, rfl⟩ := hv.rn.sl
  clear hv hF
  go_enter Try.func20, Try.ntmps20
  go_wp2
  go_loopw [1, 5] (fun t i wr => ∃ j : Nat, j ≤ n ∧ i = .int .i64 j ∧ t = .int .i64 ((k + 4 * j : Nat) : Int) ∧ ON 6 B 39 wr (.slice A n c) n (mF k j F) ∧ w.grownBy wr (Value.slice A n c).ownBlock) (fun _ i _ => n - (intOf i).toNat)
  case atStart => exact ⟨0, Nat.zero_le _, rfl, rfl, by rw [mF_zero]; exact HV.out, grow_refl _ _⟩
  case round =>
    obtain ⟨j, hj, rfl, rfl, ho, hg⟩ := hrel
    obtain ⟨K, HK⟩ : ∃ K : Int, Hid (((k + 4 * j : Nat) : Int) = K) := ⟨_, Lib.hid rfl⟩
    have hK0 : 0 ≤ K := by rw [← HK.out]; omega
    have hK1 : K ≤ 1000000000 := by rw [← HK.out]; omega
    by_cases hlt : j < n
    · obtain ⟨g, cap, hA, hgB, hgs⟩ := ho.form (by omega)
      cases hA
      obtain ⟨⟨u0, e0⟩, f0⟩ : (∃ u, wr.cell? ⟨g, j * 6, none⟩ = some u) ∧ wr.frozen? ⟨g, j * 6, none⟩ = false := by have := ho.at_ (t := j * 6) (by omega); exact ⟨⟨_, this.1⟩, this.2⟩
      obtain ⟨⟨u1, e1⟩, f1⟩ : (∃ u, wr.cell? ⟨g, j * 6 + 1, none⟩ = some u) ∧ wr.frozen? ⟨g, j * 6 + 1, none⟩ = false := by have := ho.at_ (t := j * 6 + 1) (by omega); exact ⟨⟨_, this.1⟩, this.2⟩
      obtain ⟨⟨u2, e2⟩, f2⟩ : (∃ u, wr.cell? ⟨g, j * 6 + 2, none⟩ = some u) ∧ wr.frozen? ⟨g, j * 6 + 2, none⟩ = false := by have := ho.at_ (t := j * 6 + 2) (by omega); exact ⟨⟨_, this.1⟩, this.2⟩
      obtain ⟨⟨u3, e3⟩, f3⟩ : (∃ u, wr.cell? ⟨g, j * 6 + 3, none⟩ = some u) ∧ wr.frozen? ⟨g, j * 6 + 3, none⟩ = false := by have := ho.at_ (t := j * 6 + 3) (by omega); exact ⟨⟨_, this.1⟩, this.2⟩
      have e4 := (ho.at_ (t := j * 6 + 4) (by omega)).1
      have e5 := (ho.at_ (t := j * 6 + 5) (by omega)).1
      rw [mF_high (by omega) (by omega)] at e4 e5
      obtain ⟨⟨x4, c4, h4, -, -⟩, ⟨x5, c5, h5, -, -⟩⟩ := HF.out j hlt
      rw [h4] at e4
      rw [h5] at e5
      have HX5 := Lib.hid h5
      clear h4 h5
      rw [HK.out]
      have HO := Lib.hid ho
      have HG := Lib.hid hg
      clear ho hg
      have hm := HO.out.mark4 hlt (y0 := K) (y1 := K + 1) (y2 := K + 1 + 1) (y3 := K + 1 + 1 + 1) HK.out.symm (by rw [HK.out]) (by rw [HK.out]; omega) (by rw [HK.out]; omega)
      have k5 := (hm.1.at_ (t := j * 6 + 5) (by omega)).1
      rw [mF_high (by omega) (by omega), HX5.out] at k5
      have HM := Lib.hid hm
      clear hm
      go_wp2_with fail
      obtain ⟨W4, HW4⟩ : ∃ W4, Hid ((((wr.setCell ⟨g, j * 6, none⟩ (.int .i64 K)).setCell ⟨g, j * 6 + 1, none⟩ (.int .i64 (K + 1))).setCell ⟨g, j * 6 + 1 + 1, none⟩ (.int .i64 (K + 1 + 1))).setCell ⟨g, j * 6 + 1 + 2, none⟩ (.int .i64 (K + 1 + 1 + 1)) = W4) := ⟨_, Lib.hid rfl⟩
      have k5' : W4.cell? ⟨g, j * 6 + 5, none⟩ = some (.slice x5 0 c5) := by rw [← HW4.out]; exact k5
      rw [HW4.out]
      clear k5 e0 e1 e2 e3 e4 e5 f0 f1 f2 f3
      refine (markStringS_e _ _ _ _).mono ?_
      rintro e w' ⟨rfl, rfl⟩
      go_wp2_with fail
      refine (markBoolS_e _ _ _ _).mono ?_
      rintro e w' ⟨rfl, rfl⟩
      go_wp2
      go_roundw
      case rel =>
        have hm := HM.out
        rw [show j * 6 + 2 = j * 6 + 1 + 1 from rfl, show j * 6 + 3 = j * 6 + 1 + 2 from rfl, HW4.out] at hm
        exact ⟨j + 1, by omega, by go_num, by have := HK.out; go_num, hm.1, grow_trans HG.out hm.2⟩
      case measure => simp [intOf]; omega
    · obtain rfl : j = n := by omega
      go_wp2
      go_ret
      exact ⟨rfl, ho, hg⟩
set_option maxHeartbeats 800000 in
theorem heldFeedS_e (n : Nat) (F : Nat → Value) (v : Value) (k : Nat) (w : World) (hv : RN 6 w v n (mF k n F)) (hF : ∀ j, j < n → Em (F (j * 6 + 4)) ∧ Em (F (j * 6 + 5))) (hl : n ≤ 1000000) (hk : k ≤ 1000000) :
    Calls Try.prog 24 #[v, .int .i64 k] w fun e w' => e = .returned (.int .i64 ((k + 4 * n : Nat) : Int)) ∧ w = w' := by
  have HF := Lib.hid hF
  obtain ⟨A, c, rfl, n1, n2, n3⟩ := hv
  have HV := Lib.hid n3
  clear n1 n2 n3 hF
  go_enter Try.func24, Try.ntmps24
  go_wp2
  go_loop [1, 5] (fun t i => ∃ j : Nat, j ≤ n ∧ i = .int .i64 j ∧ t = .int .i64 ((k + 4 * j : Nat) : Int)) (fun _ i => n - (intOf i).toNat)
  case atStart => exact ⟨0, Nat.zero_le _, rfl, rfl⟩
  case round =>
    obtain ⟨j, hj, rfl, rfl⟩ := hrel
    obtain ⟨K, HK⟩ : ∃ K : Int, Hid (((k + 4 * j : Nat) : Int) = K) := ⟨_, Lib.hid rfl⟩
    have hK0 : 0 ≤ K := by rw [← HK.out]; omega
    have hK1 : K ≤ 1000000000 := by rw [← HK.out]; omega
    by_cases hlt : j < n
    · obtain ⟨b, o, rfl, hb, hc⟩ := HV.out (by omega)
      have e0 : w.cell? ⟨b, o + j * 6, none⟩ = some (.int .i64 K) := by rw [hc (j * 6) (by omega), show j * 6 = j * 6 + 0 from rfl, mF_low (by omega) hlt, HK.out]; simp
      have e1 : w.cell? ⟨b, o + j * 6 + 1, none⟩ = some (.int .i64 (K + 1)) := by rw [Nat.add_assoc, hc (j * 6 + 1) (by omega), mF_low (by omega) hlt, HK.out]; simp
      have e2 : w.cell? ⟨b, o + j * 6 + 1 + 1, none⟩ = some (.int .i64 (K + 1 + 1)) := by rw [Nat.add_assoc, Nat.add_assoc, hc (j * 6 + 2) (by omega), mF_low (by omega) hlt, HK.out]; congr 2; omega
      have e3 : w.cell? ⟨b, o + j * 6 + 1 + 2, none⟩ = some (.int .i64 (K + 1 + 1 + 1)) := by rw [Nat.add_assoc, Nat.add_assoc, hc (j * 6 + 3) (by omega), mF_low (by omega) hlt, HK.out]; congr 2; omega
      have e4 := hc (j * 6 + 4) (by omega)
      have e5 := hc (j * 6 + 5) (by omega)
      rw [mF_high (by omega) (by omega)] at e4 e5
      obtain ⟨⟨x4, c4, h4, -, -⟩, ⟨x5, c5, h5, -, -⟩⟩ := HF.out j hlt
      rw [h4] at e4
      rw [h5] at e5
      clear h4 h5 hc
      rw [← Nat.add_assoc] at e4 e5
      rw [HK.out]
      go_wp2_with (first
        | (go_at_call 40; refine (heldStringS_e _ _ _ _).mono ?_; rintro e w' ⟨rfl, rfl⟩)
        | (go_at_call 41; refine (heldBoolS_e _ _ _ _).mono ?_; rintro e w' ⟨rfl, rfl⟩))
      go_round
      case rel => exact ⟨j + 1, by omega, by go_num, by have := HK.out; go_num⟩
      case measure => simp [intOf]; omega
    · obtain rfl : j = n := by omega
      go_wp2
      go_ret
      exact ⟨rfl, rfl⟩
end Go.Proofs.Ytcplnfmcefkehaa
