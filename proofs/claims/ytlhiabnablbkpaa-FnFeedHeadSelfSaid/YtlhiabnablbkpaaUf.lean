/- Walks: the root of a tree out of parts. -/
import Derived.Test.YtlhiabnablbkpaaUe
namespace Go.Proofs.Ytlhiabnablbkpaa
open Go.RowKit
open Go.Maps (Keyed)

theorem OM.alloc {w : World} {b n : Nat} {D : DataW Unit} (h : OM w b n D) (o : Obj) : OM (w.alloc o) b n D := World.ownsMap.alloc h o
theorem OM.up {w : World} {b n : Nat} {D : DataW Unit} (h : OM w b n D) (X : World) : OM (up w X) b n D := h.below (up_below w X)
theorem DL.hit {look : Nat × Nat → Option Int} {D : DataW Unit} (h : DL look D) {t : Nat × Nat} (h1 : t.1 ≤ 1000) (h2 : t.2 ≤ 1000) {r : Int} (hl : look t = some r) : Maps.has D (kl t) = true ∧ D.atKey (kl t) (.lit (.int .i64 0)) = .lit (.int .i64 r) := by
  have := h t h1 h2; rw [hl] at this; exact this
theorem DL.miss {look : Nat × Nat → Option Int} {D : DataW Unit} (h : DL look D) {t : Nat × Nat} (h1 : t.1 ≤ 1000) (h2 : t.2 ≤ 1000) (hl : look t = none) : Maps.has D (kl t) = false := by
  have := h t h1 h2; rw [hl] at this; exact this
theorem lit_inj {a b : Int} {d : DataW Unit} (h1 : d = .lit (.int .i64 a)) (h2 : d = .lit (.int .i64 b)) : a = b := by
  rw [h1] at h2; simpa using h2
set_option maxHeartbeats 800000 in
theorem joined_hit {look : Nat × Nat → Option Int} {D : DataW Unit} (b n : Nat) (HD : Hid (DL look D)) (s z : Nat) (r : Int) (w : World) (hs : s ≤ 1000) (hz : z ≤ 1000) (hown : OM w b n D) (hl : look (s, z) = some r) :
    Calls Try.prog 96 #[.agg #[.int .i64 s, .int .i64 z], .map (some b)] w fun e w' => e = .returned (.int .i64 r) ∧ Below w.heap.size w w' := by
  obtain ⟨hh, ha⟩ := HD.out.hit (t := (s, z)) hs hz hl
  have HA := Lib.hid ha
  have HK := Lib.hid (key_kl w (t := (s, z)) hs hz)
  have HO := Lib.hid hown
  clear ha hl hown
  generalize kl (s, z) = K at *
  go_enter Try.func96, Try.ntmps96
  go_wp2_with (at_lookup; refine wpList_lookup_own_ok_int _ rfl _ _ 107 rfl 103 3 .i64 tr_keyed Try.underlying107 Try.underlying3 (int_zero _) b n D rfl (HO.out.alloc _) _ K rfl HK.out ?_; intro c hat hwc; have HC := Lib.hid (lit_inj hat HA.out); clear hat hwc)
  go_ret
  exact ⟨reti HC.out, (Below.refl _ _).alloc (Nat.le_refl _) _⟩
set_option maxHeartbeats 800000 in
theorem joined_i {look : Nat × Nat → Option Int} {D : DataW Unit} (b n : Nat) (HD : Hid (DL look D)) (HG : Hid (∀ k s r, joinF pair look k s = some r → dig r = true)) : ∀ (k s : Nat) (s0 z0 : Int) (r : Int) (w : World), s0 = s → z0 = ((2 ^ k : Nat) : Int) → k ≤ 4 → s + 2 ^ k ≤ 32 → OM w b n D → joinF pair look k s = some r →
    Calls Try.prog 96 #[.agg #[.int .i64 s0, .int .i64 z0], .map (some b)] w fun e w' => e = .returned (.int .i64 r) ∧ Below w.heap.size w w' := by
  intro k
  induction k with
  | zero =>
    intro s s0 z0 r w h0 hz _ hs hown hj
    subst h0
    have hz1 : z0 = ((1 : Nat) : Int) := by simpa using hz
    subst hz1
    exact joined_hit b n HD s 1 r w (by omega) (by omega) hown hj
  | succ k ih =>
    intro s s0 z0 r w h0 hz hk hs hown hj
    subst h0
    have hp16 : 2 ^ (k + 1) ≤ 32 := by omega
    have hs32 : s ≤ 32 := by have := Nat.le_trans (Nat.le_add_right s _) hs; exact this
    cases hlk : look (s, 2 ^ (k + 1)) with
    | some r' =>
      have hr : r' = r := by simp only [joinF, hlk] at hj; exact Option.some.inj hj
      subst hr hz
      exact joined_hit b n HD s (2 ^ (k + 1)) r' w (Nat.le_trans hs32 (by omega)) (Nat.le_trans hp16 (by omega)) hown hlk
    | none =>
      obtain ⟨x, y, hx, hy, hr⟩ : ∃ x y, joinF pair look k s = some x ∧ joinF pair look k (s + 2 ^ k) = some y ∧ pair x y = r := by
        simp only [joinF, hlk] at hj
        cases h1 : joinF pair look k s with
        | none => rw [h1] at hj; cases hj
        | some x =>
          cases h2 : joinF pair look k (s + 2 ^ k) with
          | none => rw [h1, h2] at hj; cases hj
          | some y => rw [h1, h2] at hj; exact ⟨x, y, rfl, rfl, Option.some.inj hj⟩
      have hmiss := HD.out.miss (t := (s, 2 ^ (k + 1))) (Nat.le_trans hs32 (by omega)) (Nat.le_trans hp16 (by omega)) hlk
      have HKL := key_kl w (t := (s, 2 ^ (k + 1))) (Nat.le_trans hs32 (by omega)) (Nat.le_trans hp16 (by omega))
      have HK : Hid (keyOf Try.prog 103 (.agg #[.int .i64 s, .int .i64 z0]) = some (kl (s, 2 ^ (k + 1)))) := Lib.hid (by rw [hz]; exact HKL)
      clear HKL
      have hz' : z0 = 2 * ((2 ^ k : Nat) : Int) := by rw [hz, Nat.pow_succ]; omega
      have hy1 : 1 ≤ 2 ^ k := Nat.one_le_two_pow
      have hs2 : s + 2 ^ k + 2 ^ k ≤ 32 := by rw [Nat.pow_succ] at hs; omega
      have D1 := Lib.hid (HG.out k s x hx)
      have D2 := Lib.hid (HG.out k (s + 2 ^ k) y hy)
      have HR := Lib.hid hr
      have HX := Lib.hid hx
      have HY := Lib.hid hy
      have IH : Hid (∀ (s : Nat) (s0 z0 : Int) (r : Int) (w : World), s0 = s → z0 = ((2 ^ k : Nat) : Int) → k ≤ 4 → s + 2 ^ k ≤ 32 → OM w b n D → joinF pair look k s = some r →
        Calls Try.prog 96 #[.agg #[.int .i64 s0, .int .i64 z0], .map (some b)] w fun e w' => e = .returned (.int .i64 r) ∧ Below w.heap.size w w') := ih
      clear ih hz hs hj hr hx hy hlk hp16
      generalize kl (s, 2 ^ (k + 1)) = K at *
      obtain ⟨u, HU⟩ : ∃ u, Hid ((2 ^ k : Nat) = u) := ⟨_, Lib.hid rfl⟩
      rw [HU.out] at hz' hy1 hs2 HY
      subst hz'
      have HO := Lib.hid hown
      clear hown
      have hq : 2 * (u : Int) / 2 = u := by omega
      go_enter Try.func96, Try.ntmps96
      go_wp2_with (at_lookup; refine wpList_lookup_own_ok_int _ rfl _ _ 107 rfl 103 3 .i64 tr_keyed Try.underlying107 Try.underlying3 (int_zero _) b n D rfl (HO.out.alloc _) _ K rfl HK.out ?_; intro c hat hwc; clear hat hwc)
      have c0 : (w.alloc (.cells #[.int .i64 s, .int .i64 (2 * (u : Int))] 103)).cell? ⟨w.heap.size, 0, none⟩ = some (.int .i64 s) := cell_of_row _ _ 0 _ _ _ (heap_alloc_new w _)
      have hW : w.heap.size < (w.alloc (.cells #[.int .i64 s, .int .i64 (2 * (u : Int))] 103)).heap.size := by simp
      have hv' := HO.out.alloc (.cells #[.int .i64 s, .int .i64 (2 * (u : Int))] 103)
      have hbW := (Below.refl w.heap.size w).alloc (Nat.le_refl _) (.cells #[.int .i64 s, .int .i64 (2 * (u : Int))] 103)
      generalize w.alloc (.cells #[.int .i64 s, .int .i64 (2 * (u : Int))] 103) = W at *
      have hup := up_cell W
      refine wp_region_up (by kernel_rfl) (by kernel_rfl) ?_
      repeat (go_big_quiet_step (first
        | (go_at_call_of 96 (Value.agg #[.int .i64 s, .int .i64 u]); refine up_call (IH.out s _ _ x _ rfl (by rw [HU.out]) (by omega) (by rw [HU.out]; omega) (hv'.up _) HX.out))
        | (go_at_call 96; refine up_call (IH.out (s + u) _ _ y _ (by simp) (by rw [HU.out]) (by omega) (by rw [HU.out]; omega) (hv'.up _) HY.out))
        | (go_at_call 91; refine up_same (DigestPair_any _ _ _ D1.out D2.out))))
      refine wpQuiet_nil ?_
      intro w1 hw1
      have hb1 := of_up hw1
      clear hw1 hup
      go_wp2
      go_ret
      exact ⟨reti HR.out, hbW.trans (hb1.mono (by omega))⟩
end Go.Proofs.Ytlhiabnablbkpaa
