/- Walks: roots of trees. -/
import Derived.Test.YtlhiabnablbkpaaWb
namespace Go.Proofs.Ytlhiabnablbkpaa
open Go.RowKit

set_option maxHeartbeats 400000 in
theorem root_i (l : List Int) (hd : digs l = true) : ∀ (k s : Nat) (s0 z0 : Int) (v : Value) (w : World), s0 = s → z0 = ((2 ^ k : Nat) : Int) → k ≤ 4 → s + 2 ^ k ≤ l.length → RI w v l →
    Calls Try.prog 140 #[.agg #[.int .i64 s0, .int .i64 z0], v] w fun e w' => e = .returned (.int .i64 (rootN l k s)) ∧ Below w.heap.size w w' := by
  intro k
  induction k with
  | zero =>
    intro s s0 z0 v w h0 hz _ hs hv
    subst h0
    obtain rfl : z0 = 1 := by simpa using hz
    clear hz
    have hm := hv.len
    obtain ⟨A, c, rfl, h1, h2, h3⟩ := hv
    unfold maxLen at hm
    obtain ⟨b, o, rfl, hb, hc⟩ := h3 (by omega)
    have hcell := hc s (by omega)
    have hs1 : s < l.length := by omega
    clear hc h3
    go_enter Try.func140, Try.ntmps140
    go_wp2
    go_ret
    exact ⟨reti (by simp [rootN, hs1]), (Below.refl _ _).alloc (Nat.le_refl _) _⟩
  | succ k ih =>
    intro s s0 z0 v w h0 hz hk hs hv
    subst h0
    have hm := hv.len
    unfold maxLen at hm
    have hz' : z0 = 2 * ((2 ^ k : Nat) : Int) := by rw [hz, Nat.pow_succ]; omega
    have hy1 : 1 ≤ 2 ^ k := Nat.one_le_two_pow
    have hs2 : s + 2 ^ k + 2 ^ k ≤ l.length := by rw [Nat.pow_succ] at hs; omega
    have D1 := Lib.hid (rootN_dig hd k s (by omega))
    have D2 := Lib.hid (rootN_dig hd k (s + 2 ^ k) (by omega))
    have IH : Hid (∀ (s : Nat) (s0 z0 : Int) (v : Value) (w : World), s0 = s → z0 = ((2 ^ k : Nat) : Int) → k ≤ 4 → s + 2 ^ k ≤ l.length → RI w v l →
      Calls Try.prog 140 #[.agg #[.int .i64 s0, .int .i64 z0], v] w fun e w' => e = .returned (.int .i64 (rootN l k s)) ∧ Below w.heap.size w w') := ih
    clear ih hz hs
    have HY : Hid ((2 ^ k : Nat) = 2 ^ k) := rfl
    generalize hy : 2 ^ k = y at hz' hy1 hs2
    have HK := Lib.hid hy
    clear hy
    subst hz'
    have hq : 2 * (y : Int) / 2 = y := by omega
    go_enter Try.func140, Try.ntmps140
    go_wp2
    have c0 : (w.alloc (.cells #[.int .i64 s, .int .i64 (2 * (y : Int))] 103)).cell? ⟨w.heap.size, 0, none⟩ = some (.int .i64 s) := cell_of_row _ _ 0 _ _ _ (heap_alloc_new w _)
    have hW : w.heap.size < (w.alloc (.cells #[.int .i64 s, .int .i64 (2 * (y : Int))] 103)).heap.size := by simp
    have hv' := hv.alloc (.cells #[.int .i64 s, .int .i64 (2 * (y : Int))] 103)
    have hbW := (Below.refl w.heap.size w).alloc (Nat.le_refl _) (.cells #[.int .i64 s, .int .i64 (2 * (y : Int))] 103)
    generalize w.alloc (.cells #[.int .i64 s, .int .i64 (2 * (y : Int))] 103) = W at *
    have hup := up_cell W
    refine wp_region_up (by kernel_rfl) (by kernel_rfl) ?_
    repeat (go_big_quiet_step (first
      | (go_at_call_of 140 (Value.agg #[.int .i64 s, .int .i64 y]); refine up_call (IH.out s _ _ _ _ rfl (by rw [HK.out]) (by omega) (by rw [HK.out]; omega) (hv'.up _)))
      | (go_at_call 140; refine up_call (IH.out (s + y) _ _ _ _ (by simp) (by rw [HK.out]) (by omega) (by rw [HK.out]; omega) (hv'.up _)))
      | (go_at_call 91; refine up_same (DigestPair_any _ _ _ D1.out (by rw [← HK.out]; exact D2.out)))))
    refine wpQuiet_nil ?_
    intro w1 hw1
    have hb1 := of_up hw1
    clear hw1 hup
    go_wp2
    go_ret
    refine ⟨reti ?_, hbW.trans (hb1.mono (by omega))⟩
    rw [← HK.out]; rfl
end Go.Proofs.Ytlhiabnablbkpaa
