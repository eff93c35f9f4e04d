/- Walks: equality, marks and holds of worlds of feeds without blocks. -/
import Derived.Test.YtcplnfmcefkehaaXe
namespace Go.Proofs.Ytcplnfmcefkehaa
open Go.RowKit

theorem EmsR.keepG {w w' : World} {v : Value} {n : Nat} {row : Option Nat} (h : EmsR w v n) (hg : w.grownBy w' row) (hne : v.ownBlock = none ∨ v.ownBlock ≠ row) : EmsR w' v n := by
  obtain ⟨F, ⟨A, c, rfl, h1, h2, h3⟩, h4⟩ := h
  refine ⟨F, ⟨A, c, rfl, h1, h2, fun hn => ?_⟩, h4⟩
  obtain ⟨b, o, rfl, hb, hc⟩ := h3 hn
  refine ⟨b, o, rfl, Nat.lt_of_lt_of_le hb hg.size, fun t ht => (World.grownBy.cell_far hg _ hb ?_).trans (hc t ht)⟩
  rcases hne with h | h
  · cases h
  · exact h
theorem eqWorld_e (s b : Int) (fs : List Fd) (n : Nat) (vF vA uF uA xL xN yL yN : Value) (w : World) (hF : FeedsR w vF fs) (hF' : FeedsR w uF fs) (hA : EmsR w vA n) (hA' : EmsR w uA n) (h1 : Em xL) (h2 : Em xN) (h3 : Em yL) (h4 : Em yN) :
    Calls Try.prog 6 #[.agg #[.int .i64 s, .int .i64 b, vF, xL, vA, xN], .agg #[.int .i64 s, .int .i64 b, uF, yL, uA, yN]] w fun e w' => e = .returned (.bool true) ∧ Below w.heap.size w w' := by
  obtain ⟨A1, d1, rfl, -, -⟩ := h1
  obtain ⟨A2, d2, rfl, -, -⟩ := h2
  obtain ⟨A3, d3, rfl, -, -⟩ := h3
  obtain ⟨A4, d4, rfl, -, -⟩ := h4
  obtain ⟨W2, HW2⟩ : ∃ W2, Hid ((w.alloc (.cells #[.int .i64 s, .int .i64 b, vF, .slice A1 0 d1, vA, .slice A2 0 d2] 27)).alloc (.cells #[.int .i64 s, .int .i64 b, uF, .slice A3 0 d3, uA, .slice A4 0 d4] 27) = W2) := ⟨_, Lib.hid rfl⟩
  have hb2 : Below w.heap.size w W2 := by rw [← HW2.out]; exact ((Below.refl _ _).alloc (Nat.le_refl _) _).alloc (by simp) _
  have hp : W2.heap[w.heap.size]? = some (.cells #[.int .i64 s, .int .i64 b, vF, .slice A1 0 d1, vA, .slice A2 0 d2] 27 (0, 0)) := by
    rw [← HW2.out, heap_alloc_old _ _ (by simp)]; exact heap_alloc_new w _
  have hq : W2.heap[w.heap.size + 1]? = some (.cells #[.int .i64 s, .int .i64 b, uF, .slice A3 0 d3, uA, .slice A4 0 d4] 27 (0, 0)) := by
    rw [← HW2.out]
    have := heap_alloc_new (w.alloc (.cells #[.int .i64 s, .int .i64 b, vF, .slice A1 0 d1, vA, .slice A2 0 d2] 27)) (.cells #[.int .i64 s, .int .i64 b, uF, .slice A3 0 d3, uA, .slice A4 0 d4] 27)
    simpa using this
  have lp := (Array.getElem?_eq_some_iff.1 hp).1
  have lq := (Array.getElem?_eq_some_iff.1 hq).1
  have HF := Lib.hid (hF.below hb2)
  have HF' := Lib.hid (hF'.below hb2)
  have HA := Lib.hid (hA.below hb2)
  have HA' := Lib.hid (hA'.below hb2)
  obtain ⟨p0, p1, p2, p3, p4, p5, pf⟩ := box_cells hp
  obtain ⟨q0, q1, q2, q3, q4, q5, qf⟩ := box_cells hq
  have HP := Lib.hid hp
  have HQ := Lib.hid hq
  clear hp hq hF hF' hA hA'
  have hss : (s != s) = false := by simp
  have hbb : (b != b) = false := by simp
  go_enter Try.func6, Try.ntmps6
  go_wp2_with fail
  rw [HW2.out]
  go_wp2_with fail
  refine (eqFeedS_same fs _ _ W2 HF.out HF'.out).mono ?_
  rintro e w3 ⟨rfl, hb3⟩
  clear p0 p1 p2 p3 p4 p5 pf q0 q1 q2 q3 q4 q5 qf
  obtain ⟨p0, p1, p2, p3, p4, p5, pf⟩ := box_cells ((hb3.block _ lp).trans HP.out)
  obtain ⟨q0, q1, q2, q3, q4, q5, qf⟩ := box_cells ((hb3.block _ lq).trans HQ.out)
  go_wp2_with (go_at_call 17; refine (eqLinkS_e _ _ _ _ _).mono ?_; rintro e w' ⟨rfl, rfl⟩)
  refine (eqAskSS_e n _ _ w3 (HA.out.below hb3) (HA'.out.below hb3)).mono ?_
  rintro e w4 ⟨rfl, hb4⟩
  have hb24 := below_bb hb3 hb4
  clear p0 p1 p2 p3 p4 p5 pf q0 q1 q2 q3 q4 q5 qf
  obtain ⟨p0, p1, p2, p3, p4, p5, pf⟩ := box_cells ((hb24.block _ lp).trans HP.out)
  obtain ⟨q0, q1, q2, q3, q4, q5, qf⟩ := box_cells ((hb24.block _ lq).trans HQ.out)
  go_wp2_with (go_at_call 19; refine (eqPieceS_e _ _ _ _ _).mono ?_; rintro e w' ⟨rfl, rfl⟩)
  go_ret
  exact ⟨rfl, hb2.trans (hb24.mono hb2.size)⟩
theorem markWorld_e (s b : Int) (n k B : Nat) (F : Nat → Value) (vF vA xL xN : Value) (w : World) (hF : ON 6 B 39 w vF n F) (hE : ∀ j, j < n → Em (F (j * 6 + 4)) ∧ Em (F (j * 6 + 5))) (hA : EmsR w vA n) (hne : vA.ownBlock = none ∨ vA.ownBlock ≠ vF.ownBlock) (h1 : Em xL) (h2 : Em xN) (hn : n ≤ 1000000) (hk : k ≤ 1000000) :
    Calls Try.prog 7 #[.agg #[.int .i64 s, .int .i64 b, vF, xL, vA, xN], .int .i64 k] w fun e w' => e = .returned (.int .i64 ((k + 4 * n : Nat) : Int)) ∧ ON 6 B 39 w' vF n (mF k n F) ∧ w.grownBy w' vF.ownBlock := by
  obtain ⟨A1, d1, rfl, -, -⟩ := h1
  obtain ⟨A2, d2, rfl, -, -⟩ := h2
  obtain ⟨W2, HW2⟩ : ∃ W2, Hid (w.alloc (.cells #[.int .i64 s, .int .i64 b, vF, .slice A1 0 d1, vA, .slice A2 0 d2] 27) = W2) := ⟨_, Lib.hid rfl⟩
  have hb2 : Below w.heap.size w W2 := by rw [← HW2.out]; exact (Below.refl _ _).alloc (Nat.le_refl _) _
  have hp : W2.heap[w.heap.size]? = some (.cells #[.int .i64 s, .int .i64 b, vF, .slice A1 0 d1, vA, .slice A2 0 d2] 27 (0, 0)) := by
    rw [← HW2.out]; exact heap_alloc_new w _
  have lp := (Array.getElem?_eq_some_iff.1 hp).1
  have hpn : vF.ownBlock ≠ some w.heap.size := fun e => by have := (hF.lt _ e).2; omega
  have HF := Lib.hid (hF.below hb2)
  have HA := Lib.hid (hA.below hb2)
  have HE := Lib.hid hE
  have HNE := Lib.hid hne
  obtain ⟨p0, p1, p2, p3, p4, p5, pf⟩ := box_cells hp
  have HP := Lib.hid hp
  clear hp hF hA hE hne
  obtain ⟨K, HK⟩ : ∃ K : Int, Hid (((k + 4 * n : Nat) : Int) = K) := ⟨_, Lib.hid rfl⟩
  go_enter Try.func7, Try.ntmps7
  go_wp2_with fail
  rw [HW2.out]
  go_wp2_with fail
  refine (markFeedS_e n F vF k B W2 HF.out HE.out hn hk).mono ?_
  rintro e w3 ⟨rfl, ho3, hg3⟩
  rw [HK.out]
  clear p0 p1 p2 p3 p4 p5 pf
  obtain ⟨p0, p1, p2, p3, p4, p5, pf⟩ := box_cells ((hg3.block _ lp (fun e => hpn e.symm)).trans HP.out)
  have hA3 : EmsR w3 vA n := HA.out.keepG hg3 HNE.out
  go_wp2_with (first
    | (go_at_call 21; refine (markLinkS_e _ _ _ _).mono ?_; rintro e w' ⟨rfl, rfl⟩)
    | (go_at_call 22; refine (markAskSS_e n _ _ _ hA3).mono ?_; rintro e w' ⟨rfl, rfl⟩)
    | (go_at_call 23; refine (markPieceS_e _ _ _ _).mono ?_; rintro e w' ⟨rfl, rfl⟩))
  go_ret
  exact ⟨by rw [HK.out]; rfl, ho3, grow_trans (grow_below hb2) hg3⟩
theorem heldWorld_e (s b : Int) (n k : Nat) (F : Nat → Value) (vF vA xL xN : Value) (w : World) (hF : RN 6 w vF n (mF k n F)) (hE : ∀ j, j < n → Em (F (j * 6 + 4)) ∧ Em (F (j * 6 + 5))) (hA : EmsR w vA n) (h1 : Em xL) (h2 : Em xN) (hn : n ≤ 1000000) (hk : k ≤ 1000000) :
    Calls Try.prog 8 #[.agg #[.int .i64 s, .int .i64 b, vF, xL, vA, xN], .int .i64 k] w fun e w' => e = .returned (.int .i64 ((k + 4 * n : Nat) : Int)) ∧ Below w.heap.size w w' := by
  obtain ⟨A1, d1, rfl, -, -⟩ := h1
  obtain ⟨A2, d2, rfl, -, -⟩ := h2
  obtain ⟨W2, HW2⟩ : ∃ W2, Hid (w.alloc (.cells #[.int .i64 s, .int .i64 b, vF, .slice A1 0 d1, vA, .slice A2 0 d2] 27) = W2) := ⟨_, Lib.hid rfl⟩
  have hb2 : Below w.heap.size w W2 := by rw [← HW2.out]; exact (Below.refl _ _).alloc (Nat.le_refl _) _
  have hp : W2.heap[w.heap.size]? = some (.cells #[.int .i64 s, .int .i64 b, vF, .slice A1 0 d1, vA, .slice A2 0 d2] 27 (0, 0)) := by
    rw [← HW2.out]; exact heap_alloc_new w _
  have lp := (Array.getElem?_eq_some_iff.1 hp).1
  have HF := Lib.hid (hF.below hb2)
  have HA := Lib.hid (hA.below hb2)
  have HE := Lib.hid hE
  obtain ⟨p0, p1, p2, p3, p4, p5, pf⟩ := box_cells hp
  clear hp hF hA hE
  obtain ⟨K, HK⟩ : ∃ K : Int, Hid (((k + 4 * n : Nat) : Int) = K) := ⟨_, Lib.hid rfl⟩
  have hK : ¬ K < 0 := by rw [← HK.out]; omega
  have HK0 : Hid (0 ≤ K) := Lib.hid (by omega)
  go_enter Try.func8, Try.ntmps8
  go_wp2_with fail
  rw [HW2.out]
  go_wp2_with fail
  refine (heldFeedS_e n F vF k W2 HF.out HE.out hn hk).mono ?_
  rintro e w' ⟨rfl, rfl⟩
  rw [HK.out]
  go_wp2_with (first
    | (go_at_call 25; refine (heldLinkS_e _ _ _ _).mono ?_; rintro e w' ⟨rfl, rfl⟩)
    | (go_at_call 26; refine (heldAskSS_e n _ _ _ HA.out HK0.out).mono ?_; rintro e w' ⟨rfl, rfl⟩)
    | (go_at_call 27; refine (heldPieceS_e _ _ _ _).mono ?_; rintro e w' ⟨rfl, rfl⟩))
  go_ret
  exact ⟨by rw [HK.out]; rfl, hb2⟩
end Go.Proofs.Ytcplnfmcefkehaa
