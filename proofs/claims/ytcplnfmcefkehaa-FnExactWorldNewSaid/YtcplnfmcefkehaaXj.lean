/- Walk: the law FnExactWorldNew. -/
import Derived.Test.YtcplnfmcefkehaaXh
import Derived.Test.YtcplnfmcefkehaaXi
namespace Go.Proofs.Ytcplnfmcefkehaa
open Go.RowKit

theorem Em.sl {v : Value} (h : Em v) : ∃ A c, v = .slice A 0 c := by obtain ⟨A, c, h, _⟩ := h; exact ⟨A, c, h⟩
theorem apart_of {v u : Value} {m : Nat} (h1 : ∀ k, v.ownBlock = some k → k < m) (h2 : ∀ k, u.ownBlock = some k → m ≤ k) : v.ownBlock = none ∨ v.ownBlock ≠ u.ownBlock := by
  cases hv : v.ownBlock with
  | none => exact .inl rfl
  | some k => exact .inr fun e => by have := h1 k hv; have := h2 k e.symm; omega
theorem ON.ne_box {N B n q : Nat} {e t : TypeId} {w : World} {v : Value} {F : Nat → Value} {cur : Array Value} {x : Nat × Nat} (h : ON N B e w v n F) (hq : w.heap[q]? = some (.cells cur t x)) (ht : e ≠ t) : v.ownBlock ≠ some q := by
  intro he
  rcases h.2 with ⟨rfl, _⟩ | ⟨k, cap, cur2, rfl, hk, hh, r⟩
  · cases he
  · cases he
    rw [hh] at hq
    cases hq
    exact ht rfl
/-- A world in a box: its rows lie from block B on. -/
structure WB (B q : Nat) (w : World) (n : Nat) (s b p : Int) (vF vL vA vN : Value) (F G : Nat → Value) : Prop where
  box : w.heap[q]? = some (.cells #[.int .i64 s, .int .i64 b, vF, vL, vA, vN] 27 (0, 0))
  oF : ON 6 B 39 w vF n F
  nF : NewF p n F
  oA : ON 1 B 43 w vA n G
  eA : EmsF n G
  eL : Em vL
  eN : Em vN
section
variable {B q n : Nat} {w w' : World} {s b p : Int} {vF vL vA vN : Value} {F G : Nat → Value}
theorem WB.lt (h : WB B q w n s b p vF vL vA vN F G) : q < w.heap.size := (Array.getElem?_eq_some_iff.1 h.box).1
theorem WB.below (h : WB B q w n s b p vF vL vA vN F G) (hb : Below w.heap.size w w') : WB B q w' n s b p vF vL vA vN F G :=
  ⟨(hb.block q h.lt).trans h.box, h.oF.below hb, h.nF, h.oA.below hb, h.eA, h.eL, h.eN⟩
theorem WB.feeds (h : WB B q w n s b p vF vL vA vN F G) : FeedsR w vF (List.replicate n ⟨p, Hd.zero, [], []⟩) := h.nF.feeds h.oF.rn
theorem WB.asks (h : WB B q w n s b p vF vL vA vN F G) : EmsR w vA n := ⟨G, h.oA.rn, h.eA⟩
theorem WB.made (oF : ON 6 B 39 w vF n F) (nF : NewF p n F) (oA : ON 1 B 43 w vA n G) (eA : EmsF n G) (eL : Em vL) (eN : Em vN) :
    WB B w.heap.size (w.alloc (.cells #[.int .i64 s, .int .i64 b, vF, vL, vA, vN] 27)) n s b p vF vL vA vN F G :=
  ⟨heap_alloc_new w _, oF.below ((Below.refl _ _).alloc (Nat.le_refl _) _), nF, oA.below ((Below.refl _ _).alloc (Nat.le_refl _) _), eA, eL, eN⟩
theorem WB.grown {row : Option Nat} (h : WB B q w n s b p vF vL vA vN F G) (hg : w.grownBy w' row) (hq : some q ≠ row) (h1 : vF.ownBlock = none ∨ vF.ownBlock ≠ row) (h2 : vA.ownBlock = none ∨ vA.ownBlock ≠ row) : WB B q w' n s b p vF vL vA vN F G :=
  ⟨(hg.block q h.lt hq).trans h.box, h.oF.grown hg h1, h.nF, h.oA.grown hg h2, h.eA, h.eL, h.eN⟩
end
set_option maxHeartbeats 1600000 in
set_option maxRecDepth 100000 in
theorem worldNew_law {s n b : Int} {ok : Bool} {N : Nat} {s' b' p : Int} (hS : ∀ w, Calls Try.prog 4 #[.int .i64 s, .int .i64 n, .int .i64 b] w (WPost ok N s' b' p w)) (hI : ∀ w, Calls Try.prog 5 #[.int .i64 s, .int .i64 n, .int .i64 b] w (WPost ok N s' b' p w)) (hN : N ≤ 6) (w : World) :
    Calls Try.prog 3 #[.int .i64 s, .int .i64 n, .int .i64 b] w fun e w' => e = .returned (.bool true) ∧ Below w.heap.size w w' := by
  have HS := Lib.hid hS
  have HI := Lib.hid hI
  have HN := Lib.hid hN
  have hok : (ok != ok) = false := by cases ok <;> rfl
  obtain ⟨K, HK⟩ : ∃ K : Int, Hid (((1 + 4 * N : Nat) : Int) = K) := ⟨_, Lib.hid rfl⟩
  have hK : ¬ K < 0 := by rw [← HK.out]; omega
  have hKK : (K != K) = false := by simp
  clear hS hI hN
  go_enter Try.func3, Try.ntmps3
  go_wp2_with fail
  refine (HS.out w).mono ?_
  rintro e w1 ⟨vF, vL, vA, vN, F, G, rfl, oF, nF, oA, eA, eL, eN, hb1⟩
  obtain ⟨vA1, vc1, rfl⟩ := oF.rn.sl
  obtain ⟨vA2, vc2, rfl⟩ := oA.rn.sl
  obtain ⟨vA3, vc3, rfl⟩ := eL.sl
  obtain ⟨vA4, vc4, rfl⟩ := eN.sl
  have hv := WB.made (s := s') (b := b') oF nF oA eA eL eN
  have hb2 := hb1.alloc hb1.size (.cells #[.int .i64 s', .int .i64 b', .slice vA1 N vc1, .slice vA3 0 vc3, .slice vA2 N vc2, .slice vA4 0 vc4] 27)
  have hvl : ∀ k, (Value.slice vA1 N vc1).ownBlock = some k → k < w1.heap.size := fun k hk => (oF.lt k hk).2
  have hvm : ∀ k, (Value.slice vA2 N vc2).ownBlock = some k → k < w1.heap.size := fun k hk => (oA.lt k hk).2
  clear oF nF oA eA eL eN hb1
  go_wp2_with fail
  obtain ⟨W2, HW2⟩ : ∃ W2, Hid (w1.alloc (.cells #[.int .i64 s', .int .i64 b', .slice vA1 N vc1, .slice vA3 0 vc3, .slice vA2 N vc2, .slice vA4 0 vc4] 27) = W2) := ⟨_, Lib.hid rfl⟩
  obtain ⟨q, HQ⟩ : ∃ q, Hid (w1.heap.size = q) := ⟨_, Lib.hid rfl⟩
  rw [HW2.out] at hv hb2 ⊢
  rw [HQ.out] at hv hvl hvm ⊢
  have HVL := Lib.hid hvl
  have HVM := Lib.hid hvm
  clear hvl hvm
  refine (HI.out W2).mono ?_
  rintro e w3 ⟨uF, uL, uA, uN, F2, G2, rfl, oF, nF, oA, eA, eL, eN, hb3⟩
  obtain ⟨uA1, uc1, rfl⟩ := oF.rn.sl
  obtain ⟨uA2, uc2, rfl⟩ := oA.rn.sl
  obtain ⟨uA3, uc3, rfl⟩ := eL.sl
  obtain ⟨uA4, uc4, rfl⟩ := eN.sl
  have hu := WB.made (s := s') (b := b') oF nF oA eA eL eN
  have hsz3 := hb3.size
  have hb34 := hb3.alloc hb3.size (.cells #[.int .i64 s', .int .i64 b', .slice uA1 N uc1, .slice uA3 0 uc3, .slice uA2 N uc2, .slice uA4 0 uc4] 27)
  have hb4 := hb2.trans (hb34.mono hb2.size)
  have hv4 := hv.below hb34
  obtain ⟨p0, p1, p2, p3, p4, p5, pf⟩ := box_cells (hv.below hb3).box
  have lq := (hv.below hb3).lt
  clear oF nF oA eA eL eN hb3 hb34
  go_wp2_with fail
  obtain ⟨W4, HW4⟩ : ∃ W4, Hid (w3.alloc (.cells #[.int .i64 s', .int .i64 b', .slice uA1 N uc1, .slice uA3 0 uc3, .slice uA2 N uc2, .slice uA4 0 uc4] 27) = W4) := ⟨_, Lib.hid rfl⟩
  obtain ⟨r, HR⟩ : ∃ r, Hid (w3.heap.size = r) := ⟨_, Lib.hid rfl⟩
  rw [HW4.out] at hu hb4 hv4 ⊢
  rw [HR.out] at hu lq ⊢
  have hqB : q < W2.heap.size := hv.lt
  have HRB : Hid (W2.heap.size ≤ w3.heap.size) := Lib.hid hsz3
  have HWB : Hid (w.heap.size ≤ W2.heap.size) := Lib.hid hb2.size
  clear p0 p1 p2 p3 p4 p5 pf hv hb2
  refine (eqWorld_e _ _ _ N _ _ _ _ _ _ _ _ W4 hu.feeds hv4.feeds hu.asks hv4.asks hu.eL hu.eN hv4.eL hv4.eN).mono ?_
  rintro e w5 ⟨rfl, hb5⟩
  have hu5 := hu.below hb5
  have hv5 := hv4.below hb5
  have hb05 := hb4.trans (hb5.mono hb4.size)
  clear hu hv4 hb4 hb5
  obtain ⟨p0, p1, p2, p3, p4, p5, pf⟩ := box_cells hv5.box
  obtain ⟨r0, r1, r2, r3, r4, r5, rf⟩ := box_cells hu5.box
  go_wp2_with fail
  refine (markWorld_e _ _ N 1 W2.heap.size F2 _ _ _ _ w5 hu5.oF hu5.nF.em hu5.asks (hu5.oA.ne_ hu5.oF (by decide)) hu5.eL hu5.eN (by have := HN.out; omega) (by omega)).mono ?_
  rintro e w6 ⟨rfl, ho6, hg6⟩
  rw [HK.out]
  have huB : ∀ k, (Value.slice uA1 N uc1).ownBlock = some k → W2.heap.size ≤ k := fun k hk => (hu5.oF.lt k hk).1
  have hv6 := hv5.grown hg6 (fun e => by have := huB _ e.symm; omega) (apart_of (fun k hk => Nat.lt_trans (HVL.out k hk) hqB) huB) (apart_of (fun k hk => Nat.lt_trans (HVM.out k hk) hqB) huB)
  have hrl := hu5.lt
  have hrq : W2.heap.size ≤ r := by rw [← HR.out]; exact HRB.out
  have hbx6 := (hg6.block r hu5.lt (fun e => hu5.oF.ne_box hu5.box (by decide) e.symm)).trans hu5.box
  have hA6 := hu5.asks.keepG hg6 (hu5.oA.ne_ hu5.oF (by decide))
  have hb06 := hb05.grown hg6 hb05.size (fun k hk => by have := huB k hk; have := HWB.out; omega)
  have HEM := Lib.hid hu5.nF.em
  have HUL := Lib.hid hu5.eL
  have HUN := Lib.hid hu5.eN
  have hl6 : r < w6.heap.size := Nat.lt_of_lt_of_le hrl hg6.size
  clear p0 p1 p2 p3 p4 p5 pf r0 r1 r2 r3 r4 r5 rf hu5 hv5 hb05 hg6
  obtain ⟨r0, r1, r2, r3, r4, r5, rf⟩ := box_cells hbx6
  go_wp2_with fail
  refine (heldWorld_e _ _ N 1 F2 _ _ _ _ w6 ho6.rn HEM.out hA6 HUL.out HUN.out (by have := HN.out; omega) (by omega)).mono ?_
  rintro e w7 ⟨rfl, hb7⟩
  rw [HK.out]
  have hv7 := hv6.below hb7
  have ho7 := ho6.below hb7
  have hA7 := hA6.below hb7
  have hbx7 := (hb7.block r hl6).trans hbx6
  have hb07 := hb06.trans (hb7.mono hb06.size)
  have hl7 : r < w7.heap.size := Nat.lt_of_lt_of_le hl6 hb7.size
  clear hv6 ho6 hA6 hbx6 hb06 hb7 hl6 r0 r1 r2 r3 r4 r5 rf
  go_wp2_with fail
  refine (HI.out w7).mono ?_
  rintro e w8 ⟨tF, tL, tA, tN, F3, G3, rfl, oF, nF, oA, eA, eL, eN, hb8⟩
  obtain ⟨tA1, tc1, rfl⟩ := oF.rn.sl
  obtain ⟨tA2, tc2, rfl⟩ := oA.rn.sl
  obtain ⟨tA3, tc3, rfl⟩ := eL.sl
  obtain ⟨tA4, tc4, rfl⟩ := eN.sl
  have ht := WB.made (s := s') (b := b') oF nF oA eA eL eN
  have hb89 := hb8.alloc hb8.size (.cells #[.int .i64 s', .int .i64 b', .slice tA1 N tc1, .slice tA3 0 tc3, .slice tA2 N tc2, .slice tA4 0 tc4] 27)
  have hb9 := hb07.trans (hb89.mono hb07.size)
  have hv9 := hv7.below hb89
  have ho9 := ho7.below hb89
  have hA9 := hA7.below hb89
  have hbx9 := (hb89.block r hl7).trans hbx7
  have lr8 : r < w8.heap.size := Nat.lt_of_lt_of_le hl7 hb8.size
  obtain ⟨p0, p1, p2, p3, p4, p5, pf⟩ := box_cells (hv7.below hb8).box
  have lq8 := (hv7.below hb8).lt
  clear oF nF oA eA eL eN hb8 hb07 hv7 ho7 hA7 hbx7 hl7
  go_wp2_with fail
  obtain ⟨W9, HW9⟩ : ∃ W9, Hid (w8.alloc (.cells #[.int .i64 s', .int .i64 b', .slice tA1 N tc1, .slice tA3 0 tc3, .slice tA2 N tc2, .slice tA4 0 tc4] 27) = W9) := ⟨_, Lib.hid rfl⟩
  obtain ⟨u, HU⟩ : ∃ u, Hid (w8.heap.size = u) := ⟨_, Lib.hid rfl⟩
  rw [HW9.out] at ht hb9 hv9 ho9 hA9 hbx9 ⊢
  rw [HU.out] at ht lq8 lr8 ⊢
  clear p0 p1 p2 p3 p4 p5 pf
  refine (eqWorld_e _ _ _ N _ _ _ _ _ _ _ _ W9 ht.feeds hv9.feeds ht.asks hv9.asks ht.eL ht.eN hv9.eL hv9.eN).mono ?_
  rintro e w10 ⟨rfl, hb10⟩
  have hl9 : r < W9.heap.size := (Array.getElem?_eq_some_iff.1 hbx9).1
  have hbx10 := (hb10.block r hl9).trans hbx9
  have ho10 := ho9.below hb10
  have hA10 := hA9.below hb10
  have hb010 := hb9.trans (hb10.mono hb9.size)
  clear ht hv9 ho9 hA9 hb9 hbx9
  obtain ⟨r0, r1, r2, r3, r4, r5, rf⟩ := box_cells hbx10
  go_wp2_with fail
  refine (heldWorld_e _ _ N 1 F2 _ _ _ _ w10 ho10.rn HEM.out hA10 HUL.out HUN.out (by have := HN.out; omega) (by omega)).mono ?_
  rintro e w11 ⟨rfl, hb11⟩
  rw [HK.out]
  go_wp2
  go_ret
  exact ⟨rfl, hb010.trans (hb11.mono hb010.size)⟩
theorem FnExactWorldNew_any (s n b : Int) (w : World) : Calls Try.prog 3 #[.int .i64 s, .int .i64 n, .int .i64 b] w fun e w' => e = .returned (.bool true) ∧ Below w.heap.size w w' := by
  cases h : setOk s n b
  · exact worldNew_law (WorldNew_s_no (Lib.hid h)) (WorldNew_i_no (Lib.hid h)) (Nat.zero_le _) w
  · have hn : 0 ≤ n := by unfold setOk at h; simp [inB] at h; omega
    obtain ⟨N, rfl⟩ := Int.eq_ofNat_of_zero_le hn
    exact worldNew_law (WorldNew_s_ok (Lib.hid h)) (WorldNew_i_ok (Lib.hid h)) (setOk_true h).2.2.1 w
end Go.Proofs.Ytcplnfmcefkehaa
