/- Walks: sizes of worlds, worlds made; the law FnExactWorldValid. -/
import Derived.Test.YtcplnfmcefkehaaGreatBP
set_option linter.unusedVariables false
set_option linter.unusedSimpArgs false
namespace Go.Proofs.YtcplnfmcefkehaaGreat
open Go.RowKit

structure qrB (x : Wd) : Prop where
 f0 : x.feeds.length ≤ 1048576
 f1 : ∀ j (hj : j < x.feeds.length), x.feeds[j].bl.length ≤ 1048576 ∧ x.feeds[j].hv.length ≤ 1048576
 l0 : x.links.length ≤ 1048576
 k0 : x.asked.length ≤ 1048576
 k1 : ∀ j (hj : j < x.asked.length), x.asked[j].length ≤ 1048576
 n0 : x.net.length ≤ 1048576
 n1 : ∀ j (hj : j < x.net.length), x.net[j].prf.length ≤ 1048576
structure qrA (x : Wd) : Prop where
 f : ∀ j (hj : j < x.feeds.length), ∀ t ∈ x.feeds[j].bl, t.size ≤ maxLen
 n : ∀ j (hj : j < x.net.length), x.net[j].txt.size ≤ maxLen
theorem qpv {w : World} {q i k : Nat} {u : Value} {o : Option Obj} (h : w.heap[k]? = o) (hk : k ≠ q) : (w.setCell ⟨q, i, none⟩ u).heap[k]? = o := (Below.heap_setCell w ⟨q, i, none⟩ u k hk).trans h
def qrs (x : Wd) (w : World) (e : Ending) (w' : World) : Prop := ∃ A1 c1 A2 c2 A3 c3 A4 c4, e = .returned (.agg #[.int .i64 x.sec, .int .i64 x.bad, .slice A1 x.feeds.length c1, .slice A2 x.links.length c2, .slice A3 x.asked.length c3, .slice A4 x.net.length c4]) ∧ WdO w.heap.size w'.heap.size w' x (.slice A1 x.feeds.length c1) (.slice A2 x.links.length c2) (.slice A3 x.asked.length c3) (.slice A4 x.net.length c4) ∧ Below w.heap.size w w'
set_option maxHeartbeats 3200000 in
set_option maxRecDepth 100000 in
theorem qpF (x : Wd) (vF vL vK vN : Value) (w : World) (hx : WdR w x vF vL vK vN) (hz : qrB x) :
 Calls Tryz.prog 14 #[.agg #[.int .i64 x.sec, .int .i64 x.bad, vF, vL, vK, vN]] w (qrs x w) := by
 obtain ⟨s, b, fs, ls, ks, ps⟩ := x
 obtain ⟨q, HQQ⟩ : ∃ q, Hid (w.heap.size = q) := ⟨_, hI_ rfl⟩
 obtain ⟨W0, HW0⟩ : ∃ W0, Hid (((w.alloc (.cells #[.int .i64 s, .int .i64 b, vF, vL, vK, vN] 27)).alloc (.cells #[.int .i64 0, .int .i64 0, .slice none 0 0, .slice none 0 0, .slice none 0 0, .slice none 0 0] 35)).alloc (.cells #[.int .i64 s, .int .i64 b, .slice none 0 0, .slice none 0 0, .slice none 0 0, .slice none 0 0] 35) = W0) := ⟨_, hI_ rfl⟩
 have HB0 : Hid (Below q w W0) := hI_ (by rw [← HW0.out, ← HQQ.out]; exact (((bR_ _ _).alloc (nr_ _) _).alloc (by simp) _).alloc (by simp; omega) _)
 have hs0 : W0.heap.size = q + 1 + 1 + 1 := by rw [← HW0.out, ← HQQ.out]; simp
 have hp : W0.heap[q]? = some (.cells #[.int .i64 s, .int .i64 b, vF, vL, vK, vN] 27 (0, 0)) := by
  rw [← HW0.out, ← HQQ.out, heap_alloc_old _ _ (by simp; omega), heap_alloc_old _ _ (by simp)]; exact heap_alloc_new w _
 have hy : W0.heap[q + 1]? = some (.cells #[.int .i64 0, .int .i64 0, .slice none 0 0, .slice none 0 0, .slice none 0 0, .slice none 0 0] 35 (0, 0)) := by
  rw [← HW0.out, ← HQQ.out, heap_alloc_old _ _ (by simp)]
  have := heap_alloc_new (w.alloc (.cells #[.int .i64 s, .int .i64 b, vF, vL, vK, vN] 27)) (.cells #[.int .i64 0, .int .i64 0, .slice none 0 0, .slice none 0 0, .slice none 0 0, .slice none 0 0] 35)
  simpa using this
 have ho : W0.heap[q + 1 + 1]? = some (.cells #[.int .i64 s, .int .i64 b, .slice none 0 0, .slice none 0 0, .slice none 0 0, .slice none 0 0] 35 (0, 0)) := by
  rw [← HW0.out, ← HQQ.out]
  have := heap_alloc_new ((w.alloc (.cells #[.int .i64 s, .int .i64 b, vF, vL, vK, vN] 27)).alloc (.cells #[.int .i64 0, .int .i64 0, .slice none 0 0, .slice none 0 0, .slice none 0 0, .slice none 0 0] 35)) (.cells #[.int .i64 s, .int .i64 b, .slice none 0 0, .slice none 0 0, .slice none 0 0, .slice none 0 0] 35)
  simpa using this
 have HX := hI_ hx
 have HR0 := hI_ (hx.below (by rw [HQQ.out]; exact HB0.out))
 have HZ := hI_ hz
 have HS0 := hI_ hs0
 have lq : q < W0.heap.size := by omega
 have lq1 : q + 1 < W0.heap.size := by omega
 have lq2 : q + 1 + 1 < W0.heap.size := by omega
 have n1 : q ≠ q + 1 + 1 := by omega
 have n2 : q + 1 ≠ q + 1 + 1 := by omega
 have HP := hI_ hp
 have HY := hI_ hy
 have HO := hI_ ho
 have hw : w.heap.size = q := HQQ.out
 clear hp hy ho hx hz hs0
 go_enter Tryz.func14, Tryz.ntmps14
 go_wp2_with fail
 clear hw
 rw [HW0.out]
 refine (qqH fs _ W0 HR0.out.feeds HZ.out.f0 HZ.out.f1).mono ?_
 rintro e w1 ⟨rfl, ho1, hb1⟩
 obtain ⟨A1, HA1⟩ : ∃ A, Hid (some (⟨W0.heap.size, 0, none⟩ : Addr) = A) := ⟨_, hI_ rfl⟩
 rw [HA1.out] at ho1 ⊢
 have hqs1 : q ≤ W0.heap.size := Nat.le_of_lt (Array.getElem?_eq_some_iff.1 HP.out).1
 have hb01 : Below q w w1 := HB0.out.trans (hb1.mono hqs1)
 have hp := (hb1.block _ (Array.getElem?_eq_some_iff.1 HP.out).1).trans HP.out
 have hy := (hb1.block _ (Array.getElem?_eq_some_iff.1 HY.out).1).trans HY.out
 have hoo := (hb1.block _ (Array.getElem?_eq_some_iff.1 HO.out).1).trans HO.out
 obtain ⟨p0, p1, p2, p3, p4, p5, pf⟩ := qaa hp
 obtain ⟨o0, o1, o2, o3, o4, o5, of⟩ := qaa hoo
 obtain ⟨W1, HW1⟩ : ∃ W, Hid (w1.setCell ⟨q + 1 + 1, 2, none⟩ (.slice A1 fs.length fs.length) = W) := ⟨_, hI_ rfl⟩
 have HBW1 : Hid (Below q w W1) := hI_ (by rw [← HW1.out]; exact hb01.setCell (p := ⟨q + 1 + 1, 2, none⟩) (by show q ≤ q + 1 + 1; omega) _)
 have HP1 : Hid (W1.heap[q]? = some (.cells #[.int .i64 s, .int .i64 b, vF, vL, vK, vN] 27 (0, 0))) := hI_ (by rw [← HW1.out]; exact qpv hp n1)
 have HY1 : Hid (W1.heap[q + 1]? = some (.cells #[.int .i64 0, .int .i64 0, .slice none 0 0, .slice none 0 0, .slice none 0 0, .slice none 0 0] 35 (0, 0))) := hI_ (by rw [← HW1.out]; exact qpv hy n2)
 have HO1 : Hid (W1.heap[q + 1 + 1]? = some (.cells #[.int .i64 s, .int .i64 b, .slice A1 fs.length fs.length, .slice none 0 0, .slice none 0 0, .slice none 0 0] 35 (0, 0))) := hI_ (by rw [← HW1.out]; exact qas hoo _)
 have HSW1 : Hid (W0.heap.size ≤ W1.heap.size) := hI_ (by rw [← HW1.out]; simp only [World.size_setCell]; exact Nat.le_trans (nr_ _) hb1.size)
 have Rf1 : Hid (qa7 W0.heap.size W1.heap.size W1 (.slice A1 fs.length fs.length) fs) := hI_ (by rw [← HW1.out]; exact (ho1.mono (nr_ _) (by simp)).setb (p := ⟨q + 1 + 1, 2, none⟩) (nL_ lq2 (nr_ _)) _)
 have HWW1 : Hid (W0.heap.size ≤ W1.heap.size) := hI_ (by rw [← HW1.out]; simp only [World.size_setCell]; exact hb1.size)
 have HR1 := hI_ (HX.out.below (by rw [HQQ.out]; exact HBW1.out))
 have lp1 : q < w1.heap.size := (Array.getElem?_eq_some_iff.1 hp).1
 have lo1 : q + 1 + 1 < w1.heap.size := (Array.getElem?_eq_some_iff.1 hoo).1
 clear hp hy hoo ho1 hb1 hb01 hqs1
 go_wp2_with fail
 rw [HW1.out]
 clear p0 p1 p2 p3 p4 p5 pf o0 o1 o2 o3 o4 o5 of lp1 lo1
 refine (qqI ls _ W1 HR1.out.links HZ.out.l0).mono ?_
 rintro e w2 ⟨rfl, ho2, hb2⟩
 obtain ⟨A2, HA2⟩ : ∃ A, Hid (some (⟨W1.heap.size, 0, none⟩ : Addr) = A) := ⟨_, hI_ rfl⟩
 rw [HA2.out] at ho2 ⊢
 have hqs2 : q ≤ W1.heap.size := Nat.le_of_lt (Array.getElem?_eq_some_iff.1 HP1.out).1
 have hb02 : Below q w w2 := HBW1.out.trans (hb2.mono hqs2)
 have hp := (hb2.block _ (Array.getElem?_eq_some_iff.1 HP1.out).1).trans HP1.out
 have hy := (hb2.block _ (Array.getElem?_eq_some_iff.1 HY1.out).1).trans HY1.out
 have hoo := (hb2.block _ (Array.getElem?_eq_some_iff.1 HO1.out).1).trans HO1.out
 obtain ⟨p0, p1, p2, p3, p4, p5, pf⟩ := qaa hp
 obtain ⟨o0, o1, o2, o3, o4, o5, of⟩ := qaa hoo
 obtain ⟨W2, HW2⟩ : ∃ W, Hid (w2.setCell ⟨q + 1 + 1, 3, none⟩ (.slice A2 ls.length ls.length) = W) := ⟨_, hI_ rfl⟩
 have HBW2 : Hid (Below q w W2) := hI_ (by rw [← HW2.out]; exact hb02.setCell (p := ⟨q + 1 + 1, 3, none⟩) (by show q ≤ q + 1 + 1; omega) _)
 have HP2 : Hid (W2.heap[q]? = some (.cells #[.int .i64 s, .int .i64 b, vF, vL, vK, vN] 27 (0, 0))) := hI_ (by rw [← HW2.out]; exact qpv hp n1)
 have HY2 : Hid (W2.heap[q + 1]? = some (.cells #[.int .i64 0, .int .i64 0, .slice none 0 0, .slice none 0 0, .slice none 0 0, .slice none 0 0] 35 (0, 0))) := hI_ (by rw [← HW2.out]; exact qpv hy n2)
 have HO2 : Hid (W2.heap[q + 1 + 1]? = some (.cells #[.int .i64 s, .int .i64 b, .slice A1 fs.length fs.length, .slice A2 ls.length ls.length, .slice none 0 0, .slice none 0 0] 35 (0, 0))) := hI_ (by rw [← HW2.out]; exact qas hoo _)
 have HSW2 : Hid (W0.heap.size ≤ W2.heap.size) := hI_ (by rw [← HW2.out]; simp only [World.size_setCell]; exact Nat.le_trans HSW1.out hb2.size)
 have Rf2 := hI_ (by rw [← HW2.out]; exact (Rf1.out.below hb2).setb (p := ⟨q + 1 + 1, 3, none⟩) (nL_ lq2 (nr_ _)) _ : qa7 W0.heap.size W1.heap.size W2 _ _)
 have Rl2 : Hid (qct W1.heap.size W2.heap.size 52 W2 (.slice A2 ls.length ls.length) ls) := hI_ (by rw [← HW2.out]; exact (ho2.mono (nr_ _) (by simp)).setb (p := ⟨q + 1 + 1, 3, none⟩) (nL_ lq2 HSW1.out) _)
 have HWW2 : Hid (W1.heap.size ≤ W2.heap.size) := hI_ (by rw [← HW2.out]; simp only [World.size_setCell]; exact hb2.size)
 have HR2 := hI_ (HX.out.below (by rw [HQQ.out]; exact HBW2.out))
 have lp2 : q < w2.heap.size := (Array.getElem?_eq_some_iff.1 hp).1
 have lo2 : q + 1 + 1 < w2.heap.size := (Array.getElem?_eq_some_iff.1 hoo).1
 clear hp hy hoo ho2 hb2 hb02 hqs2
 go_wp2_with fail
 rw [HW2.out]
 clear p0 p1 p2 p3 p4 p5 pf o0 o1 o2 o3 o4 o5 of lp2 lo2
 refine (qqF ks _ W2 HR2.out.asked HZ.out.k0 HZ.out.k1).mono ?_
 rintro e w3 ⟨rfl, ho3, hb3⟩
 obtain ⟨A3, HA3⟩ : ∃ A, Hid (some (⟨W2.heap.size, 0, none⟩ : Addr) = A) := ⟨_, hI_ rfl⟩
 rw [HA3.out] at ho3 ⊢
 have hqs3 : q ≤ W2.heap.size := Nat.le_of_lt (Array.getElem?_eq_some_iff.1 HP2.out).1
 have hb03 : Below q w w3 := HBW2.out.trans (hb3.mono hqs3)
 have hp := (hb3.block _ (Array.getElem?_eq_some_iff.1 HP2.out).1).trans HP2.out
 have hy := (hb3.block _ (Array.getElem?_eq_some_iff.1 HY2.out).1).trans HY2.out
 have hoo := (hb3.block _ (Array.getElem?_eq_some_iff.1 HO2.out).1).trans HO2.out
 obtain ⟨p0, p1, p2, p3, p4, p5, pf⟩ := qaa hp
 obtain ⟨o0, o1, o2, o3, o4, o5, of⟩ := qaa hoo
 obtain ⟨W3, HW3⟩ : ∃ W, Hid (w3.setCell ⟨q + 1 + 1, 4, none⟩ (.slice A3 ks.length ks.length) = W) := ⟨_, hI_ rfl⟩
 have HBW3 : Hid (Below q w W3) := hI_ (by rw [← HW3.out]; exact hb03.setCell (p := ⟨q + 1 + 1, 4, none⟩) (by show q ≤ q + 1 + 1; omega) _)
 have HP3 : Hid (W3.heap[q]? = some (.cells #[.int .i64 s, .int .i64 b, vF, vL, vK, vN] 27 (0, 0))) := hI_ (by rw [← HW3.out]; exact qpv hp n1)
 have HY3 : Hid (W3.heap[q + 1]? = some (.cells #[.int .i64 0, .int .i64 0, .slice none 0 0, .slice none 0 0, .slice none 0 0, .slice none 0 0] 35 (0, 0))) := hI_ (by rw [← HW3.out]; exact qpv hy n2)
 have HO3 : Hid (W3.heap[q + 1 + 1]? = some (.cells #[.int .i64 s, .int .i64 b, .slice A1 fs.length fs.length, .slice A2 ls.length ls.length, .slice A3 ks.length ks.length, .slice none 0 0] 35 (0, 0))) := hI_ (by rw [← HW3.out]; exact qas hoo _)
 have HSW3 : Hid (W0.heap.size ≤ W3.heap.size) := hI_ (by rw [← HW3.out]; simp only [World.size_setCell]; exact Nat.le_trans HSW2.out hb3.size)
 have Rf3 := hI_ (by rw [← HW3.out]; exact (Rf2.out.below hb3).setb (p := ⟨q + 1 + 1, 4, none⟩) (nL_ lq2 (nr_ _)) _ : qa7 W0.heap.size W1.heap.size W3 _ _)
 have Rl3 := hI_ (by rw [← HW3.out]; exact (Rl2.out.below hb3).setb (p := ⟨q + 1 + 1, 4, none⟩) (nL_ lq2 HSW1.out) _ : qct W1.heap.size W2.heap.size 52 W3 _ _)
 have Ra3 : Hid (qcA W2.heap.size W3.heap.size W3 (.slice A3 ks.length ks.length) ks) := hI_ (by rw [← HW3.out]; exact (ho3.mono (nr_ _) (by simp)).setb (p := ⟨q + 1 + 1, 4, none⟩) (nL_ lq2 HSW2.out) _)
 have HWW3 : Hid (W2.heap.size ≤ W3.heap.size) := hI_ (by rw [← HW3.out]; simp only [World.size_setCell]; exact hb3.size)
 have HR3 := hI_ (HX.out.below (by rw [HQQ.out]; exact HBW3.out))
 have lp3 : q < w3.heap.size := (Array.getElem?_eq_some_iff.1 hp).1
 have lo3 : q + 1 + 1 < w3.heap.size := (Array.getElem?_eq_some_iff.1 hoo).1
 clear hp hy hoo ho3 hb3 hb03 hqs3
 go_wp2_with fail
 rw [HW3.out]
 clear p0 p1 p2 p3 p4 p5 pf o0 o1 o2 o3 o4 o5 of lp3 lo3
 refine (qqw ps _ W3 HR3.out.net HZ.out.n0 HZ.out.n1).mono ?_
 rintro e w4 ⟨rfl, ho4, hb4⟩
 obtain ⟨A4, HA4⟩ : ∃ A, Hid (some (⟨W3.heap.size, 0, none⟩ : Addr) = A) := ⟨_, hI_ rfl⟩
 rw [HA4.out] at ho4 ⊢
 have hqs4 : q ≤ W3.heap.size := Nat.le_of_lt (Array.getElem?_eq_some_iff.1 HP3.out).1
 have hb04 : Below q w w4 := HBW3.out.trans (hb4.mono hqs4)
 have hp := (hb4.block _ (Array.getElem?_eq_some_iff.1 HP3.out).1).trans HP3.out
 have hy := (hb4.block _ (Array.getElem?_eq_some_iff.1 HY3.out).1).trans HY3.out
 have hoo := (hb4.block _ (Array.getElem?_eq_some_iff.1 HO3.out).1).trans HO3.out
 obtain ⟨p0, p1, p2, p3, p4, p5, pf⟩ := qaa hp
 obtain ⟨o0, o1, o2, o3, o4, o5, of⟩ := qaa hoo
 obtain ⟨W4, HW4⟩ : ∃ W, Hid (w4.setCell ⟨q + 1 + 1, 5, none⟩ (.slice A4 ps.length ps.length) = W) := ⟨_, hI_ rfl⟩
 have HBW4 : Hid (Below q w W4) := hI_ (by rw [← HW4.out]; exact hb04.setCell (p := ⟨q + 1 + 1, 5, none⟩) (by show q ≤ q + 1 + 1; omega) _)
 have HP4 : Hid (W4.heap[q]? = some (.cells #[.int .i64 s, .int .i64 b, vF, vL, vK, vN] 27 (0, 0))) := hI_ (by rw [← HW4.out]; exact qpv hp n1)
 have HY4 : Hid (W4.heap[q + 1]? = some (.cells #[.int .i64 0, .int .i64 0, .slice none 0 0, .slice none 0 0, .slice none 0 0, .slice none 0 0] 35 (0, 0))) := hI_ (by rw [← HW4.out]; exact qpv hy n2)
 have HO4 : Hid (W4.heap[q + 1 + 1]? = some (.cells #[.int .i64 s, .int .i64 b, .slice A1 fs.length fs.length, .slice A2 ls.length ls.length, .slice A3 ks.length ks.length, .slice A4 ps.length ps.length] 35 (0, 0))) := hI_ (by rw [← HW4.out]; exact qas hoo _)
 have HSW4 : Hid (W0.heap.size ≤ W4.heap.size) := hI_ (by rw [← HW4.out]; simp only [World.size_setCell]; exact Nat.le_trans HSW3.out hb4.size)
 have Rf4 := hI_ (by rw [← HW4.out]; exact (Rf3.out.below hb4).setb (p := ⟨q + 1 + 1, 5, none⟩) (nL_ lq2 (nr_ _)) _ : qa7 W0.heap.size W1.heap.size W4 _ _)
 have Rl4 := hI_ (by rw [← HW4.out]; exact (Rl3.out.below hb4).setb (p := ⟨q + 1 + 1, 5, none⟩) (nL_ lq2 HSW1.out) _ : qct W1.heap.size W2.heap.size 52 W4 _ _)
 have Ra4 := hI_ (by rw [← HW4.out]; exact (Ra3.out.below hb4).setb (p := ⟨q + 1 + 1, 5, none⟩) (nL_ lq2 HSW2.out) _ : qcA W2.heap.size W3.heap.size W4 _ _)
 have Rn4 : Hid (qbd W3.heap.size W4.heap.size W4 (.slice A4 ps.length ps.length) ps) := hI_ (by rw [← HW4.out]; exact (ho4.mono (nr_ _) (by simp)).setb (p := ⟨q + 1 + 1, 5, none⟩) (nL_ lq2 HSW3.out) _)
 have HWW4 : Hid (W3.heap.size ≤ W4.heap.size) := hI_ (by rw [← HW4.out]; simp only [World.size_setCell]; exact hb4.size)
 obtain ⟨z0, z1, z2, z3, z4, z5, zf⟩ := qaa hy
 have lp4 : q < w4.heap.size := (Array.getElem?_eq_some_iff.1 hp).1
 have lo4 : q + 1 + 1 < w4.heap.size := (Array.getElem?_eq_some_iff.1 hoo).1
 have ly4 : q + 1 < w4.heap.size := (Array.getElem?_eq_some_iff.1 hy).1
 obtain ⟨x0, x1, x2, x3, x4, x5, xf⟩ := qaa HO4.out
 obtain ⟨y0, y1, y2, y3, y4, y5, yf⟩ := qaa HY4.out
 rw [← HW4.out] at x0 x1 x2 x3 x4 x5 xf y0 y1 y2 y3 y4 y5 yf
 have HB4 := HBW4.out
 rw [← HW4.out] at HB4
 have HB4' := hI_ HB4
 have hL := hI_ lq1
 have HQQ' := HQQ
 clear hp hy hoo ho4 hb4 hb04 hqs4 HB4 z0 z1 z2 z3 z4 z5 zf
 have Q4 := hI_ (show qa7 W0.heap.size W1.heap.size W4 _ _ ∧ qct W1.heap.size W2.heap.size 52 W4 _ _ ∧ qcA W2.heap.size W3.heap.size W4 _ _ ∧ qbd W3.heap.size W4.heap.size W4 _ _ from ⟨Rf4.out, Rl4.out, Ra4.out, Rn4.out⟩)
 have Q5 := Q4.out
 rw [← HW4.out] at Q5
 have Q6 := hI_ Q5
 clear Q5 Q4
 go_wp2
 refine bodyPost_ret (v := .agg #[.int .i64 s, .int .i64 b, .slice A1 fs.length fs.length, .slice A2 ls.length ls.length, .slice A3 ks.length ks.length, .slice A4 ps.length ps.length]) (by simp [results, Tryz.results14, go_sem, y0, y1, y2, y3, y4, y5]) rfl ⟨A1, _, A2, _, A3, _, A4, _, rfl, ?_, ?_⟩
 · obtain ⟨q1, q2, q3, q4⟩ := Q6.out
   have hle : w.heap.size ≤ W0.heap.size := by rw [HQQ.out]; exact Nat.le_of_lt lq
   refine WdO.mono (C := (w4.setCell ⟨q + 1 + 1, 5, none⟩ (.slice A4 ps.length ps.length)).heap.size) ?_ hle (by simp)
   refine ⟨W1.heap.size, W2.heap.size, W3.heap.size, HWW1.out, HWW2.out, HWW3.out, by rw [HW4.out]; exact HWW4.out, ?_, ?_, ?_, ?_⟩
   · refine qa7.setb (qa7.setb (qa7.setb (qa7.setb (qa7.setb (qa7.setb ?_ ?_ _) ?_ _) ?_ _) ?_ _) ?_ _) ?_ _
     · exact q1
     all_goals exact lq1
   · refine qct.setb (qct.setb (qct.setb (qct.setb (qct.setb (qct.setb ?_ ?_ _) ?_ _) ?_ _) ?_ _) ?_ _) ?_ _
     · exact q2
     all_goals exact nL_ lq1 HSW1.out
   · refine qcA.setb (qcA.setb (qcA.setb (qcA.setb (qcA.setb (qcA.setb ?_ ?_ _) ?_ _) ?_ _) ?_ _) ?_ _) ?_ _
     · exact q3
     all_goals exact nL_ lq1 HSW2.out
   · refine qbd.setb (qbd.setb (qbd.setb (qbd.setb (qbd.setb (qbd.setb ?_ ?_ _) ?_ _) ?_ _) ?_ _) ?_ _) ?_ _
     · exact q4
     all_goals exact nL_ lq1 HSW3.out
 · rw [HQQ.out]
   have c1 : q ≤ q + 1 := Nat.le_succ q
   refine Below.setCell (Below.setCell (Below.setCell (Below.setCell (Below.setCell (Below.setCell ?_ ?_ _) ?_ _) ?_ _) ?_ _) ?_ _) ?_ _
   · exact HB4'.out
   all_goals exact c1
end Go.Proofs.YtcplnfmcefkehaaGreat
