/- Walk: the law FnForkHead. -/
import Derived.Test.YtlhiabnablbkpaaTe
namespace Go.Proofs.Ytlhiabnablbkpaa
open Go.RowKit

set_option maxHeartbeats 800000 in
theorem ForkCheck_true (p : Int) (a b : Hd) (w : World) (h1 : Hid (hcheck p a = true)) (h2 : Hid (hcheck p b = true)) (h3 : Hid (a.len = b.len)) (h4 : Hid (a.dg ≠ b.dg)) :
    Calls Try.prog 59 #[.agg #[.int .i64 p, .int .i64 a.len, .int .i64 a.dg, .int .i64 a.sg, .int .i64 b.len, .int .i64 b.dg, .int .i64 b.sg]] w fun e w' => e = .returned (.bool true) ∧ Below w.heap.size w w' := by
  have hb0 := (Below.refl w.heap.size w).alloc (Nat.le_refl _) (.cells #[.int .i64 p, .int .i64 a.len, .int .i64 a.dg, .int .i64 a.sg, .int .i64 b.len, .int .i64 b.dg, .int .i64 b.sg] 77)
  have hq : (w.alloc (.cells #[.int .i64 p, .int .i64 a.len, .int .i64 a.dg, .int .i64 a.sg, .int .i64 b.len, .int .i64 b.dg, .int .i64 b.sg] 77)).heap[w.heap.size]? = some (.cells #[.int .i64 p, .int .i64 a.len, .int .i64 a.dg, .int .i64 a.sg, .int .i64 b.len, .int .i64 b.dg, .int .i64 b.sg] 77 (0, 0)) := heap_alloc_new w _
  have hql : w.heap.size < (w.alloc (.cells #[.int .i64 p, .int .i64 a.len, .int .i64 a.dg, .int .i64 a.sg, .int .i64 b.len, .int .i64 b.dg, .int .i64 b.sg] 77)).heap.size := by simp
  go_enter Try.func59, Try.ntmps59
  go_wp2_with fail
  obtain ⟨W0, HW0⟩ : ∃ W0, Hid (w.alloc (.cells #[.int .i64 p, .int .i64 a.len, .int .i64 a.dg, .int .i64 a.sg, .int .i64 b.len, .int .i64 b.dg, .int .i64 b.sg] 77) = W0) := ⟨_, Lib.hid rfl⟩
  rw [HW0.out] at hb0 hq hql ⊢
  refine (HeadCheck_ib h1 W0).mono ?_
  rintro e w1 ⟨rfl, hb1⟩
  have hq1 := (hb1.block _ hql).trans hq
  have c0 := cell_of_row w1 w.heap.size 0 _ _ (0, 0) hq1
  have c4 := cell_of_row w1 w.heap.size 4 _ _ (0, 0) hq1
  have c5 := cell_of_row w1 w.heap.size 5 _ _ (0, 0) hq1
  have c6 := cell_of_row w1 w.heap.size 6 _ _ (0, 0) hq1
  go_wp2_with fail
  refine (HeadCheck_ib h2 w1).mono ?_
  rintro e w2 ⟨rfl, hb2⟩
  have hq2 := (hb2.block _ (Nat.lt_of_lt_of_le hql hb1.size)).trans hq1
  clear c0 c4 c5 c6
  have c1 := cell_of_row w2 w.heap.size 1 _ _ (0, 0) hq2
  have c2 := cell_of_row w2 w.heap.size 2 _ _ (0, 0) hq2
  have c4 := cell_of_row w2 w.heap.size 4 _ _ (0, 0) hq2
  have c5 := cell_of_row w2 w.heap.size 5 _ _ (0, 0) hq2
  have e3 : (a.len == b.len) = true := beq_iff_eq.2 h3.out
  have e4 : (a.dg != b.dg) = true := bne_iff_ne.2 h4.out
  go_wp2
  go_ret
  exact ⟨rfl, hb0.trans ((hb1.trans (hb2.mono hb1.size)).mono hb0.size)⟩
theorem fork_facts {f : Fd} {h : Hd} {l : List Int} (hv : fvalid f = true) (hc : hcode f h l = 3) : hcheck f.pub h = true ∧ hcheck f.pub f.hd = true ∧ f.hd.len = h.len := by
  unfold hcode at hc
  split at hc
  · cases hc
  · rename_i c1
    split at hc
    · cases hc
    · split at hc
      · cases hc
      · split at hc
        · rename_i c4
          simp only [Bool.or_eq_true, Bool.not_eq_true', beq_iff_eq, not_or, Bool.not_eq_false] at c1
          refine ⟨c1.1, ?_, c4.symm⟩
          simp only [fvalid, Bool.and_eq_true, Bool.or_eq_true] at hv
          rcases hv.1.1.1.1.2 with h1 | h1
          · simp only [Hd.isZero, Bool.and_eq_true, beq_iff_eq] at h1
            exact absurd (c4.trans h1.1.1) c1.2
          · exact h1
        · split at hc <;> cases hc
set_option maxHeartbeats 1600000 in
set_option maxRecDepth 100000 in
theorem FnForkHead_any (bs : List UInt8) (v : Value) (w : World) (hv : RU w v bs) : Calls Try.prog 19 #[v] w fun e w' => e = .returned (.bool true) ∧ Below w.heap.size w w' := by
  have HV := Lib.hid hv
  obtain ⟨A, c, rfl, n1, n2, _⟩ := hv
  unfold maxLen at n2
  have hbm : bs.length ≤ 9223372036854775807 := by have := n1.1; omega
  clear n1 n2
  by_cases hl : 1048576 < bs.length
  · have hl' : (1048576 : Int) < (bs.length : Int) := by omega
    go_enter Try.func19, Try.ntmps19
    go_wp2
    go_ret
    exact ⟨rfl, Below.refl _ _⟩
  have hl' : ¬ (1048576 : Int) < (bs.length : Int) := by omega
  go_enter Try.func19, Try.ntmps19
  go_wp2_with fail
  refine (DrawFeedHead_any bs _ w HV.out).mono ?_
  rintro e w1 ⟨f, ub, uh, h, gv, gl, rfl, hf1, -, -, -, hg1, -, hb1⟩
  obtain ⟨uA, uc, rfl⟩ := hf1.bl.sl
  obtain ⟨tA, tc, rfl⟩ := hf1.hv.sl
  obtain ⟨pA, pc, rfl⟩ : ∃ pA pc, gv = .slice pA gl.length pc := by obtain ⟨a, b, h, _⟩ := hg1; exact ⟨a, b, h⟩
  have hL2 := LW.made (h := h) hf1 hg1
  have hb2 := (hb1.alloc hb1.size (.cells #[.int .i64 f.pub, .int .i64 f.hd.len, .int .i64 f.hd.dg, .int .i64 f.hd.sg, .slice uA f.bl.length uc, .slice tA f.hv.length tc] 34)).alloc (Nat.le_trans hb1.size (by simp)) (.cells #[.int .i64 h.len, .int .i64 h.dg, .int .i64 h.sg] 32)
  go_wp2_with fail
  obtain ⟨W2, HW2⟩ : ∃ W2, Hid ((w1.alloc (.cells #[.int .i64 f.pub, .int .i64 f.hd.len, .int .i64 f.hd.dg, .int .i64 f.hd.sg, .slice uA f.bl.length uc, .slice tA f.hv.length tc] 34)).alloc (.cells #[.int .i64 h.len, .int .i64 h.dg, .int .i64 h.sg] 32) = W2) := ⟨_, Lib.hid rfl⟩
  obtain ⟨q, HQ⟩ : ∃ q, Hid (w1.heap.size = q) := ⟨_, Lib.hid rfl⟩
  rw [HW2.out] at hb2 hL2 ⊢
  rw [HQ.out] at hL2 ⊢
  clear hf1 hb1 hg1
  obtain ⟨g, cc, HG⟩ : ∃ g b, Hid (fhead f h gl = (g, b)) := ⟨_, _, Lib.hid rfl⟩
  refine (FeedHead_ig HG _ _ _ W2 hL2.fb.fo.r hL2.gr).mono ?_
  rintro e w3 ⟨ub3, uh3, rfl, hg3, hb3⟩
  obtain ⟨xA, xc, rfl⟩ := hg3.bl.sl
  obtain ⟨yA, yc, rfl⟩ := hg3.hv.sl
  have hL3 := hL2.below hb3
  have hL4 := hL2.below (hb3.alloc hb3.size (.cells #[.int .i64 g.pub, .int .i64 g.hd.len, .int .i64 g.hd.dg, .int .i64 g.hd.sg, .slice xA g.bl.length xc, .slice yA g.hv.length yc] 34))
  have hg4 := FB.made hg3
  have hb4 := hb2.trans ((hb3.alloc hb3.size (.cells #[.int .i64 g.pub, .int .i64 g.hd.len, .int .i64 g.hd.dg, .int .i64 g.hd.sg, .slice xA g.bl.length xc, .slice yA g.hv.length yc] 34)).mono hb2.size)
  have k0 := hL2.fb.c0; have k1 := hL2.fb.c1; have k2 := hL2.fb.c2; have k3 := hL2.fb.c3; have k4 := hL2.fb.c4; have k5 := hL2.fb.c5
  have l0 := hL3.fb.c0; have l1 := hL3.fb.c1; have l2 := hL3.fb.c2; have l3 := hL3.fb.c3; have l4 := hL3.fb.c4; have l5 := hL3.fb.c5
  obtain ⟨i0, i1, i2, -⟩ := box3_cells hL3.hd
  have lq := hL3.fb.lt
  have lz := hL3.lz
  clear hL2 hg3 hb3 hb2 hL3
  go_wp2_with fail
  obtain ⟨W4, HW4⟩ : ∃ W4, Hid (w3.alloc (.cells #[.int .i64 g.pub, .int .i64 g.hd.len, .int .i64 g.hd.dg, .int .i64 g.hd.sg, .slice xA g.bl.length xc, .slice yA g.hv.length yc] 34) = W4) := ⟨_, Lib.hid rfl⟩
  obtain ⟨r, HR⟩ : ∃ r, Hid (w3.heap.size = r) := ⟨_, Lib.hid rfl⟩
  rw [HW4.out] at hL4 hg4 hb4 ⊢
  rw [HR.out] at hg4 ⊢
  clear k0 k1 k2 k3 k4 k5 l0 l1 l2 l3 l4 l5 lq lz i0 i1 i2
  refine (FeedHead_sg HG _ _ _ W4 hL4.fb.fo.r hL4.gr).mono ?_
  rintro e w5 ⟨ub5, uh5, rfl, hg5, hb5⟩
  obtain ⟨xA2, xc2, rfl⟩ := hg5.bl.sl
  obtain ⟨yA2, yc2, rfl⟩ := hg5.hv.sl
  have hb45 := hb5.alloc hb5.size (.cells #[.int .i64 g.pub, .int .i64 g.hd.len, .int .i64 g.hd.dg, .int .i64 g.hd.sg, .slice xA2 g.bl.length xc2, .slice yA2 g.hv.length yc2] 34)
  have hL6 := hL4.below hb45
  have hg6 := hg4.below hb45
  have hh6 := FB.made hg5
  have hb6 := hb4.trans (hb45.mono hb4.size)
  have k0 := (hg4.below hb5).c0; have k1 := (hg4.below hb5).c1; have k2 := (hg4.below hb5).c2; have k3 := (hg4.below hb5).c3; have k4 := (hg4.below hb5).c4; have k5 := (hg4.below hb5).c5
  have lr := (hg4.below hb5).lt
  clear hL4 hg4 hg5 hb5 hb45 hb4
  go_wp2_with fail
  obtain ⟨W6, HW6⟩ : ∃ W6, Hid (w5.alloc (.cells #[.int .i64 g.pub, .int .i64 g.hd.len, .int .i64 g.hd.dg, .int .i64 g.hd.sg, .slice xA2 g.bl.length xc2, .slice yA2 g.hv.length yc2] 34) = W6) := ⟨_, Lib.hid rfl⟩
  obtain ⟨s, HS⟩ : ∃ s, Hid (w5.heap.size = s) := ⟨_, Lib.hid rfl⟩
  rw [HW6.out] at hL6 hg6 hh6 hb6 ⊢
  rw [HS.out] at hh6 ⊢
  clear k0 k1 k2 k3 k4 k5 lr
  refine (sameFeed_same g _ _ _ _ W6 hg6.fo.r hh6.fo.r).mono ?_
  rintro e w7 ⟨rfl, hb7⟩
  have hL7 := hL6.below hb7
  have hg7 := hg6.below hb7
  have hh7 := hh6.below hb7
  have hb07 := hb6.trans (hb7.mono hb6.size)
  have HL7 := Lib.hid hL7
  have HG7 := Lib.hid hg7
  have HH7 := Lib.hid hh7
  clear hL6 hg6 hh6 hb6 hb7
  have k0 := hL7.fb.c0; have k1 := hL7.fb.c1; have k2 := hL7.fb.c2; have k3 := hL7.fb.c3; have k4 := hL7.fb.c4; have k5 := hL7.fb.c5
  have j0 := hg7.c0; have j1 := hg7.c1; have j2 := hg7.c2; have j3 := hg7.c3; have j4 := hg7.c4; have j5 := hg7.c5
  obtain ⟨i0, i1, i2, -⟩ := box3_cells hL7.hd
  have lq := hL7.fb.lt
  have lz := hL7.lz
  have lr := hg7.lt
  by_cases hc3 : cc = 3
  rotate_left
  · have hc3' : (cc != 3) = true := by rw [bne_iff_ne]; exact hc3
    have m0 := hh7.c0; have m1 := hh7.c1; have m2 := hh7.c2; have m3 := hh7.c3; have m4 := hh7.c4; have m5 := hh7.c5
    go_wp2_with fail
    refine (sameFeed_same g _ _ _ _ w7 HG7.out.fo.r HH7.out.fo.r).mono ?_
    rintro e w8 ⟨rfl, hb8⟩
    go_wp2
    go_ret
    exact ⟨rfl, hb07.trans (hb8.mono hb07.size)⟩
  subst hc3
  by_cases hd : f.hd.dg = h.dg
  · have hd' : (f.hd.dg == h.dg) = true := beq_iff_eq.2 hd
    clear hd
    have m0 := hh7.c0; have m1 := hh7.c1; have m2 := hh7.c2; have m3 := hh7.c3; have m4 := hh7.c4; have m5 := hh7.c5
    go_wp2_with fail
    refine (sameFeed_same g _ _ _ _ w7 HG7.out.fo.r HH7.out.fo.r).mono ?_
    rintro e w8 ⟨rfl, hb8⟩
    go_wp2
    go_ret
    exact ⟨rfl, hb07.trans (hb8.mono hb07.size)⟩
  have hd' : (f.hd.dg == h.dg) = false := beq_eq_false_iff_ne.2 hd
  obtain ⟨hfv, hcd, -, -⟩ := fhead_not5 HG.out (by decide)
  obtain ⟨f1, f2, f3⟩ := fork_facts hfv hcd
  have HD := Lib.hid hd
  have F1 := Lib.hid f1; have F2 := Lib.hid f2; have F3 := Lib.hid f3
  clear hd hfv hcd f1 f2 f3
  go_wp2_with fail
  refine (ForkCheck_true f.pub f.hd h w7 F2 F1 F3 HD).mono ?_
  rintro e w8 ⟨rfl, hb8⟩
  go_wp2
  go_ret
  exact ⟨rfl, hb07.trans (hb8.mono hb07.size)⟩
end Go.Proofs.Ytlhiabnablbkpaa
