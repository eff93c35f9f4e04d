/- Walk: the law FnHeadTwice. -/
import Derived.Test.YtlhiabnablbkpaaTe
namespace Go.Proofs.Ytlhiabnablbkpaa
open Go.RowKit

set_option maxHeartbeats 1600000 in
set_option maxRecDepth 100000 in
theorem FnHeadTwice_any (bs : List UInt8) (v : Value) (w : World) (hv : RU w v bs) : Calls Try.prog 17 #[v] w fun e w' => e = .returned (.bool true) ∧ Below w.heap.size w w' := by
  have HV := Lib.hid hv
  obtain ⟨A, c, rfl, n1, n2, _⟩ := hv
  unfold maxLen at n2
  have hbm : bs.length ≤ 9223372036854775807 := by have := n1.1; omega
  clear n1 n2
  by_cases hl : 1048576 < bs.length
  · have hl' : (1048576 : Int) < (bs.length : Int) := by omega
    go_enter Try.func17, Try.ntmps17
    go_wp2
    go_ret
    exact ⟨rfl, Below.refl _ _⟩
  have hl' : ¬ (1048576 : Int) < (bs.length : Int) := by omega
  go_enter Try.func17, Try.ntmps17
  go_wp2_with fail
  refine (DrawFeedHead_any bs _ w HV.out).mono ?_
  rintro e w1 ⟨f, ub, uh, h, gv, gl, rfl, hf1, -, -, -, hg1, -, hb1⟩
  obtain ⟨uA, uc, rfl⟩ := hf1.bl.sl
  obtain ⟨tA, tc, rfl⟩ := hf1.hv.sl
  obtain ⟨pA, pc, rfl⟩ : ∃ pA pc, gv = .slice pA gl.length pc := by obtain ⟨a, b, h, _⟩ := hg1; exact ⟨a, b, h⟩
  have hL2 := LW.made (h := h) hf1 hg1
  have hb2 := (hb1.alloc hb1.size (.cells #[.int .i64 f.pub, .int .i64 f.hd.len, .int .i64 f.hd.dg, .int .i64 f.hd.sg, .slice uA f.bl.length uc, .slice tA f.hv.length tc] 34)).alloc (Nat.le_trans hb1.size (by simp)) (.cells #[.int .i64 h.len, .int .i64 h.dg, .int .i64 h.sg] 32)
  go_wp2_with fail
  obtain ⟨W2, HW2⟩ : ∃ W2, Hid ((w1.alloc (.cells #[.int .i64 f.pub, .int .i64 f.hd.len, .int .i64 f.hd.dg, .int .i64 f.hd.sg, .slice uA f.bl.length uc, .slice tA f.hv.length tc] 34)).alloc (.cells #[.int .i64 h.len, .int .i64 h.dg, .int .i64 h.sg] 32) = W2) := ⟨_, Lib.hid rfl⟩
  obtain ⟨q, HQ⟩ : ∃ q, Hid (w1.heap.size = q) := ⟨_, Lib.hid rfl⟩
  rw [HW2.out] at hb2 hL2 ⊢
  rw [HQ.out] at hL2 ⊢
  clear hf1 hb1 hg1
  obtain ⟨g, cc, HG⟩ : ∃ g b, Hid (fhead f h gl = (g, b)) := ⟨_, _, Lib.hid rfl⟩
  refine (FeedHead_ig HG _ _ _ W2 hL2.fb.fo.r hL2.gr).mono ?_
  rintro e w3 ⟨ub3, uh3, rfl, hg3, hb3⟩
  obtain ⟨xA, xc, rfl⟩ := hg3.bl.sl
  obtain ⟨yA, yc, rfl⟩ := hg3.hv.sl
  have hL3 := hL2.below hb3
  have hL4 := hL2.below (hb3.alloc hb3.size (.cells #[.int .i64 g.pub, .int .i64 g.hd.len, .int .i64 g.hd.dg, .int .i64 g.hd.sg, .slice xA g.bl.length xc, .slice yA g.hv.length yc] 34))
  have hg4 := FB.made hg3
  have hb4 := hb2.trans ((hb3.alloc hb3.size (.cells #[.int .i64 g.pub, .int .i64 g.hd.len, .int .i64 g.hd.dg, .int .i64 g.hd.sg, .slice xA g.bl.length xc, .slice yA g.hv.length yc] 34)).mono hb2.size)
  have k0 := hL2.fb.c0; have k1 := hL2.fb.c1; have k2 := hL2.fb.c2; have k3 := hL2.fb.c3; have k4 := hL2.fb.c4; have k5 := hL2.fb.c5
  have l0 := hL3.fb.c0; have l1 := hL3.fb.c1; have l2 := hL3.fb.c2; have l3 := hL3.fb.c3; have l4 := hL3.fb.c4; have l5 := hL3.fb.c5
  obtain ⟨i0, i1, i2, -⟩ := box3_cells hL3.hd
  have lq := hL3.fb.lt
  have lz := hL3.lz
  clear hL2 hg3 hb3 hb2 hL3
  go_wp2_with fail
  obtain ⟨W4, HW4⟩ : ∃ W4, Hid (w3.alloc (.cells #[.int .i64 g.pub, .int .i64 g.hd.len, .int .i64 g.hd.dg, .int .i64 g.hd.sg, .slice xA g.bl.length xc, .slice yA g.hv.length yc] 34) = W4) := ⟨_, Lib.hid rfl⟩
  obtain ⟨r, HR⟩ : ∃ r, Hid (w3.heap.size = r) := ⟨_, Lib.hid rfl⟩
  rw [HW4.out] at hL4 hg4 hb4 ⊢
  rw [HR.out] at hg4 ⊢
  clear k0 k1 k2 k3 k4 k5 l0 l1 l2 l3 l4 l5 lq lz i0 i1 i2
  refine (FeedHead_sg HG _ _ _ W4 hL4.fb.fo.r hL4.gr).mono ?_
  rintro e w5 ⟨ub5, uh5, rfl, hg5, hb5⟩
  obtain ⟨xA2, xc2, rfl⟩ := hg5.bl.sl
  obtain ⟨yA2, yc2, rfl⟩ := hg5.hv.sl
  have hb45 := hb5.alloc hb5.size (.cells #[.int .i64 g.pub, .int .i64 g.hd.len, .int .i64 g.hd.dg, .int .i64 g.hd.sg, .slice xA2 g.bl.length xc2, .slice yA2 g.hv.length yc2] 34)
  have hL6 := hL4.below hb45
  have hg6 := hg4.below hb45
  have hh6 := FB.made hg5
  have hb6 := hb4.trans (hb45.mono hb4.size)
  have k0 := (hg4.below hb5).c0; have k1 := (hg4.below hb5).c1; have k2 := (hg4.below hb5).c2; have k3 := (hg4.below hb5).c3; have k4 := (hg4.below hb5).c4; have k5 := (hg4.below hb5).c5
  have lr := (hg4.below hb5).lt
  clear hL4 hg4 hg5 hb5 hb45 hb4
  go_wp2_with fail
  obtain ⟨W6, HW6⟩ : ∃ W6, Hid (w5.alloc (.cells #[.int .i64 g.pub, .int .i64 g.hd.len, .int .i64 g.hd.dg, .int .i64 g.hd.sg, .slice xA2 g.bl.length xc2, .slice yA2 g.hv.length yc2] 34) = W6) := ⟨_, Lib.hid rfl⟩
  obtain ⟨s, HS⟩ : ∃ s, Hid (w5.heap.size = s) := ⟨_, Lib.hid rfl⟩
  rw [HW6.out] at hL6 hg6 hh6 hb6 ⊢
  rw [HS.out] at hh6 ⊢
  clear k0 k1 k2 k3 k4 k5 lr
  refine (sameFeed_same g _ _ _ _ W6 hg6.fo.r hh6.fo.r).mono ?_
  rintro e w7 ⟨rfl, hb7⟩
  have hL7 := hL6.below hb7
  have hg7 := hg6.below hb7
  have hh7 := hh6.below hb7
  have hb07 := hb6.trans (hb7.mono hb6.size)
  have HL7 := Lib.hid hL7
  have HG7 := Lib.hid hg7
  have HH7 := Lib.hid hh7
  clear hL6 hg6 hh6 hb6 hb7
  have k0 := hL7.fb.c0; have k1 := hL7.fb.c1; have k2 := hL7.fb.c2; have k3 := hL7.fb.c3; have k4 := hL7.fb.c4; have k5 := hL7.fb.c5
  have j0 := hg7.c0; have j1 := hg7.c1; have j2 := hg7.c2; have j3 := hg7.c3; have j4 := hg7.c4; have j5 := hg7.c5
  obtain ⟨i0, i1, i2, -⟩ := box3_cells hL7.hd
  have lq := hL7.fb.lt
  have lz := hL7.lz
  have lr := hg7.lt
  by_cases hc0 : cc = 0
  rotate_left
  · have hc0' : (cc != 0) = true := by rw [bne_iff_ne]; exact hc0
    have m0 := hh7.c0; have m1 := hh7.c1; have m2 := hh7.c2; have m3 := hh7.c3; have m4 := hh7.c4; have m5 := hh7.c5
    go_wp2_with fail
    refine (sameFeed_same g _ _ _ _ w7 HG7.out.fo.r HH7.out.fo.r).mono ?_
    rintro e w8 ⟨rfl, hb8⟩
    go_wp2
    go_ret
    exact ⟨rfl, hb07.trans (hb8.mono hb07.size)⟩
  subst hc0
  obtain ⟨hfv, hcd, hg0, -⟩ := fhead_not5 HG.out (by decide)
  have hgg : g = f.grow h := hg0 rfl
  have HGA : Hid (fhead g h gl = (g, 1)) := Lib.hid (fhead_keep (by rw [hgg]; exact grow_valid hfv hcd) (by rw [hgg]; exact hcode_same hcd) (by decide))
  obtain ⟨o2, b2, HGB⟩ : ∃ o2 b2, Hid (fhead g f.hd gl = (o2, b2)) := ⟨_, _, Lib.hid rfl⟩
  have HB2 : Hid (f.hd.len ≠ 0 → o2 = g ∧ b2 = 2) := Lib.hid (fun hz => by
    have h1 := fhead_keep (f := g) (h := f.hd) (l := gl) (c := 2) (by rw [hgg]; exact grow_valid hfv hcd) (by rw [hgg]; exact hcode_old hfv hcd hz) (by decide)
    rw [HGB.out] at h1
    exact ⟨congrArg Prod.fst h1, congrArg Prod.snd h1⟩)
  clear hfv hcd hg0 hgg
  go_wp2_with fail
  refine (FeedHead_ig HGA _ _ _ w7 hg7.fo.r hL7.gr).mono ?_
  rintro e w8 ⟨ub8, uh8, rfl, hx8, hb8⟩
  obtain ⟨rA, rc, rfl⟩ := hx8.bl.sl
  obtain ⟨sA, sc, rfl⟩ := hx8.hv.sl
  have hL8 := hL7.below hb8
  have hg8 := hg7.below hb8
  clear k0 k1 k2 k3 k4 k5 j0 j1 j2 j3 j4 j5 i0 i1 i2 lq lz lr
  have k0 := hL8.fb.c0; have k1 := hL8.fb.c1; have k2 := hL8.fb.c2; have k3 := hL8.fb.c3; have k4 := hL8.fb.c4; have k5 := hL8.fb.c5
  have j0 := hg8.c0; have j1 := hg8.c1; have j2 := hg8.c2; have j3 := hg8.c3; have j4 := hg8.c4; have j5 := hg8.c5
  have lq := hL8.fb.lt
  have lr := hg8.lt
  have hb89 := hb8.alloc hb8.size (.cells #[.int .i64 g.pub, .int .i64 g.hd.len, .int .i64 g.hd.dg, .int .i64 g.hd.sg, .slice rA g.bl.length rc, .slice sA g.hv.length sc] 34)
  have hL9 := hL7.below hb89
  have hg9 := hg7.below hb89
  have hx9 := FB.made hx8
  have hb09 := hb07.trans (hb89.mono hb07.size)
  clear hL8 hg8 hx8 hb8 hb89 hL7 hg7 hh7
  go_wp2_with fail
  obtain ⟨W9, HW9⟩ : ∃ W9, Hid (w8.alloc (.cells #[.int .i64 g.pub, .int .i64 g.hd.len, .int .i64 g.hd.dg, .int .i64 g.hd.sg, .slice rA g.bl.length rc, .slice sA g.hv.length sc] 34) = W9) := ⟨_, Lib.hid rfl⟩
  obtain ⟨t, HT⟩ : ∃ t, Hid (w8.heap.size = t) := ⟨_, Lib.hid rfl⟩
  rw [HW9.out] at hL9 hg9 hx9 hb09 ⊢
  rw [HT.out] at hx9 ⊢
  clear k0 k1 k2 k3 k4 k5 j0 j1 j2 j3 j4 j5 lq lr
  refine (FeedHead_ig HGB _ _ _ W9 hg9.fo.r hL9.gr).mono ?_
  rintro e w10 ⟨ub10, uh10, rfl, hy10, hb10⟩
  obtain ⟨mA, mc, rfl⟩ := hy10.bl.sl
  obtain ⟨nA, nc, rfl⟩ := hy10.hv.sl
  have hg10 := hg9.below hb10
  have hx10 := hx9.below hb10
  have k0 := hx10.c0; have k1 := hx10.c1; have k2 := hx10.c2; have k3 := hx10.c3; have k4 := hx10.c4; have k5 := hx10.c5
  have j0 := hg10.c0; have j1 := hg10.c1; have j2 := hg10.c2; have j3 := hg10.c3; have j4 := hg10.c4; have j5 := hg10.c5
  have lt := hx10.lt
  have lr := hg10.lt
  have hbab := hb10.alloc hb10.size (.cells #[.int .i64 o2.pub, .int .i64 o2.hd.len, .int .i64 o2.hd.dg, .int .i64 o2.hd.sg, .slice mA o2.bl.length mc, .slice nA o2.hv.length nc] 34)
  have hL11 := hL9.below hbab
  have hg11 := hg9.below hbab
  have hx11 := hx9.below hbab
  have hy11 := FB.made hy10
  have hb011 := hb09.trans (hbab.mono hb09.size)
  clear hg10 hx10 hy10 hb10 hbab hL9 hg9 hx9 hb09
  go_wp2_with fail
  obtain ⟨Wb, HWb⟩ : ∃ Wb, Hid (w10.alloc (.cells #[.int .i64 o2.pub, .int .i64 o2.hd.len, .int .i64 o2.hd.dg, .int .i64 o2.hd.sg, .slice mA o2.bl.length mc, .slice nA o2.hv.length nc] 34) = Wb) := ⟨_, Lib.hid rfl⟩
  obtain ⟨u, HU⟩ : ∃ u, Hid (w10.heap.size = u) := ⟨_, Lib.hid rfl⟩
  rw [HWb.out] at hL11 hg11 hx11 hy11 hb011 ⊢
  rw [HU.out] at hy11 ⊢
  clear k0 k1 k2 k3 k4 k5 j0 j1 j2 j3 j4 j5 lt lr
  refine (sameFeed_same g _ _ _ _ Wb hx11.fo.r hg11.fo.r).mono ?_
  rintro e w12 ⟨rfl, hb12⟩
  have hL12 := hL11.below hb12
  have hg12 := hg11.below hb12
  have hy12 := hy11.below hb12
  have hb012 := hb011.trans (hb12.mono hb011.size)
  have k0 := hL12.fb.c0; have k1 := hL12.fb.c1; have k2 := hL12.fb.c2; have k3 := hL12.fb.c3; have k4 := hL12.fb.c4; have k5 := hL12.fb.c5
  have j0 := hg12.c0; have j1 := hg12.c1; have j2 := hg12.c2; have j3 := hg12.c3; have j4 := hg12.c4; have j5 := hg12.c5
  have m0 := hy12.c0; have m1 := hy12.c1; have m2 := hy12.c2; have m3 := hy12.c3; have m4 := hy12.c4; have m5 := hy12.c5
  have lq := hL12.fb.lt
  have lr := hg12.lt
  have lu := hy12.lt
  clear hL11 hg11 hx11 hy11 hb011 hb12
  by_cases hz : f.hd.len = 0
  · have hz' : (f.hd.len == 0) = true := beq_iff_eq.2 hz
    clear hz
    go_wp2
    go_ret
    exact ⟨rfl, hb012⟩
  · have hz' : (f.hd.len == 0) = false := beq_eq_false_iff_ne.2 hz
    obtain ⟨rfl, rfl⟩ := HB2.out hz
    clear hz
    go_wp2_with fail
    refine (sameFeed_same o2 _ _ _ _ w12 hy12.fo.r hg12.fo.r).mono ?_
    rintro e w13 ⟨rfl, hb13⟩
    go_wp2
    go_ret
    exact ⟨rfl, hb012.trans (hb13.mono hb012.size)⟩
end Go.Proofs.Ytlhiabnablbkpaa
