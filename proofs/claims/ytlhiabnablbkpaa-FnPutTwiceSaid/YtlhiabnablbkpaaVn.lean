/- Walk: the law FnPutTwice. -/
import Derived.Test.YtlhiabnablbkpaaVk
import Derived.Test.YtlhiabnablbkpaaVd
import Derived.Test.YtlhiabnablbkpaaVf
namespace Go.Proofs.Ytlhiabnablbkpaa
open Go.RowKit

set_option maxHeartbeats 3200000 in
set_option maxRecDepth 100000 in
theorem FnPutTwice_any (bs : List UInt8) (v : Value) (v2 : Value) (bs2 : List UInt8) (w : World) (hv : RU w v bs) (hv2 : RU w v2 bs2) : Calls Try.prog 13 #[v, v2] w fun e w' => e = .returned (.bool true) ∧ Below w.heap.size w w' := by
  have HV := Lib.hid hv
  obtain ⟨A, c, rfl, n1, n2, _⟩ := hv
  unfold maxLen at n2
  have hbm : bs.length ≤ 9223372036854775807 := by have := n1.1; omega
  clear n1 n2
  obtain ⟨A2, c2, rfl, m1, m2, _⟩ := hv2
  unfold maxLen at m2
  have hbm2 : bs2.length ≤ 9223372036854775807 := by have := m1.1; omega
  clear m1 m2
  by_cases hl : 1048576 < bs.length
  · have hl' : (1048576 : Int) < (bs.length : Int) := by omega
    go_enter Try.func13, Try.ntmps13
    go_wp2
    go_ret
    exact ⟨rfl, Below.refl _ _⟩
  have hl' : ¬ (1048576 : Int) < (bs.length : Int) := by omega
  by_cases hlm : 1048576 < bs2.length
  · have hlm' : (1048576 : Int) < (bs2.length : Int) := by omega
    go_enter Try.func13, Try.ntmps13
    go_wp2
    go_ret
    exact ⟨rfl, Below.refl _ _⟩
  have hlm' : ¬ (1048576 : Int) < (bs2.length : Int) := by omega
  go_enter Try.func13, Try.ntmps13
  go_wp2_with fail
  refine (DrawFeedPut_any bs _ w HV.out).mono ?_
  rintro e w1 ⟨f, ub, uh, i, t, pv, pl, rfl, hf1, -, -, -, i1, i2, ht, hp1, hpl, hb1⟩
  obtain ⟨uA, uc, rfl⟩ := hf1.bl.sl
  obtain ⟨tA, tc, rfl⟩ := hf1.hv.sl
  obtain ⟨pA, pc, rfl⟩ : ∃ pA pc, pv = .slice pA pl.length pc := by obtain ⟨a, b, h, _⟩ := hp1; exact ⟨a, b, h⟩
  have htm : t.size ≤ maxLen := by unfold maxLen; omega
  have hf2 := FB.made hf1
  have hp2 := hp1.alloc (.cells #[.int .i64 f.pub, .int .i64 f.hd.len, .int .i64 f.hd.dg, .int .i64 f.hd.sg, .slice uA f.bl.length uc, .slice tA f.hv.length tc] 34)
  have hb2 := hb1.alloc hb1.size (.cells #[.int .i64 f.pub, .int .i64 f.hd.len, .int .i64 f.hd.dg, .int .i64 f.hd.sg, .slice uA f.bl.length uc, .slice tA f.hv.length tc] 34)
  go_wp2_with fail
  obtain ⟨W2, HW2⟩ : ∃ W2, Hid (w1.alloc (.cells #[.int .i64 f.pub, .int .i64 f.hd.len, .int .i64 f.hd.dg, .int .i64 f.hd.sg, .slice uA f.bl.length uc, .slice tA f.hv.length tc] 34) = W2) := ⟨_, Lib.hid rfl⟩
  obtain ⟨q, HQ⟩ : ∃ q, Hid (w1.heap.size = q) := ⟨_, Lib.hid rfl⟩
  rw [HW2.out, HQ.out] at hf2
  rw [HW2.out] at hb2 hp2 ⊢
  rw [HQ.out]
  clear hf1 hb1 hp1
  obtain ⟨g, b, HG⟩ : ∃ g b, Hid (fput f i t pl = (g, b)) := ⟨_, _, Lib.hid rfl⟩
  have HP2 := Lib.hid hp2
  clear hp2
  refine (FeedPut_ig HG _ _ _ W2 hf2.fo.r htm HP2.out).mono ?_
  rintro e w3 ⟨ub3, uh3, rfl, hg3, hb3⟩
  obtain ⟨xA, xc, rfl⟩ := hg3.bl.sl
  obtain ⟨yA, yc, rfl⟩ := hg3.hv.sl
  have hf4 := hf2.below (hb3.alloc hb3.size (.cells #[.int .i64 g.pub, .int .i64 g.hd.len, .int .i64 g.hd.dg, .int .i64 g.hd.sg, .slice xA g.bl.length xc, .slice yA g.hv.length yc] 34))
  have hg4 := FB.made hg3
  have HP4 := Lib.hid (HP2.out.below (hb3.alloc hb3.size (.cells #[.int .i64 g.pub, .int .i64 g.hd.len, .int .i64 g.hd.dg, .int .i64 g.hd.sg, .slice xA g.bl.length xc, .slice yA g.hv.length yc] 34)))
  have hb4 := hb2.trans ((hb3.alloc hb3.size (.cells #[.int .i64 g.pub, .int .i64 g.hd.len, .int .i64 g.hd.dg, .int .i64 g.hd.sg, .slice xA g.bl.length xc, .slice yA g.hv.length yc] 34)).mono hb2.size)
  have k0 := hf2.c0; have k1 := hf2.c1; have k2 := hf2.c2; have k3 := hf2.c3; have k4 := hf2.c4; have k5 := hf2.c5
  have l0 := (hf2.below hb3).c0; have l1 := (hf2.below hb3).c1; have l2 := (hf2.below hb3).c2; have l3 := (hf2.below hb3).c3; have l4 := (hf2.below hb3).c4; have l5 := (hf2.below hb3).c5
  have lq := (hf2.below hb3).lt
  clear hf2 hg3 hb3 hb2
  go_wp2_with fail
  obtain ⟨W4, HW4⟩ : ∃ W4, Hid (w3.alloc (.cells #[.int .i64 g.pub, .int .i64 g.hd.len, .int .i64 g.hd.dg, .int .i64 g.hd.sg, .slice xA g.bl.length xc, .slice yA g.hv.length yc] 34) = W4) := ⟨_, Lib.hid rfl⟩
  obtain ⟨z, HZ⟩ : ∃ z, Hid (w3.heap.size = z) := ⟨_, Lib.hid rfl⟩
  rw [HW4.out] at hf4 hg4 hb4 HP4 ⊢
  rw [HZ.out] at hg4 ⊢
  clear k0 k1 k2 k3 k4 k5 l0 l1 l2 l3 l4 l5 lq
  refine (FeedPut_sg HG _ _ _ W4 hf4.fo.r htm HP4.out).mono ?_
  rintro e w5 ⟨ub5, uh5, rfl, hg5, hb5⟩
  obtain ⟨xA2, xc2, rfl⟩ := hg5.bl.sl
  obtain ⟨yA2, yc2, rfl⟩ := hg5.hv.sl
  have hb45 := hb5.alloc hb5.size (.cells #[.int .i64 g.pub, .int .i64 g.hd.len, .int .i64 g.hd.dg, .int .i64 g.hd.sg, .slice xA2 g.bl.length xc2, .slice yA2 g.hv.length yc2] 34)
  have hf6 := hf4.below hb45
  have hg6 := hg4.below hb45
  have hh6 := FB.made hg5
  have HP6 := Lib.hid (HP4.out.below hb45)
  have hb6 := hb4.trans (hb45.mono hb4.size)
  have k0 := (hg4.below hb5).c0; have k1 := (hg4.below hb5).c1; have k2 := (hg4.below hb5).c2; have k3 := (hg4.below hb5).c3; have k4 := (hg4.below hb5).c4; have k5 := (hg4.below hb5).c5
  have lz := (hg4.below hb5).lt
  clear hf4 hg4 hg5 hb5 hb45 hb4
  cases b
  · go_wp2_with fail
    obtain ⟨W6, HW6⟩ : ∃ W6, Hid (w5.alloc (.cells #[.int .i64 g.pub, .int .i64 g.hd.len, .int .i64 g.hd.dg, .int .i64 g.hd.sg, .slice xA2 g.bl.length xc2, .slice yA2 g.hv.length yc2] 34) = W6) := ⟨_, Lib.hid rfl⟩
    rw [HW6.out] at hg6 hh6 hb6 ⊢
    refine (sameFeed_same g _ _ _ _ W6 hg6.fo.r hh6.fo.r).mono ?_
    rintro e w7 ⟨rfl, hb7⟩
    have hg7 := hg6.below hb7
    have hh7 := hh6.below hb7
    have m0 := hg7.c0; have m1 := hg7.c1; have m2 := hg7.c2; have m3 := hg7.c3; have m4 := hg7.c4; have m5 := hg7.c5
    have j0 := hh7.c0; have j1 := hh7.c1; have j2 := hh7.c2; have j3 := hh7.c3; have j4 := hh7.c4; have j5 := hh7.c5
    go_wp2_with fail
    refine (sameFeed_same g _ _ _ _ w7 hg7.fo.r hh7.fo.r).mono ?_
    rintro e w8 ⟨rfl, hb8⟩
    go_wp2
    go_ret
    exact ⟨rfl, hb6.trans ((hb7.trans (hb8.mono hb7.size)).mono hb6.size)⟩
  obtain ⟨m, rfl, hmb, hmh, l16, hlen, ht8, hfm, hgp, hfv, hgv, hck⟩ := put_facts HG.out
  have HLEN := Lib.hid hlen; have HFM := Lib.hid hfm; have HGP := Lib.hid hgp; have HFV := Lib.hid hfv; have HGV := Lib.hid hgv; have HCK := Lib.hid hck
  have h16 : f.hv.length ≤ 16 := by omega
  clear hlen hfm hgp hfv hgv hck
  go_wp2_with fail
  obtain ⟨W6, HW6⟩ : ∃ W6, Hid (w5.alloc (.cells #[.int .i64 g.pub, .int .i64 g.hd.len, .int .i64 g.hd.dg, .int .i64 g.hd.sg, .slice xA2 g.bl.length xc2, .slice yA2 g.hv.length yc2] 34) = W6) := ⟨_, Lib.hid rfl⟩
  rw [HW6.out] at hg6 hh6 hb6 hf6 HP6 ⊢
  refine (sameFeed_same g _ _ _ _ W6 hg6.fo.r hh6.fo.r).mono ?_
  rintro e w7 ⟨rfl, hb7⟩
  have hf7 := hf6.below hb7
  have hg7 := hg6.below hb7
  have HP7 := Lib.hid (HP6.out.below hb7)
  have hb07 := hb6.trans (hb7.mono hb6.size)
  have HF7 := Lib.hid hf7
  have HG7 := Lib.hid hg7
  clear hf6 hg6 hh6 hb6 hb7 k0 k1 k2 k3 k4 k5 lz
  have k0 := hf7.c0; have k1 := hf7.c1; have k2 := hf7.c2; have k3 := hf7.c3; have k4 := hf7.c4; have k5 := hf7.c5
  have j0 := hg7.c0; have j1 := hg7.c1; have j2 := hg7.c2; have j3 := hg7.c3; have j4 := hg7.c4; have j5 := hg7.c5
  have lq := hf7.lt
  have lz := hg7.lt
  have hcv := conv_one w7 (97 + (bs2.length : Int) % 26)
  obtain ⟨t2, HT2⟩ : ∃ t2, Hid ((⟨[UInt8.ofNat (97 + (bs2.length : Int) % 26).toNat].toArray⟩ : ByteArray) = t2) := ⟨_, Lib.hid rfl⟩
  rw [HT2.out] at hcv
  have ht2 : t2.size ≤ 8 := by rw [← HT2.out]; show (1 : Nat) ≤ 8; omega
  have htm2 : t2.size ≤ maxLen := by unfold maxLen; omega
  have HG2 : Hid (fput g (m : Int) t2 pl = (g, false)) := Lib.hid (fput_keep HGV.out ht2 (.inl (by
    unfold fputMay
    rw [HGP.out]
    simp [Fd.put, hmh])))
  have hba := (Below.refl w7.heap.size w7).alloc (Nat.le_refl _) (.cells #[.int .u8 (97 + (bs2.length : Int) % 26)] 5)
  have hga := hg7.below hba
  have HPA := Lib.hid (HP7.out.below hba)
  go_wp2_with fail
  refine (FeedPut_ig HG2 _ _ _ _ hga.fo.r htm2 HPA.out).mono ?_
  rintro e w8 ⟨ub8, uh8, rfl, hg8, hb8⟩
  obtain ⟨rA, rc, rfl⟩ := hg8.bl.sl
  obtain ⟨sA, sc, rfl⟩ := hg8.hv.sl
  have hx9 := FB.made hg8
  have hb89 := hba.trans (hb8.mono hba.size)
  have hz8 := hg7.below hb89
  have i0 := hz8.c0; have i1 := hz8.c1; have i2 := hz8.c2; have i3 := hz8.c3; have i4 := hz8.c4; have i5 := hz8.c5
  have lz8 := hz8.lt
  have hb9 := hb89.alloc hb89.size (.cells #[.int .i64 g.pub, .int .i64 g.hd.len, .int .i64 g.hd.dg, .int .i64 g.hd.sg, .slice rA g.bl.length rc, .slice sA g.hv.length sc] 34)
  have hz9 := hg7.below hb9
  clear hg8 hb8 hf7 hg7 hga hz8 k0 k1 k2 k3 k4 k5 j0 j1 j2 j3 j4 j5
  go_wp2_with fail
  refine (sameFeed_same g _ _ _ _ _ hx9.fo.r hz9.fo.r).mono ?_
  rintro e w10 ⟨rfl, hb10⟩
  go_wp2
  go_ret
  exact ⟨rfl, hb07.trans ((hb9.trans (hb10.mono hb9.size)).mono hb07.size)⟩
end Go.Proofs.Ytlhiabnablbkpaa
