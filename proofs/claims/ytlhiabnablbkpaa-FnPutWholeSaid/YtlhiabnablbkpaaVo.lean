/- Walk: the law FnPutWhole. -/
import Derived.Test.YtlhiabnablbkpaaVk
import Derived.Test.YtlhiabnablbkpaaVd
import Derived.Test.YtlhiabnablbkpaaVf
namespace Go.Proofs.Ytlhiabnablbkpaa
open Go.RowKit

set_option maxHeartbeats 3200000 in
set_option maxRecDepth 100000 in
theorem FnPutWhole_any (bs : List UInt8) (v : Value) (v2 : Value) (bs2 : List UInt8) (w : World) (hv : RU w v bs) (hv2 : RU w v2 bs2) : Calls Try.prog 22 #[v, v2] w fun e w' => e = .returned (.bool true) ∧ Below w.heap.size w w' := by
  have HV := Lib.hid hv
  obtain ⟨A, c, rfl, n1, n2, _⟩ := hv
  unfold maxLen at n2
  have hbm : bs.length ≤ 9223372036854775807 := by have := n1.1; omega
  clear n1 n2
  obtain ⟨A2, c2, rfl, m1, m2, _⟩ := hv2
  unfold maxLen at m2
  have hbm2 : bs2.length ≤ 9223372036854775807 := by have := m1.1; omega
  clear m1 m2
  by_cases hl : 1048576 < bs.length
  · have hl' : (1048576 : Int) < (bs.length : Int) := by omega
    go_enter Try.func22, Try.ntmps22
    go_wp2
    go_ret
    exact ⟨rfl, Below.refl _ _⟩
  have hl' : ¬ (1048576 : Int) < (bs.length : Int) := by omega
  by_cases hlm : 1048576 < bs2.length
  · have hlm' : (1048576 : Int) < (bs2.length : Int) := by omega
    go_enter Try.func22, Try.ntmps22
    go_wp2
    go_ret
    exact ⟨rfl, Below.refl _ _⟩
  have hlm' : ¬ (1048576 : Int) < (bs2.length : Int) := by omega
  go_enter Try.func22, Try.ntmps22
  go_wp2_with fail
  refine (DrawFeedPut_any bs _ w HV.out).mono ?_
  rintro e w1 ⟨f, ub, uh, i, t, pv, pl, rfl, hf1, -, -, -, i1, i2, ht, hp1, hpl, hb1⟩
  obtain ⟨uA, uc, rfl⟩ := hf1.bl.sl
  obtain ⟨tA, tc, rfl⟩ := hf1.hv.sl
  obtain ⟨pA, pc, rfl⟩ : ∃ pA pc, pv = .slice pA pl.length pc := by obtain ⟨a, b, h, _⟩ := hp1; exact ⟨a, b, h⟩
  have htm : t.size ≤ maxLen := by unfold maxLen; omega
  have hf2 := FB.made hf1
  have hp2 := hp1.alloc (.cells #[.int .i64 f.pub, .int .i64 f.hd.len, .int .i64 f.hd.dg, .int .i64 f.hd.sg, .slice uA f.bl.length uc, .slice tA f.hv.length tc] 34)
  have hb2 := hb1.alloc hb1.size (.cells #[.int .i64 f.pub, .int .i64 f.hd.len, .int .i64 f.hd.dg, .int .i64 f.hd.sg, .slice uA f.bl.length uc, .slice tA f.hv.length tc] 34)
  go_wp2_with fail
  obtain ⟨W2, HW2⟩ : ∃ W2, Hid (w1.alloc (.cells #[.int .i64 f.pub, .int .i64 f.hd.len, .int .i64 f.hd.dg, .int .i64 f.hd.sg, .slice uA f.bl.length uc, .slice tA f.hv.length tc] 34) = W2) := ⟨_, Lib.hid rfl⟩
  obtain ⟨q, HQ⟩ : ∃ q, Hid (w1.heap.size = q) := ⟨_, Lib.hid rfl⟩
  rw [HW2.out, HQ.out] at hf2
  rw [HW2.out] at hb2 hp2 ⊢
  rw [HQ.out]
  clear hf1 hb1 hp1
  obtain ⟨g, b, HG⟩ : ∃ g b, Hid (fput f i t pl = (g, b)) := ⟨_, _, Lib.hid rfl⟩
  have HP2 := Lib.hid hp2
  clear hp2
  refine (FeedPut_ig HG _ _ _ W2 hf2.fo.r htm HP2.out).mono ?_
  rintro e w3 ⟨ub3, uh3, rfl, hg3, hb3⟩
  obtain ⟨xA, xc, rfl⟩ := hg3.bl.sl
  obtain ⟨yA, yc, rfl⟩ := hg3.hv.sl
  have hf4 := hf2.below (hb3.alloc hb3.size (.cells #[.int .i64 g.pub, .int .i64 g.hd.len, .int .i64 g.hd.dg, .int .i64 g.hd.sg, .slice xA g.bl.length xc, .slice yA g.hv.length yc] 34))
  have hg4 := FB.made hg3
  have HP4 := Lib.hid (HP2.out.below (hb3.alloc hb3.size (.cells #[.int .i64 g.pub, .int .i64 g.hd.len, .int .i64 g.hd.dg, .int .i64 g.hd.sg, .slice xA g.bl.length xc, .slice yA g.hv.length yc] 34)))
  have hb4 := hb2.trans ((hb3.alloc hb3.size (.cells #[.int .i64 g.pub, .int .i64 g.hd.len, .int .i64 g.hd.dg, .int .i64 g.hd.sg, .slice xA g.bl.length xc, .slice yA g.hv.length yc] 34)).mono hb2.size)
  have k0 := hf2.c0; have k1 := hf2.c1; have k2 := hf2.c2; have k3 := hf2.c3; have k4 := hf2.c4; have k5 := hf2.c5
  have l0 := (hf2.below hb3).c0; have l1 := (hf2.below hb3).c1; have l2 := (hf2.below hb3).c2; have l3 := (hf2.below hb3).c3; have l4 := (hf2.below hb3).c4; have l5 := (hf2.below hb3).c5
  have lq := (hf2.below hb3).lt
  clear hf2 hg3 hb3 hb2
  go_wp2_with fail
  obtain ⟨W4, HW4⟩ : ∃ W4, Hid (w3.alloc (.cells #[.int .i64 g.pub, .int .i64 g.hd.len, .int .i64 g.hd.dg, .int .i64 g.hd.sg, .slice xA g.bl.length xc, .slice yA g.hv.length yc] 34) = W4) := ⟨_, Lib.hid rfl⟩
  obtain ⟨z, HZ⟩ : ∃ z, Hid (w3.heap.size = z) := ⟨_, Lib.hid rfl⟩
  rw [HW4.out] at hf4 hg4 hb4 HP4 ⊢
  rw [HZ.out] at hg4 ⊢
  clear k0 k1 k2 k3 k4 k5 l0 l1 l2 l3 l4 l5 lq
  refine (FeedPut_sg HG _ _ _ W4 hf4.fo.r htm HP4.out).mono ?_
  rintro e w5 ⟨ub5, uh5, rfl, hg5, hb5⟩
  obtain ⟨xA2, xc2, rfl⟩ := hg5.bl.sl
  obtain ⟨yA2, yc2, rfl⟩ := hg5.hv.sl
  have hb45 := hb5.alloc hb5.size (.cells #[.int .i64 g.pub, .int .i64 g.hd.len, .int .i64 g.hd.dg, .int .i64 g.hd.sg, .slice xA2 g.bl.length xc2, .slice yA2 g.hv.length yc2] 34)
  have hf6 := hf4.below hb45
  have hg6 := hg4.below hb45
  have hh6 := FB.made hg5
  have HP6 := Lib.hid (HP4.out.below hb45)
  have hb6 := hb4.trans (hb45.mono hb4.size)
  have k0 := (hg4.below hb5).c0; have k1 := (hg4.below hb5).c1; have k2 := (hg4.below hb5).c2; have k3 := (hg4.below hb5).c3; have k4 := (hg4.below hb5).c4; have k5 := (hg4.below hb5).c5
  have lz := (hg4.below hb5).lt
  clear hf4 hg4 hg5 hb5 hb45 hb4
  cases b
  · go_wp2_with fail
    obtain ⟨W6, HW6⟩ : ∃ W6, Hid (w5.alloc (.cells #[.int .i64 g.pub, .int .i64 g.hd.len, .int .i64 g.hd.dg, .int .i64 g.hd.sg, .slice xA2 g.bl.length xc2, .slice yA2 g.hv.length yc2] 34) = W6) := ⟨_, Lib.hid rfl⟩
    rw [HW6.out] at hg6 hh6 hb6 ⊢
    refine (sameFeed_same g _ _ _ _ W6 hg6.fo.r hh6.fo.r).mono ?_
    rintro e w7 ⟨rfl, hb7⟩
    have hg7 := hg6.below hb7
    have hh7 := hh6.below hb7
    have m0 := hg7.c0; have m1 := hg7.c1; have m2 := hg7.c2; have m3 := hg7.c3; have m4 := hg7.c4; have m5 := hg7.c5
    have j0 := hh7.c0; have j1 := hh7.c1; have j2 := hh7.c2; have j3 := hh7.c3; have j4 := hh7.c4; have j5 := hh7.c5
    go_wp2_with fail
    refine (sameFeed_same g _ _ _ _ w7 hg7.fo.r hh7.fo.r).mono ?_
    rintro e w8 ⟨rfl, hb8⟩
    go_wp2
    go_ret
    exact ⟨rfl, hb6.trans ((hb7.trans (hb8.mono hb7.size)).mono hb6.size)⟩
  obtain ⟨m, rfl, hmb, hmh, l16, hlen, ht8, hfm, hgp, hfv, hgv, hck⟩ := put_facts HG.out
  have HLEN := Lib.hid hlen; have HFM := Lib.hid hfm; have HGP := Lib.hid hgp; have HFV := Lib.hid hfv; have HGV := Lib.hid hgv; have HCK := Lib.hid hck
  have h16 : f.hv.length ≤ 16 := by omega
  clear hlen hfm hgp hfv hgv hck
  go_wp2_with fail
  obtain ⟨W6, HW6⟩ : ∃ W6, Hid (w5.alloc (.cells #[.int .i64 g.pub, .int .i64 g.hd.len, .int .i64 g.hd.dg, .int .i64 g.hd.sg, .slice xA2 g.bl.length xc2, .slice yA2 g.hv.length yc2] 34) = W6) := ⟨_, Lib.hid rfl⟩
  rw [HW6.out] at hg6 hh6 hb6 hf6 HP6 ⊢
  refine (sameFeed_same g _ _ _ _ W6 hg6.fo.r hh6.fo.r).mono ?_
  rintro e w7 ⟨rfl, hb7⟩
  have hf7 := hf6.below hb7
  have hg7 := hg6.below hb7
  have HP7 := Lib.hid (HP6.out.below hb7)
  have hb07 := hb6.trans (hb7.mono hb6.size)
  have HF7 := Lib.hid hf7
  have HG7 := Lib.hid hg7
  clear hf6 hg6 hh6 hb6 hb7 k0 k1 k2 k3 k4 k5 lz
  have k0 := hf7.c0; have k1 := hf7.c1; have k2 := hf7.c2; have k3 := hf7.c3; have k4 := hf7.c4; have k5 := hf7.c5
  have j0 := hg7.c0; have j1 := hg7.c1; have j2 := hg7.c2; have j3 := hg7.c3; have j4 := hg7.c4; have j5 := hg7.c5
  have lq := hf7.lt
  have lz := hg7.lt
  have h0 : 0 < f.bl.length := by omega
  have e1 : (bs2.length : Int) % (f.bl.length : Int) = ((bs2.length % f.bl.length : Nat) : Int) := by simp
  have hk : bs2.length % f.bl.length < f.bl.length := Nat.mod_lt _ h0
  generalize bs2.length % f.bl.length = k at *
  have hgl : g.bl.length = f.bl.length := by rw [HGP.out]; simp [Fd.put]
  have HGL := Lib.hid hgl
  clear hgl
  have hfz : (f.bl.length : Int) ≠ 0 := by omega
  go_wp2_with fail
  simp only [e1]
  refine (FeedProve_i g k _ _ w7 hg7.fo.r).mono ?_
  rintro e w8 ⟨v8, rfl, ho8, hb8⟩
  have hg8 := hg7.below hb8
  have hb08 := hb07.trans (hb8.mono hb07.size)
  obtain ⟨b9, HB9⟩ : ∃ b9, Hid (fproveOk g k = b9) := ⟨_, Lib.hid rfl⟩
  obtain ⟨l9, HL9⟩ : ∃ l9, Hid (fprove g k = l9) := ⟨_, Lib.hid rfl⟩
  rw [HB9.out]
  rw [HL9.out] at ho8
  obtain ⟨oA, oc, rfl⟩ := ho8.sl
  clear hf7 hg7 hb8 k0 k1 k2 k3 k4 k5 j0 j1 j2 j3 j4 j5 e1
  cases b9
  · go_wp2
    go_ret
    exact ⟨rfl, hb08⟩
  by_cases hkm : k = m
  · have hkm' : ((k : Int) == (m : Int)) = true := by simp [hkm]
    clear hkm
    go_wp2
    go_ret
    exact ⟨rfl, hb08⟩
  have hkm' : ((k : Int) == (m : Int)) = false := by rw [beq_eq_false_iff_ne]; omega
  have hkm2 : ¬ (k : Int) = (m : Int) := by omega
  clear hkm
  obtain ⟨hki, hck9⟩ := prove_law HB9.out
  rw [HL9.out] at hck9
  simp only [Int.toNat_natCast] at hki hck9
  have hl6 : (l9.length : Int) ≤ 6 := by
    rw [← HL9.out]
    have := fprove_len6 g k
    omega
  have hx8 : (g.bl[k]).size ≤ 8 := fvalid_size HGV.out _ (List.getElem_mem hki)
  obtain ⟨bb, oo, rfl, hbs, hcell⟩ : ∃ b o, xA = some ⟨b, o, none⟩ ∧ b < w8.heap.size ∧ w8.cell? ⟨b, o + k, none⟩ = some (.string g.bl[k]) := by
    obtain ⟨_, _, hA, _, _, hc⟩ := hg8.fo.bl.r1
    cases hA
    obtain ⟨b, o, hA, hb, hc⟩ := hc (by omega)
    exact ⟨b, o, hA, hb, hc k hki⟩
  have hki' : (k : Int) < (g.bl.length : Int) := by omega
  generalize g.bl[k] = x at *
  obtain ⟨dd, HD⟩ : ∃ dd, Hid (textD x.data.toList = dd) := ⟨_, Lib.hid rfl⟩
  rw [HD.out] at hck9
  have HCK9 := Lib.hid hck9
  have R8 := Lib.hid ho8.r1
  have j1 := hg8.c1; have j2 := hg8.c2; have j4 := hg8.c4
  have lz8 := hg8.lt
  clear hck9 ho8 hg8
  go_wp2_with fail
  have hup := up_cell w8
  refine wp_region_up (by kernel_rfl) (by kernel_rfl) ?_
  repeat (go_big_quiet_step (first
    | (go_at_call 35; exact up_same (DigestText_ib HD _ hx8))
    | (go_at_call 34; exact up_call (TreeCheck_ib HCK9 _ _ (R8.out.up _)))))
  refine wpQuiet_nil ?_
  intro w9 hw9
  have hb9 := of_up hw9
  clear hw9 hup
  go_wp2
  go_ret
  exact ⟨rfl, hb08.trans (hb9.mono hb08.size)⟩
end Go.Proofs.Ytlhiabnablbkpaa
