/- Walk: the law FnPut. -/
import Derived.Test.YtlhiabnablbkpaaVk
import Derived.Test.YtlhiabnablbkpaaVd
import Derived.Test.YtlhiabnablbkpaaVf
namespace Go.Proofs.Ytlhiabnablbkpaa
open Go.RowKit

set_option maxHeartbeats 3200000 in
set_option maxRecDepth 100000 in
theorem FnPut_any (bs : List UInt8) (v : Value) (w : World) (hv : RU w v bs) : Calls Try.prog 10 #[v] w fun e w' => e = .returned (.bool true) ∧ Below w.heap.size w w' := by
  have HV := Lib.hid hv
  obtain ⟨A, c, rfl, n1, n2, _⟩ := hv
  unfold maxLen at n2
  have hbm : bs.length ≤ 9223372036854775807 := by have := n1.1; omega
  clear n1 n2
  by_cases hl : 1048576 < bs.length
  · have hl' : (1048576 : Int) < (bs.length : Int) := by omega
    go_enter Try.func10, Try.ntmps10
    go_wp2
    go_ret
    exact ⟨rfl, Below.refl _ _⟩
  have hl' : ¬ (1048576 : Int) < (bs.length : Int) := by omega
  go_enter Try.func10, Try.ntmps10
  go_wp2_with fail
  refine (DrawFeedPut_any bs _ w HV.out).mono ?_
  rintro e w1 ⟨f, ub, uh, i, t, pv, pl, rfl, hf1, -, -, -, i1, i2, ht, hp1, hpl, hb1⟩
  obtain ⟨uA, uc, rfl⟩ := hf1.bl.sl
  obtain ⟨tA, tc, rfl⟩ := hf1.hv.sl
  obtain ⟨pA, pc, rfl⟩ : ∃ pA pc, pv = .slice pA pl.length pc := by obtain ⟨a, b, h, _⟩ := hp1; exact ⟨a, b, h⟩
  have htm : t.size ≤ maxLen := by unfold maxLen; omega
  have hf2 := FB.made hf1
  have hp2 := hp1.alloc (.cells #[.int .i64 f.pub, .int .i64 f.hd.len, .int .i64 f.hd.dg, .int .i64 f.hd.sg, .slice uA f.bl.length uc, .slice tA f.hv.length tc] 34)
  have hb2 := hb1.alloc hb1.size (.cells #[.int .i64 f.pub, .int .i64 f.hd.len, .int .i64 f.hd.dg, .int .i64 f.hd.sg, .slice uA f.bl.length uc, .slice tA f.hv.length tc] 34)
  go_wp2_with fail
  obtain ⟨W2, HW2⟩ : ∃ W2, Hid (w1.alloc (.cells #[.int .i64 f.pub, .int .i64 f.hd.len, .int .i64 f.hd.dg, .int .i64 f.hd.sg, .slice uA f.bl.length uc, .slice tA f.hv.length tc] 34) = W2) := ⟨_, Lib.hid rfl⟩
  obtain ⟨q, HQ⟩ : ∃ q, Hid (w1.heap.size = q) := ⟨_, Lib.hid rfl⟩
  rw [HW2.out, HQ.out] at hf2
  rw [HW2.out] at hb2 hp2 ⊢
  rw [HQ.out]
  clear hf1 hb1 hp1
  obtain ⟨g, b, HG⟩ : ∃ g b, Hid (fput f i t pl = (g, b)) := ⟨_, _, Lib.hid rfl⟩
  have HP2 := Lib.hid hp2
  clear hp2
  refine (FeedPut_ig HG _ _ _ W2 hf2.fo.r htm HP2.out).mono ?_
  rintro e w3 ⟨ub3, uh3, rfl, hg3, hb3⟩
  obtain ⟨xA, xc, rfl⟩ := hg3.bl.sl
  obtain ⟨yA, yc, rfl⟩ := hg3.hv.sl
  have hf4 := hf2.below (hb3.alloc hb3.size (.cells #[.int .i64 g.pub, .int .i64 g.hd.len, .int .i64 g.hd.dg, .int .i64 g.hd.sg, .slice xA g.bl.length xc, .slice yA g.hv.length yc] 34))
  have hg4 := FB.made hg3
  have HP4 := Lib.hid (HP2.out.below (hb3.alloc hb3.size (.cells #[.int .i64 g.pub, .int .i64 g.hd.len, .int .i64 g.hd.dg, .int .i64 g.hd.sg, .slice xA g.bl.length xc, .slice yA g.hv.length yc] 34)))
  have hb4 := hb2.trans ((hb3.alloc hb3.size (.cells #[.int .i64 g.pub, .int .i64 g.hd.len, .int .i64 g.hd.dg, .int .i64 g.hd.sg, .slice xA g.bl.length xc, .slice yA g.hv.length yc] 34)).mono hb2.size)
  have k0 := hf2.c0; have k1 := hf2.c1; have k2 := hf2.c2; have k3 := hf2.c3; have k4 := hf2.c4; have k5 := hf2.c5
  have l0 := (hf2.below hb3).c0; have l1 := (hf2.below hb3).c1; have l2 := (hf2.below hb3).c2; have l3 := (hf2.below hb3).c3; have l4 := (hf2.below hb3).c4; have l5 := (hf2.below hb3).c5
  have lq := (hf2.below hb3).lt
  clear hf2 hg3 hb3 hb2
  go_wp2_with fail
  obtain ⟨W4, HW4⟩ : ∃ W4, Hid (w3.alloc (.cells #[.int .i64 g.pub, .int .i64 g.hd.len, .int .i64 g.hd.dg, .int .i64 g.hd.sg, .slice xA g.bl.length xc, .slice yA g.hv.length yc] 34) = W4) := ⟨_, Lib.hid rfl⟩
  obtain ⟨z, HZ⟩ : ∃ z, Hid (w3.heap.size = z) := ⟨_, Lib.hid rfl⟩
  rw [HW4.out] at hf4 hg4 hb4 HP4 ⊢
  rw [HZ.out] at hg4 ⊢
  clear k0 k1 k2 k3 k4 k5 l0 l1 l2 l3 l4 l5 lq
  refine (FeedPut_sg HG _ _ _ W4 hf4.fo.r htm HP4.out).mono ?_
  rintro e w5 ⟨ub5, uh5, rfl, hg5, hb5⟩
  obtain ⟨xA2, xc2, rfl⟩ := hg5.bl.sl
  obtain ⟨yA2, yc2, rfl⟩ := hg5.hv.sl
  have hb45 := hb5.alloc hb5.size (.cells #[.int .i64 g.pub, .int .i64 g.hd.len, .int .i64 g.hd.dg, .int .i64 g.hd.sg, .slice xA2 g.bl.length xc2, .slice yA2 g.hv.length yc2] 34)
  have hf6 := hf4.below hb45
  have hg6 := hg4.below hb45
  have hh6 := FB.made hg5
  have HP6 := Lib.hid (HP4.out.below hb45)
  have hb6 := hb4.trans (hb45.mono hb4.size)
  have k0 := (hg4.below hb5).c0; have k1 := (hg4.below hb5).c1; have k2 := (hg4.below hb5).c2; have k3 := (hg4.below hb5).c3; have k4 := (hg4.below hb5).c4; have k5 := (hg4.below hb5).c5
  have lz := (hg4.below hb5).lt
  clear hf4 hg4 hg5 hb5 hb45 hb4
  cases b
  · go_wp2_with fail
    obtain ⟨W6, HW6⟩ : ∃ W6, Hid (w5.alloc (.cells #[.int .i64 g.pub, .int .i64 g.hd.len, .int .i64 g.hd.dg, .int .i64 g.hd.sg, .slice xA2 g.bl.length xc2, .slice yA2 g.hv.length yc2] 34) = W6) := ⟨_, Lib.hid rfl⟩
    rw [HW6.out] at hg6 hh6 hb6 ⊢
    refine (sameFeed_same g _ _ _ _ W6 hg6.fo.r hh6.fo.r).mono ?_
    rintro e w7 ⟨rfl, hb7⟩
    have hg7 := hg6.below hb7
    have hh7 := hh6.below hb7
    have m0 := hg7.c0; have m1 := hg7.c1; have m2 := hg7.c2; have m3 := hg7.c3; have m4 := hg7.c4; have m5 := hg7.c5
    have j0 := hh7.c0; have j1 := hh7.c1; have j2 := hh7.c2; have j3 := hh7.c3; have j4 := hh7.c4; have j5 := hh7.c5
    go_wp2_with fail
    refine (sameFeed_same g _ _ _ _ w7 hg7.fo.r hh7.fo.r).mono ?_
    rintro e w8 ⟨rfl, hb8⟩
    go_wp2
    go_ret
    exact ⟨rfl, hb6.trans ((hb7.trans (hb8.mono hb7.size)).mono hb6.size)⟩
  obtain ⟨m, rfl, hmb, hmh, l16, hlen, ht8, hfm, hgp, hfv, hgv, hck⟩ := put_facts HG.out
  have HLEN := Lib.hid hlen; have HFM := Lib.hid hfm; have HGP := Lib.hid hgp; have HFV := Lib.hid hfv; have HGV := Lib.hid hgv; have HCK := Lib.hid hck
  have h16 : f.hv.length ≤ 16 := by omega
  clear hlen hfm hgp hfv hgv hck
  go_wp2_with fail
  obtain ⟨W6, HW6⟩ : ∃ W6, Hid (w5.alloc (.cells #[.int .i64 g.pub, .int .i64 g.hd.len, .int .i64 g.hd.dg, .int .i64 g.hd.sg, .slice xA2 g.bl.length xc2, .slice yA2 g.hv.length yc2] 34) = W6) := ⟨_, Lib.hid rfl⟩
  rw [HW6.out] at hg6 hh6 hb6 hf6 HP6 ⊢
  refine (sameFeed_same g _ _ _ _ W6 hg6.fo.r hh6.fo.r).mono ?_
  rintro e w7 ⟨rfl, hb7⟩
  have hf7 := hf6.below hb7
  have hg7 := hg6.below hb7
  have HP7 := Lib.hid (HP6.out.below hb7)
  have hb07 := hb6.trans (hb7.mono hb6.size)
  have HF7 := Lib.hid hf7
  have HG7 := Lib.hid hg7
  clear hf6 hg6 hh6 hb6 hb7 k0 k1 k2 k3 k4 k5 lz
  obtain rfl : g = f.put m t := HGP.out
  have lbg : (f.put m t).bl.length = f.bl.length := by simp [Fd.put]
  have lhg : (f.put m t).hv.length = f.bl.length := by simp [Fd.put, ← HLEN.out]
  have lhf := HLEN.out.symm
  obtain ⟨b1, o1, rfl, hs1, C1⟩ : ∃ b o, uA = some ⟨b, o, none⟩ ∧ b < w7.heap.size ∧ Hid (∀ j (hj : j < f.bl.length), w7.cell? ⟨b, o + j, none⟩ = some (Value.string f.bl[j])) := by
    obtain ⟨_, _, hA, _, _, hc⟩ := hf7.fo.bl.r1
    cases hA
    obtain ⟨b, o, hA, hb, hc⟩ := hc (by omega)
    exact ⟨b, o, hA, hb, Lib.hid hc⟩
  obtain ⟨b2, o2, rfl, hs2, C2⟩ : ∃ b o, xA = some ⟨b, o, none⟩ ∧ b < w7.heap.size ∧ Hid (∀ j (hj : j < (f.put m t).bl.length), w7.cell? ⟨b, o + j, none⟩ = some (Value.string (f.put m t).bl[j])) := by
    obtain ⟨_, _, hA, _, _, hc⟩ := hg7.fo.bl.r1
    cases hA
    obtain ⟨b, o, hA, hb, hc⟩ := hc (by omega)
    exact ⟨b, o, hA, hb, Lib.hid hc⟩
  obtain ⟨b3, o3, rfl, hs3, C3⟩ : ∃ b o, tA = some ⟨b, o, none⟩ ∧ b < w7.heap.size ∧ Hid (∀ j (hj : j < f.hv.length), w7.cell? ⟨b, o + j, none⟩ = some (Value.bool f.hv[j])) := by
    obtain ⟨_, _, hA, _, _, hc⟩ := hf7.fo.hv.r1
    cases hA
    obtain ⟨b, o, hA, hb, hc⟩ := hc (by omega)
    exact ⟨b, o, hA, hb, Lib.hid hc⟩
  obtain ⟨b4, o4, rfl, hs4, C4⟩ : ∃ b o, yA = some ⟨b, o, none⟩ ∧ b < w7.heap.size ∧ Hid (∀ j (hj : j < (f.put m t).hv.length), w7.cell? ⟨b, o + j, none⟩ = some (Value.bool (f.put m t).hv[j])) := by
    obtain ⟨_, _, hA, _, _, hc⟩ := hg7.fo.hv.r1
    cases hA
    obtain ⟨b, o, hA, hb, hc⟩ := hc (by omega)
    exact ⟨b, o, hA, hb, Lib.hid hc⟩
  have LBG := Lib.hid lbg; have LHG := Lib.hid lhg
  clear lbg lhg lhf hf7 hg7
  go_wp2_with fail
  go_loopw [11] (fun kv wr => ∃ k : Nat, kv = .int .i64 k ∧ k ≤ f.bl.length ∧ Below w7.heap.size w7 wr) (fun kv _ => f.bl.length - (intOf kv).toNat)
  case atStart => exact ⟨0, rfl, Nat.zero_le _, Below.refl _ _⟩
  case round =>
    obtain ⟨k, rfl, hk, hbw⟩ := hrel
    have hf := HF7.out.below hbw
    have hg := HG7.out.below hbw
    have k0 := hf.c0; have k1 := hf.c1; have k2 := hf.c2; have k3 := hf.c3; have k4 := hf.c4; have k5 := hf.c5
    have j0 := hg.c0; have j1 := hg.c1; have j2 := hg.c2; have j3 := hg.c3; have j4 := hg.c4; have j5 := hg.c5
    have lf := hf.lt
    have lg := hg.lt
    have hs1' := Nat.lt_of_lt_of_le hs1 hbw.size
    have hs2' := Nat.lt_of_lt_of_le hs2 hbw.size
    have hs3' := Nat.lt_of_lt_of_le hs3 hbw.size
    have hs4' := Nat.lt_of_lt_of_le hs4 hbw.size
    by_cases hlt : k < f.bl.length
    · have hlt' : (k : Int) < (f.bl.length : Int) := by omega
      have hltg : (k : Int) < ((f.put m t).bl.length : Int) := by have := LBG.out; omega
      have hlth : (k : Int) < (f.hv.length : Int) := by have := HLEN.out; omega
      have hltgh : (k : Int) < ((f.put m t).hv.length : Int) := by have := LHG.out; omega
      by_cases hkm : k = m
      · have hkm' : ((k : Int) != (m : Int)) = false := by simp [hkm]
        clear hkm
        go_wp2_with fail
        have hup := up_cell wr
        refine wp_region_up (by kernel_rfl) (by kernel_rfl) ?_
        repeat (go_big_quiet_step (fail))
        refine wpQuiet_nil ?_
        intro w9 hw9
        have hb9 := of_up hw9
        clear hw9 hup
        go_wp2
        go_roundw
        case rel => exact ⟨k + 1, by go_num, by omega, hbw.trans (hb9.mono hbw.size)⟩
        case measure => simp [intOf]; omega
      · have hkm' : ((k : Int) != (m : Int)) = true := by simp; omega
        have hkm2 : ¬ (k : Int) = (m : Int) := by omega
        have e1 := (hbw.cell (p := ⟨b1, o1 + k, none⟩) hs1).trans (C1.out k hlt)
        have e2 := (hbw.cell (p := ⟨b2, o2 + k, none⟩) hs2).trans (C2.out k (by have := LBG.out; omega))
        have e3 := (hbw.cell (p := ⟨b3, o3 + k, none⟩) hs3).trans (C3.out k (by have := HLEN.out; omega))
        have e4 := (hbw.cell (p := ⟨b4, o4 + k, none⟩) hs4).trans (C4.out k (by have := LHG.out; omega))
        have x2 : (f.put m t).bl[k]'(by have := LBG.out; omega) = f.bl[k] := by simp only [Fd.put]; rw [List.getElem_set_ne (fun e => hkm e.symm)]
        have x4 : (f.put m t).hv[k]'(by have := LHG.out; omega) = f.hv[k]'(by have := HLEN.out; omega) := by simp only [Fd.put]; rw [List.getElem_set_ne (fun e => hkm e.symm)]
        rw [x2] at e2
        rw [x4] at e4
        clear x2 x4 hkm
        generalize f.bl[k] = x at *
        generalize f.hv[k]'_ = y at *
        have hyy : (y != y) = false := by simp
        go_wp2_with fail
        have hup := up_cell wr
        refine wp_region_up (by kernel_rfl) (by kernel_rfl) ?_
        repeat (go_big_quiet_step (fail))
        refine wpQuiet_nil ?_
        intro w9 hw9
        have hb9 := of_up hw9
        clear hw9 hup
        go_wp2
        go_roundw
        case rel => exact ⟨k + 1, by go_num, by omega, hbw.trans (hb9.mono hbw.size)⟩
        case measure => simp [intOf]; omega
    · have hlt' : ¬ (k : Int) < (f.bl.length : Int) := by omega
      have hm1 : (m : Int) < ((f.put m t).bl.length : Int) := by have := LBG.out; omega
      have hm2 : (m : Int) < ((f.put m t).hv.length : Int) := by have := LHG.out; omega
      have hm3 : (m : Int) < (f.hv.length : Int) := by omega
      have e2 := (hbw.cell (p := ⟨b2, o2 + m, none⟩) hs2).trans (C2.out m (by have := LBG.out; omega))
      have e3 := (hbw.cell (p := ⟨b3, o3 + m, none⟩) hs3).trans (C3.out m hmh)
      have e4 := (hbw.cell (p := ⟨b4, o4 + m, none⟩) hs4).trans (C4.out m (by have := LHG.out; omega))
      have x2 : (f.put m t).bl[m]'(by have := LBG.out; omega) = t := by simp [Fd.put]
      have x4 : (f.put m t).hv[m]'(by have := LHG.out; omega) = true := by simp [Fd.put]
      have x3 : f.hv[m] = false := by have := HFM.out; rw [List.getElem?_eq_getElem hmh] at this; exact Option.some.inj this
      rw [x2] at e2
      rw [x3] at e3
      rw [x4] at e4
      clear x2 x3 x4
      obtain rfl : k = f.bl.length := by omega
      go_wp2_with fail
      refine (FeedValid_ib HGV _ _ wr hg.fo.r).mono ?_
      rintro e w9 ⟨rfl, hb9⟩
      have hf9 := hf.below hb9
      have hg9 := hg.below hb9
      clear k0 k1 k2 k3 k4 k5 j0 j1 j2 j3 j4 j5
      have k1 := hf9.c1; have k2 := hf9.c2; have k3 := hf9.c3
      have j1 : w9.cell? ⟨z, 1, none⟩ = some (.int .i64 f.hd.len) := hg9.c1
      have j2 : w9.cell? ⟨z, 2, none⟩ = some (.int .i64 f.hd.dg) := hg9.c2
      have j3 : w9.cell? ⟨z, 3, none⟩ = some (.int .i64 f.hd.sg) := hg9.c3
      clear hf9 hg9 hf hg
      go_wp2
      go_ret
      exact ⟨rfl, hb07.trans ((hbw.trans (hb9.mono hbw.size)).mono hb07.size)⟩
end Go.Proofs.Ytlhiabnablbkpaa
