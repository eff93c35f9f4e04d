/- Walk: the law FnCalmTwice. No condition. -/
import Derived.Test.YtcplnfmcefkehaaGreatCJ
set_option linter.unusedVariables false
set_option linter.unusedSimpArgs false
namespace Go.Proofs.YtcplnfmcefkehaaGreat
open Go.RowKit
attribute [local go_sem ↓] Go.wp_at_zero Go.wp_at_succ

set_option maxHeartbeats 12800000 in
set_option maxRecDepth 100000 in
theorem FnCalmTwice_any (bs : List UInt8) (v : Value) (w : World) (hv : RU w v bs) : Calls Tryz.prog 9 #[v] w fun e w' => e = .returned (.bool true) ∧ Below w.heap.size w w' := by
 have HV := hI_ hv
 obtain ⟨A, c, rfl, n1, n2, n3⟩ := hv
 unfold maxLen at n2
 have hbm : bs.length ≤ 9223372036854775807 := by have := n1.1; omega
 clear n1 n2 n3
 by_cases hl : 1048576 < bs.length
 · have hl' : (1048576 : Int) < (bs.length : Int) := by omega
   go_enter Tryz.func9, Tryz.ntmps9
   go_wp2
   go_ret
   exact ⟨rfl, bR_ _ _⟩
 have hl' : ¬ (1048576 : Int) < (bs.length : Int) := by omega
 clear hl
 go_enter Tryz.func9, Tryz.ntmps9
 go_wp2_with fail
 refine (qdk bs _ w HV.out).mono ?_
 rintro e w1 ⟨x, uF, uL, uA, uN, rfl, hd, hs, hb1⟩
 obtain ⟨⟨A1, c1, rfl⟩, ⟨A2, c2, rfl⟩, ⟨A3, c3, rfl⟩, ⟨A4, c4, rfl⟩⟩ := hs.sl
 obtain ⟨q, HQ⟩ : ∃ q, Hid (w1.heap.size = q) := ⟨_, hI_ rfl⟩
 obtain ⟨W1, HW1⟩ : ∃ W, Hid (w1.alloc (.cells #[.int .i64 x.sec, .int .i64 x.bad, .slice A1 x.feeds.length c1, .slice A2 x.links.length c2, .slice A3 x.asked.length c3, .slice A4 x.net.length c4] 35) = W) := ⟨_, hI_ rfl⟩
 have HB1 : Hid (Below w.heap.size w W1) := hI_ (by rw [← HW1.out]; exact qab hb1 _)
 have HS1 : Hid (WdS W1 x (.slice A1 x.feeds.length c1) (.slice A2 x.links.length c2) (.slice A3 x.asked.length c3) (.slice A4 x.net.length c4)) := hI_ (by rw [← HW1.out]; exact hs.below (qab (bR_ _ _) _))
 have HX1 : Hid (W1.heap[q]? = some (.cells #[.int .i64 x.sec, .int .i64 x.bad, .slice A1 x.feeds.length c1, .slice A2 x.links.length c2, .slice A3 x.asked.length c3, .slice A4 x.net.length c4] 35 (0, 0))) := hI_ (by rw [← HW1.out, ← HQ.out]; exact heap_alloc_new _ _)
 have HD := hI_ hd
 clear hd hs hb1 hbm hl'
 obtain ⟨t0, t1, t2, t3, t4, t5, tf⟩ := qaa HX1.out
 go_upto_region 4 with fail
 rw [HW1.out, HQ.out]
 go_wp2_with fail
 refine (qfG x _ _ _ _ W1 HS1.out.r HD.out.t).mono ?_
 rintro e w2 ⟨vF, vL, vA, vN, rfl, hp2, hb2⟩
 have hs2 := hp2.st
 obtain ⟨y, HY⟩ : ∃ y, Hid (qcL x = y) := ⟨_, hI_ rfl⟩
 rw [HY.out] at hs2 ⊢
 obtain ⟨⟨B1, d1, rfl⟩, ⟨B2, d2, rfl⟩, ⟨B3, d3, rfl⟩, ⟨B4, d4, rfl⟩⟩ := hs2.sl
 obtain ⟨p, HP⟩ : ∃ q, Hid (w2.heap.size = q) := ⟨_, hI_ rfl⟩
 obtain ⟨W2, HW2⟩ : ∃ W, Hid (w2.alloc (.cells #[.int .i64 y.sec, .int .i64 y.bad, .slice B1 y.feeds.length d1, .slice B2 y.links.length d2, .slice B3 y.asked.length d3, .slice B4 y.net.length d4] 35) = W) := ⟨_, hI_ rfl⟩
 have hb12 : Below W1.heap.size W1 W2 := by rw [← HW2.out]; exact qab hb2 _
 have HC2 : Hid (qnp w q p x y (.slice A1 x.feeds.length c1) (.slice A2 x.links.length c2) (.slice A3 x.asked.length c3) (.slice A4 x.net.length c4) (.slice B1 y.feeds.length d1) (.slice B2 y.links.length d2) (.slice B3 y.asked.length d3) (.slice B4 y.net.length d4) W2) := hI_ ⟨(hb12.block _ (qai HX1.out)).trans HX1.out, by rw [← HW2.out, ← HP.out]; exact heap_alloc_new _ _, HS1.out.below hb12, by rw [← HW2.out]; exact hs2.below (qab (bR_ _ _) _), HB1.out.trans (hb12.mono HB1.out.size)⟩
 clear hp2 hb2 hs2 hb12 t0 t1 t2 t3 t4 t5 tf
 obtain ⟨t0, t1, t2, t3, t4, t5, tf⟩ := qaa HC2.out.bx
 go_upto_region 5 with fail
 rw [HW2.out, HP.out]
 go_wp2_with fail
 refine (qfH x _ _ _ _ W2 HC2.out.sx HD.out.t).mono ?_
 rintro e w3 ⟨vF, vL, vA, vN, rfl, hs3, hb3⟩
 rw [HY.out] at hs3 ⊢
 obtain ⟨⟨E1, e1, rfl⟩, ⟨E2, e2, rfl⟩, ⟨E3, e3, rfl⟩, ⟨E4, e4, rfl⟩⟩ := hs3.sl
 obtain ⟨r, HR⟩ : ∃ q, Hid (w3.heap.size = q) := ⟨_, hI_ rfl⟩
 obtain ⟨W3, HW3⟩ : ∃ W, Hid (w3.alloc (.cells #[.int .i64 y.sec, .int .i64 y.bad, .slice E1 y.feeds.length e1, .slice E2 y.links.length e2, .slice E3 y.asked.length e3, .slice E4 y.net.length e4] 35) = W) := ⟨_, hI_ rfl⟩
 have hb23 : Below W2.heap.size W2 W3 := by rw [← HW3.out]; exact qab hb3 _
 have HC3 := hI_ (HC2.out.below hb23)
 have HZ3 : Hid (W3.heap[r]? = some (.cells #[.int .i64 y.sec, .int .i64 y.bad, .slice E1 y.feeds.length e1, .slice E2 y.links.length e2, .slice E3 y.asked.length e3, .slice E4 y.net.length e4] 35 (0, 0))) := hI_ (by rw [← HW3.out, ← HR.out]; exact heap_alloc_new _ _)
 have HV3 : Hid (WdS W3 y (.slice E1 y.feeds.length e1) (.slice E2 y.links.length e2) (.slice E3 y.asked.length e3) (.slice E4 y.net.length e4)) := hI_ (by rw [← HW3.out]; exact hs3.below (qab (bR_ _ _) _))
 clear hb23 hb3 hs3 t0 t1 t2 t3 t4 t5 tf
 obtain ⟨t0, t1, t2, t3, t4, t5, tf⟩ := qaa HC3.out.by_
 obtain ⟨z0, z1, z2, z3, z4, z5, zf⟩ := qaa HZ3.out
 have lq3 := qai HC3.out.bx
 have lp3 := qai HC3.out.by_
 go_upto_region 6 with fail
 rw [HW3.out, HR.out]
 go_wp2_with fail
 refine (qcK y _ _ _ _ _ _ _ _ W3 HC3.out.sy.r HV3.out.r).mono ?_
 rintro e w4 ⟨rfl, hb4⟩
 have HC4 := hI_ (HC3.out.below hb4)
 have HZ4 := hI_ ((hb4.block _ (qai HZ3.out)).trans HZ3.out)
 have HV4 := hI_ (HV3.out.below hb4)
 clear hb4 t0 t1 t2 t3 t4 t5 tf z0 z1 z2 z3 z4 z5 zf lq3 lp3
 obtain ⟨t0, t1, t2, t3, t4, t5, tf⟩ := qaa HC4.out.bx
 go_wp2_with fail
 refine (qdO x _ _ _ _ w4 HC4.out.sx.r HD.out.t).mono ?_
 rintro e w5 ⟨rfl, hb5⟩
 have HC5 := hI_ (HC4.out.below hb5)
 have HZ5 := hI_ ((hb5.block _ (qai HZ4.out)).trans HZ4.out)
 have HV5 := hI_ (HV4.out.below hb5)
 clear hb5 t0 t1 t2 t3 t4 t5 tf
 obtain ⟨bv, HBV⟩ : ∃ b, Hid (qcc x = b) := ⟨_, hI_ rfl⟩
 rw [HBV.out]
 obtain ⟨s0, s1, s2, s3, s4, s5, sf⟩ := qaa HC5.out.bx
 obtain ⟨t0, t1, t2, t3, t4, t5, tf⟩ := qaa HC5.out.by_
 obtain ⟨z0, z1, z2, z3, z4, z5, zf⟩ := qaa HZ5.out
 cases bv
 · go_wp2_with fail
   refine (qcK y _ _ _ _ _ _ _ _ w5 HC5.out.sy.r HV5.out.r).mono ?_
   rintro e w6 ⟨rfl, hb6⟩
   have HC6 := hI_ (HC5.out.below hb6)
   clear hb6 s0 s1 s2 s3 s4 s5 sf t0 t1 t2 t3 t4 t5 tf z0 z1 z2 z3 z4 z5 zf
   go_wp2_with fail
   go_ret
   exact ⟨rfl, HC6.out.o⟩
 have HWY : Hid (WV y) := hI_ (by rw [← HY.out]; exact qlh HBV.out)
 have HNY : Hid (y.net = []) := hI_ (by rw [← HY.out]; exact qjQ HBV.out)
 have HTY : Hid (∀ j (hj : j < y.net.length), y.net[j].txt.size ≤ maxLen) := hI_ (fun j hj => absurd hj (by rw [HNY.out]; exact Nat.not_lt_zero _))
 clear z0 z1 z2 z3 z4 z5 zf
 have HVY : Hid (qcc y = true) := hI_ (qcq.2 HWY.out)
 clear s0 s1 s2 s3 s4 s5 sf
 go_wp2_with fail
 refine (qfG y _ _ _ _ w5 HC5.out.sy.r HTY.out).mono ?_
 rintro e w6 ⟨vF, vL, vA, vN, rfl, hp6, hb6⟩
 have hs6 := hp6.st
 obtain ⟨z, HZ⟩ : ∃ z, Hid (qcL y = z) := ⟨_, hI_ rfl⟩
 rw [HZ.out] at hs6 ⊢
 obtain ⟨⟨G1, g1, rfl⟩, ⟨G2, g2, rfl⟩, ⟨G3, g3, rfl⟩, ⟨G4, g4, rfl⟩⟩ := hs6.sl
 obtain ⟨u, HU⟩ : ∃ q, Hid (w6.heap.size = q) := ⟨_, hI_ rfl⟩
 obtain ⟨W6, HW6⟩ : ∃ W, Hid (w6.alloc (.cells #[.int .i64 z.sec, .int .i64 z.bad, .slice G1 z.feeds.length g1, .slice G2 z.links.length g2, .slice G3 z.asked.length g3, .slice G4 z.net.length g4] 35) = W) := ⟨_, hI_ rfl⟩
 have hb56 : Below w5.heap.size w5 W6 := by rw [← HW6.out]; exact qab hb6 _
 have HC6 := hI_ (HC5.out.below hb56)
 have HD6 : Hid (qnp w u p z y (.slice G1 z.feeds.length g1) (.slice G2 z.links.length g2) (.slice G3 z.asked.length g3) (.slice G4 z.net.length g4) (.slice B1 y.feeds.length d1) (.slice B2 y.links.length d2) (.slice B3 y.asked.length d3) (.slice B4 y.net.length d4) W6) := hI_ ⟨by rw [← HW6.out, ← HU.out]; exact heap_alloc_new _ _, HC6.out.by_, by rw [← HW6.out]; exact hs6.below (qab (bR_ _ _) _), HC6.out.sy, HC6.out.o⟩
 have HRD : Hid (∀ m ∈ qoK y, ∃ k : Nat, m = k ∧ k < y.feeds.length ∧ z.feeds.getD k Fd.none = y.feeds.getD k Fd.none) := hI_ (fun m hm => by
  have hc := qjc HBV.out
  rw [HY.out] at hc
  rw [hc] at hm ⊢
  obtain ⟨k, h1, h2, h3⟩ := qoS (qcq.1 HBV.out) (HD.out.z HBV.out) m hm
  have hz : z = qgl y := by rw [← HZ.out]; exact qjc HVY.out
  refine ⟨k, h1, h2, ?_⟩
  rw [hz, hc]
  exact qpd (qcq.1 HBV.out) h2 h3)
 have HZN : Hid (z.feeds.length = y.feeds.length) := hI_ (by
  have hz : z = qgl y := by rw [← HZ.out]; exact qjc HVY.out
  rw [hz]; exact (qhM HWY.out).n)
 clear hp6 hb6 hs6 hb56 t0 t1 t2 t3 t4 t5 tf
 go_upto_region 9 with fail
 rw [HW6.out, HU.out]
 obtain ⟨t0, t1, t2, t3, t4, t5, tf⟩ := qaa HD6.out.by_
 go_wp2_with fail
 refine (qoP y _ _ _ _ W6 HD6.out.sy.r HTY.out).mono ?_
 rintro e w7 ⟨vo, rfl, ho7, hb7⟩
 obtain ⟨l, HL⟩ : ∃ l, Hid (qoK y = l) := ⟨_, hI_ rfl⟩
 rw [HL.out] at ho7 HRD
 obtain ⟨oA, oc, rfl⟩ := ho7.sl
 have hlm := ho7.len
 unfold maxLen at hlm
 have hln : 0 < l.length := by
  obtain ⟨r, hr, _⟩ := qo2 HVY.out
  rw [HL.out] at hr; rw [hr]; exact Nat.succ_pos _
 have HD7 := hI_ (HD6.out.below hb7)
 have HO7 := hI_ ho7.r1
 clear ho7 hb7 t0 t1 t2 t3 t4 t5 tf
 go_wp2_with fail
 go_loopw [8] (fun i wr => ∃ k : Nat, k ≤ l.length ∧ i = .int .i64 k ∧ qnp w u p z y (.slice G1 z.feeds.length g1) (.slice G2 z.links.length g2) (.slice G3 z.asked.length g3) (.slice G4 z.net.length g4) (.slice B1 y.feeds.length d1) (.slice B2 y.links.length d2) (.slice B3 y.asked.length d3) (.slice B4 y.net.length d4) wr ∧ RI wr (.slice oA l.length oc) l) (fun i _ => l.length - (intOf i).toNat)
 case atStart => exact ⟨0, Nat.zero_le _, rfl, HD7.out, HO7.out⟩
 case round =>
  obtain ⟨k, hk, rfl, hR, hI⟩ := hrel
  obtain ⟨wr1, rfl⟩ : ∃ W, W = wr := ⟨_, rfl⟩
  have HR1 := hI_ hR
  have HI1 := hI_ hI
  by_cases hlt : k < l.length
  · have hki : (k : Int) < (l.length : Int) := by omega
    have hk0 : (0 : Int) ≤ (k : Int) := by omega
    obtain ⟨s0, s1, s2, s3, s4, s5, sf⟩ := qaa hR.bx
    obtain ⟨t0, t1, t2, t3, t4, t5, tf⟩ := qaa hR.by_
    have lq := qai hR.bx
    have lp := qai hR.by_
    obtain ⟨oB, o, hA, hbs, e0⟩ := R1.at_ hI hlt
    subst hA
    obtain ⟨m, hm, hmn, hze⟩ := HRD.out _ (List.getElem_mem hlt)
    have hzn : m < z.feeds.length := by rw [HZN.out]; exact hmn
    rw [hm] at e0
    obtain ⟨b1, o1, xb, xh, hA, hbs1, f0, f1, f2, f3, f4, f5, hF⟩ := hR.sx.r.feeds.at_ hzn
    subst hA
    obtain ⟨b2, o2, yb, yh, hA, hbs2, d0, d1, d2, d3, d4, d5, hG⟩ := hR.sy.r.feeds.at_ hmn
    subst hA
    have hff : z.feeds[m] = y.feeds[m] := by rw [qam hzn, qam hmn] at hze; exact hze
    rw [hff] at f0 f1 f2 f3 hF
    generalize y.feeds[m] = f at *
    have HF := hI_ hF
    have HG := hI_ hG
    have hmi : (m : Int) < (y.feeds.length : Int) := by omega
    have hmz : (m : Int) < (z.feeds.length : Int) := by omega
    have hm0 : (0 : Int) ≤ (m : Int) := by omega
    have hup := qap wr1
    clear hR hI hF hG hff hm hze
    go_wp2_with fail
    refine qoH ?_
    repeat (go_big_quiet_step ((go_at_call 31; exact qal (qeR f _ _ _ _ _ (HF.out.below (qao _ _)) (HG.out.below (qao _ _))))))
    refine wpQuiet_nil ?_
    intro w8 hw8
    have hb8 := qay hw8
    clear hw8 hup s0 s1 s2 s3 s4 s5 sf t0 t1 t2 t3 t4 t5 tf e0 f0 f1 f2 f3 f4 f5 d0 d1 d2 d3 d4 d5
    have HR8 := hI_ (HR1.out.below hb8)
    have HI8 := hI_ (HI1.out.below hb8)
    clear hb8
    go_wp2_with fail
    go_roundw
    case rel => exact ⟨k + 1, by omega, by go_num, HR8.out, HI8.out⟩
    case measure => simp [intOf]; omega
  have hki : ¬ (k : Int) < (l.length : Int) := by omega
  have hl0 : (0 : Int) < (l.length : Int) := by omega
  clear hR hI
  go_wp2_with fail
  go_ret
  exact ⟨rfl, HR1.out.o⟩
end Go.Proofs.YtcplnfmcefkehaaGreat
