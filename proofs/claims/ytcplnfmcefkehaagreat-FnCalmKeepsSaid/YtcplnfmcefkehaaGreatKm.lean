/- Walk: the law FnCalmKeeps. No condition. -/
import Derived.Test.YtcplnfmcefkehaaGreatCJ
set_option linter.unusedVariables false
set_option linter.unusedSimpArgs false
namespace Go.Proofs.YtcplnfmcefkehaaGreat
open Go.RowKit
attribute [local go_sem ↓] Go.wp_at_zero Go.wp_at_succ

set_option maxHeartbeats 12800000 in
set_option maxRecDepth 100000 in
theorem FnCalmKeeps_any (bs : List UInt8) (v : Value) (w : World) (hv : RU w v bs) : Calls Tryz.prog 7 #[v] w fun e w' => e = .returned (.bool true) ∧ Below w.heap.size w w' := by
 have HV := hI_ hv
 obtain ⟨A, c, rfl, n1, n2, n3⟩ := hv
 unfold maxLen at n2
 have hbm : bs.length ≤ 9223372036854775807 := by have := n1.1; omega
 clear n1 n2 n3
 by_cases hl : 1048576 < bs.length
 · have hl' : (1048576 : Int) < (bs.length : Int) := by omega
   go_enter Tryz.func7, Tryz.ntmps7
   go_wp2
   go_ret
   exact ⟨rfl, bR_ _ _⟩
 have hl' : ¬ (1048576 : Int) < (bs.length : Int) := by omega
 clear hl
 go_enter Tryz.func7, Tryz.ntmps7
 go_wp2_with fail
 refine (qdk bs _ w HV.out).mono ?_
 rintro e w1 ⟨x, uF, uL, uA, uN, rfl, hd, hs, hb1⟩
 obtain ⟨⟨A1, c1, rfl⟩, ⟨A2, c2, rfl⟩, ⟨A3, c3, rfl⟩, ⟨A4, c4, rfl⟩⟩ := hs.sl
 obtain ⟨q, HQ⟩ : ∃ q, Hid (w1.heap.size = q) := ⟨_, hI_ rfl⟩
 obtain ⟨W1, HW1⟩ : ∃ W, Hid (w1.alloc (.cells #[.int .i64 x.sec, .int .i64 x.bad, .slice A1 x.feeds.length c1, .slice A2 x.links.length c2, .slice A3 x.asked.length c3, .slice A4 x.net.length c4] 35) = W) := ⟨_, hI_ rfl⟩
 have HB1 : Hid (Below w.heap.size w W1) := hI_ (by rw [← HW1.out]; exact qab hb1 _)
 have HS1 : Hid (WdS W1 x (.slice A1 x.feeds.length c1) (.slice A2 x.links.length c2) (.slice A3 x.asked.length c3) (.slice A4 x.net.length c4)) := hI_ (by rw [← HW1.out]; exact hs.below (qab (bR_ _ _) _))
 have HX1 : Hid (W1.heap[q]? = some (.cells #[.int .i64 x.sec, .int .i64 x.bad, .slice A1 x.feeds.length c1, .slice A2 x.links.length c2, .slice A3 x.asked.length c3, .slice A4 x.net.length c4] 35 (0, 0))) := hI_ (by rw [← HW1.out, ← HQ.out]; exact heap_alloc_new _ _)
 have HD := hI_ hd
 clear hd hs hb1 hbm hl'
 obtain ⟨t0, t1, t2, t3, t4, t5, tf⟩ := qaa HX1.out
 go_upto_region 4 with fail
 rw [HW1.out, HQ.out]
 go_wp2_with fail
 refine (qfG x _ _ _ _ W1 HS1.out.r HD.out.t).mono ?_
 rintro e w2 ⟨vF, vL, vA, vN, rfl, hp2, hb2⟩
 have hs2 := hp2.st
 obtain ⟨y, HY⟩ : ∃ y, Hid (qcL x = y) := ⟨_, hI_ rfl⟩
 rw [HY.out] at hs2 ⊢
 obtain ⟨⟨B1, d1, rfl⟩, ⟨B2, d2, rfl⟩, ⟨B3, d3, rfl⟩, ⟨B4, d4, rfl⟩⟩ := hs2.sl
 obtain ⟨p, HP⟩ : ∃ q, Hid (w2.heap.size = q) := ⟨_, hI_ rfl⟩
 obtain ⟨W2, HW2⟩ : ∃ W, Hid (w2.alloc (.cells #[.int .i64 y.sec, .int .i64 y.bad, .slice B1 y.feeds.length d1, .slice B2 y.links.length d2, .slice B3 y.asked.length d3, .slice B4 y.net.length d4] 35) = W) := ⟨_, hI_ rfl⟩
 have hb12 : Below W1.heap.size W1 W2 := by rw [← HW2.out]; exact qab hb2 _
 have HC2 : Hid (qnp w q p x y (.slice A1 x.feeds.length c1) (.slice A2 x.links.length c2) (.slice A3 x.asked.length c3) (.slice A4 x.net.length c4) (.slice B1 y.feeds.length d1) (.slice B2 y.links.length d2) (.slice B3 y.asked.length d3) (.slice B4 y.net.length d4) W2) := hI_ ⟨(hb12.block _ (qai HX1.out)).trans HX1.out, by rw [← HW2.out, ← HP.out]; exact heap_alloc_new _ _, HS1.out.below hb12, by rw [← HW2.out]; exact hs2.below (qab (bR_ _ _) _), HB1.out.trans (hb12.mono HB1.out.size)⟩
 clear hp2 hb2 hs2 hb12 t0 t1 t2 t3 t4 t5 tf
 obtain ⟨t0, t1, t2, t3, t4, t5, tf⟩ := qaa HC2.out.bx
 go_upto_region 5 with fail
 rw [HW2.out, HP.out]
 go_wp2_with fail
 refine (qfH x _ _ _ _ W2 HC2.out.sx HD.out.t).mono ?_
 rintro e w3 ⟨vF, vL, vA, vN, rfl, hs3, hb3⟩
 rw [HY.out] at hs3 ⊢
 obtain ⟨⟨E1, e1, rfl⟩, ⟨E2, e2, rfl⟩, ⟨E3, e3, rfl⟩, ⟨E4, e4, rfl⟩⟩ := hs3.sl
 obtain ⟨r, HR⟩ : ∃ q, Hid (w3.heap.size = q) := ⟨_, hI_ rfl⟩
 obtain ⟨W3, HW3⟩ : ∃ W, Hid (w3.alloc (.cells #[.int .i64 y.sec, .int .i64 y.bad, .slice E1 y.feeds.length e1, .slice E2 y.links.length e2, .slice E3 y.asked.length e3, .slice E4 y.net.length e4] 35) = W) := ⟨_, hI_ rfl⟩
 have hb23 : Below W2.heap.size W2 W3 := by rw [← HW3.out]; exact qab hb3 _
 have HC3 := hI_ (HC2.out.below hb23)
 have HZ3 : Hid (W3.heap[r]? = some (.cells #[.int .i64 y.sec, .int .i64 y.bad, .slice E1 y.feeds.length e1, .slice E2 y.links.length e2, .slice E3 y.asked.length e3, .slice E4 y.net.length e4] 35 (0, 0))) := hI_ (by rw [← HW3.out, ← HR.out]; exact heap_alloc_new _ _)
 have HV3 : Hid (WdS W3 y (.slice E1 y.feeds.length e1) (.slice E2 y.links.length e2) (.slice E3 y.asked.length e3) (.slice E4 y.net.length e4)) := hI_ (by rw [← HW3.out]; exact hs3.below (qab (bR_ _ _) _))
 clear hb23 hb3 hs3 t0 t1 t2 t3 t4 t5 tf
 obtain ⟨t0, t1, t2, t3, t4, t5, tf⟩ := qaa HC3.out.by_
 obtain ⟨z0, z1, z2, z3, z4, z5, zf⟩ := qaa HZ3.out
 have lq3 := qai HC3.out.bx
 have lp3 := qai HC3.out.by_
 go_upto_region 6 with fail
 rw [HW3.out, HR.out]
 go_wp2_with fail
 refine (qcK y _ _ _ _ _ _ _ _ W3 HC3.out.sy.r HV3.out.r).mono ?_
 rintro e w4 ⟨rfl, hb4⟩
 have HC4 := hI_ (HC3.out.below hb4)
 have HZ4 := hI_ ((hb4.block _ (qai HZ3.out)).trans HZ3.out)
 have HV4 := hI_ (HV3.out.below hb4)
 clear hb4 t0 t1 t2 t3 t4 t5 tf z0 z1 z2 z3 z4 z5 zf lq3 lp3
 obtain ⟨t0, t1, t2, t3, t4, t5, tf⟩ := qaa HC4.out.bx
 go_wp2_with fail
 refine (qdO x _ _ _ _ w4 HC4.out.sx.r HD.out.t).mono ?_
 rintro e w5 ⟨rfl, hb5⟩
 have HC5 := hI_ (HC4.out.below hb5)
 have HZ5 := hI_ ((hb5.block _ (qai HZ4.out)).trans HZ4.out)
 have HV5 := hI_ (HV4.out.below hb5)
 clear hb5 t0 t1 t2 t3 t4 t5 tf
 obtain ⟨bv, HBV⟩ : ∃ b, Hid (qcc x = b) := ⟨_, hI_ rfl⟩
 rw [HBV.out]
 obtain ⟨s0, s1, s2, s3, s4, s5, sf⟩ := qaa HC5.out.bx
 obtain ⟨t0, t1, t2, t3, t4, t5, tf⟩ := qaa HC5.out.by_
 obtain ⟨z0, z1, z2, z3, z4, z5, zf⟩ := qaa HZ5.out
 cases bv
 · go_wp2_with fail
   refine (qcK y _ _ _ _ _ _ _ _ w5 HC5.out.sy.r HV5.out.r).mono ?_
   rintro e w6 ⟨rfl, hb6⟩
   have HC6 := hI_ (HC5.out.below hb6)
   clear hb6 s0 s1 s2 s3 s4 s5 sf t0 t1 t2 t3 t4 t5 tf z0 z1 z2 z3 z4 z5 zf
   go_wp2_with fail
   go_ret
   exact ⟨rfl, HC6.out.o⟩
 have HWY : Hid (WV y) := hI_ (by rw [← HY.out]; exact qlh HBV.out)
 have HNY : Hid (y.net = []) := hI_ (by rw [← HY.out]; exact qjQ HBV.out)
 have HTY : Hid (∀ j (hj : j < y.net.length), y.net[j].txt.size ≤ maxLen) := hI_ (fun j hj => absurd hj (by rw [HNY.out]; exact Nat.not_lt_zero _))
 clear z0 z1 z2 z3 z4 z5 zf
 have HKP : Hid (y.f0 = x.f0 ∧ y.links = x.links ∧ (∀ j (hj : j < y.asked.length), y.asked[j] = []) ∧ y.net = [] ∧ y.feeds.length = x.feeds.length) := hI_ (by
  have := qkq (qcq.1 HBV.out)
  rw [← qjc HBV.out, HY.out] at this
  exact this)
 have HWX := hI_ (qcq.1 HBV.out)
 have hm3 := HC5.out.sy.r.asked.len
 have hm2 := HC5.out.sx.r.links.len
 unfold maxLen at hm3 hm2
 clear s0 s1 s2 s3 s4 s5 sf
 go_wp2_with fail
 clear t0 t1 t2 t3 t4 t5 tf
 go_loopw [6] (fun i wr => ∃ k : Nat, k ≤ y.asked.length ∧ i = .int .i64 k ∧ qnp w q p x y (.slice A1 x.feeds.length c1) (.slice A2 x.links.length c2) (.slice A3 x.asked.length c3) (.slice A4 x.net.length c4) (.slice B1 y.feeds.length d1) (.slice B2 y.links.length d2) (.slice B3 y.asked.length d3) (.slice B4 y.net.length d4) wr) (fun i _ => y.asked.length - (intOf i).toNat)
 case atStart => exact ⟨0, Nat.zero_le _, rfl, HC5.out⟩
 case round =>
  obtain ⟨k, hk, rfl, hR⟩ := hrel
  obtain ⟨wr1, rfl⟩ : ∃ W, W = wr := ⟨_, rfl⟩
  have HR1 := hI_ hR
  obtain ⟨t0, t1, t2, t3, t4, t5, tf⟩ := qaa hR.by_
  have lp := qai hR.by_
  by_cases hlt : k < y.asked.length
  · have hki : (k : Int) < (y.asked.length : Int) := by omega
    have hk0 : (0 : Int) ≤ (k : Int) := by omega
    obtain ⟨b, o, z, hA, hbs, e0, e1⟩ := hR.sy.r.asked.at_ hlt
    subst hA
    obtain ⟨zA, zc, rfl⟩ := e1.sl
    have he := HKP.out.2.2.1 k hlt
    have hlen : (y.asked[k]).length = 0 := by rw [he]; rfl
    rw [hlen] at e0
    clear hR e1 he hlen
    go_wp2_with fail
    go_roundw
    case rel => exact ⟨k + 1, by omega, by go_num, HR1.out⟩
    case measure => simp [intOf]; omega
  have hki : ¬ (k : Int) < (y.asked.length : Int) := by omega
  clear hR
  go_wp2_with fail
  clear t0 t1 t2 t3 t4 t5 tf
  go_loopw [7] (fun i wr => ∃ k : Nat, k ≤ x.links.length ∧ i = .int .i64 k ∧ qnp w q p x y (.slice A1 x.feeds.length c1) (.slice A2 x.links.length c2) (.slice A3 x.asked.length c3) (.slice A4 x.net.length c4) (.slice B1 y.feeds.length d1) (.slice B2 y.links.length d2) (.slice B3 y.asked.length d3) (.slice B4 y.net.length d4) wr) (fun i _ => x.links.length - (intOf i).toNat)
  case atStart => exact ⟨0, Nat.zero_le _, rfl, HR1.out⟩
  case round =>
   obtain ⟨m, hm, rfl, hR⟩ := hrel
   obtain ⟨wr2, rfl⟩ : ∃ W, W = wr := ⟨_, rfl⟩
   have HR2 := hI_ hR
   obtain ⟨s0, s1, s2, s3, s4, s5, sf⟩ := qaa hR.bx
   obtain ⟨t0, t1, t2, t3, t4, t5, tf⟩ := qaa hR.by_
   have lq := qai hR.bx
   have lp := qai hR.by_
   have hLL : y.links.length = x.links.length := by rw [HKP.out.2.1]
   by_cases hlm : m < x.links.length
   · have hmi : (m : Int) < (x.links.length : Int) := by omega
     have hmi2 : (m : Int) < (y.links.length : Int) := by omega
     have hm0 : (0 : Int) ≤ (m : Int) := by omega
     obtain ⟨b, o, hA, hbs, e0, e1⟩ := hR.sx.r.links.at_ hlm
     subst hA
     obtain ⟨b', o', hA, hbs', d0, d1⟩ := hR.sy.r.links.at_ (j := m) (by rw [hLL]; exact hlm)
     subst hA
     have hE : ∀ h : m < y.links.length, y.links[m] = x.links[m] := fun h => by have := HKP.out.2.1; simp only [this]
     rw [hE] at d0 d1
     generalize x.links[m] = l at *
     have hup := qap wr2
     clear hR hLL hE
     go_wp2_with fail
     refine qoH ?_
     repeat (go_big_quiet_step (fail))
     refine wpQuiet_nil ?_
     intro w6 hw6
     have hb6 := qay hw6
     clear hw6 hup s0 s1 s2 s3 s4 s5 sf t0 t1 t2 t3 t4 t5 tf e0 e1 d0 d1
     have HR6 := hI_ (HR2.out.below hb6)
     clear hb6
     go_wp2_with fail
     go_roundw
     case rel => exact ⟨m + 1, by omega, by go_num, HR6.out⟩
     case measure => simp [intOf]; omega
   have hmi : ¬ (m : Int) < (x.links.length : Int) := by omega
   have hx0 : 0 < x.feeds.length := by have := HWX.out.wi.n1; omega
   have hy0 : 0 < y.feeds.length := by rw [HKP.out.2.2.2.2]; exact hx0
   have hx0' : (0 : Int) < (x.feeds.length : Int) := by omega
   have hy0' : (0 : Int) < (y.feeds.length : Int) := by omega
   obtain ⟨b, o, xb, xh, hA, hbs, f0, f1, f2, f3, f4, f5, hF⟩ := hR.sx.r.feeds.at0 hx0
   subst hA
   obtain ⟨b', o', yb, yh, hA, hbs', g0, g1, g2, g3, g4, g5, hG⟩ := hR.sy.r.feeds.at0 hy0
   subst hA
   have hff : y.feeds.getD 0 Fd.none = x.feeds.getD 0 Fd.none := HKP.out.1
   rw [hff] at g0 g1 g2 g3 hG
   generalize x.feeds.getD 0 Fd.none = f at *
   have HF := hI_ hF
   have HG := hI_ hG
   have hll : ((y.links.length : Int) == (x.links.length : Int)) = true := by rw [hLL]; simp
   have hup := qap wr2
   clear hR hF hG hff hLL
   go_wp2_with fail
   refine qoH ?_
   repeat (go_big_quiet_step ((go_at_call 31; exact qal (qeR f _ _ _ _ _ (HG.out.below (qao _ _)) (HF.out.below (qao _ _))))))
   refine wpQuiet_nil ?_
   intro w6 hw6
   have hb6 := qay hw6
   clear hw6 hup s0 s1 s2 s3 s4 s5 sf t0 t1 t2 t3 t4 t5 tf
   have HR6 := hI_ (HR2.out.below hb6)
   clear hb6
   go_wp2_with fail
   go_ret
   exact ⟨rfl, HR6.out.o⟩
end Go.Proofs.YtcplnfmcefkehaaGreat
