/- Walk: the law FnCalmWhole. No condition. -/
import Derived.Test.YtcplnfmcefkehaaGreatCJ
set_option linter.unusedVariables false
set_option linter.unusedSimpArgs false
namespace Go.Proofs.YtcplnfmcefkehaaGreat
open Go.RowKit
attribute [local go_sem ↓] Go.wp_at_zero Go.wp_at_succ

theorem qo4 {l : List Bool} (h16 : l.length ≤ 16) (h : ∀ i, i < l.length → l.getD i false = true) : qeG l = (l.length : Int) := by
 unfold qeG cnt
 rw [if_pos h16, List.count_eq_length.2 (fun b hb => ?_)]
 obtain ⟨i, hi, rfl⟩ := List.mem_iff_getElem.1 hb
 have := h i hi
 rw [qam hi] at this
 exact this.symm
theorem qo3 {l : List Bool} {n : Int} (h : Hid (qeG l = n)) (v : Value) (w : World) (hv : RB w v l) : Calls Tryz.prog 33 #[v] w fun e w' => e = .returned (.int .i64 n) ∧ w = w' := by
 rw [← h.out]; exact qg7 l v w hv
theorem qpr (w : World) (f : Fd) (a b : Value) : ∃ g, Value.pointer (some ⟨w.heap.size, 0, none⟩) = .pointer (some ⟨g, 0, none⟩) ∧ (w.alloc (.cells #[.int .i64 f.pub, .int .i64 f.hd.len, .int .i64 f.hd.dg, .int .i64 f.hd.sg, a, b] 59)).drew.heap[g]? = some (.cells #[.int .i64 f.pub, .int .i64 f.hd.len, .int .i64 f.hd.dg, .int .i64 f.hd.sg, a, b] 59 (0, 0)) ∧ Below w.heap.size w (w.alloc (.cells #[.int .i64 f.pub, .int .i64 f.hd.len, .int .i64 f.hd.dg, .int .i64 f.hd.sg, a, b] 59)).drew :=
 ⟨_, rfl, qbI (at0 _ _), qac (qab (bR_ _ _) _)⟩
set_option maxHeartbeats 12800000 in
set_option maxRecDepth 100000 in
theorem FnCalmWhole_any (bs : List UInt8) (v : Value) (w : World) (hv : RU w v bs) : Calls Tryz.prog 10 #[v] w fun e w' => e = .returned (.bool true) ∧ Below w.heap.size w w' := by
 have HV := hI_ hv
 obtain ⟨A, c, rfl, n1, n2, n3⟩ := hv
 unfold maxLen at n2
 have hbm : bs.length ≤ 9223372036854775807 := by have := n1.1; omega
 clear n1 n2 n3
 by_cases hl : 1048576 < bs.length
 · have hl' : (1048576 : Int) < (bs.length : Int) := by omega
   go_enter Tryz.func10, Tryz.ntmps10
   go_wp2
   go_ret
   exact ⟨rfl, bR_ _ _⟩
 have hl' : ¬ (1048576 : Int) < (bs.length : Int) := by omega
 clear hl
 go_enter Tryz.func10, Tryz.ntmps10
 go_wp2_with fail
 refine (qdk bs _ w HV.out).mono ?_
 rintro e w1 ⟨x, uF, uL, uA, uN, rfl, hd, hs, hb1⟩
 obtain ⟨⟨A1, c1, rfl⟩, ⟨A2, c2, rfl⟩, ⟨A3, c3, rfl⟩, ⟨A4, c4, rfl⟩⟩ := hs.sl
 obtain ⟨q, HQ⟩ : ∃ q, Hid (w1.heap.size = q) := ⟨_, hI_ rfl⟩
 obtain ⟨W1, HW1⟩ : ∃ W, Hid (w1.alloc (.cells #[.int .i64 x.sec, .int .i64 x.bad, .slice A1 x.feeds.length c1, .slice A2 x.links.length c2, .slice A3 x.asked.length c3, .slice A4 x.net.length c4] 35) = W) := ⟨_, hI_ rfl⟩
 have HB1 : Hid (Below w.heap.size w W1) := hI_ (by rw [← HW1.out]; exact qab hb1 _)
 have HS1 : Hid (WdS W1 x (.slice A1 x.feeds.length c1) (.slice A2 x.links.length c2) (.slice A3 x.asked.length c3) (.slice A4 x.net.length c4)) := hI_ (by rw [← HW1.out]; exact hs.below (qab (bR_ _ _) _))
 have HX1 : Hid (W1.heap[q]? = some (.cells #[.int .i64 x.sec, .int .i64 x.bad, .slice A1 x.feeds.length c1, .slice A2 x.links.length c2, .slice A3 x.asked.length c3, .slice A4 x.net.length c4] 35 (0, 0))) := hI_ (by rw [← HW1.out, ← HQ.out]; exact heap_alloc_new _ _)
 have HD := hI_ hd
 clear hd hs hb1 hbm hl'
 obtain ⟨t0, t1, t2, t3, t4, t5, tf⟩ := qaa HX1.out
 go_upto_region 4 with fail
 rw [HW1.out, HQ.out]
 go_wp2_with fail
 refine (qfG x _ _ _ _ W1 HS1.out.r HD.out.t).mono ?_
 rintro e w2 ⟨vF, vL, vA, vN, rfl, hp2, hb2⟩
 have hs2 := hp2.st
 obtain ⟨y, HY⟩ : ∃ y, Hid (qcL x = y) := ⟨_, hI_ rfl⟩
 rw [HY.out] at hs2 ⊢
 obtain ⟨⟨B1, d1, rfl⟩, ⟨B2, d2, rfl⟩, ⟨B3, d3, rfl⟩, ⟨B4, d4, rfl⟩⟩ := hs2.sl
 obtain ⟨p, HP⟩ : ∃ q, Hid (w2.heap.size = q) := ⟨_, hI_ rfl⟩
 obtain ⟨W2, HW2⟩ : ∃ W, Hid (w2.alloc (.cells #[.int .i64 y.sec, .int .i64 y.bad, .slice B1 y.feeds.length d1, .slice B2 y.links.length d2, .slice B3 y.asked.length d3, .slice B4 y.net.length d4] 35) = W) := ⟨_, hI_ rfl⟩
 have hb12 : Below W1.heap.size W1 W2 := by rw [← HW2.out]; exact qab hb2 _
 have HC2 : Hid (qnp w q p x y (.slice A1 x.feeds.length c1) (.slice A2 x.links.length c2) (.slice A3 x.asked.length c3) (.slice A4 x.net.length c4) (.slice B1 y.feeds.length d1) (.slice B2 y.links.length d2) (.slice B3 y.asked.length d3) (.slice B4 y.net.length d4) W2) := hI_ ⟨(hb12.block _ (qai HX1.out)).trans HX1.out, by rw [← HW2.out, ← HP.out]; exact heap_alloc_new _ _, HS1.out.below hb12, by rw [← HW2.out]; exact hs2.below (qab (bR_ _ _) _), HB1.out.trans (hb12.mono HB1.out.size)⟩
 clear hp2 hb2 hs2 hb12 t0 t1 t2 t3 t4 t5 tf
 obtain ⟨t0, t1, t2, t3, t4, t5, tf⟩ := qaa HC2.out.bx
 go_upto_region 5 with fail
 rw [HW2.out, HP.out]
 go_wp2_with fail
 refine (qfH x _ _ _ _ W2 HC2.out.sx HD.out.t).mono ?_
 rintro e w3 ⟨vF, vL, vA, vN, rfl, hs3, hb3⟩
 rw [HY.out] at hs3 ⊢
 obtain ⟨⟨E1, e1, rfl⟩, ⟨E2, e2, rfl⟩, ⟨E3, e3, rfl⟩, ⟨E4, e4, rfl⟩⟩ := hs3.sl
 obtain ⟨r, HR⟩ : ∃ q, Hid (w3.heap.size = q) := ⟨_, hI_ rfl⟩
 obtain ⟨W3, HW3⟩ : ∃ W, Hid (w3.alloc (.cells #[.int .i64 y.sec, .int .i64 y.bad, .slice E1 y.feeds.length e1, .slice E2 y.links.length e2, .slice E3 y.asked.length e3, .slice E4 y.net.length e4] 35) = W) := ⟨_, hI_ rfl⟩
 have hb23 : Below W2.heap.size W2 W3 := by rw [← HW3.out]; exact qab hb3 _
 have HC3 := hI_ (HC2.out.below hb23)
 have HZ3 : Hid (W3.heap[r]? = some (.cells #[.int .i64 y.sec, .int .i64 y.bad, .slice E1 y.feeds.length e1, .slice E2 y.links.length e2, .slice E3 y.asked.length e3, .slice E4 y.net.length e4] 35 (0, 0))) := hI_ (by rw [← HW3.out, ← HR.out]; exact heap_alloc_new _ _)
 have HV3 : Hid (WdS W3 y (.slice E1 y.feeds.length e1) (.slice E2 y.links.length e2) (.slice E3 y.asked.length e3) (.slice E4 y.net.length e4)) := hI_ (by rw [← HW3.out]; exact hs3.below (qab (bR_ _ _) _))
 clear hb23 hb3 hs3 t0 t1 t2 t3 t4 t5 tf
 obtain ⟨t0, t1, t2, t3, t4, t5, tf⟩ := qaa HC3.out.by_
 obtain ⟨z0, z1, z2, z3, z4, z5, zf⟩ := qaa HZ3.out
 have lq3 := qai HC3.out.bx
 have lp3 := qai HC3.out.by_
 go_upto_region 6 with fail
 rw [HW3.out, HR.out]
 go_wp2_with fail
 refine (qcK y _ _ _ _ _ _ _ _ W3 HC3.out.sy.r HV3.out.r).mono ?_
 rintro e w4 ⟨rfl, hb4⟩
 have HC4 := hI_ (HC3.out.below hb4)
 have HZ4 := hI_ ((hb4.block _ (qai HZ3.out)).trans HZ3.out)
 have HV4 := hI_ (HV3.out.below hb4)
 clear hb4 t0 t1 t2 t3 t4 t5 tf z0 z1 z2 z3 z4 z5 zf lq3 lp3
 obtain ⟨t0, t1, t2, t3, t4, t5, tf⟩ := qaa HC4.out.bx
 go_wp2_with fail
 refine (qdO x _ _ _ _ w4 HC4.out.sx.r HD.out.t).mono ?_
 rintro e w5 ⟨rfl, hb5⟩
 have HC5 := hI_ (HC4.out.below hb5)
 have HZ5 := hI_ ((hb5.block _ (qai HZ4.out)).trans HZ4.out)
 have HV5 := hI_ (HV4.out.below hb5)
 clear hb5 t0 t1 t2 t3 t4 t5 tf
 obtain ⟨bv, HBV⟩ : ∃ b, Hid (qcc x = b) := ⟨_, hI_ rfl⟩
 rw [HBV.out]
 obtain ⟨s0, s1, s2, s3, s4, s5, sf⟩ := qaa HC5.out.bx
 obtain ⟨t0, t1, t2, t3, t4, t5, tf⟩ := qaa HC5.out.by_
 obtain ⟨z0, z1, z2, z3, z4, z5, zf⟩ := qaa HZ5.out
 cases bv
 · go_wp2_with fail
   refine (qcK y _ _ _ _ _ _ _ _ w5 HC5.out.sy.r HV5.out.r).mono ?_
   rintro e w6 ⟨rfl, hb6⟩
   have HC6 := hI_ (HC5.out.below hb6)
   clear hb6 s0 s1 s2 s3 s4 s5 sf t0 t1 t2 t3 t4 t5 tf z0 z1 z2 z3 z4 z5 zf
   go_wp2_with fail
   go_ret
   exact ⟨rfl, HC6.out.o⟩
 have HWY : Hid (WV y) := hI_ (by rw [← HY.out]; exact qlh HBV.out)
 have HNY : Hid (y.net = []) := hI_ (by rw [← HY.out]; exact qjQ HBV.out)
 have HTY : Hid (∀ j (hj : j < y.net.length), y.net[j].txt.size ≤ maxLen) := hI_ (fun j hj => absurd hj (by rw [HNY.out]; exact Nat.not_lt_zero _))
 clear z0 z1 z2 z3 z4 z5 zf
 have HVY : Hid (qcc y = true) := hI_ (qcq.2 HWY.out)
 have HRD : Hid (∀ m ∈ qoK y, ∃ k : Nat, m = k ∧ k < y.feeds.length ∧ qn3 y k) := hI_ (fun m hm => by
  have hc := qjc HBV.out
  rw [HY.out] at hc
  rw [hc] at hm ⊢
  exact qoS (qcq.1 HBV.out) (HD.out.z HBV.out) m hm)
 clear s0 s1 s2 s3 s4 s5 sf
 go_wp2_with fail
 refine (qoP y _ _ _ _ w5 HC5.out.sy.r HTY.out).mono ?_
 rintro e w7 ⟨vo, rfl, ho7, hb7⟩
 obtain ⟨l, HL⟩ : ∃ l, Hid (qoK y = l) := ⟨_, hI_ rfl⟩
 rw [HL.out] at ho7 HRD
 obtain ⟨oA, oc, rfl⟩ := ho7.sl
 have hlm := ho7.len
 unfold maxLen at hlm
 have HD7 := hI_ (HC5.out.below hb7)
 have HO7 := hI_ ho7.r1
 clear ho7 hb7 t0 t1 t2 t3 t4 t5 tf
 go_wp2_with fail
 go_loopw [7] (fun i wr => ∃ k : Nat, k ≤ l.length ∧ i = .int .i64 k ∧ qnp w q p x y (.slice A1 x.feeds.length c1) (.slice A2 x.links.length c2) (.slice A3 x.asked.length c3) (.slice A4 x.net.length c4) (.slice B1 y.feeds.length d1) (.slice B2 y.links.length d2) (.slice B3 y.asked.length d3) (.slice B4 y.net.length d4) wr ∧ RI wr (.slice oA l.length oc) l) (fun i _ => l.length - (intOf i).toNat)
 case atStart => exact ⟨0, Nat.zero_le _, rfl, HD7.out, HO7.out⟩
 case round =>
  obtain ⟨k, hk, rfl, hR, hI⟩ := hrel
  obtain ⟨wr1, rfl⟩ : ∃ W, W = wr := ⟨_, rfl⟩
  have HR1 := hI_ hR
  have HI1 := hI_ hI
  by_cases hlt : k < l.length
  · have hki : (k : Int) < (l.length : Int) := by omega
    have hk0 : (0 : Int) ≤ (k : Int) := by omega
    obtain ⟨t0, t1, t2, t3, t4, t5, tf⟩ := qaa hR.by_
    have lp := qai hR.by_
    obtain ⟨oB, o, hA, hbs, e0⟩ := R1.at_ hI hlt
    subst hA
    obtain ⟨m, hm, hmn, hfull⟩ := HRD.out _ (List.getElem_mem hlt)
    rw [hm] at e0
    obtain ⟨b1, o1, xb, xh, hA, hbs1, f0, f1, f2, f3, f4, f5, hF⟩ := hR.sy.r.feeds.at_ hmn
    subst hA
    have hfd := HWY.out.fd m hmn
    have hy0 : 0 < y.feeds.length := by omega
    obtain ⟨f, HFE⟩ : ∃ f, Hid (y.feeds[m] = f) := ⟨_, hI_ rfl⟩
    rw [HFE.out] at f0 f1 f2 f3 hF hfd
    have HFU : Hid (f.hd = y.f0.hd ∧ ∀ i, i < f.hv.length → f.hv.getD i false = true) := hI_ (by have := hfull; unfold qn3 at this; rw [qam hmn, HFE.out] at this; exact this)
    have HBC : Hid (qeG f.hv = (f.hv.length : Int)) := hI_ (qo4 (by have := qax hfd.v; omega) HFU.out.2)
    obtain ⟨xA, xc, rfl⟩ := hF.bl.sl'
    obtain ⟨yA, yc, rfl⟩ := hF.hv.sl'
    have HF := hI_ hF.hv
    have hmi : (m : Int) < (y.feeds.length : Int) := by omega
    have hm0 : (0 : Int) ≤ (m : Int) := by omega
    clear hR hI hF hm hfd hfull
    go_upto_region 12 with fail
    go_cut [8] (fun s8 wx => ∃ g, s8 = .pointer (some ⟨g, 0, none⟩) ∧ wx.heap[g]? = some (.cells #[.int .i64 f.pub, .int .i64 f.hd.len, .int .i64 f.hd.dg, .int .i64 f.hd.sg, .slice xA f.bl.length xc, .slice yA f.hv.length yc] 59 (0, 0)) ∧ Below wr1.heap.size wr1 wx)
    case first =>
     go_region_held3 (fun w' => w'.cell? ⟨p, 2, none⟩ = some (.slice (some ⟨b1, o1, none⟩) y.feeds.length d1) ∧ w'.cell? ⟨oB, o + k, none⟩ = some (.int .i64 (m : Int)) ∧ w'.cell? ⟨b1, o1 + m * 6, none⟩ = some (.int .i64 f.pub) ∧ w'.cell? ⟨b1, o1 + m * 6 + 1, none⟩ = some (.int .i64 f.hd.len) ∧ w'.cell? ⟨b1, o1 + m * 6 + 2, none⟩ = some (.int .i64 f.hd.dg) ∧ w'.cell? ⟨b1, o1 + m * 6 + 3, none⟩ = some (.int .i64 f.hd.sg) ∧ w'.cell? ⟨b1, o1 + m * 6 + 4, none⟩ = some (.slice xA f.bl.length xc) ∧ w'.cell? ⟨b1, o1 + m * 6 + 5, none⟩ = some (.slice yA f.hv.length yc))
      (with_reducible refine ⟨Eq.trans (Below.cell (B := wr1.heap.size) ?_ lp) t2, Eq.trans (Below.cell (B := wr1.heap.size) ?_ hbs) e0, Eq.trans (Below.cell (B := wr1.heap.size) ?_ hbs1) f0, Eq.trans (Below.cell (B := wr1.heap.size) ?_ hbs1) f1, Eq.trans (Below.cell (B := wr1.heap.size) ?_ hbs1) f2, Eq.trans (Below.cell (B := wr1.heap.size) ?_ hbs1) f3, Eq.trans (Below.cell (B := wr1.heap.size) ?_ hbs1) f4, Eq.trans (Below.cell (B := wr1.heap.size) ?_ hbs1) f5⟩ <;> (with_reducible repeat (first | exact bR_ _ _ | refine qab ?_ _ | refine qac ?_)); done)
      (fail)
     all_goals
      go_wp2
      go_meet
      exact qpr wr1 f _ _
    case rest =>
     obtain ⟨g, rfl, hg, hb⟩ := hcut
     obtain ⟨wx, rfl⟩ : ∃ W, W = wc := ⟨_, rfl⟩
     have HRX := hI_ (HR1.out.below hb)
     have HIX := hI_ (HI1.out.below hb)
     have HFX := hI_ (HF.out.below hb)
     clear t0 t1 t2 t3 t4 t5 tf f0 f1 f2 f3 f4 f5 e0 hb
     obtain ⟨t0, t1, t2, t3, t4, t5, tf⟩ := qaa HRX.out.by_
     obtain ⟨g0, g1, g2, g3, g4, g5, gf⟩ := qaa hg
     have lp' := qai HRX.out.by_
     have lg := qai hg
     obtain ⟨b2, o2, yb, yh, hA, hbs2, d0, d1, d2, d3, d4, d5, hG⟩ := HRX.out.sy.r.feeds.at0 hy0
     cases hA
     have hh : f.hd = (y.feeds.getD 0 Fd.none).hd := HFU.out.1
     rw [← hh] at d1 d2 d3
     have hy0' : (0 : Int) < (y.feeds.length : Int) := by omega
     have hne : ((f.hv.length : Int) != (f.hv.length : Int)) = false := by simp
     have hup := qap wx
     clear hG hh hg
     go_wp2_with fail
     refine qoH ?_
     repeat (go_big_quiet_step ((go_at_call 33; exact qaj (qo3 HBC _ _ (HFX.out.below (qao _ _))))))
     refine wpQuiet_nil ?_
     intro w8 hw8
     have hb8 := qay hw8
     clear hw8 hup t0 t1 t2 t3 t4 t5 tf g0 g1 g2 g3 g4 g5 gf d0 d1 d2 d3 d4 d5
     have HR8 := hI_ (HRX.out.below hb8)
     have HI8 := hI_ (HIX.out.below hb8)
     clear hb8
     go_wp2_with fail
     go_roundw
     case rel => exact ⟨k + 1, by omega, by go_num, HR8.out, HI8.out⟩
     case measure => simp [intOf]; omega
  have hki : ¬ (k : Int) < (l.length : Int) := by omega
  obtain ⟨t0, t1, t2, t3, t4, t5, tf⟩ := qaa hR.by_
  have hn0 : y.net.length = 0 := by rw [HNY.out]; rfl
  rw [hn0] at t5
  clear hR hI hn0
  go_wp2_with fail
  go_ret
  exact ⟨rfl, HR1.out.o⟩
end Go.Proofs.YtcplnfmcefkehaaGreat
