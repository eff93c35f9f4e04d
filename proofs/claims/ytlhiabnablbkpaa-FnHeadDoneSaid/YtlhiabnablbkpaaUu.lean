/- Walk: the law FnHeadDone. -/
import Derived.Test.YtlhiabnablbkpaaTe
namespace Go.Proofs.Ytlhiabnablbkpaa
open Go.RowKit

theorem BitsCount_c {l : List Bool} {n : Int} (h : Hid (bcount l = n)) (v : Value) (w : World) (hv : RB w v l) : Calls Try.prog 52 #[v] w fun e w' => e = .returned (.int .i64 n) ∧ w = w' := by
  rw [← h.out]; exact BitsCount_any l v w hv
theorem done_facts {f : Fd} {h : Hd} {l : List Int} (hv : fvalid f = true) (hc : hcode f h l = 0) : hcheck f.pub h = true ∧ f.hd.len < h.len ∧ fvalid (f.grow h) = true ∧ (f.grow h).bl.take f.bl.length = f.bl ∧ bcount (f.grow h).hv = bcount f.hv ∧ f.bl.length ≤ (f.grow h).bl.length ∧ 0 < (f.grow h).bl.length := by
  obtain ⟨c1, c2, c3, _⟩ := hcode_done hc
  obtain ⟨l1, l2, l3⟩ := fvalid_len hv
  obtain ⟨b1, b2⟩ := hcheck_len c1
  refine ⟨c1, c3, grow_valid hv hc, by simp [Fd.grow], ?_, by simp [Fd.grow], by simp [Fd.grow]; omega⟩
  unfold bcount
  rw [if_pos (show (f.grow h).hv.length ≤ 16 by simp [Fd.grow]; omega), if_pos (by omega)]
  simp only [Fd.grow]
  rw [cnt_more]
set_option maxHeartbeats 1600000 in
set_option maxRecDepth 100000 in
theorem FnHeadDone_any (bs : List UInt8) (v : Value) (w : World) (hv : RU w v bs) : Calls Try.prog 15 #[v] w fun e w' => e = .returned (.bool true) ∧ Below w.heap.size w w' := by
  have HV := Lib.hid hv
  obtain ⟨A, c, rfl, n1, n2, _⟩ := hv
  unfold maxLen at n2
  have hbm : bs.length ≤ 9223372036854775807 := by have := n1.1; omega
  clear n1 n2
  by_cases hl : 1048576 < bs.length
  · have hl' : (1048576 : Int) < (bs.length : Int) := by omega
    go_enter Try.func15, Try.ntmps15
    go_wp2
    go_ret
    exact ⟨rfl, Below.refl _ _⟩
  have hl' : ¬ (1048576 : Int) < (bs.length : Int) := by omega
  go_enter Try.func15, Try.ntmps15
  go_wp2_with fail
  refine (DrawFeedHead_any bs _ w HV.out).mono ?_
  rintro e w1 ⟨f, ub, uh, h, gv, gl, rfl, hf1, -, -, -, hg1, -, hb1⟩
  obtain ⟨uA, uc, rfl⟩ := hf1.bl.sl
  obtain ⟨tA, tc, rfl⟩ := hf1.hv.sl
  obtain ⟨pA, pc, rfl⟩ : ∃ pA pc, gv = .slice pA gl.length pc := by obtain ⟨a, b, h, _⟩ := hg1; exact ⟨a, b, h⟩
  have hL2 := LW.made (h := h) hf1 hg1
  have hb2 := (hb1.alloc hb1.size (.cells #[.int .i64 f.pub, .int .i64 f.hd.len, .int .i64 f.hd.dg, .int .i64 f.hd.sg, .slice uA f.bl.length uc, .slice tA f.hv.length tc] 34)).alloc (Nat.le_trans hb1.size (by simp)) (.cells #[.int .i64 h.len, .int .i64 h.dg, .int .i64 h.sg] 32)
  go_wp2_with fail
  obtain ⟨W2, HW2⟩ : ∃ W2, Hid ((w1.alloc (.cells #[.int .i64 f.pub, .int .i64 f.hd.len, .int .i64 f.hd.dg, .int .i64 f.hd.sg, .slice uA f.bl.length uc, .slice tA f.hv.length tc] 34)).alloc (.cells #[.int .i64 h.len, .int .i64 h.dg, .int .i64 h.sg] 32) = W2) := ⟨_, Lib.hid rfl⟩
  obtain ⟨q, HQ⟩ : ∃ q, Hid (w1.heap.size = q) := ⟨_, Lib.hid rfl⟩
  rw [HW2.out] at hb2 hL2 ⊢
  rw [HQ.out] at hL2 ⊢
  clear hf1 hb1 hg1
  obtain ⟨g, cc, HG⟩ : ∃ g b, Hid (fhead f h gl = (g, b)) := ⟨_, _, Lib.hid rfl⟩
  refine (FeedHead_ig HG _ _ _ W2 hL2.fb.fo.r hL2.gr).mono ?_
  rintro e w3 ⟨ub3, uh3, rfl, hg3, hb3⟩
  obtain ⟨xA, xc, rfl⟩ := hg3.bl.sl
  obtain ⟨yA, yc, rfl⟩ := hg3.hv.sl
  have hL3 := hL2.below hb3
  have hL4 := hL2.below (hb3.alloc hb3.size (.cells #[.int .i64 g.pub, .int .i64 g.hd.len, .int .i64 g.hd.dg, .int .i64 g.hd.sg, .slice xA g.bl.length xc, .slice yA g.hv.length yc] 34))
  have hg4 := FB.made hg3
  have hb4 := hb2.trans ((hb3.alloc hb3.size (.cells #[.int .i64 g.pub, .int .i64 g.hd.len, .int .i64 g.hd.dg, .int .i64 g.hd.sg, .slice xA g.bl.length xc, .slice yA g.hv.length yc] 34)).mono hb2.size)
  have k0 := hL2.fb.c0; have k1 := hL2.fb.c1; have k2 := hL2.fb.c2; have k3 := hL2.fb.c3; have k4 := hL2.fb.c4; have k5 := hL2.fb.c5
  have l0 := hL3.fb.c0; have l1 := hL3.fb.c1; have l2 := hL3.fb.c2; have l3 := hL3.fb.c3; have l4 := hL3.fb.c4; have l5 := hL3.fb.c5
  obtain ⟨i0, i1, i2, -⟩ := box3_cells hL3.hd
  have lq := hL3.fb.lt
  have lz := hL3.lz
  clear hL2 hg3 hb3 hb2 hL3
  go_wp2_with fail
  obtain ⟨W4, HW4⟩ : ∃ W4, Hid (w3.alloc (.cells #[.int .i64 g.pub, .int .i64 g.hd.len, .int .i64 g.hd.dg, .int .i64 g.hd.sg, .slice xA g.bl.length xc, .slice yA g.hv.length yc] 34) = W4) := ⟨_, Lib.hid rfl⟩
  obtain ⟨r, HR⟩ : ∃ r, Hid (w3.heap.size = r) := ⟨_, Lib.hid rfl⟩
  rw [HW4.out] at hL4 hg4 hb4 ⊢
  rw [HR.out] at hg4 ⊢
  clear k0 k1 k2 k3 k4 k5 l0 l1 l2 l3 l4 l5 lq lz i0 i1 i2
  refine (FeedHead_sg HG _ _ _ W4 hL4.fb.fo.r hL4.gr).mono ?_
  rintro e w5 ⟨ub5, uh5, rfl, hg5, hb5⟩
  obtain ⟨xA2, xc2, rfl⟩ := hg5.bl.sl
  obtain ⟨yA2, yc2, rfl⟩ := hg5.hv.sl
  have hb45 := hb5.alloc hb5.size (.cells #[.int .i64 g.pub, .int .i64 g.hd.len, .int .i64 g.hd.dg, .int .i64 g.hd.sg, .slice xA2 g.bl.length xc2, .slice yA2 g.hv.length yc2] 34)
  have hL6 := hL4.below hb45
  have hg6 := hg4.below hb45
  have hh6 := FB.made hg5
  have hb6 := hb4.trans (hb45.mono hb4.size)
  have k0 := (hg4.below hb5).c0; have k1 := (hg4.below hb5).c1; have k2 := (hg4.below hb5).c2; have k3 := (hg4.below hb5).c3; have k4 := (hg4.below hb5).c4; have k5 := (hg4.below hb5).c5
  have lr := (hg4.below hb5).lt
  clear hL4 hg4 hg5 hb5 hb45 hb4
  go_wp2_with fail
  obtain ⟨W6, HW6⟩ : ∃ W6, Hid (w5.alloc (.cells #[.int .i64 g.pub, .int .i64 g.hd.len, .int .i64 g.hd.dg, .int .i64 g.hd.sg, .slice xA2 g.bl.length xc2, .slice yA2 g.hv.length yc2] 34) = W6) := ⟨_, Lib.hid rfl⟩
  obtain ⟨s, HS⟩ : ∃ s, Hid (w5.heap.size = s) := ⟨_, Lib.hid rfl⟩
  rw [HW6.out] at hL6 hg6 hh6 hb6 ⊢
  rw [HS.out] at hh6 ⊢
  clear k0 k1 k2 k3 k4 k5 lr
  refine (sameFeed_same g _ _ _ _ W6 hg6.fo.r hh6.fo.r).mono ?_
  rintro e w7 ⟨rfl, hb7⟩
  have hL7 := hL6.below hb7
  have hg7 := hg6.below hb7
  have hh7 := hh6.below hb7
  have hb07 := hb6.trans (hb7.mono hb6.size)
  have HL7 := Lib.hid hL7
  have HG7 := Lib.hid hg7
  have HH7 := Lib.hid hh7
  clear hL6 hg6 hh6 hb6 hb7
  have k0 := hL7.fb.c0; have k1 := hL7.fb.c1; have k2 := hL7.fb.c2; have k3 := hL7.fb.c3; have k4 := hL7.fb.c4; have k5 := hL7.fb.c5
  have j0 := hg7.c0; have j1 := hg7.c1; have j2 := hg7.c2; have j3 := hg7.c3; have j4 := hg7.c4; have j5 := hg7.c5
  obtain ⟨i0, i1, i2, -⟩ := box3_cells hL7.hd
  have lq := hL7.fb.lt
  have lz := hL7.lz
  have lr := hg7.lt
  by_cases hc0 : cc = 0
  rotate_left
  · have hc0' : (cc != 0) = true := by rw [bne_iff_ne]; exact hc0
    have m0 := hh7.c0; have m1 := hh7.c1; have m2 := hh7.c2; have m3 := hh7.c3; have m4 := hh7.c4; have m5 := hh7.c5
    go_wp2_with fail
    refine (sameFeed_same g _ _ _ _ w7 HG7.out.fo.r HH7.out.fo.r).mono ?_
    rintro e w8 ⟨rfl, hb8⟩
    go_wp2
    go_ret
    exact ⟨rfl, hb07.trans (hb8.mono hb07.size)⟩
  subst hc0
  obtain ⟨hfv, hcd, hg0, -⟩ := fhead_not5 HG.out (by decide)
  have hgg : g = f.grow h := hg0 rfl
  obtain ⟨d1, d2, d3, d4, d5, d6, d7⟩ := done_facts hfv hcd
  rw [← hgg] at d3 d4 d5 d6 d7
  have HBH := Lib.hid d1; have HGV := Lib.hid d3; have HTK := Lib.hid d4
  obtain ⟨n, HN⟩ : ∃ n, Hid (bcount f.hv = n) := ⟨_, Lib.hid rfl⟩
  have HN2 : Hid (bcount g.hv = n) := Lib.hid (by rw [d5, HN.out])
  have heq : ∀ w : World, (binOp .eql 32 (.agg #[.int .i64 g.hd.len, .int .i64 g.hd.dg, .int .i64 g.hd.sg]) (.agg #[.int .i64 h.len, .int .i64 h.dg, .int .i64 h.sg])).run Try.prog w = .ok (.bool true) w := fun w => by rw [run_head_eqls, hgg]; simp [Fd.grow]
  have RT : Hid (RS w7 (.slice xA f.bl.length xc) f.bl) := Lib.hid (by
    have := R1.take hg7.fo.bl.r1 (m := f.bl.length) d6
    rw [d4] at this
    exact this)
  have RF := Lib.hid hL7.fb.fo.bl.r1
  have RH := Lib.hid hL7.fb.fo.hv.r1
  have RGH := Lib.hid hg7.fo.hv.r1
  have HFR := Lib.hid hg7.fo.r
  obtain ⟨gb, cb, hA, hgb1, hgb2⟩ := hg7.fo.bl.form d7
  injection hA with e1 e2 e3
  subst e1 e3
  have hcap : (f.bl.length : Int) ≤ (xc : Int) ∧ (xc : Int) ≤ 9223372036854775807 := by
    obtain ⟨_, _, hA, hc, hc2, _⟩ := hg7.fo.bl.r1
    injection hA with _ e2 e3
    unfold maxLen at hc2
    have := hc.1
    omega
  obtain ⟨hcap1, hcap2⟩ := hcap
  clear d1 d3 d4 d5 d6 d7 hgg hfv hcd hg0 e2 hL7 hg7 hh7
  go_wp2_with fail
  have hup := up_cell w7
  refine wp_region_up (by kernel_rfl) (by kernel_rfl) ?_
  repeat (go_big_quiet_step (first
    | (go_at_call 57; exact up_call (HeadCheck_ib HBH _))
    | (go_at_call 58; exact up_call (sameTexts_same f.bl _ _ _ (RT.out.up _) (RF.out.up _)))
    | (go_at_call_of 52 (Value.slice yA g.hv.length yc); exact up_same (BitsCount_c HN2 _ _ (RGH.out.up _)))
    | (go_at_call 52; exact up_same (BitsCount_c HN _ _ (RH.out.up _)))
    | (go_at_call 51; exact up_call (FeedValid_ib HGV _ _ _ (HFR.out.below (up_below w7 _))))))
  refine wpQuiet_nil ?_
  intro w9 hw9
  have hb9 := of_up hw9
  clear hw9 hup
  go_wp2
  go_ret
  exact ⟨rfl, hb07.trans (hb9.mono hb07.size)⟩
end Go.Proofs.Ytlhiabnablbkpaa
