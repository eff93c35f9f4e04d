/- Walk: the law FnHeadFirst. -/
import Derived.Test.YtlhiabnablbkpaaTe
namespace Go.Proofs.Ytlhiabnablbkpaa
open Go.RowKit

theorem FeedNew_ib {p : Int} (hk : Hid (key p = true)) (w : World) : Calls Try.prog 61 #[.int .i64 p] w fun e w' => e = .returned (.tuple #[.agg #[.int .i64 p, .int .i64 0, .int .i64 0, .int .i64 0, .slice none 0 0, .slice none 0 0], .bool true]) ∧ Below w.heap.size w w' := by
  go_enter Try.func61, Try.ntmps61
  go_wp2_with (go_at_call 124; refine (isKey_b hk _).mono ?_; rintro e w' ⟨rfl, rfl⟩)
  exact bodyPost_ret (v := .tuple #[.agg #[.int .i64 p, .int .i64 0, .int .i64 0, .int .i64 0, .slice none 0 0, .slice none 0 0], .bool true]) (by simp [results, Try.results61, go_sem]) rfl
    ⟨rfl, by repeat (first | exact Below.refl _ _ | refine Below.setCell ?_ (Nat.le_refl _) _ | refine Below.alloc ?_ (Nat.le_refl _) _)⟩
theorem first_facts {p : Int} {h : Hd} (hk : key p = true) (hc : hcheck p h = true) (hl : h.len ≠ 0) : ∃ xb xh, fhead ⟨p, ⟨0, 0, 0⟩, [], []⟩ h [] = (⟨p, h, xb, xh⟩, 0) ∧ (xb.length : Int) = h.len := by
  have hv : fvalid ⟨p, ⟨0, 0, 0⟩, [], []⟩ = true := by
    simp [fvalid, hk, Hd.isZero, blocksOk]
  have h0 := hcode_first (f := ⟨p, ⟨0, 0, 0⟩, [], []⟩) (h := h) (l := []) hc hl rfl
  obtain ⟨b1, b2⟩ := hcheck_len hc
  refine ⟨_, _, fhead_done hv h0, ?_⟩
  simp; omega
set_option maxHeartbeats 1600000 in
set_option maxRecDepth 100000 in
theorem FnHeadFirst_any (bs : List UInt8) (v : Value) (w : World) (hv : RU w v bs) : Calls Try.prog 21 #[v] w fun e w' => e = .returned (.bool true) ∧ Below w.heap.size w w' := by
  have HV := Lib.hid hv
  obtain ⟨A, c, rfl, n1, n2, _⟩ := hv
  unfold maxLen at n2
  have hbm : bs.length ≤ 9223372036854775807 := by have := n1.1; omega
  clear n1 n2
  by_cases hl : 1048576 < bs.length
  · have hl' : (1048576 : Int) < (bs.length : Int) := by omega
    go_enter Try.func21, Try.ntmps21
    go_wp2
    go_ret
    exact ⟨rfl, Below.refl _ _⟩
  have hl' : ¬ (1048576 : Int) < (bs.length : Int) := by omega
  go_enter Try.func21, Try.ntmps21
  go_wp2_with fail
  refine (DrawFeedHead_any bs _ w HV.out).mono ?_
  rintro e w1 ⟨f, ub, uh, h, gv, gl, rfl, hf1, -, -, -, hg1, -, hb1⟩
  obtain ⟨uA, uc, rfl⟩ := hf1.bl.sl
  obtain ⟨tA, tc, rfl⟩ := hf1.hv.sl
  obtain ⟨pA, pc, rfl⟩ : ∃ pA pc, gv = .slice pA gl.length pc := by obtain ⟨a, b, h, _⟩ := hg1; exact ⟨a, b, h⟩
  have hL2 := LW.made (h := h) hf1 hg1
  have hb2 := (hb1.alloc hb1.size (.cells #[.int .i64 f.pub, .int .i64 f.hd.len, .int .i64 f.hd.dg, .int .i64 f.hd.sg, .slice uA f.bl.length uc, .slice tA f.hv.length tc] 34)).alloc (Nat.le_trans hb1.size (by simp)) (.cells #[.int .i64 h.len, .int .i64 h.dg, .int .i64 h.sg] 32)
  go_wp2_with fail
  obtain ⟨W2, HW2⟩ : ∃ W2, Hid ((w1.alloc (.cells #[.int .i64 f.pub, .int .i64 f.hd.len, .int .i64 f.hd.dg, .int .i64 f.hd.sg, .slice uA f.bl.length uc, .slice tA f.hv.length tc] 34)).alloc (.cells #[.int .i64 h.len, .int .i64 h.dg, .int .i64 h.sg] 32) = W2) := ⟨_, Lib.hid rfl⟩
  obtain ⟨q, HQ⟩ : ∃ q, Hid (w1.heap.size = q) := ⟨_, Lib.hid rfl⟩
  rw [HW2.out] at hb2 hL2 ⊢
  rw [HQ.out] at hL2 ⊢
  clear hf1 hb1 hg1
  obtain ⟨g, cc, HG⟩ : ∃ g b, Hid (fhead f h gl = (g, b)) := ⟨_, _, Lib.hid rfl⟩
  refine (FeedHead_ig HG _ _ _ W2 hL2.fb.fo.r hL2.gr).mono ?_
  rintro e w3 ⟨ub3, uh3, rfl, hg3, hb3⟩
  obtain ⟨xA, xc, rfl⟩ := hg3.bl.sl
  obtain ⟨yA, yc, rfl⟩ := hg3.hv.sl
  have hL3 := hL2.below hb3
  have hL4 := hL2.below (hb3.alloc hb3.size (.cells #[.int .i64 g.pub, .int .i64 g.hd.len, .int .i64 g.hd.dg, .int .i64 g.hd.sg, .slice xA g.bl.length xc, .slice yA g.hv.length yc] 34))
  have hg4 := FB.made hg3
  have hb4 := hb2.trans ((hb3.alloc hb3.size (.cells #[.int .i64 g.pub, .int .i64 g.hd.len, .int .i64 g.hd.dg, .int .i64 g.hd.sg, .slice xA g.bl.length xc, .slice yA g.hv.length yc] 34)).mono hb2.size)
  have k0 := hL2.fb.c0; have k1 := hL2.fb.c1; have k2 := hL2.fb.c2; have k3 := hL2.fb.c3; have k4 := hL2.fb.c4; have k5 := hL2.fb.c5
  have l0 := hL3.fb.c0; have l1 := hL3.fb.c1; have l2 := hL3.fb.c2; have l3 := hL3.fb.c3; have l4 := hL3.fb.c4; have l5 := hL3.fb.c5
  obtain ⟨i0, i1, i2, -⟩ := box3_cells hL3.hd
  have lq := hL3.fb.lt
  have lz := hL3.lz
  clear hL2 hg3 hb3 hb2 hL3
  go_wp2_with fail
  obtain ⟨W4, HW4⟩ : ∃ W4, Hid (w3.alloc (.cells #[.int .i64 g.pub, .int .i64 g.hd.len, .int .i64 g.hd.dg, .int .i64 g.hd.sg, .slice xA g.bl.length xc, .slice yA g.hv.length yc] 34) = W4) := ⟨_, Lib.hid rfl⟩
  obtain ⟨r, HR⟩ : ∃ r, Hid (w3.heap.size = r) := ⟨_, Lib.hid rfl⟩
  rw [HW4.out] at hL4 hg4 hb4 ⊢
  rw [HR.out] at hg4 ⊢
  clear k0 k1 k2 k3 k4 k5 l0 l1 l2 l3 l4 l5 lq lz i0 i1 i2
  refine (FeedHead_sg HG _ _ _ W4 hL4.fb.fo.r hL4.gr).mono ?_
  rintro e w5 ⟨ub5, uh5, rfl, hg5, hb5⟩
  obtain ⟨xA2, xc2, rfl⟩ := hg5.bl.sl
  obtain ⟨yA2, yc2, rfl⟩ := hg5.hv.sl
  have hb45 := hb5.alloc hb5.size (.cells #[.int .i64 g.pub, .int .i64 g.hd.len, .int .i64 g.hd.dg, .int .i64 g.hd.sg, .slice xA2 g.bl.length xc2, .slice yA2 g.hv.length yc2] 34)
  have hL6 := hL4.below hb45
  have hg6 := hg4.below hb45
  have hh6 := FB.made hg5
  have hb6 := hb4.trans (hb45.mono hb4.size)
  have k0 := (hg4.below hb5).c0; have k1 := (hg4.below hb5).c1; have k2 := (hg4.below hb5).c2; have k3 := (hg4.below hb5).c3; have k4 := (hg4.below hb5).c4; have k5 := (hg4.below hb5).c5
  have lr := (hg4.below hb5).lt
  clear hL4 hg4 hg5 hb5 hb45 hb4
  go_wp2_with fail
  obtain ⟨W6, HW6⟩ : ∃ W6, Hid (w5.alloc (.cells #[.int .i64 g.pub, .int .i64 g.hd.len, .int .i64 g.hd.dg, .int .i64 g.hd.sg, .slice xA2 g.bl.length xc2, .slice yA2 g.hv.length yc2] 34) = W6) := ⟨_, Lib.hid rfl⟩
  obtain ⟨s, HS⟩ : ∃ s, Hid (w5.heap.size = s) := ⟨_, Lib.hid rfl⟩
  rw [HW6.out] at hL6 hg6 hh6 hb6 ⊢
  rw [HS.out] at hh6 ⊢
  clear k0 k1 k2 k3 k4 k5 lr
  refine (sameFeed_same g _ _ _ _ W6 hg6.fo.r hh6.fo.r).mono ?_
  rintro e w7 ⟨rfl, hb7⟩
  have hL7 := hL6.below hb7
  have hg7 := hg6.below hb7
  have hh7 := hh6.below hb7
  have hb07 := hb6.trans (hb7.mono hb6.size)
  have HL7 := Lib.hid hL7
  have HG7 := Lib.hid hg7
  have HH7 := Lib.hid hh7
  clear hL6 hg6 hh6 hb6 hb7
  have k0 := hL7.fb.c0; have k1 := hL7.fb.c1; have k2 := hL7.fb.c2; have k3 := hL7.fb.c3; have k4 := hL7.fb.c4; have k5 := hL7.fb.c5
  have j0 := hg7.c0; have j1 := hg7.c1; have j2 := hg7.c2; have j3 := hg7.c3; have j4 := hg7.c4; have j5 := hg7.c5
  obtain ⟨i0, i1, i2, -⟩ := box3_cells hL7.hd
  have lq := hL7.fb.lt
  have lz := hL7.lz
  have lr := hg7.lt
  by_cases hc5 : cc = 5
  · subst hc5
    have m0 := hh7.c0; have m1 := hh7.c1; have m2 := hh7.c2; have m3 := hh7.c3; have m4 := hh7.c4; have m5 := hh7.c5
    go_wp2_with fail
    refine (sameFeed_same g _ _ _ _ w7 HG7.out.fo.r HH7.out.fo.r).mono ?_
    rintro e w8 ⟨rfl, hb8⟩
    go_wp2
    go_ret
    exact ⟨rfl, hb07.trans (hb8.mono hb07.size)⟩
  have hc5' : (cc == 5) = false := by rw [beq_eq_false_iff_ne]; exact hc5
  obtain ⟨hfv, hcd, hg0, hgn⟩ := fhead_not5 HG.out hc5
  have HFV := Lib.hid hfv; have HCD := Lib.hid hcd; have HG0 := Lib.hid hg0; have HGN := Lib.hid hgn
  clear hc5 hfv hcd hg0 hgn
  obtain ⟨bh, HBH⟩ : ∃ b, Hid (hcheck f.pub h = b) := ⟨_, Lib.hid rfl⟩
  go_wp2_with fail
  refine (HeadCheck_sb HBH _).mono ?_
  rintro e w8 ⟨rfl, hb8⟩
  have hL8 := hL7.below hb8
  clear k0 k1 k2 k3 k4 k5 i0 i1 i2 lq lz lr
  have k0 := hL8.fb.c0; have k1 := hL8.fb.c1; have k2 := hL8.fb.c2; have k3 := hL8.fb.c3; have k4 := hL8.fb.c4; have k5 := hL8.fb.c5
  obtain ⟨i0, i1, i2, -⟩ := box3_cells hL8.hd
  have lq := hL8.fb.lt
  have lz := hL8.lz
  cases bh
  · have hgW := HG7.out.below hb8
    have hhW := HH7.out.below hb8
    clear j0 j1 j2 j3 j4 j5
    have j0 := hgW.c0; have j1 := hgW.c1; have j2 := hgW.c2; have j3 := hgW.c3; have j4 := hgW.c4; have j5 := hgW.c5
    have m0 := hhW.c0; have m1 := hhW.c1; have m2 := hhW.c2; have m3 := hhW.c3; have m4 := hhW.c4; have m5 := hhW.c5
    go_wp2_with fail
    refine (sameFeed_same g _ _ _ _ w8 hgW.fo.r hhW.fo.r).mono ?_
    rintro e w19 ⟨rfl, hb19⟩
    go_wp2
    go_ret
    exact ⟨rfl, hb07.trans ((hb8.trans (hb19.mono hb8.size)).mono hb07.size)⟩
  by_cases hz : h.len = 0
  · have hz' : (h.len == 0) = true := by rw [hz]; rfl
    clear hz
    have hgW := HG7.out.below hb8
    have hhW := HH7.out.below hb8
    clear j0 j1 j2 j3 j4 j5
    have j0 := hgW.c0; have j1 := hgW.c1; have j2 := hgW.c2; have j3 := hgW.c3; have j4 := hgW.c4; have j5 := hgW.c5
    have m0 := hhW.c0; have m1 := hhW.c1; have m2 := hhW.c2; have m3 := hhW.c3; have m4 := hhW.c4; have m5 := hhW.c5
    go_wp2_with fail
    refine (sameFeed_same g _ _ _ _ w8 hgW.fo.r hhW.fo.r).mono ?_
    rintro e w19 ⟨rfl, hb19⟩
    go_wp2
    go_ret
    exact ⟨rfl, hb07.trans ((hb8.trans (hb19.mono hb8.size)).mono hb07.size)⟩
  have hz' : (h.len == 0) = false := by rw [beq_eq_false_iff_ne]; exact hz
  have hkey := fnew_ok HFV.out
  obtain ⟨xb, xh, hgf, hxl⟩ := first_facts hkey HBH.out hz
  have HK := Lib.hid hkey; have HGF := Lib.hid hgf
  have hxl' : ((xb.length : Int) == h.len) = true := beq_iff_eq.2 hxl
  clear hkey hgf hxl hz
  go_wp2_with fail
  refine (FeedNew_ib HK w8).mono ?_
  rintro e w9 ⟨rfl, hb9⟩
  have hb89 := hb9.alloc hb9.size (.cells #[.int .i64 f.pub, .int .i64 0, .int .i64 0, .int .i64 0, .slice none 0 0, .slice none 0 0] 34)
  have hn9 : FB w9.heap.size w9.heap.size (w9.alloc (.cells #[.int .i64 f.pub, .int .i64 0, .int .i64 0, .int .i64 0, .slice none 0 0, .slice none 0 0] 34)) ⟨f.pub, ⟨0, 0, 0⟩, [], []⟩ (.slice none 0 0) (.slice none 0 0) := FB.made (f := ⟨f.pub, ⟨0, 0, 0⟩, [], []⟩) ⟨O1.nil _ _ _ _, O1.nil _ _ _ _⟩
  have hL9 := hL8.below hb9
  clear k0 k1 k2 k3 k4 k5 i0 i1 i2 lq lz
  obtain ⟨i0, i1, i2, -⟩ := box3_cells hL9.hd
  have lz := hL9.lz
  have hLa := (hL8.below hb89).below ((Below.refl _ _).alloc (Nat.le_refl _) (.cells #[] 3))
  have hna := hn9.below ((Below.refl _ _).alloc (Nat.le_refl _) (.cells #[] 3))
  have hem := (O1.made (Value.int .i64) (w9.alloc (.cells #[.int .i64 f.pub, .int .i64 0, .int .i64 0, .int .i64 0, .slice none 0 0, .slice none 0 0] 34)) 3).r1
  have hba := hb89.alloc hb89.size (.cells #[] 3)
  go_wp2_with fail
  obtain ⟨Wa, HWa⟩ : ∃ Wa, Hid ((w9.alloc (.cells #[.int .i64 f.pub, .int .i64 0, .int .i64 0, .int .i64 0, .slice none 0 0, .slice none 0 0] 34)).alloc (.cells #[] 3) = Wa) := ⟨_, Lib.hid rfl⟩
  rw [HWa.out] at hLa hna hem hba ⊢
  have hem' : RI Wa (.slice (some ⟨w9.heap.size + 1, 0, none⟩) 0 0) [] := by simpa using hem
  clear hem
  refine (FeedHead_ig (f := ⟨f.pub, ⟨0, 0, 0⟩, [], []⟩) HGF _ _ _ Wa hna.fo.r hem').mono ?_
  rintro e wb ⟨ubb, uhb, rfl, hgb, hbb⟩
  obtain ⟨rA, rc, rfl⟩ := hgb.bl.sl
  obtain ⟨sA, sc, rfl⟩ := hgb.hv.sl
  have hLb := hLa.below hbb
  clear i0 i1 i2 lz
  obtain ⟨i0, i1, i2, -⟩ := box3_cells hLb.hd
  have lz := hLb.lz
  have heq : (∀ w : World, (binOp .eql 32 (.agg #[.int .i64 h.len, .int .i64 h.dg, .int .i64 h.sg]) (.agg #[.int .i64 h.len, .int .i64 h.dg, .int .i64 h.sg])).run Try.prog w = .ok (.bool true) w) := fun w => by rw [run_head_eqls]; simp
  go_wp2
  go_ret
  exact ⟨rfl, hb07.trans ((hb8.trans ((hba.trans ((hbb.alloc hbb.size _).mono hba.size)).mono hb8.size)).mono hb07.size)⟩
end Go.Proofs.Ytlhiabnablbkpaa
