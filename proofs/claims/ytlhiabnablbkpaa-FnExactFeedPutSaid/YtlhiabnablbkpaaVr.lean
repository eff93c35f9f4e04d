/- Walk: the law FnExactFeedPut. -/
import Derived.Test.YtlhiabnablbkpaaVk
import Derived.Test.YtlhiabnablbkpaaVq
import Derived.Test.YtlhiabnablbkpaaWu
namespace Go.Proofs.Ytlhiabnablbkpaa
open Go.RowKit

theorem FB.mid {B q B1 B2 : Nat} {w w' : World} {f : Fd} {vb vh : Value} (h : FB B q w f vb vh) (hm : Mid B1 B2 w w') (hB : B2 ≤ B) (hq : q < B1 ∨ B2 ≤ q) : FB B q w' f vb vh :=
  ⟨(hm.block q h.lt hq).trans h.box, h.fo.mid hm hB⟩
theorem fput_len {f g : Fd} {i : Int} {t : ByteArray} {l : List Int} {ok : Bool} (h : fput f i t l = (g, ok)) {n : Nat} (h1 : f.bl.length ≤ n) (h2 : f.hv.length ≤ n) : g.bl.length ≤ n ∧ g.hv.length ≤ n := by
  unfold fput at h
  split at h
  · split at h
    · cases h; simp [Fd.put]; exact ⟨h1, h2⟩
    · cases h; exact ⟨h1, h2⟩
  · cases h; simp [Fd.zero]
set_option maxHeartbeats 3200000 in
set_option maxRecDepth 100000 in
theorem FnExactFeedPut_any (f : Fd) (va vh : Value) (i : Int) (t : ByteArray) (pv : Value) (l : List Int) (w : World) (hf : FeedR w f va vh) (hs : ∀ s ∈ f.bl, s.size ≤ maxLen) (ht : t.size ≤ maxLen) (hp : RI w pv l) :
    Calls Try.prog 9 #[.agg #[.int .i64 f.pub, .int .i64 f.hd.len, .int .i64 f.hd.dg, .int .i64 f.hd.sg, va, vh], .int .i64 i, .string t, pv] w fun e w' => e = .returned (.bool true) ∧ Below w.heap.size w w' := by
  have HS := Lib.hid hs
  clear hs
  obtain ⟨W0, HW0⟩ : ∃ W0, Hid (w.alloc (.cells #[.int .i64 f.pub, .int .i64 f.hd.len, .int .i64 f.hd.dg, .int .i64 f.hd.sg, va, vh] 27) = W0) := ⟨_, Lib.hid rfl⟩
  have HB0 : Hid (Below w.heap.size w W0) := Lib.hid (by rw [← HW0.out]; exact (Below.refl _ _).alloc (Nat.le_refl _) _)
  have hs0 : w.heap.size + 1 = W0.heap.size := by rw [← HW0.out]; simp
  have hl0 : w.heap.size < W0.heap.size := by omega
  have hp0 : W0.heap[w.heap.size]? = some (.cells #[.int .i64 f.pub, .int .i64 f.hd.len, .int .i64 f.hd.dg, .int .i64 f.hd.sg, va, vh] 27 (0, 0)) := by rw [← HW0.out]; exact heap_alloc_new w _
  have HP0 := Lib.hid hp0
  have HF0 : Hid (FeedR W0 f va vh) := Lib.hid (hf.below HB0.out)
  have HL0 : Hid (RI W0 pv l) := Lib.hid (hp.below HB0.out)
  have htm : t.size ≤ 9223372036854775807 := by unfold maxLen at ht; omega
  obtain ⟨pA, pc, rfl, q1, q2, _⟩ := hp
  unfold maxLen at q2
  have hlm : l.length ≤ 9223372036854775807 := by have := q1.1; omega
  obtain ⟨fA, fc, rfl, _, _, _⟩ := hf.bl
  obtain ⟨fB, fd, rfl, _, _, _⟩ := hf.hv
  clear q1 q2 hf hs0
  obtain ⟨c0, c1, c2, c3, c4, c5, cf⟩ := box_cells hp0
  clear hp0
  by_cases ht1 : 1048576 < t.size
  · have ht1' : (1048576 : Int) < (t.size : Int) := by omega
    go_enter Try.func9, Try.ntmps9
    go_wp2_with fail
    rw [HW0.out]
    go_ret
    exact ⟨rfl, HB0.out⟩
  have ht1' : ¬ (1048576 : Int) < (t.size : Int) := by omega
  by_cases hl1 : 1048576 < l.length
  · have hl1' : (1048576 : Int) < (l.length : Int) := by omega
    go_enter Try.func9, Try.ntmps9
    go_wp2_with fail
    rw [HW0.out]
    go_ret
    exact ⟨rfl, HB0.out⟩
  have hl1' : ¬ (1048576 : Int) < (l.length : Int) := by omega
  have hlk : l.length ≤ 1048576 := by omega
  go_enter Try.func9, Try.ntmps9
  go_wp2_with fail
  rw [HW0.out]
  refine (szFeed_any f _ _ 1048576 W0 HF0.out HS.out (by omega) (by omega)).mono ?_
  rintro e w1 ⟨r, rfl, hr1, hr2, hb1⟩
  by_cases hr : r < 0
  · go_wp2
    go_ret
    exact ⟨rfl, HB0.out.trans (hb1.mono (Nat.le_of_lt hl0))⟩
  obtain ⟨hn1, hn2⟩ := hr2 (by omega)
  clear hr2
  clear c0 c1 c2 c3 c4 c5 cf
  obtain ⟨c0, c1, c2, c3, c4, c5, cf⟩ := box_cells ((hb1.block _ hl0).trans HP0.out)
  go_wp2_with fail
  refine (toFeed_any f _ _ w1 (HF0.out.below hb1) hn1 hn2).mono ?_
  rintro e w2 ⟨ub2, uh2, rfl, ho2, hb2⟩
  have hb02 := below_bb hb1 hb2
  go_wp2_with fail
  refine (toIntS_any l _ w2 (HL0.out.below hb02) hlk).mono ?_
  rintro e w3 ⟨rfl, ho3, hb3⟩
  have hb03 := below_bb hb02 hb3
  obtain ⟨g, ok, HG⟩ : ∃ g ok, Hid (fput f i t l = (g, ok)) := ⟨_, _, Lib.hid rfl⟩
  obtain ⟨hgn1, hgn2⟩ := fput_len HG.out hn1 hn2
  go_wp2_with fail
  refine (FeedPut_sg HG _ _ _ w3 (ho2.below hb3).r ht ho3.r1).mono ?_
  rintro e w4 ⟨ub4, uh4, rfl, hg4, hb4⟩
  have hb04 := below_bb hb03 hb4
  obtain ⟨wA, wc, rfl⟩ := hg4.bl.sl
  obtain ⟨wB, wd, rfl⟩ := hg4.hv.sl
  have hw5 := FB.made hg4
  have hb05 := hb04.alloc hb04.size (.cells #[.int .i64 g.pub, .int .i64 g.hd.len, .int .i64 g.hd.dg, .int .i64 g.hd.sg, .slice wA g.bl.length wc, .slice wB g.hv.length wd] 34)
  have HCC := Lib.hid ((hb04.block _ hl0).trans HP0.out)
  clear c0 c1 c2 c3 c4 c5 cf
  obtain ⟨c0, c1, c2, c3, c4, c5, cf⟩ := box_cells HCC.out
  have lc4 := Nat.lt_of_lt_of_le hl0 hb04.size
  clear ho2 ho3 hg4 hb1 hb2 hb3 hb4 hb02 hb03
  go_wp2_with fail
  obtain ⟨W4, HW4⟩ : ∃ W4, Hid (w4.alloc (.cells #[.int .i64 g.pub, .int .i64 g.hd.len, .int .i64 g.hd.dg, .int .i64 g.hd.sg, .slice wA g.bl.length wc, .slice wB g.hv.length wd] 34) = W4) := ⟨_, Lib.hid rfl⟩
  obtain ⟨y1, HY1⟩ : ∃ y1, Hid (w4.heap.size = y1) := ⟨_, Lib.hid rfl⟩
  rw [HW4.out, HY1.out] at hw5
  rw [HW4.out] at hb05 ⊢
  rw [HY1.out]
  clear c0 c1 c2 c3 c4 c5 cf
  clear lc4 hb04
  have HW5 := Lib.hid hw5
  clear hw5
  refine (toFeed_any f _ _ W4 (HF0.out.below hb05) hn1 hn2).mono ?_
  rintro e w5 ⟨ub5, uh5, rfl, ho5, hb5⟩
  obtain ⟨xA, xc, rfl⟩ := ho5.bl.sl
  obtain ⟨xB, xd, rfl⟩ := ho5.hv.sl
  have hx6 := FB.made ho5
  have hb45 := hb5.alloc hb5.size (.cells #[.int .i64 f.pub, .int .i64 f.hd.len, .int .i64 f.hd.dg, .int .i64 f.hd.sg, .slice xA f.bl.length xc, .slice xB f.hv.length xd] 34)
  have hlb : ∀ k, (Value.slice xA f.bl.length xc).ownBlock = some k → k < w5.heap.size := fun k hk => (ho5.bl.lt k hk).2
  have hlh : ∀ k, (Value.slice xB f.hv.length xd).ownBlock = some k → k < w5.heap.size := fun k hk => (ho5.hv.lt k hk).2
  have HLB := Lib.hid hlb; have HLH := Lib.hid hlh
  clear hlb hlh ho5 hb5
  go_wp2_with fail
  obtain ⟨W5, HW5b⟩ : ∃ W5, Hid (w5.alloc (.cells #[.int .i64 f.pub, .int .i64 f.hd.len, .int .i64 f.hd.dg, .int .i64 f.hd.sg, .slice xA f.bl.length xc, .slice xB f.hv.length xd] 34) = W5) := ⟨_, Lib.hid rfl⟩
  obtain ⟨y2, HY2⟩ : ∃ y2, Hid (w5.heap.size = y2) := ⟨_, Lib.hid rfl⟩
  rw [HW5b.out, HY2.out] at hx6
  rw [HW5b.out] at hb45 ⊢
  rw [HY2.out] at HLB HLH ⊢
  have hb05' := hb05.trans (hb45.mono hb05.size)
  have hxl : y2 < W5.heap.size := hx6.lt
  refine (toIntS_any l _ W5 (HL0.out.below hb05') hlk).mono ?_
  rintro e w6 ⟨rfl, ho6, hb6⟩
  obtain ⟨z3, HZ3⟩ : ∃ z3, Hid (W5.heap.size = z3) := ⟨_, Lib.hid rfl⟩
  have hyz : y2 < z3 := by rw [← HZ3.out]; exact hxl
  have hW4z : W4.heap.size ≤ z3 := by rw [← HZ3.out]; exact hb45.size
  rw [HZ3.out] at ho6 ⊢
  have hx6b := hx6.below hb6
  have hz36 := (ho6.lt z3 rfl).2
  have hb46 := hb45.trans (hb6.mono hb45.size)
  have hb06 := hb05.trans (hb46.mono hb05.size)
  have HX6 := Lib.hid hx6b
  clear hx6 hb05' hb45
  obtain ⟨x0, x1, x2, x3, x4, x5, xf⟩ := box_cells hx6b.box
  clear hx6b
  go_wp2_with fail
  refine (FeedPut_ig HG _ _ _ w6 HX6.out.fo.r ht ho6.r1).mono ?_
  rintro e w7 ⟨ub7, uh7, rfl, hg7, hb7⟩
  obtain ⟨gA, gc, rfl⟩ := hg7.bl.sl
  obtain ⟨gB, gd, rfl⟩ := hg7.hv.sl
  have hg8 := FB.made hg7
  have hb67 := hb7.alloc hb7.size (.cells #[.int .i64 g.pub, .int .i64 g.hd.len, .int .i64 g.hd.dg, .int .i64 g.hd.sg, .slice gA g.bl.length gc, .slice gB g.hv.length gd] 34)
  have hgb : ∀ k, (Value.slice gA g.bl.length gc).ownBlock = some k → k < w7.heap.size := fun k hk => (hg7.bl.lt k hk).2
  have hgh : ∀ k, (Value.slice gB g.hv.length gd).ownBlock = some k → k < w7.heap.size := fun k hk => (hg7.hv.lt k hk).2
  have HGB := Lib.hid hgb; have HGH := Lib.hid hgh
  clear hgb hgh
  have hw7 := (HW5.out.below hb46).below hb7
  obtain ⟨d0, d1, d2, d3, d4, d5, df⟩ := box_cells hw7.box
  have ld := hw7.lt
  have hb7s := hb7.size
  clear hw7 hg7 hb7
  clear x0 x1 x2 x3 x4 x5 xf
  go_wp2_with fail
  obtain ⟨W7, HW7⟩ : ∃ W7, Hid (w7.alloc (.cells #[.int .i64 g.pub, .int .i64 g.hd.len, .int .i64 g.hd.dg, .int .i64 g.hd.sg, .slice gA g.bl.length gc, .slice gB g.hv.length gd] 34) = W7) := ⟨_, Lib.hid rfl⟩
  obtain ⟨y3, HY3⟩ : ∃ y3, Hid (w7.heap.size = y3) := ⟨_, Lib.hid rfl⟩
  rw [HW7.out, HY3.out] at hg8
  rw [HW7.out] at hb67 ⊢
  have HGW : Hid (w6.heap.size ≤ y3) := Lib.hid (by rw [← HY3.out]; exact hb7s)
  rw [HY3.out] at HGB HGH ⊢
  clear d0 d1 d2 d3 d4 d5 df
  clear ld
  have hb47 := hb46.trans (hb67.mono hb46.size)
  have HX7 := Lib.hid (HX6.out.below hb67)
  have ho7 := ho6.below hb67
  refine (eqFeed_same g _ _ _ _ W7 hg8.fo.r (HW5.out.below hb47).fo.r).mono ?_
  rintro e w8 ⟨rfl, hb8⟩
  have hkk : (ok != ok) = false := by simp
  have hb48 := hb47.trans (hb8.mono hb47.size)
  have hb08 := hb05.trans (hb48.mono hb05.size)
  have HX8 := Lib.hid (HX7.out.below hb8)
  have HG8 := Lib.hid (hg8.below hb8)
  have HO8 := Lib.hid (ho7.below hb8)
  clear hb47 hb67 hb8 hg8 ho7 ho6 hb46 hb06 hb6
  have HC8 := Lib.hid ((hb08.block _ hl0).trans HP0.out)
  have hc8 : w8.drew.heap[w.heap.size]? = _ := HC8.out
  have hx8 : w8.drew.heap[y2]? = _ := HX8.out.box
  obtain ⟨c0, c1, c2, c3, c4, c5, cf⟩ := box_cells hc8
  obtain ⟨x0, x1, x2, x3, x4, x5, xf⟩ := box_cells hx8
  have hbd : Below w8.heap.size w8 w8.drew := below_drew (Below.refl _ _)
  have lp8 : w.heap.size < w8.drew.heap.size := Nat.lt_of_lt_of_le hl0 hb08.size
  have lx8 : y2 < w8.drew.heap.size := HX8.out.lt
  clear hc8 hx8
  go_wp2_with fail
  go_region_held3 (fun w' => w'.cell? ⟨w.heap.size, 0, none⟩ = some (.int .i64 f.pub) ∧ w'.cell? ⟨w.heap.size, 1, none⟩ = some (.int .i64 f.hd.len) ∧ w'.cell? ⟨w.heap.size, 2, none⟩ = some (.int .i64 f.hd.dg) ∧ w'.cell? ⟨w.heap.size, 3, none⟩ = some (.int .i64 f.hd.sg) ∧ w'.cell? ⟨w.heap.size, 4, none⟩ = some (.slice fA f.bl.length fc) ∧ w'.cell? ⟨w.heap.size, 5, none⟩ = some (.slice fB f.hv.length fd) ∧ w'.cell? ⟨y2, 0, none⟩ = some (.int .i64 f.pub) ∧ w'.cell? ⟨y2, 1, none⟩ = some (.int .i64 f.hd.len) ∧ w'.cell? ⟨y2, 2, none⟩ = some (.int .i64 f.hd.dg) ∧ w'.cell? ⟨y2, 3, none⟩ = some (.int .i64 f.hd.sg) ∧ w'.cell? ⟨y2, 4, none⟩ = some (.slice xA f.bl.length xc) ∧ w'.cell? ⟨y2, 5, none⟩ = some (.slice xB f.hv.length xd))
    (first | with_reducible exact ⟨c0, c1, c2, c3, c4, c5, x0, x1, x2, x3, x4, x5⟩ | with_reducible exact ⟨m0, m1, m2, m3, m4, m5, n0, n1, n2, n3, n4, n5⟩ | with_reducible exact ⟨s0, s1, s2, s3, s4, s5, r0, r1, r2, r3, r4, r5⟩)
    (first
      | (go_at_call 25; refine (toFeed_any f _ _ _ (HF0.out.below (hb08.trans (hbd.mono hb08.size))) hn1 hn2).mono ?_; rintro e w9 ⟨ub9, uh9, rfl, ho9, hb9⟩; have hm9 := (hb9.block _ lp8).trans HC8.out; have hn9 := (hb9.block _ lx8).trans HX8.out.box; obtain ⟨m0, m1, m2, m3, m4, m5, mf⟩ := box_cells hm9; obtain ⟨n0, n1, n2, n3, n4, n5, nf⟩ := box_cells hn9; clear hm9 hn9)
      | (go_at_call 28; refine (eqFeed_same f _ _ _ _ _ (((HX8.out.below hbd).below hb9).fo.r) ho9.r).mono ?_; rintro e w10 ⟨rfl, hb10⟩; have hb910 := below_bb hb9 hb10; have hs10 := (hb910.block _ lp8).trans HC8.out; have hr10 := (hb910.block _ lx8).trans HX8.out.box; obtain ⟨s0, s1, s2, s3, s4, s5, sf⟩ := box_cells hs10; obtain ⟨r0, r1, r2, r3, r4, r5, rf⟩ := box_cells hr10; clear hs10 hr10))
  have hb810 : Below w8.heap.size w8 w10 := below_bb hbd hb910
  clear c0 c1 c2 c3 c4 c5 cf
  clear x0 x1 x2 x3 x4 x5 xf
  clear m0 m1 m2 m3 m4 m5 mf
  clear n0 n1 n2 n3 n4 n5 nf
  clear s0 s1 s2 s3 s4 s5 sf
  clear r0 r1 r2 r3 r4 r5 rf
  clear hb9 hb10 ho9 hb910 hbd lp8 lx8
  have hb410 := hb48.trans (hb810.mono hb48.size)
  have hb010 := hb05.trans (hb410.mono hb05.size)
  have HX10 := Lib.hid (HX8.out.below hb810)
  have HG10 := Lib.hid (HG8.out.below hb810)
  have HO10 := Lib.hid (HO8.out.below hb810)
  clear hb810 hb48 hb08
  go_wp2_with fail
  refine (toIntS_any l _ w10 (HL0.out.below hb010) hlk).mono ?_
  rintro e w11 ⟨rfl, ho11, hb11⟩
  go_wp2_with fail
  refine (eqIntS_same l _ _ w11 (HO10.out.below hb11).r1 ho11.r1).mono ?_
  rintro e w12 ⟨rfl, hb12⟩
  have hb1012 := below_bb hb11 hb12
  have hb412 := hb410.trans (hb1012.mono hb410.size)
  have hx12 := HX10.out.below hb1012
  have HG12 := Lib.hid (HG10.out.below hb1012)
  have HO12 := Lib.hid (HO10.out.below hb1012)
  clear ho11 hb11 hb12 hb1012 hb410 hb010
  obtain ⟨x0, x1, x2, x3, x4, x5, xf⟩ := box_cells hx12.box
  have hy2l : y2 ≤ w12.heap.size := Nat.le_of_lt hx12.lt
  have HX12 := Lib.hid hx12
  clear hx12
  go_wp2_with fail
  refine (markFeed_any f _ _ 1 W4.heap.size y2 w12 HX12.out.fo hy2l HLB.out HLH.out hn1 hn2 (by decide)).mono ?_
  rintro e w13 ⟨rfl, -, -, hm13⟩
  have hy26 : y2 ≤ w6.heap.size := by omega
  have hy36 : w6.heap.size ≤ y3 := by have := HGW.out; omega
  have hb413 := hb412.trans (hm13.below (Nat.le_refl _) hb412.size)
  have HG13 := Lib.hid (HG12.out.mid hm13 hy26 (.inr (by omega)))
  have ho13 := HO12.out.mid hm13 (by omega)
  clear x0 x1 x2 x3 x4 x5 xf
  clear hm13 hb412 hy2l
  obtain ⟨K1, HK1⟩ : ∃ K1 : Nat, Hid (1 + f.bl.length + f.hv.length = K1) := ⟨_, Lib.hid rfl⟩
  rw [HK1.out]
  have hK1 : K1 ≤ 3000000 := by have := HK1.out; omega
  go_wp2_with fail
  refine (markIntS_any l _ K1 z3 w13 ho13 (by omega) (by omega)).mono ?_
  rintro e w14 ⟨rfl, -, hg14⟩
  have hm14 : Mid z3 (z3 + 1) w13 w14 := Mid.grown hg14 (fun k hk => by (have : z3 = k := Option.some.inj hk); omega)
  have hb414 := hb413.trans (hm14.below (by omega) hb413.size)
  have HG14 := Lib.hid (HG13.out.mid hm14 (by omega) (.inr (by omega)))
  have hge : ¬ ((K1 + l.length : Nat) : Int) < 0 := by omega
  clear hm14 hg14 ho13 hb413
  have hw14 := HW5.out.below hb414
  obtain ⟨e0, e1, e2, e3, e4, e5, ef⟩ := box_cells HG14.out.box
  obtain ⟨d0, d1, d2, d3, d4, d5, df⟩ := box_cells hw14.box
  have HW14 := Lib.hid hw14
  clear hw14
  go_wp2_with fail
  refine (eqFeed_same g _ _ _ _ w14 HG14.out.fo.r HW14.out.fo.r).mono ?_
  rintro e w15 ⟨rfl, hb15⟩
  have hb415 := hb414.trans (hb15.mono hb414.size)
  have HG15 := Lib.hid (HG14.out.below hb15)
  clear e0 e1 e2 e3 e4 e5 ef
  clear d0 d1 d2 d3 d4 d5 df
  clear hb414 hb15 hge
  obtain ⟨e0, e1, e2, e3, e4, e5, ef⟩ := box_cells HG15.out.box
  have hy3l : y3 ≤ w15.heap.size := Nat.le_of_lt HG15.out.lt
  go_wp2_with fail
  refine (markFeed_any g _ _ 1 w6.heap.size y3 w15 HG15.out.fo hy3l HGB.out HGH.out hgn1 hgn2 (by decide)).mono ?_
  rintro e w16 ⟨rfl, hob, hoh, hm16⟩
  have hb416 := hb415.trans (hm16.below (by omega) hb415.size)
  have HE16 := Lib.hid ((hm16.block y3 HG15.out.lt (.inr (Nat.le_refl _))).trans HG15.out.box)
  have HOB := Lib.hid hob
  have HOH := Lib.hid hoh
  clear e0 e1 e2 e3 e4 e5 ef
  clear hm16 hob hoh hb415
  obtain ⟨e0, e1, e2, e3, e4, e5, ef⟩ := box_cells HE16.out
  have g2 : ¬ ((1 + g.bl.length + g.hv.length : Nat) : Int) < 0 := by omega
  have hqm : (((1 + g.bl.length + g.hv.length : Nat) : Int) != ((1 + g.bl.length + g.hv.length : Nat) : Int)) = false := by simp
  go_wp2_with fail
  refine (heldFeed_any g.pub g.hd.len g.hd.dg g.hd.sg g.bl.length g.hv.length 1 _ _ w16 HOB.out.r1 HOH.out.r1 (by omega) (by omega) (by decide)).mono ?_
  rintro e w17 ⟨rfl, hb17⟩
  have hb417 := hb416.trans (hb17.mono hb416.size)
  have hb017 := hb05.trans (hb417.mono hb05.size)
  have HC17 := Lib.hid ((hb017.block _ hl0).trans HP0.out)
  clear e0 e1 e2 e3 e4 e5 ef
  obtain ⟨c0, c1, c2, c3, c4, c5, cf⟩ := box_cells HC17.out
  clear hb416
  go_wp2_with fail
  refine (toFeed_any f _ _ w17 (HF0.out.below hb017) hn1 hn2).mono ?_
  rintro e w18 ⟨ub18, uh18, rfl, ho18, hb18⟩
  have hb018 := hb017.trans (hb18.mono hb017.size)
  clear c0 c1 c2 c3 c4 c5 cf
  go_wp2_with fail
  refine (toIntS_any l _ w18 (HL0.out.below hb018) hlk).mono ?_
  rintro e w19 ⟨rfl, ho19, hb19⟩
  go_wp2_with fail
  refine (FeedPut_ig HG _ _ _ w19 (ho18.below hb19).r ht ho19.r1).mono ?_
  rintro e w20 ⟨ub20, uh20, rfl, hg20, hb20⟩
  obtain ⟨hA, hc, rfl⟩ := hg20.bl.sl
  obtain ⟨hB, hd, rfl⟩ := hg20.hv.sl
  have hh21 := FB.made hg20
  have hb1720 := below_bb (below_bb hb18 hb19) hb20
  have hb1721 := hb1720.alloc hb1720.size (.cells #[.int .i64 g.pub, .int .i64 g.hd.len, .int .i64 g.hd.dg, .int .i64 g.hd.sg, .slice hA g.bl.length hc, .slice hB g.hv.length hd] 34)
  have hw20 := HW5.out.below (hb417.trans (hb1720.mono hb417.size))
  obtain ⟨d0, d1, d2, d3, d4, d5, df⟩ := box_cells hw20.box
  have ld := hw20.lt
  have hb421 := hb417.trans (hb1721.mono hb417.size)
  clear hw20 hg20 ho18 ho19 hb18 hb19 hb20 hb018 hb1720
  go_wp2_with fail
  refine (eqFeed_same g _ _ _ _ _ hh21.fo.r (HW5.out.below hb421).fo.r).mono ?_
  rintro e w22 ⟨rfl, hb22⟩
  have hb1622 := below_bb (below_bb hb17 hb1721) hb22
  have hb022 := hb05.trans ((hb421.trans (hb22.mono hb421.size)).mono hb05.size)
  have HE22 := Lib.hid ((hb1622.block y3 (by have := (Array.getElem?_eq_some_iff.1 HE16.out).1; exact this)).trans HE16.out)
  clear d0 d1 d2 d3 d4 d5 df
  clear ld hh21
  obtain ⟨e0, e1, e2, e3, e4, e5, ef⟩ := box_cells HE22.out
  go_wp2_with fail
  refine (heldFeed_any g.pub g.hd.len g.hd.dg g.hd.sg g.bl.length g.hv.length 1 _ _ w22 (HOB.out.below hb1622).r1 (HOH.out.below hb1622).r1 (by omega) (by omega) (by decide)).mono ?_
  rintro e w23 ⟨rfl, hb23⟩
  go_wp2
  go_ret
  exact ⟨rfl, HB0.out.trans ((hb022.trans (hb23.mono hb022.size)).mono (Nat.le_of_lt hl0))⟩
end Go.Proofs.Ytlhiabnablbkpaa
