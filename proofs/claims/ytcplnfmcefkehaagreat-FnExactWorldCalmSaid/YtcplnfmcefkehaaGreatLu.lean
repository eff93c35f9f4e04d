/- Walk: the law FnExactWorldCalm. -/
import Derived.Test.YtcplnfmcefkehaaGreatLt
import Derived.Test.YtcplnfmcefkehaaGreatCJ
set_option linter.unusedVariables false
set_option linter.unusedSimpArgs false
namespace Go.Proofs.YtcplnfmcefkehaaGreat
open Go.RowKit

theorem qqQ (x : Wd) : qqP (qcL x) ≤ 1048576 := by
 unfold qcL
 split
 · rename_i h
   exact Nat.le_trans (qrx (qhM (qcq.1 h)).wv) (by decide)
 · decide
set_option maxHeartbeats 6400000 in
set_option maxRecDepth 100000 in
theorem FnExactWorldCalm_any (x : Wd) (vF vL vK vN : Value) (w : World) (hx : WdR w x vF vL vK vN) (ht : qrA x) :
 Calls Tryz.prog 11 #[.agg #[.int .i64 x.sec, .int .i64 x.bad, vF, vL, vK, vN]] w fun e w' => e = .returned (.bool true) ∧ Below w.heap.size w w' := by
 obtain ⟨y, HY⟩ : ∃ y, Hid (qcL x = y) := ⟨_, hI_ rfl⟩
 have HYS : Hid (qqP y ≤ 1048576) := hI_ (by rw [← HY.out]; exact qqQ x)
 have HX0 := hI_ hx
 have HT := hI_ ht
 obtain ⟨q, HQQ⟩ : ∃ q, Hid (w.heap.size = q) := ⟨_, hI_ rfl⟩
 have HSV : Hid (∀ (uF uL uK uN : Value) (W' : World), WdS W' x uF uL uK uN → Calls Tryz.prog 29 #[.agg #[.int .i64 x.sec, .int .i64 x.bad, uF, uL, uK, uN]] W' (qhd W' y)) := hI_ (fun uF uL uK uN W' h => by
  have := qfH x uF uL uK uN W' h HT.out.n
  rwa [HY.out] at this)
 have HIV : Hid (∀ (uF uL uK uN : Value) (W' : World), WdR W' x uF uL uK uN → Calls Tryz.prog 28 #[.agg #[.int .i64 x.sec, .int .i64 x.bad, uF, uL, uK, uN]] W' (qk3 W' y)) := hI_ (fun uF uL uK uN W' h => by
  have := qfG x uF uL uK uN W' h HT.out.n
  rwa [HY.out] at this)
 clear HY hx ht
 obtain ⟨s, b, fs, ls, ks, ps⟩ := x
 simp only at HSV HIV
 obtain ⟨W0, HW0⟩ : ∃ W0, Hid (w.alloc (.cells #[.int .i64 s, .int .i64 b, vF, vL, vK, vN] 27) = W0) := ⟨_, hI_ rfl⟩
 have HB0 : Hid (Below q w W0) := hI_ (by rw [← HW0.out, ← HQQ.out]; exact (bR_ _ _).alloc (nr_ _) _)
 have hp : W0.heap[q]? = some (.cells #[.int .i64 s, .int .i64 b, vF, vL, vK, vN] 27 (0, 0)) := by rw [← HW0.out, ← HQQ.out]; exact heap_alloc_new w _
 have lq := (Array.getElem?_eq_some_iff.1 hp).1
 have HP := hI_ hp
 have HX := hI_ (HX0.out.below (by rw [HQQ.out]; exact HB0.out))
 have HQL := hI_ (Nat.le_of_lt lq)
 have hw : w.heap.size = q := HQQ.out
 clear hp
 go_enter Tryz.func11, Tryz.ntmps11
 go_wp2_with fail
 clear hw
 rw [HW0.out]
 refine (qre _ _ _ _ _ W0 HX.out HT.out).mono ?_
 rintro e w1 ⟨r, rfl, hr, hz, hb1⟩
 by_cases hn : r < 0
 · go_wp2
   go_ret
   rw [HQQ.out]
   exact ⟨rfl, HB0.out.trans (hb1.mono HQL.out)⟩
 have HWS := hI_ (hz (by omega))
 have HZ := hI_ (qqh HWS.out)
 clear hz
 obtain ⟨p0, p1, p2, p3, p4, p5, pf⟩ := qaa ((hb1.block _ lq).trans HP.out)
 go_wp2_with fail
 refine (qpF _ _ _ _ _ w1 (HX.out.below hb1) HZ.out).mono ?_
 rintro e w2 ⟨A1, c1, A2, c2, A3, c3, A4, c4, rfl, ho2, hb2⟩
 have HB2 := hI_ (qa3 hb1 hb2)
 clear p0 p1 p2 p3 p4 p5 pf hb1 hb2
 go_wp2_with fail
 refine (HSV.out _ _ _ _ w2 ho2.p.st).mono ?_
 rintro e w3 ⟨vF3, vL3, vA3, vN3, rfl, hs3, hb3⟩
 obtain ⟨⟨E1, e1, rfl⟩, ⟨E2, e2, rfl⟩, ⟨E3, e3, rfl⟩, ⟨E4, e4, rfl⟩⟩ := hs3.sl
 have hb03 := qa3 HB2.out hb3
 have hp3 := (hb03.block _ lq).trans HP.out
 obtain ⟨m, HM⟩ : ∃ m, Hid (w3.heap.size = m) := ⟨_, hI_ rfl⟩
 obtain ⟨W3, HW3⟩ : ∃ W, Hid (w3.alloc (.cells #[.int .i64 y.sec, .int .i64 y.bad, .slice E1 y.feeds.length e1, .slice E2 y.links.length e2, .slice E3 y.asked.length e3, .slice E4 y.net.length e4] 35) = W) := ⟨_, hI_ rfl⟩
 have HB3 : Hid (Below W0.heap.size W0 W3) := hI_ (by rw [← HW3.out]; exact hb03.alloc hb03.size _)
 have HM3 : Hid (W3.heap[m]? = some (.cells #[.int .i64 y.sec, .int .i64 y.bad, .slice E1 y.feeds.length e1, .slice E2 y.links.length e2, .slice E3 y.asked.length e3, .slice E4 y.net.length e4] 35 (0, 0))) := hI_ (by rw [← HW3.out, ← HM.out]; exact heap_alloc_new _ _)
 have HS3 : Hid (WdR W3 y (.slice E1 y.feeds.length e1) (.slice E2 y.links.length e2) (.slice E3 y.asked.length e3) (.slice E4 y.net.length e4)) := hI_ (by rw [← HW3.out]; exact hs3.r.below (qab (bR_ _ _) _))
 obtain ⟨p0, p1, p2, p3, p4, p5, pf⟩ := qaa (qau (o := .cells #[.int .i64 y.sec, .int .i64 y.bad, .slice E1 y.feeds.length e1, .slice E2 y.links.length e2, .slice E3 y.asked.length e3, .slice E4 y.net.length e4] 35) hp3)
 have hw : w3.heap.size = m := HM.out
 clear hb03 hp3 hs3 hb3 ho2
 go_wp2_with fail
 clear hw p0 p1 p2 p3 p4 p5 pf
 rw [HW3.out]
 have HP3 := hI_ ((HB3.out.block _ lq).trans HP.out)
 have HX3 := hI_ (HX.out.below HB3.out)
 refine (qpF _ _ _ _ _ W3 HX3.out HZ.out).mono ?_
 rintro e w4 ⟨X1, x1, X2, x2, X3, x3, X4, x4, rfl, ho4, hb4⟩
 simp only at ho4 ⊢
 obtain ⟨g, HGG⟩ : ∃ g, Hid (w4.heap.size = g) := ⟨_, hI_ rfl⟩
 obtain ⟨W4, HW4⟩ : ∃ W, Hid (w4.alloc (.cells #[.int .i64 s, .int .i64 b, .slice X1 fs.length x1, .slice X2 ls.length x2, .slice X3 ks.length x3, .slice X4 ps.length x4] 35) = W) := ⟨_, hI_ rfl⟩
 have hbx : Below w4.heap.size w4 W4 := by rw [← HW4.out]; exact (bR_ _ _).alloc (nr_ _) _
 have hg : W4.heap[g]? = some (.cells #[.int .i64 s, .int .i64 b, .slice X1 fs.length x1, .slice X2 ls.length x2, .slice X3 ks.length x3, .slice X4 ps.length x4] 35 (0, 0)) := by rw [← HW4.out, ← HGG.out]; exact heap_alloc_new w4 _
 have HB34 : Hid (Below W3.heap.size W3 W4) := hI_ (hb4.trans (hbx.mono hb4.size))
 have HO := hI_ (ho4.below hbx)
 have lg := (Array.getElem?_eq_some_iff.1 hg).1
 have HG := hI_ hg
 have H34 := hI_ hb4.size
 have HG4 : Hid (g ≤ W4.heap.size) := hI_ (Nat.le_of_lt lg)
 have hw : w4.heap.size = g := HGG.out
 clear hbx hg ho4 hb4
 go_wp2_with fail
 clear hw
 rw [HW4.out]
 refine (HIV.out _ _ _ _ W4 HO.out.r).mono ?_
 rintro e w5 ⟨vF5, vL5, vA5, vN5, rfl, hs5, hb5⟩
 obtain ⟨⟨H1, h1, rfl⟩, ⟨H2, h2, rfl⟩, ⟨H3, h3, rfl⟩, ⟨H4, h4, rfl⟩⟩ := hs5.st.sl
 obtain ⟨n, HN⟩ : ∃ n, Hid (w5.heap.size = n) := ⟨_, hI_ rfl⟩
 obtain ⟨W5, HW5⟩ : ∃ W, Hid (w5.alloc (.cells #[.int .i64 y.sec, .int .i64 y.bad, .slice H1 y.feeds.length h1, .slice H2 y.links.length h2, .slice H3 y.asked.length h3, .slice H4 y.net.length h4] 35) = W) := ⟨_, hI_ rfl⟩
 have HB45 : Hid (Below W4.heap.size W4 W5) := hI_ (by rw [← HW5.out]; exact hb5.alloc hb5.size _)
 have HN5 : Hid (W5.heap[n]? = some (.cells #[.int .i64 y.sec, .int .i64 y.bad, .slice H1 y.feeds.length h1, .slice H2 y.links.length h2, .slice H3 y.asked.length h3, .slice H4 y.net.length h4] 35 (0, 0))) := hI_ (by rw [← HW5.out, ← HN.out]; exact heap_alloc_new _ _)
 have HS5 : Hid (WdP W4.heap.size n W5 y (.slice H1 y.feeds.length h1) (.slice H2 y.links.length h2) (.slice H3 y.asked.length h3) (.slice H4 y.net.length h4)) := hI_ (by rw [← HW5.out, ← HN.out]; exact hs5.below (qab (bR_ _ _) _))
 have HN4 : Hid (W4.heap.size ≤ n) := hI_ (by rw [← HN.out]; exact hb5.size)
 have hm5 := (qau (o := .cells #[.int .i64 y.sec, .int .i64 y.bad, .slice H1 y.feeds.length h1, .slice H2 y.links.length h2, .slice H3 y.asked.length h3, .slice H4 y.net.length h4] 35) ((hb5.block _ (qai ((HB34.out.block _ (qai HM3.out)).trans HM3.out))).trans ((HB34.out.block _ (qai HM3.out)).trans HM3.out)))
 obtain ⟨m0, m1, m2, m3, m4, m5, mf⟩ := qaa hm5
 have hn5 : (w5.alloc (.cells #[.int .i64 y.sec, .int .i64 y.bad, .slice H1 y.feeds.length h1, .slice H2 y.links.length h2, .slice H3 y.asked.length h3, .slice H4 y.net.length h4] 35)).heap[n]? = some (.cells #[.int .i64 y.sec, .int .i64 y.bad, .slice H1 y.feeds.length h1, .slice H2 y.links.length h2, .slice H3 y.asked.length h3, .slice H4 y.net.length h4] 35 (0, 0)) := by rw [← HN.out]; exact heap_alloc_new _ _
 obtain ⟨n0, n1, n2, n3, n4, n5, nf⟩ := qaa hn5
 have hw : w5.heap.size = n := HN.out
 clear hb5 hs5 hm5 hn5
 go_wp2_with fail
 clear hw m0 m1 m2 m3 m4 m5 mf n0 n1 n2 n3 n4 n5 nf
 rw [HW5.out]
 have HB35 : Hid (Below W3.heap.size W3 W5) := hI_ (HB34.out.trans (HB45.out.mono HB34.out.size))
 refine (qpC y _ _ _ _ _ _ _ _ W5 HS5.out.r (HS3.out.below HB35.out)).mono ?_
 rintro e w6 ⟨rfl, hb6⟩
 have HB36 : Hid (Below W3.heap.size W3 w6) := hI_ (HB35.out.trans (hb6.mono HB35.out.size))
 have hg6 := (hb6.block _ (nL_ lg HB45.out.size)).trans ((HB45.out.block _ lg).trans HG.out)
 have hp6 := (HB36.out.block _ (qai HP3.out)).trans HP3.out
 have HO6 := hI_ ((HO.out.below HB45.out).below hb6)
 have HX6 := hI_ (HX3.out.below HB36.out)
 have HS6 := hI_ (HS5.out.below hb6)
 have HN6 := hI_ ((hb6.block _ (qai HN5.out)).trans HN5.out)
 have HG6 := hI_ hg6
 have hsz6 : w6.heap.size ≤ w6.heap.size := nr_ _
 have lq6 := qai hp6
 have lg6 := qai hg6
 obtain ⟨p0, p1, p2, p3, p4, p5, pf⟩ := qaa hp6
 obtain ⟨g0, g1, g2, g3, g4, g5, gf⟩ := qaa hg6
 clear hb6 hg6 hp6
 go_wp2
 go_region_held3 (fun w' => w'.cell? ⟨q, 0, none⟩ = some (.int .i64 s) ∧ w'.cell? ⟨q, 1, none⟩ = some (.int .i64 b) ∧ w'.cell? ⟨q, 2, none⟩ = some (vF) ∧ w'.cell? ⟨q, 3, none⟩ = some (vL) ∧ w'.cell? ⟨q, 4, none⟩ = some (vK) ∧ w'.cell? ⟨q, 5, none⟩ = some (vN) ∧ w'.cell? ⟨g, 0, none⟩ = some (.int .i64 s) ∧ w'.cell? ⟨g, 1, none⟩ = some (.int .i64 b) ∧ w'.cell? ⟨g, 2, none⟩ = some (.slice X1 fs.length x1) ∧ w'.cell? ⟨g, 3, none⟩ = some (.slice X2 ls.length x2) ∧ w'.cell? ⟨g, 4, none⟩ = some (.slice X3 ks.length x3) ∧ w'.cell? ⟨g, 5, none⟩ = some (.slice X4 ps.length x4))
  (exact ⟨(Below.cell (by repeat (first | with_reducible exact bR_ _ _ | with_reducible exact hbm | with_reducible exact hbn | refine qah ?_ | refine qar ?_ (by repeat (first | exact hsz6 | exact hsz7 | exact hsz8 | refine qag ?_ | refine qaw ?_ _)) _)) lq6).trans p0, (Below.cell (by repeat (first | with_reducible exact bR_ _ _ | with_reducible exact hbm | with_reducible exact hbn | refine qah ?_ | refine qar ?_ (by repeat (first | exact hsz6 | exact hsz7 | exact hsz8 | refine qag ?_ | refine qaw ?_ _)) _)) lq6).trans p1, (Below.cell (by repeat (first | with_reducible exact bR_ _ _ | with_reducible exact hbm | with_reducible exact hbn | refine qah ?_ | refine qar ?_ (by repeat (first | exact hsz6 | exact hsz7 | exact hsz8 | refine qag ?_ | refine qaw ?_ _)) _)) lq6).trans p2, (Below.cell (by repeat (first | with_reducible exact bR_ _ _ | with_reducible exact hbm | with_reducible exact hbn | refine qah ?_ | refine qar ?_ (by repeat (first | exact hsz6 | exact hsz7 | exact hsz8 | refine qag ?_ | refine qaw ?_ _)) _)) lq6).trans p3, (Below.cell (by repeat (first | with_reducible exact bR_ _ _ | with_reducible exact hbm | with_reducible exact hbn | refine qah ?_ | refine qar ?_ (by repeat (first | exact hsz6 | exact hsz7 | exact hsz8 | refine qag ?_ | refine qaw ?_ _)) _)) lq6).trans p4, (Below.cell (by repeat (first | with_reducible exact bR_ _ _ | with_reducible exact hbm | with_reducible exact hbn | refine qah ?_ | refine qar ?_ (by repeat (first | exact hsz6 | exact hsz7 | exact hsz8 | refine qag ?_ | refine qaw ?_ _)) _)) lq6).trans p5, (Below.cell (by repeat (first | with_reducible exact bR_ _ _ | with_reducible exact hbm | with_reducible exact hbn | refine qah ?_ | refine qar ?_ (by repeat (first | exact hsz6 | exact hsz7 | exact hsz8 | refine qag ?_ | refine qaw ?_ _)) _)) lg6).trans g0, (Below.cell (by repeat (first | with_reducible exact bR_ _ _ | with_reducible exact hbm | with_reducible exact hbn | refine qah ?_ | refine qar ?_ (by repeat (first | exact hsz6 | exact hsz7 | exact hsz8 | refine qag ?_ | refine qaw ?_ _)) _)) lg6).trans g1, (Below.cell (by repeat (first | with_reducible exact bR_ _ _ | with_reducible exact hbm | with_reducible exact hbn | refine qah ?_ | refine qar ?_ (by repeat (first | exact hsz6 | exact hsz7 | exact hsz8 | refine qag ?_ | refine qaw ?_ _)) _)) lg6).trans g2, (Below.cell (by repeat (first | with_reducible exact bR_ _ _ | with_reducible exact hbm | with_reducible exact hbn | refine qah ?_ | refine qar ?_ (by repeat (first | exact hsz6 | exact hsz7 | exact hsz8 | refine qag ?_ | refine qaw ?_ _)) _)) lg6).trans g3, (Below.cell (by repeat (first | with_reducible exact bR_ _ _ | with_reducible exact hbm | with_reducible exact hbn | refine qah ?_ | refine qar ?_ (by repeat (first | exact hsz6 | exact hsz7 | exact hsz8 | refine qag ?_ | refine qaw ?_ _)) _)) lg6).trans g4, (Below.cell (by repeat (first | with_reducible exact bR_ _ _ | with_reducible exact hbm | with_reducible exact hbn | refine qah ?_ | refine qar ?_ (by repeat (first | exact hsz6 | exact hsz7 | exact hsz8 | refine qag ?_ | refine qaw ?_ _)) _)) lg6).trans g5⟩)
  (first
    | (go_at_call 14; refine (qpF ⟨s, b, fs, ls, ks, ps⟩ vF vL vK vN _ (HX6.out.below (by repeat (first | with_reducible exact bR_ _ _ | with_reducible exact hbm | with_reducible exact hbn | refine qah ?_ | refine qar ?_ (by repeat (first | exact hsz6 | exact hsz7 | exact hsz8 | refine qag ?_ | refine qaw ?_ _)) _))) HZ.out).mono ?_; rintro e w7 ⟨B1, d1, B2, d2, B3, d3, B4, d4, rfl, ho7, hb7⟩
       have hbm : Below w6.heap.size w6 w7 := qcI (by repeat (first | with_reducible exact bR_ _ _ | with_reducible exact hbm | with_reducible exact hbn | refine qah ?_ | refine qar ?_ (by repeat (first | exact hsz6 | exact hsz7 | exact hsz8 | refine qag ?_ | refine qaw ?_ _)) _)) (by repeat (first | exact hsz6 | exact hsz7 | exact hsz8 | refine qag ?_ | refine qaw ?_ _)) hb7
       have hsz7 := hbm.size)
    | (go_at_call 16; refine (qpC ⟨s, b, fs, ls, ks, ps⟩ _ _ _ _ _ _ _ _ _ (HO6.out.r.below (by repeat (first | with_reducible exact bR_ _ _ | with_reducible exact hbm | with_reducible exact hbn | refine qah ?_ | refine qar ?_ (by repeat (first | exact hsz6 | exact hsz7 | exact hsz8 | refine qag ?_ | refine qaw ?_ _)) _))) ho7.r).mono ?_; rintro e w8 ⟨rfl, hb8⟩
       have hbn : Below w6.heap.size w6 w8 := qcI (by repeat (first | with_reducible exact bR_ _ _ | with_reducible exact hbm | with_reducible exact hbn | refine qah ?_ | refine qar ?_ (by repeat (first | exact hsz6 | exact hsz7 | exact hsz8 | refine qag ?_ | refine qaw ?_ _)) _)) (by repeat (first | exact hsz6 | exact hsz7 | exact hsz8 | refine qag ?_ | refine qaw ?_ _)) hb8
       have hsz8 := hbn.size))
 have HB38 : Hid (Below W3.heap.size W3 w8) := hI_ (HB36.out.trans (hbn.mono HB36.out.size))
 have HO8 := hI_ (HO6.out.below hbn)
 have HS8 := hI_ (HS6.out.below hbn)
 have HN8 := hI_ ((hbn.block _ (qai HN6.out)).trans HN6.out)
 have hg8 := (hbn.block _ lg6).trans HG6.out
 have HSZ8 : Hid (w4.heap.size ≤ w8.heap.size) := hI_ (by rw [HGG.out]; exact Nat.le_of_lt (qai hg8))
 clear hbn hbm hb7 hb8 ho7 p0 p1 p2 p3 p4 p5 pf g0 g1 g2 g3 g4 g5 gf lq6 lg6
 obtain ⟨g0, g1, g2, g3, g4, g5, gf⟩ := qaa hg8
 clear hg8
 go_wp2_with fail
 refine (qqb ⟨s, b, fs, ls, ks, ps⟩ _ _ _ _ 1 W3.heap.size w4.heap.size w8 HO8.out HSZ8.out HWS.out (by omega)).mono ?_
 rintro e w9 ⟨rfl, hm9⟩
 obtain ⟨K, HK⟩ : ∃ K : Int, Hid (((qrg 1 ⟨s, b, fs, ls, ks, ps⟩ : Nat) : Int) = K) := ⟨_, hI_ rfl⟩
 have hK : ¬ K < 0 := by rw [← HK.out]; omega
 rw [HK.out]
 have HS9 := hI_ (HS8.out.mid hm9 (by rw [HGG.out]; exact HG4.out))
 have HB39 : Hid (Below W3.heap.size W3 w9) := hI_ (HB38.out.trans (hm9.below (nr_ _) HB38.out.size))
 have HN9 := hI_ ((hm9.block n (qai HN8.out) (.inr (by rw [HGG.out]; exact Nat.le_trans HG4.out HN4.out))).trans HN8.out)
 obtain ⟨n0, n1, n2, n3, n4, n5, nf⟩ := qaa HN9.out
 obtain ⟨m0, m1, m2, m3, m4, m5, mf⟩ := qaa ((HB39.out.block _ (qai HM3.out)).trans HM3.out)
 clear hm9 g0 g1 g2 g3 g4 g5 gf
 go_wp2_with fail
 clear m0 m1 m2 m3 m4 m5 mf n0 n1 n2 n3 n4 n5 nf
 refine (qpC y _ _ _ _ _ _ _ _ w9 HS9.out.r (HS3.out.below HB39.out)).mono ?_
 rintro e w10 ⟨rfl, hb10⟩
 have HS10 := hI_ (HS9.out.below hb10)
 have HB310 : Hid (Below W3.heap.size W3 w10) := hI_ (HB39.out.trans (hb10.mono HB39.out.size))
 have HN10 := hI_ ((hb10.block _ (qai HN9.out)).trans HN9.out)
 clear hb10
 obtain ⟨n0, n1, n2, n3, n4, n5, nf⟩ := qaa HN10.out
 have hn10 : n ≤ w10.heap.size := Nat.le_of_lt (qai HN10.out)
 have hB10 : W4.heap.size ≤ w10.heap.size := Nat.le_trans HN4.out hn10
 go_wp2_with fail
 clear n0 n1 n2 n3 n4 n5 nf
 refine (qp1 y _ _ _ _ 1 W4.heap.size n w10 HS10.out hB10 hn10 HYS.out (by omega)).mono ?_
 rintro e w11 ⟨rfl, hs11, hm11⟩
 obtain ⟨M, HMM⟩ : ∃ M : Int, Hid (((qrg 1 y : Nat) : Int) = M) := ⟨_, hI_ rfl⟩
 have hM : ¬ M < 0 := by rw [← HMM.out]; omega
 have hMM : (M != M) = false := by simp
 rw [HMM.out]
 have HS11 := hI_ hs11.r
 have HB311 : Hid (Below W3.heap.size W3 w11) := hI_ (HB310.out.trans (hm11.below HB34.out.size HB310.out.size))
 have HN11 := hI_ ((hm11.block n (qai HN10.out) (.inr (nr_ _))).trans HN10.out)
 clear hs11 hm11 hn10 hB10
 obtain ⟨n0, n1, n2, n3, n4, n5, nf⟩ := qaa HN11.out
 go_wp2_with fail
 clear n0 n1 n2 n3 n4 n5 nf
 refine (qpJ y _ _ _ _ _ _ 1 w11 HS11.out HYS.out (by omega)).mono ?_
 rintro e w12 ⟨rfl, hb12⟩
 rw [HMM.out]
 have HB12 := hI_ hb12
 have hp12 := ((HB311.out.trans (hb12.mono HB311.out.size)).block _ (qai HP3.out)).trans HP3.out
 obtain ⟨p0, p1, p2, p3, p4, p5, pf⟩ := qaa hp12
 clear hb12 hp12
 go_wp2_with fail
 clear p0 p1 p2 p3 p4 p5 pf
 refine (qpF ⟨s, b, fs, ls, ks, ps⟩ vF vL vK vN w12 ((HX3.out.below HB311.out).below HB12.out) HZ.out).mono ?_
 rintro e w13 ⟨Y1, y1, Y2, y2, Y3, y3, Y4, y4, rfl, ho13, hb13⟩
 have HB13 := hI_ (qa3 HB12.out hb13)
 clear hb13
 go_wp2_with fail
 refine (HIV.out _ _ _ _ w13 ho13.r).mono ?_
 rintro e w14 ⟨vF14, vL14, vA14, vN14, rfl, hs14, hb14⟩
 obtain ⟨⟨J1, j1, rfl⟩, ⟨J2, j2, rfl⟩, ⟨J3, j3, rfl⟩, ⟨J4, j4, rfl⟩⟩ := hs14.st.sl
 obtain ⟨r, HR⟩ : ∃ n, Hid (w14.heap.size = n) := ⟨_, hI_ rfl⟩
 obtain ⟨W14, HW14⟩ : ∃ W, Hid (w14.alloc (.cells #[.int .i64 y.sec, .int .i64 y.bad, .slice J1 y.feeds.length j1, .slice J2 y.links.length j2, .slice J3 y.asked.length j3, .slice J4 y.net.length j4] 35) = W) := ⟨_, hI_ rfl⟩
 have hb114 := qa3 HB13.out hb14
 have HB14 : Hid (Below w11.heap.size w11 W14) := hI_ (by rw [← HW14.out]; exact hb114.alloc hb114.size _)
 have HS14 : Hid (WdR W14 y (.slice J1 y.feeds.length j1) (.slice J2 y.links.length j2) (.slice J3 y.asked.length j3) (.slice J4 y.net.length j4)) := hI_ (by rw [← HW14.out]; exact hs14.r.below (qab (bR_ _ _) _))
 obtain ⟨m0, m1, m2, m3, m4, m5, mf⟩ := qaa (qau (o := .cells #[.int .i64 y.sec, .int .i64 y.bad, .slice J1 y.feeds.length j1, .slice J2 y.links.length j2, .slice J3 y.asked.length j3, .slice J4 y.net.length j4] 35) (((HB311.out.trans (hb114.mono HB311.out.size)).block _ (qai HM3.out)).trans HM3.out))
 have hr14 : (w14.alloc (.cells #[.int .i64 y.sec, .int .i64 y.bad, .slice J1 y.feeds.length j1, .slice J2 y.links.length j2, .slice J3 y.asked.length j3, .slice J4 y.net.length j4] 35)).heap[r]? = some (.cells #[.int .i64 y.sec, .int .i64 y.bad, .slice J1 y.feeds.length j1, .slice J2 y.links.length j2, .slice J3 y.asked.length j3, .slice J4 y.net.length j4] 35 (0, 0)) := by rw [← HR.out]; exact heap_alloc_new _ _
 obtain ⟨n0, n1, n2, n3, n4, n5, nf⟩ := qaa hr14
 have hw : w14.heap.size = r := HR.out
 clear hb14 hs14 hr14 hb114 ho13
 go_wp2_with fail
 clear hw m0 m1 m2 m3 m4 m5 mf n0 n1 n2 n3 n4 n5 nf
 rw [HW14.out]
 refine (qpC y _ _ _ _ _ _ _ _ W14 HS14.out (HS3.out.below (HB311.out.trans (HB14.out.mono HB311.out.size)))).mono ?_
 rintro e w15 ⟨rfl, hb15⟩
 have HB15 := hI_ (qa3 HB14.out hb15)
 clear hb15
 obtain ⟨n0, n1, n2, n3, n4, n5, nf⟩ := qaa ((HB15.out.block _ (qai HN11.out)).trans HN11.out)
 go_wp2_with fail
 clear n0 n1 n2 n3 n4 n5 nf
 refine (qpJ y _ _ _ _ _ _ 1 w15 (HS11.out.below HB15.out) HYS.out (by omega)).mono ?_
 rintro e w16 ⟨rfl, hb16⟩
 rw [HMM.out]
 have HB16 := hI_ (qa3 HB15.out hb16)
 clear hb16
 go_wp2
 go_ret
 rw [HQQ.out]
 have hfin : Below W3.heap.size W3 w16 := HB311.out.trans (HB16.out.mono HB311.out.size)
 have hfin0 : Below W0.heap.size W0 w16 := HB3.out.trans (hfin.mono HB3.out.size)
 exact ⟨rfl, HB0.out.trans (hfin0.mono HQL.out)⟩
end Go.Proofs.YtcplnfmcefkehaaGreat
