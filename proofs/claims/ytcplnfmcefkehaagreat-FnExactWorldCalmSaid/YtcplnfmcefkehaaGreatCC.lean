/- Walk: the head of a peer is given to another one. No condition but the weak invariant. | Words: blocks in transit whose proofs are shared with an older world. No condition. | Walks: the reference's windows: requests are removed. No condition but small sizes. -/
import Derived.Test.YtcplnfmcefkehaaGreatCB
set_option linter.unusedVariables false
set_option linter.unusedSimpArgs false
namespace Go.Proofs.YtcplnfmcefkehaaGreat
open Go.RowKit
attribute [local go_sem ↓] Go.wp_at_zero Go.wp_at_succ

def qmq (B : Nat) (W wx : World) (f : Fd) (c : Int) (s9 s10 : Value) : Prop := ∃ y vb vh, s9 = .pointer (some ⟨y, 0, none⟩) ∧ s10 = .int .i64 c ∧ FB B y wx f vb vh ∧ Below B W wx ∧ B ≤ y
theorem qlz {B : Nat} {W w : World} {f : Fd} {c : Int} {vb vh : Value} {D : Nat} (hf : qaK D w f vb vh) (hD : B ≤ D) (hb : Below B W w) (hB : B ≤ w.heap.size) :
 qmq B W (w.alloc (.cells #[.int .i64 f.pub, .int .i64 f.hd.len, .int .i64 f.hd.dg, .int .i64 f.hd.sg, vb, vh] 59)) f c (.pointer (some ⟨w.heap.size, 0, none⟩)) (.int .i64 c) :=
 ⟨_, vb, vh, rfl, rfl, FB.made (hf.mono hD), hb.alloc hB _, hB⟩
theorem qhj {B y : Nat} {W w : World} {f : Fd} {c : Int} {vb vh x0 x1 x2 x3 x4 x5 : Value} {D : Nat} (hf : qaK D w f vb vh) (hD : y < D) (hb : Below B W w) (hy : w.heap[y]? = some (.cells #[x0, x1, x2, x3, x4, x5] 59 (0, 0))) (hB : B ≤ y) :
 qmq B W ((((((w.setCell ⟨y, 0, none⟩ (.int .i64 f.pub)).setCell ⟨y, 1, none⟩ (.int .i64 f.hd.len)).setCell ⟨y, 2, none⟩ (.int .i64 f.hd.dg)).setCell ⟨y, 3, none⟩ (.int .i64 f.hd.sg)).setCell ⟨y, 4, none⟩ vb).setCell ⟨y, 5, none⟩ vh) f c (.pointer (some ⟨y, 0, none⟩)) (.int .i64 c) :=
 ⟨_, vb, vh, rfl, rfl, ⟨qcU hy _ _ _ _ _ _, (hf.set6 hD _ _ _ _ _ _).mono (by omega)⟩, qae hb hB _ _ _ _ _ _, hB⟩
set_option maxHeartbeats 3200000 in
set_option maxRecDepth 100000 in
theorem qis {K : Nat} (x : Wd) (a b : Int) (vF vL vA vN : Value) (w : World) (hx : WdS w x vF vL vA vN) (hw : WI K x) (hK : K ≤ 1000000) :
 Calls Tryz.prog 144 #[.agg #[.int .i64 x.sec, .int .i64 x.bad, vF, vL, vA, vN], .int .i64 a, .int .i64 b] w (qhd w (qa0 x a b)) := by
 have HSM := hI_ (hw.sml hK)
 have HWI := hI_ hw
 clear hw
 obtain ⟨s, bd, fs, ls, ks, ps⟩ := x
 obtain ⟨fA, fc, rfl⟩ := hx.r.feeds.sl
 obtain ⟨lA, lc, rfl⟩ := hx.r.links.sl
 obtain ⟨aA, ac, rfl⟩ := hx.r.asked.sl
 obtain ⟨nA, nc, rfl⟩ := hx.r.net.sl
 simp only at hx
 obtain ⟨W0, HW0⟩ : ∃ W0, Hid ((w.alloc (.cells #[.int .i64 s, .int .i64 bd, .slice fA fs.length fc, .slice lA ls.length lc, .slice aA ks.length ac, .slice nA ps.length nc] 35)).alloc (.cells #[.int .i64 0, .int .i64 0, .slice none 0 0, .slice none 0 0, .slice none 0 0, .slice none 0 0] 35) = W0) := ⟨_, hI_ rfl⟩
 have HB0 : Hid (Below w.heap.size w W0) := hI_ (by rw [← HW0.out]; exact qab (qab (bR_ _ _) _) _)
 have hs0 : w.heap.size + 2 = W0.heap.size := by rw [← HW0.out]; simp
 have HP0 : Hid (W0.heap[w.heap.size]? = some (.cells #[.int .i64 s, .int .i64 bd, .slice fA fs.length fc, .slice lA ls.length lc, .slice aA ks.length ac, .slice nA ps.length nc] 35 (0, 0))) := hI_ (by rw [← HW0.out]; exact qau (heap_alloc_new _ _))
 have HZ0 : Hid (W0.heap[w.heap.size + 1]? = some (.cells #[.int .i64 0, .int .i64 0, .slice none 0 0, .slice none 0 0, .slice none 0 0, .slice none 0 0] 35 (0, 0))) := hI_ (by rw [← HW0.out]; exact qbu (by simp))
 have HX0 : Hid (WdS W0 ⟨s, bd, fs, ls, ks, ps⟩ (.slice fA fs.length fc) (.slice lA ls.length lc) (.slice aA ks.length ac) (.slice nA ps.length nc)) := hI_ (hx.below HB0.out)
 have HL0 : Hid (RP W0 (.slice lA ls.length lc) ls) := hI_ HX0.out.r.links
 have hl0 : w.heap.size < W0.heap.size := by omega
 have hl1 : w.heap.size + 1 < W0.heap.size := by omega
 clear hx hs0
 have hno : ∀ (x' : Wd) (W : World), x' = ⟨s, bd, fs, ls, ks, ps⟩ → Below W0.heap.size W0 W → qhd w x' (.returned (.agg #[.int .i64 s, .int .i64 bd, .slice fA fs.length fc, .slice lA ls.length lc, .slice aA ks.length ac, .slice nA ps.length nc]))
  ((((((W.setCell ⟨w.heap.size + 1, 0, none⟩ (.int .i64 s)).setCell ⟨w.heap.size + 1, 1, none⟩ (.int .i64 bd)).setCell ⟨w.heap.size + 1, 2, none⟩ (.slice fA fs.length fc)).setCell ⟨w.heap.size + 1, 3, none⟩ (.slice lA ls.length lc)).setCell ⟨w.heap.size + 1, 4, none⟩ (.slice aA ks.length ac)).setCell ⟨w.heap.size + 1, 5, none⟩ (.slice nA ps.length nc)) := by
  rintro x' W rfl hb
  exact ⟨_, _, _, _, rfl, (HX0.out.below hb).set6 ((hb.block _ hl1).trans HZ0.out) _ _ _ _ _ _, qae (HB0.out.trans (hb.mono (Nat.le_of_lt hl0))) (Nat.le_succ _) _ _ _ _ _ _⟩
 have HNO := hI_ hno
 clear hno
 obtain ⟨p0, p1, p2, p3, p4, p5, pf⟩ := qaa HP0.out
 obtain ⟨z0, z1, z2, z3, z4, z5, zf⟩ := qaa HZ0.out
 obtain ⟨v, HV⟩ : ∃ v, Hid (qbk ⟨s, bd, fs, ls, ks, ps⟩ a b = v) := ⟨_, hI_ rfl⟩
 cases v
 · have HR : Hid (qa0 ⟨s, bd, fs, ls, ks, ps⟩ a b = ⟨s, bd, fs, ls, ks, ps⟩) := hI_ (by unfold qa0 qdj; rw [HV.out]; rfl)
   go_enter Tryz.func144, Tryz.ntmps144
   go_wp2_with fail
   rw [HW0.out]
   go_wp2_with (go_at_call 193; refine (qbY ⟨s, bd, fs, ls, ks, ps⟩ _ _ _ _ _ _ _ HL0.out).mono ?_; rintro e w1 ⟨rfl, hb1⟩; rw [HV.out]; have hl1s := hb1.size; obtain ⟨t0, t1, t2, t3, t4, t5, tf⟩ := qaa ((hb1.block _ hl0).trans HP0.out); obtain ⟨y0, y1, y2, y3, y4, y5, yf⟩ := qaa ((hb1.block _ hl1).trans HZ0.out))
   refine bodyPost_ret (v := .agg #[.int .i64 s, .int .i64 bd, .slice fA fs.length fc, .slice lA ls.length lc, .slice aA ks.length ac, .slice nA ps.length nc]) (by simp [results, Tryz.results144, go_sem, y0, y1, y2, y3, y4, y5]) rfl (HNO.out _ _ HR.out hb1)
 obtain ⟨i, j, rfl, rfl, hi, hj⟩ := HWI.out.lk HV.out
 simp only at hi hj
 have hn0 : 0 < fs.length := by omega
 have hi' : (i : Int) < (fs.length : Int) := by omega
 have hj' : (j : Int) < (fs.length : Int) := by omega
 have hi0 : (0 : Int) ≤ (i : Int) := by omega
 have hj0 : (0 : Int) ≤ (j : Int) := by omega
 obtain ⟨b0, o0, xb, xh, hA, hbs, e0, e1, e2, e3, e4, e5, hFi⟩ := HX0.out.r.feeds.at_ hi
 subst hA
 obtain ⟨_, _, yb, yh, hA, _, f0, f1, f2, f3, f4, f5, hFj⟩ := HX0.out.r.feeds.at_ hj
 cases hA
 obtain ⟨ni, hni, hn1, hn2, hn3, hn4⟩ := HWI.out.hd hi
 obtain ⟨nj, hnj, hm1, hm2, hm3, hm4⟩ := HWI.out.hd hj
 have HFD : Hid ((⟨s, bd, fs, ls, ks, ps⟩ : Wd).feed i = fs[i] ∧ (⟨s, bd, fs, ls, ks, ps⟩ : Wd).feed j = fs[j]) := hI_ ⟨HWI.out.fd hi, HWI.out.fd hj⟩
 simp only at hni hnj hn1 hm1
 obtain ⟨⟨dp, ⟨dl, dd, dg⟩, dbl, dhv⟩, HFI⟩ : ∃ f, Hid (fs[i] = f) := ⟨_, hI_ rfl⟩
 obtain ⟨fj, HFJ⟩ : ∃ f, Hid (fs[j] = f) := ⟨_, hI_ rfl⟩
 rw [HFI.out] at e0 e1 e2 e3 hFi hni hn3 hn4 HFD
 rw [HFJ.out] at f0 f1 f2 f3 hFj hnj hm3 hm4 HFD
 simp only at e0 e1 e2 e3 hni hn3 hn4
 subst hni
 have HFJR := hI_ hFj
 have HEC := hI_ (And.intro e1 (And.intro e2 e3))
 have HFC := hI_ (And.intro f0 (And.intro f1 (And.intro f2 (And.intro f3 (And.intro f4 f5)))))
 have HN1 := hI_ hn1
 clear hFi hFj e0 e4 e5 hn1 hnj hm1 hm2 hm3 hm4 hn2 hn3 hn4
 have HWH : Hid (qa0 ⟨s, bd, fs, ls, ks, ps⟩ i j = if decide (fj.hd.len < ni) && (qc9 fj ⟨ni, dd, dg⟩ (qcv ((lvs (fs.getD 0 Fd.none).bl).take ni) fj.hd.len)).2 == 0 then ⟨s, bd, fs.set j (qc9 fj ⟨ni, dd, dg⟩ (qcv ((lvs (fs.getD 0 Fd.none).bl).take ni) fj.hd.len)).1, ls, ks, ps⟩ else ⟨s, bd, fs, ls, ks, ps⟩) := hI_ (by
  unfold qa0 qdj qet
  rw [HV.out, HFD.out.1, HFD.out.2]
  simp only [Bool.true_and, Int.toNat_natCast]
  rfl)
 by_cases hlt : fj.hd.len < (ni : Int)
 rotate_left
 · have HR : Hid (qa0 ⟨s, bd, fs, ls, ks, ps⟩ i j = ⟨s, bd, fs, ls, ks, ps⟩) := hI_ (by rw [HWH.out, decide_eq_false hlt]; rfl)
   have hle : (ni : Int) ≤ fj.hd.len := by omega
   clear hlt
   go_enter Tryz.func144, Tryz.ntmps144
   go_wp2_with fail
   rw [HW0.out]
   go_wp2_with (go_at_call 193; refine (qbY ⟨s, bd, fs, ls, ks, ps⟩ _ _ _ _ _ _ _ HL0.out).mono ?_; rintro e w1 ⟨rfl, hb1⟩; rw [HV.out]; have hl1s := hb1.size; obtain ⟨t0, t1, t2, t3, t4, t5, tf⟩ := qaa ((hb1.block _ hl0).trans HP0.out); obtain ⟨y0, y1, y2, y3, y4, y5, yf⟩ := qaa ((hb1.block _ hl1).trans HZ0.out); have e1 := (hb1.cell (p := ⟨b0, _, none⟩) hbs).trans HEC.out.1; have e2 := (hb1.cell (p := ⟨b0, _, none⟩) hbs).trans HEC.out.2.1; have e3 := (hb1.cell (p := ⟨b0, _, none⟩) hbs).trans HEC.out.2.2)
   obtain ⟨W2, HW2⟩ : ∃ W2, Hid (w1.alloc (.cells #[.int .i64 (ni : Int), .int .i64 dd, .int .i64 dg] 55) = W2) := ⟨_, hI_ rfl⟩
   have hB2 : Below W0.heap.size W0 W2 := by rw [← HW2.out]; exact qab hb1 _
   have hh2 : W2.heap[w1.heap.size]? = some (.cells #[.int .i64 (ni : Int), .int .i64 dd, .int .i64 dg] 55 (0, 0)) := by rw [← HW2.out]; exact heap_alloc_new _ _
   have hs2 : W2.heap.size = w1.heap.size + 1 := by rw [← HW2.out]; simp
   have HHB := hI_ hh2
   have HB2 := hI_ hB2
   have HS2 := hI_ hs2
   clear p0 p1 p2 p3 p4 p5 pf z0 z1 z2 z3 z4 z5 zf t0 t1 t2 t3 t4 t5 tf y0 y1 y2 y3 y4 y5 yf e1 e2 e3
   obtain ⟨k0, k1, k2, kf⟩ := qaS hh2
   have m2 := (qaa ((hB2.block _ hl0).trans HP0.out)).2.2.1
   have m5 := (hB2.cell (p := ⟨b0, _, none⟩) hbs).trans HFC.out.2.1
   have l1 : w.heap.size < W2.heap.size := by omega
   have l2 : w1.heap.size < W2.heap.size := by omega
   have l3 : b0 < W2.heap.size := by omega
   clear hh2 hB2 hs2 hb1 hl1s
   rw [HW2.out]
   have hup := qap W2
   refine qoH ?_
   repeat (go_big_quiet_step (fail))
   refine wpQuiet_nil ?_
   intro w3 hw3
   have hb3 := qay hw3
   clear hw3 hup k0 k1 k2 kf m2 m5 l1 l2 l3
   have hB3 := HB2.out.trans (hb3.mono HB2.out.size)
   obtain ⟨t0, t1, t2, t3, t4, t5, tf⟩ := qaa ((hB3.block _ hl0).trans HP0.out)
   obtain ⟨y0, y1, y2, y3, y4, y5, yf⟩ := qaa ((hB3.block _ hl1).trans HZ0.out)
   go_wp2_with fail
   refine bodyPost_ret (v := .agg #[.int .i64 s, .int .i64 bd, .slice (some ⟨b0, o0, none⟩) fs.length fc, .slice lA ls.length lc, .slice aA ks.length ac, .slice nA ps.length nc]) (by simp [results, Tryz.results144, go_sem, y0, y1, y2, y3, y4, y5]) rfl (HNO.out _ _ HR.out hB3)
 go_enter Tryz.func144, Tryz.ntmps144
 go_wp2_with fail
 rw [HW0.out]
 go_wp2_with (go_at_call 193; refine (qbY ⟨s, bd, fs, ls, ks, ps⟩ _ _ _ _ _ _ _ HL0.out).mono ?_; rintro e w1 ⟨rfl, hb1⟩; rw [HV.out]; have hl1s := hb1.size; obtain ⟨t0, t1, t2, t3, t4, t5, tf⟩ := qaa ((hb1.block _ hl0).trans HP0.out); obtain ⟨y0, y1, y2, y3, y4, y5, yf⟩ := qaa ((hb1.block _ hl1).trans HZ0.out); have e1 := (hb1.cell (p := ⟨b0, _, none⟩) hbs).trans HEC.out.1; have e2 := (hb1.cell (p := ⟨b0, _, none⟩) hbs).trans HEC.out.2.1; have e3 := (hb1.cell (p := ⟨b0, _, none⟩) hbs).trans HEC.out.2.2)
 obtain ⟨W2, HW2⟩ : ∃ W2, Hid (w1.alloc (.cells #[.int .i64 (ni : Int), .int .i64 dd, .int .i64 dg] 55) = W2) := ⟨_, hI_ rfl⟩
 have hB2 : Below W0.heap.size W0 W2 := by rw [← HW2.out]; exact qab hb1 _
 have hh2 : W2.heap[w1.heap.size]? = some (.cells #[.int .i64 (ni : Int), .int .i64 dd, .int .i64 dg] 55 (0, 0)) := by rw [← HW2.out]; exact heap_alloc_new _ _
 have hs2 : W2.heap.size = w1.heap.size + 1 := by rw [← HW2.out]; simp
 have HHB := hI_ hh2
 have HB2 := hI_ hB2
 have HS2 := hI_ hs2
 clear p0 p1 p2 p3 p4 p5 pf z0 z1 z2 z3 z4 z5 zf t0 t1 t2 t3 t4 t5 tf y0 y1 y2 y3 y4 y5 yf e1 e2 e3
 obtain ⟨k0, k1, k2, kf⟩ := qaS hh2
 have m2 := (qaa ((hB2.block _ hl0).trans HP0.out)).2.2.1
 have m5 := (hB2.cell (p := ⟨b0, _, none⟩) hbs).trans HFC.out.2.1
 have l1 : w.heap.size < W2.heap.size := by omega
 have l2 : w1.heap.size < W2.heap.size := by omega
 have l3 : b0 < W2.heap.size := by omega
 clear hh2 hB2 hs2 hb1 hl1s
 rw [HW2.out]
 have hup := qap W2
 refine qoH ?_
 repeat (go_big_quiet_step (fail))
 refine wpQuiet_nil ?_
 intro w3 hw3
 have hb3 := qay hw3
 clear hw3 hup k0 k1 k2 kf m2 m5 l1 l2 l3
 have hB3 := HB2.out.trans (hb3.mono HB2.out.size)
 have lp3 : w.heap.size < w3.heap.size := nL_ hl0 hB3.size
 have lb3 : b0 < w3.heap.size := nL_ hbs hB3.size
 have hh3 := (hb3.block _ (Array.getElem?_eq_some_iff.1 HHB.out).1).trans HHB.out
 have ly3 : w1.heap.size < w3.heap.size := (Array.getElem?_eq_some_iff.1 hh3).1
 have HB3 := hI_ hB3
 have HP3 := hI_ (qaa ((hB3.block _ hl0).trans HP0.out))
 have HH3 := hI_ (qaS hh3)
 have HHB3 := hI_ hh3
 have HM3 := hI_ ((hB3.cell (p := ⟨b0, _, none⟩) hbs).trans HFC.out.2.1)
 have HFR3 := hI_ (HX0.out.r.feeds.below hB3)
 have HFJ3 := hI_ (HFJR.out.below' hB3)
 have hle : ¬ (ni : Int) ≤ fj.hd.len := by omega
 have HCL : Hid (∀ W, Below w3.heap.size w3 W → Calls Tryz.prog 95 #[.agg #[.int .i64 s, .int .i64 bd, .slice (some ⟨b0, o0, none⟩) fs.length fc, .slice lA ls.length lc, .slice aA ks.length ac, .slice nA ps.length nc], .int .i64 (ni : Int)] W fun e w' => ∃ v', e = .returned v' ∧ O1 (Value.int .i64) W.heap.size 3 w' v' ((lvs (fs.getD 0 Fd.none).bl).take ni) ∧ Below W.heap.size W w') :=
  hI_ fun W hW => qc3 fs ni s bd _ _ _ _ W (HFR3.out.below hW) hn0 HN1.out HWI.out.len0.2.1 HWI.out.txt
 obtain ⟨t0, t1, t2, t3, t4, t5, tf⟩ := HP3.out
 obtain ⟨x0, x1, x2, xf⟩ := HH3.out
 have m5 := HM3.out
 have h16 : (fs.getD 0 Fd.none).bl.length ≤ 16 := HWI.out.len0.2.1
 have HTX : Hid (∀ t ∈ (fs.getD 0 Fd.none).bl, t.size ≤ 8) := hI_ HWI.out.txt
 have H16 := hI_ h16
 obtain ⟨G, HGG⟩ : ∃ G, Hid (qcv ((lvs (fs.getD 0 Fd.none).bl).take ni) fj.hd.len = G) := ⟨_, hI_ rfl⟩
 obtain ⟨gf, c, HG⟩ : ∃ gf c, Hid (qc9 fj ⟨ni, dd, dg⟩ G = (gf, c)) := ⟨_, _, hI_ rfl⟩
 rw [HGG.out, HG.out] at HWH
 clear hb3 hB3 hh3 h16 hlt
 go_wp2_with fail
 clear t0 t1 t2 t3 t4 t5 tf x0 x1 x2 xf m5
 go_region_held3 (fun w' => w'.cell? ⟨w.heap.size, 0, none⟩ = some (.int .i64 s) ∧ w'.cell? ⟨w.heap.size, 1, none⟩ = some (.int .i64 bd) ∧ w'.cell? ⟨w.heap.size, 2, none⟩ = some (.slice (some ⟨b0, o0, none⟩) fs.length fc) ∧ w'.cell? ⟨w.heap.size, 3, none⟩ = some (.slice lA ls.length lc) ∧ w'.cell? ⟨w.heap.size, 4, none⟩ = some (.slice aA ks.length ac) ∧ w'.cell? ⟨w.heap.size, 5, none⟩ = some (.slice nA ps.length nc) ∧ w'.cell? ⟨w1.heap.size, 0, none⟩ = some (.int .i64 (ni : Int)) ∧ w'.cell? ⟨b0, o0 + j * 6 + 1, none⟩ = some (.int .i64 fj.hd.len))
  (with_reducible refine ⟨Eq.trans (Below.cell (B := w3.heap.size) ?_ lp3) HP3.out.1, Eq.trans (Below.cell (B := w3.heap.size) ?_ lp3) HP3.out.2.1, Eq.trans (Below.cell (B := w3.heap.size) ?_ lp3) HP3.out.2.2.1, Eq.trans (Below.cell (B := w3.heap.size) ?_ lp3) HP3.out.2.2.2.1, Eq.trans (Below.cell (B := w3.heap.size) ?_ lp3) HP3.out.2.2.2.2.1, Eq.trans (Below.cell (B := w3.heap.size) ?_ lp3) HP3.out.2.2.2.2.2.1, Eq.trans (Below.cell (B := w3.heap.size) ?_ ly3) HH3.out.1, Eq.trans (Below.cell (B := w3.heap.size) ?_ lb3) HM3.out⟩ <;> (repeat (first | with_reducible exact bR_ _ _ | with_reducible exact hb04 | with_reducible exact hb05 | with_reducible refine qab ?_ _ | with_reducible refine qac ?_ | with_reducible refine qae ?_ ?_ _ _ _ _ _ _ | omega)); done)
  (first
    | (go_at_call 95; refine (HCL.out _ (by repeat (first | with_reducible exact bR_ _ _ | with_reducible exact hb04 | with_reducible exact hb05 | with_reducible refine qab ?_ _ | with_reducible refine qac ?_ | with_reducible refine qae ?_ ?_ _ _ _ _ _ _ | omega))).mono ?_; rintro e w4 ⟨v4, rfl, ho4, hb4⟩; have hb04 : Below w3.heap.size w3 w4 := qb6 (by repeat (first | with_reducible exact bR_ _ _ | with_reducible exact hb04 | with_reducible exact hb05 | with_reducible refine qab ?_ _ | with_reducible refine qac ?_ | with_reducible refine qae ?_ ?_ _ _ _ _ _ _ | omega)) hb4)
    | (go_at_call 194; refine (qhT _ fj.hd.len _ _ ho4.r1).mono ?_; rintro e w5 ⟨v5, rfl, ho5, hb5⟩; have hb05 : Below w3.heap.size w3 w5 := qb6 hb04 hb5))
 rw [HGG.out] at ho5
 obtain ⟨A5, n5, c5, rfl, hn5⟩ := ho5.sl2
 have hB5 := HB3.out.trans (hb05.mono HB3.out.size)
 have HR5 : Hid (RI w5 (.slice A5 n5 c5) G) := hI_ ho5.r1
 have lp5 : w.heap.size < w5.heap.size := nL_ hl0 hB5.size
 have lb5 : b0 < w5.heap.size := nL_ hbs hB5.size
 have ly5 : w1.heap.size < w5.heap.size := nL_ ly3 hb05.size
 have HB5 := hI_ hB5
 have HP5 := hI_ (qaa ((hB5.block _ hl0).trans HP0.out)).2.2.1
 have HH5 := hI_ (qaS ((hb05.block _ ly3).trans HHB3.out))
 have HFJ5 := hI_ (HFJ3.out.below' hb05)
 have hcell5 := fun (o : Nat) => hB5.cell (p := ⟨b0, o, none⟩) hbs
 have HC5 := hI_ hcell5
 clear ho4 ho5 hb04 hb05 hb4 hb5 hB5 hcell5 lp3 lb3 ly3 hn5
 go_upto_region 7 with fail
 go_cut [9, 10] (fun s9 s10 wx => qmq w5.heap.size w5 wx gf c s9 s10)
 case first =>
  have p2 := HP5.out
  obtain ⟨x0, x1, x2, xf⟩ := HH5.out
  have q0 := (HC5.out (o0 + j * 6)).trans HFC.out.1
  have q1 := (HC5.out (o0 + j * 6 + 1)).trans HFC.out.2.1
  have q2 := (HC5.out (o0 + j * 6 + 2)).trans HFC.out.2.2.1
  have q3 := (HC5.out (o0 + j * 6 + 3)).trans HFC.out.2.2.2.1
  have q4 := (HC5.out (o0 + j * 6 + 4)).trans HFC.out.2.2.2.2.1
  have q5 := (HC5.out (o0 + j * 6 + 5)).trans HFC.out.2.2.2.2.2
  clear xf
  go_region_held3 (fun w' => w'.cell? ⟨w.heap.size, 2, none⟩ = some (.slice (some ⟨b0, o0, none⟩) fs.length fc) ∧ w'.cell? ⟨b0, o0 + j * 6, none⟩ = some (.int .i64 fj.pub) ∧ w'.cell? ⟨b0, o0 + j * 6 + 1, none⟩ = some (.int .i64 fj.hd.len) ∧ w'.cell? ⟨b0, o0 + j * 6 + 2, none⟩ = some (.int .i64 fj.hd.dg) ∧ w'.cell? ⟨b0, o0 + j * 6 + 3, none⟩ = some (.int .i64 fj.hd.sg) ∧ w'.cell? ⟨b0, o0 + j * 6 + 4, none⟩ = some yb ∧ w'.cell? ⟨b0, o0 + j * 6 + 5, none⟩ = some yh ∧ w'.cell? ⟨w1.heap.size, 0, none⟩ = some (.int .i64 (ni : Int)) ∧ w'.cell? ⟨w1.heap.size, 1, none⟩ = some (.int .i64 dd) ∧ w'.cell? ⟨w1.heap.size, 2, none⟩ = some (.int .i64 dg))
   (with_reducible refine ⟨Eq.trans (Below.cell (B := w5.heap.size) ?_ lp5) p2, Eq.trans (Below.cell (B := w5.heap.size) ?_ lb5) q0, Eq.trans (Below.cell (B := w5.heap.size) ?_ lb5) q1, Eq.trans (Below.cell (B := w5.heap.size) ?_ lb5) q2, Eq.trans (Below.cell (B := w5.heap.size) ?_ lb5) q3, Eq.trans (Below.cell (B := w5.heap.size) ?_ lb5) q4, Eq.trans (Below.cell (B := w5.heap.size) ?_ lb5) q5, Eq.trans (Below.cell (B := w5.heap.size) ?_ ly5) x0, Eq.trans (Below.cell (B := w5.heap.size) ?_ ly5) x1, Eq.trans (Below.cell (B := w5.heap.size) ?_ ly5) x2⟩ <;> (repeat (first | with_reducible exact bR_ _ _ | with_reducible exact hb06 | with_reducible refine qab ?_ _ | with_reducible refine qac ?_ | with_reducible refine qae ?_ ?_ _ _ _ _ _ _ | omega)); done)
   ((go_at_call 195; refine (qiV (h := ⟨ni, dd, dg⟩) HG _ _ _ _ (HFJ5.out.below' (by with_reducible repeat (first | exact bR_ _ _ | refine qab ?_ _ | refine qac ?_ ))) (HR5.out.below (by with_reducible repeat (first | exact bR_ _ _ | refine qab ?_ _ | refine qac ?_ )))).mono ?_; rintro e w6 ⟨ub, uh, rfl, ho6, hb6⟩
     obtain ⟨uA, uc, rfl⟩ := ho6.bl.sl
     obtain ⟨hA, hc, rfl⟩ := ho6.hv.sl
     have hb06 : Below w5.heap.size w5 w6 := qb6 (by with_reducible repeat (first | exact bR_ _ _ | refine qab ?_ _ | refine qac ?_)) hb6
     have hs06 := hb06.size
     try (have hz6 := (hb6.block _ (qaB _ _)).trans (heap_alloc_new _ _); obtain ⟨k0, k1, k2, k3, k4, k5, kf⟩ := qaa hz6)))
  all_goals
   go_wp2
   go_meet
  · exact qlz ho6 (by simp) hb06 hs06
  · exact qhj ho6 (by simp) hb06 hz6 (by simp)
 case rest =>
  obtain ⟨y, vb6, vh6, rfl, rfl, hfb, hb6, hy⟩ := hcut
  obtain ⟨Wx, rfl⟩ : ∃ W, W = wc := ⟨_, rfl⟩
  have hBx := HB5.out.trans (hb6.mono HB5.out.size)
  have HFB := hI_ hfb
  have HBX := hI_ hBx
  clear hfb hb6 hBx lp5 lb5 ly5
  obtain ⟨t0, t1, t2, t3, t4, t5, tf⟩ := qaa ((HBX.out.block _ hl0).trans HP0.out)
  obtain ⟨z0, z1, z2, z3, z4, z5, zf⟩ := qaa ((HBX.out.block _ hl1).trans HZ0.out)
  have hlt : fj.hd.len < (ni : Int) := by omega
  by_cases hc : c = 0
  rotate_left
  · have hc1 : (c == 0) = false := by rw [beq_eq_false_iff_ne]; exact hc
    have hc2 : (c != 0) = true := by simp [hc]
    have HR : Hid (qa0 ⟨s, bd, fs, ls, ks, ps⟩ i j = ⟨s, bd, fs, ls, ks, ps⟩) := hI_ (by rw [HWH.out, hc1, Bool.and_false]; rfl)
    clear hc
    go_wp2_with fail
    refine bodyPost_ret (v := .agg #[.int .i64 s, .int .i64 bd, .slice (some ⟨b0, o0, none⟩) fs.length fc, .slice lA ls.length lc, .slice aA ks.length ac, .slice nA ps.length nc]) (by simp [results, Tryz.results144, go_sem, z0, z1, z2, z3, z4, z5]) rfl (HNO.out _ _ HR.out HBX.out)
  subst hc
  have HR : Hid (qa0 ⟨s, bd, fs, ls, ks, ps⟩ i j = ⟨s, bd, fs.set j gf, ls, ks, ps⟩) := hI_ (by rw [HWH.out, decide_eq_true hlt]; rfl)
  clear hlt z0 z1 z2 z3 z4 z5 zf
  go_wp2_with fail
  refine (qcO ⟨s, bd, fs, ls, ks, ps⟩ _ _ _ _ Wx (HX0.out.below HBX.out) HSM.out).mono ?_
  rintro e wk ⟨uF, uL, uA, uN, rfl, hC, hbc⟩
  obtain ⟨gF, cF, rfl, hgF, hgl⟩ := hC.feeds.form hn0
  obtain ⟨uLA, uLc, rfl⟩ := hC.links.sl
  obtain ⟨uAA, uAc, rfl⟩ := hC.asked.sl
  obtain ⟨uNA, uNc, rfl⟩ := hC.net.sl
  simp only at hgF hgl hC
  have HC := hI_ hC
  have HBC := hI_ hbc
  have HFK := hI_ (HFB.out.below hbc)
  clear hC hbc t0 t1 t2 t3 t4 t5 tf
  obtain ⟨W1, HW1⟩ : ∃ W1, Hid (wk.alloc (.cells #[.int .i64 s, .int .i64 bd, .slice (some ⟨gF, 0, none⟩) fs.length cF, .slice uLA ls.length uLc, .slice uAA ks.length uAc, .slice uNA ps.length uNc] 35) = W1) := ⟨_, hI_ rfl⟩
  go_upto_region 11 with fail
  rw [HW1.out]
  have hB1 : Below wk.heap.size wk W1 := by rw [← HW1.out]; exact qab (bR_ _ _) _
  have hk1 : W1.heap[wk.heap.size]? = some (.cells #[.int .i64 s, .int .i64 bd, .slice (some ⟨gF, 0, none⟩) fs.length cF, .slice uLA ls.length uLc, .slice uAA ks.length uAc, .slice uNA ps.length uNc] 35 (0, 0)) := by rw [← HW1.out]; exact heap_alloc_new _ _
  have hC1 := HC.out.keep (qaA.of_below hB1)
  have hfb1 := HFK.out.below hB1
  have hBx1 : Below W0.heap.size W0 W1 := (HBX.out.trans (HBC.out.mono HBX.out.size)).trans (hB1.mono (Nat.le_trans HBX.out.size HBC.out.size))
  have hs1 : W1.heap.size = wk.heap.size + 1 := by rw [← HW1.out]; simp
  obtain ⟨⟨F, hF⟩, hFf, _⟩ := hC1.feeds.cells
  simp only at hF
  have r0 := hF (j * 6) (by omega)
  have r1 := hF (j * 6 + 1) (by omega)
  have r2 := hF (j * 6 + 2) (by omega)
  have r3 := hF (j * 6 + 3) (by omega)
  have r4 := hF (j * 6 + 4) (by omega)
  have r5 := hF (j * 6 + 5) (by omega)
  obtain ⟨vA, vc, rfl⟩ := hfb1.fo.bl.sl
  obtain ⟨uA, uc, rfl⟩ := hfb1.fo.hv.sl
  have c0 := hfb1.c0
  have c1 := hfb1.c1
  have c2 := hfb1.c2
  have c3 := hfb1.c3
  have c4 := hfb1.c4
  have c5 := hfb1.c5
  obtain ⟨v0, v1, v2, v3, v4', v5', vf⟩ := qaa hk1
  obtain ⟨z0, z1, z2, z3, z4, z5, zf⟩ := qaa ((hBx1.block _ hl1).trans HZ0.out)
  have hyl : y < Wx.heap.size := HFB.out.lt
  have hkx := HBC.out.size
  have n1 : gF ≠ wk.heap.size := by omega
  have n3 : wk.heap.size ≠ gF := by omega
  have n2 : gF ≠ y := by omega
  have n4 : y ≠ gF := by omega
  have hX := HBX.out.size
  have n5 : w.heap.size + 1 ≠ gF := by omega
  have n6 : gF ≠ w.heap.size + 1 := by omega
  have n7 : w.heap.size + 1 ≠ wk.heap.size := by omega
  have n8 : wk.heap.size ≠ w.heap.size + 1 := by omega
  have hput := hC1.putF hj (hfb1.fo.stb (by decide) (by decide))
  have hB18 := qeZ (o := j * 6) hBx1 (by omega : W0.heap.size ≤ gF) (.int .i64 gf.pub) (.int .i64 gf.hd.len) (.int .i64 gf.hd.dg) (.int .i64 gf.hd.sg) (.slice vA gf.bl.length vc) (.slice uA gf.hv.length uc)
  obtain ⟨W18, HW18⟩ : ∃ W18, Hid (((((((W1.setCell ⟨gF, j * 6, none⟩ (.int .i64 gf.pub)).setCell ⟨gF, j * 6 + 1, none⟩ (.int .i64 gf.hd.len)).setCell ⟨gF, j * 6 + 2, none⟩ (.int .i64 gf.hd.dg)).setCell ⟨gF, j * 6 + 3, none⟩ (.int .i64 gf.hd.sg)).setCell ⟨gF, j * 6 + 4, none⟩ (.slice vA gf.bl.length vc)).setCell ⟨gF, j * 6 + 5, none⟩ (.slice uA gf.hv.length uc)) = W18) := ⟨_, hI_ rfl⟩
  rw [HW18.out] at hput hB18
  have HPUT := hI_ hput
  have HB18 := hI_ hB18
  clear hput hB18 hC1 hfb1 hk1 hF hB1 hyl hkx hX hs1 hgF hgl
  go_wp2_with fail
  rw [HW18.out]
  have hz18 := (HB18.out.block _ hl1).trans HZ0.out
  obtain ⟨z0, z1, z2, z3, z4, z5, zf⟩ := qaa hz18
  refine bodyPost_ret (v := .agg #[.int .i64 s, .int .i64 bd, .slice (some ⟨gF, 0, none⟩) fs.length cF, .slice uLA ls.length uLc, .slice uAA ks.length uAc, .slice uNA ps.length uNc]) (by simp [results, Tryz.results144, go_sem, z0, z1, z2, z3, z4, z5]) rfl ?_
  rw [HR.out]
  exact ⟨_, _, _, _, rfl, HPUT.out.set6 hz18 _ _ _ _ _ _, qae (HB0.out.trans (HB18.out.mono (Nat.le_of_lt hl0))) (Nat.le_succ _) _ _ _ _ _ _⟩
end Go.Proofs.YtcplnfmcefkehaaGreat
namespace Go.Proofs.YtcplnfmcefkehaaGreat
open Go.RowKit

def qkn (W0 : World) (φ : World → Prop) (w : World) : Prop := ∀ w', qaA LP w w' → qaA LT2 W0 w' → φ w'
theorem qoE : ∀ e ∈ LP, e ∈ LT2 := by decide
section
variable {W0 w w' : World} {φ : World → Prop}
theorem qkn.next (h : qkn W0 φ w) (hk : qaA LP w w') : qkn W0 φ w' := fun w2 h2 h3 => h w2 (hk.trans h2) h3
theorem qkn.fin (h : qkn W0 φ w) (hk : qaA LT2 W0 w) : Stb LT2 φ w := fun w2 h2 => h w2 (h2.mono qoE) (hk.trans h2)
end
def qbg (W0 w : World) (v : Value) (ps : List Pc) : Prop :=
 ∃ F, ON 6 W0.heap.size 72 w v ps.length F ∧ ∀ j (hj : j < ps.length), F (j * 6) = .int .i64 ps[j].fr ∧ F (j * 6 + 1) = .int .i64 ps[j].to_ ∧ F (j * 6 + 2) = .int .i64 ps[j].len ∧ F (j * 6 + 3) = .int .i64 ps[j].idx ∧ F (j * 6 + 4) = .string ps[j].txt ∧ qkn W0 (fun w => RI w (F (j * 6 + 5)) ps[j].prf) w
section
variable {W0 w w' : World} {v : Value} {ps : List Pc}
theorem qbg.next (h : qbg W0 w v ps) (hk : qaA LTP w w') : qbg W0 w' v ps := by
 obtain ⟨F, h1, h2⟩ := h
 exact ⟨F, h1.keepT hk (by decide), fun j hj => ⟨(h2 j hj).1, (h2 j hj).2.1, (h2 j hj).2.2.1, (h2 j hj).2.2.2.1, (h2 j hj).2.2.2.2.1, (h2 j hj).2.2.2.2.2.next (hk.mono LPP)⟩⟩
theorem qbg.below (h : qbg W0 w v ps) (hb : Below w.heap.size w w') : qbg W0 w' v ps := h.next (qaA.of_below hb)
theorem qbg.stb (h : qbg W0 w v ps) (hk : qaA LT2 W0 w) : Stb LT2 (fun w => qbx w v ps) w := by
 obtain ⟨F, h1, h2⟩ := h
 intro w2 hk2
 exact ⟨F, (h1.keepT hk2 (by decide)).rn, fun j hj => ⟨(h2 j hj).1, (h2 j hj).2.1, (h2 j hj).2.2.1, (h2 j hj).2.2.2.1, (h2 j hj).2.2.2.2.1, ((h2 j hj).2.2.2.2.2.fin hk) w2 hk2⟩⟩
theorem qbg.lt (h : qbg W0 w v ps) : ∀ r, v.ownBlock = some r → W0.heap.size ≤ r ∧ r < w.heap.size := by obtain ⟨F, h1, _⟩ := h; exact h1.lt
theorem qbg.sl (h : qbg W0 w v ps) : ∃ A c, v = .slice A ps.length c := by obtain ⟨F, h1, _⟩ := h; exact h1.rn.sl
end
section
variable {o : Oper} {a : Act} {K : Act → World → Prop} {Q : Exit → Act → World → Prop} {W0 w : World} {v : Value}
end
end Go.Proofs.YtcplnfmcefkehaaGreat
namespace Go.Proofs.YtcplnfmcefkehaaGreat
open Go.RowKit
attribute [local go_sem ↓] Go.wp_at_zero Go.wp_at_succ

end Go.Proofs.YtcplnfmcefkehaaGreat
