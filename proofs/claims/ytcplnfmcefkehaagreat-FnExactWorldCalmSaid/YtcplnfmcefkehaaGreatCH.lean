/- Walk: the head of a peer is given to another one, in place. No condition but a valid world. | Walk: a peer gives all that it has to another one, in place. No condition but a valid world. -/
import Derived.Test.YtcplnfmcefkehaaGreatCG
import Derived.Test.YtcplnfmcefkehaaGreatCC
import Derived.Test.YtcplnfmcefkehaaGreatCE
import Derived.Test.YtcplnfmcefkehaaGreatVg
set_option linter.unusedVariables false
set_option linter.unusedSimpArgs false
namespace Go.Proofs.YtcplnfmcefkehaaGreat
open Go.RowKit
attribute [local go_sem ↓] Go.wp_at_zero Go.wp_at_succ

set_option maxHeartbeats 800000 in
theorem qj1 (fs : List Fd) (n q o : Nat) (vF : Value) (w : World) (hq : w.cell? ⟨q, o + 2, none⟩ = some vF) (hF : qa6 w vF fs) (h0 : 0 < fs.length) (hn : n ≤ (fs.getD 0 Fd.none).bl.length) (h16 : (fs.getD 0 Fd.none).bl.length ≤ 16) (hs : ∀ t ∈ (fs.getD 0 Fd.none).bl, t.size ≤ 8) :
 Calls Tryz.prog 115 #[.pointer (some ⟨q, o, none⟩), .int .i64 n] w fun e w' => ∃ v', e = .returned v' ∧ O1 (Value.int .i64) w.heap.size 3 w' v' ((lvs (fs.getD 0 Fd.none).bl).take n) ∧ Below w.heap.size w w' := by
 obtain ⟨A, c, rfl⟩ := hF.sl
 obtain ⟨b0, o', x, y, rfl, hbs, c0, c1, c2, c3, c4, c5, c6⟩ := hF.at0 h0
 have hm := hF.len
 unfold maxLen at hm
 generalize fs.getD 0 Fd.none = f at *
 have h0i : (0 : Int) < (fs.length : Int) := by omega
 have HT := hI_ c6.bl
 have HS := hI_ hs
 clear c6 hs hF
 go_enter Tryz.func115, Tryz.ntmps115
 go_wp2_with fail
 refine (qeb f.pub f.hd x y f.bl w HT.out (by omega) HS.out).mono ?_
 rintro e w1 ⟨v1, rfl, ho, hb1⟩
 obtain ⟨A1, d1, rfl⟩ := ho.sl
 have hll : (lvs f.bl).length = f.bl.length := qcP _
 have hlen : n ≤ (lvs f.bl).length := by omega
 have hcap : (lvs f.bl).length ≤ d1 ∧ d1 ≤ 9223372036854775807 := by
  obtain ⟨_, _, e0, q1, q2, _⟩ := ho.r1
  cases e0
  unfold maxLen at q2
  exact ⟨q1.1, q2⟩
 obtain ⟨hc1, hc2⟩ := hcap
 have hnd : n ≤ d1 := by omega
 have HO := hI_ (ho.takeM hlen)
 have HB := hI_ hb1
 clear ho hb1 hll
 go_wp2
 go_ret
 exact ⟨_, rfl, HO.out, HB.out⟩

def qk8 (B gF cF : Nat) (fs : List Fd) (w : World) (e : Ending) (w' : World) : Prop :=
 e = .returned (.tuple #[]) ∧ qa7 B w'.heap.size w' (.slice (some ⟨gF, 0, none⟩) fs.length cF) fs ∧ w.grownBy w' (some gF)
def qor (w0 wx : World) (a b : Hd) (s6 s7 : Value) : Prop := ∃ y z, s6 = .pointer (some ⟨y, 0, none⟩) ∧ s7 = .pointer (some ⟨z, 0, none⟩) ∧ wx.heap[y]? = some (.cells #[.int .i64 a.len, .int .i64 a.dg, .int .i64 a.sg] 55 (0, 0)) ∧
 wx.heap[z]? = some (.cells #[.int .i64 b.len, .int .i64 b.dg, .int .i64 b.sg] 55 (0, 0)) ∧ Below w0.heap.size w0 wx
theorem qom (w : World) (a b : Hd) : qor w (((w.alloc (.cells #[.int .i64 a.len, .int .i64 a.dg, .int .i64 a.sg] 55)).alloc (.cells #[.int .i64 b.len, .int .i64 b.dg, .int .i64 b.sg] 55)).drew) a b (.pointer (some ⟨w.heap.size, 0, none⟩)) (.pointer (some ⟨w.heap.size + 1, 0, none⟩)) :=
 ⟨_, _, rfl, rfl, qbI (qau (at0 _ _)), qbI (at1 _ _ _), qac (qab (qab (bR_ _ _) _) _)⟩
theorem qon (w : World) (a b : Hd) : qor w (((w.alloc (.cells #[.int .i64 b.len, .int .i64 b.dg, .int .i64 b.sg] 55)).alloc (.cells #[.int .i64 a.len, .int .i64 a.dg, .int .i64 a.sg] 55)).drew) a b (.pointer (some ⟨w.heap.size + 1, 0, none⟩)) (.pointer (some ⟨w.heap.size, 0, none⟩)) :=
 ⟨_, _, rfl, rfl, qbI (at1 _ _ _), qbI (qau (at0 _ _)), qac (qab (qab (bR_ _ _) _) _)⟩
set_option linter.unusedSimpArgs false in
set_option maxHeartbeats 12800000 in
set_option maxRecDepth 100000 in
theorem qkB (x : Wd) (i j q o B C gF cF : Nat) (w : World) (hv : WV x) (hi : i < x.feeds.length) (hj : j < x.feeds.length) (hL : qbk x i j = true)
 (t2 : w.cell? ⟨q, o + 2, none⟩ = some (.slice (some ⟨gF, 0, none⟩) x.feeds.length cF)) (hql : q < w.heap.size) (hqg : q ≠ gF)
 (hF : qa7 B C w (.slice (some ⟨gF, 0, none⟩) x.feeds.length cF) x.feeds) (hC : C ≤ w.heap.size) :
 Calls Tryz.prog 141 #[.pointer (some ⟨q, o, none⟩), .int .i64 (i : Int), .int .i64 (j : Int)] w (qk8 B gF cF (qa0 x i j).feeds w) := by
 have HWI := hI_ hv.wi
 have HF := hI_ hF
 have HC := hI_ hC
 have hn0 : 0 < x.feeds.length := by omega
 have hFr := hF.r
 obtain ⟨_, _, va, ha, hA, hgl, f0, f1, f2, f3, f4, f5, hFi⟩ := hFr.at_ hi
 cases hA
 obtain ⟨_, _, vb, hb', hA, _, g0, g1, g2, g3, g4, g5, hFj⟩ := hFr.at_ hj
 cases hA
 rw [Nat.zero_add] at f0 f1 f2 f3 f4 f5 g0 g1 g2 g3 g4 g5
 have hn6 : x.feeds.length ≤ 6 := hv.wi.n6
 have hi1 : (i : Int) < (x.feeds.length : Int) := by omega
 have hj1 : (j : Int) < (x.feeds.length : Int) := by omega
 have hi0 : (0 : Int) ≤ (i : Int) := by omega
 have hj0 : (0 : Int) ≤ (j : Int) := by omega
 obtain ⟨ni, hni, hn1, hn2, hn3, hn4⟩ := HWI.out.hd hi
 have HFD : Hid (x.feed i = x.feeds[i] ∧ x.feed j = x.feeds[j]) := hI_ ⟨HWI.out.fd hi, HWI.out.fd hj⟩
 obtain ⟨⟨dp, ⟨dl, dd, dg⟩, dbl, dhv⟩, HFI⟩ : ∃ f, Hid (x.feeds[i] = f) := ⟨_, hI_ rfl⟩
 obtain ⟨fj, HFJ⟩ : ∃ f, Hid (x.feeds[j] = f) := ⟨_, hI_ rfl⟩
 rw [HFI.out] at f1 f2 f3 hni HFD
 rw [HFJ.out] at g0 g1 g2 g3 hFj HFD
 simp only at f1 f2 f3 hni
 subst hni
 have HFj := hI_ hFj
 have HN1 := hI_ hn1
 have HWH : Hid (qa0 x i j = if decide (fj.hd.len < ni) && (qc9 fj ⟨ni, dd, dg⟩ (qcv ((lvs (x.feeds.getD 0 Fd.none).bl).take ni) fj.hd.len)).2 == 0 then { x with feeds := x.feeds.set j (qc9 fj ⟨ni, dd, dg⟩ (qcv ((lvs (x.feeds.getD 0 Fd.none).bl).take ni) fj.hd.len)).1 } else x) := hI_ (by
  unfold qa0 qdj qet
  rw [hL, HFD.out.1, HFD.out.2]
  simp only [Bool.true_and, Int.toNat_natCast]
  rfl)
 have HN2 := hI_ hn2
 have hnb : (ni : Int) ≤ 1000 := by omega
 clear hv hF hFr hFi hFj hC hL hn1 hn2 hn3 hn4 f0 f4 f5
 go_enter Tryz.func141, Tryz.ntmps141
 go_upto_region 0 with fail
 go_cut [6, 7] (fun s6 s7 wx => qor w wx ⟨ni, dd, dg⟩ fj.hd s6 s7)
 case first =>
  go_region_held3 (fun w' => w'.cell? ⟨q, o + 2, none⟩ = some (.slice (some ⟨gF, 0, none⟩) x.feeds.length cF) ∧ w'.cell? ⟨gF, i * 6 + 1, none⟩ = some (.int .i64 (ni : Int)) ∧ w'.cell? ⟨gF, i * 6 + 2, none⟩ = some (.int .i64 dd) ∧ w'.cell? ⟨gF, i * 6 + 3, none⟩ = some (.int .i64 dg) ∧ w'.cell? ⟨gF, j * 6 + 1, none⟩ = some (.int .i64 fj.hd.len) ∧ w'.cell? ⟨gF, j * 6 + 2, none⟩ = some (.int .i64 fj.hd.dg) ∧ w'.cell? ⟨gF, j * 6 + 3, none⟩ = some (.int .i64 fj.hd.sg))
   (with_reducible refine ⟨Eq.trans (Below.cell (B := w.heap.size) ?_ hql) t2, Eq.trans (Below.cell (B := w.heap.size) ?_ hgl) f1, Eq.trans (Below.cell (B := w.heap.size) ?_ hgl) f2, Eq.trans (Below.cell (B := w.heap.size) ?_ hgl) f3, Eq.trans (Below.cell (B := w.heap.size) ?_ hgl) g1, Eq.trans (Below.cell (B := w.heap.size) ?_ hgl) g2, Eq.trans (Below.cell (B := w.heap.size) ?_ hgl) g3⟩ <;> (repeat (first | with_reducible exact bR_ _ _ | with_reducible exact hb04 | with_reducible exact hb05 | with_reducible exact hb06 | with_reducible refine qab ?_ _ | with_reducible refine qac ?_ | (with_reducible refine qae ?_ ?_ _ _ _ _ _ _; rotate_left; (first | exact nr_ _ | omega | (simp; done) | (simp; omega))))); done)
   (fail)
  all_goals
   go_wp2
   go_meet
  · exact qom w ⟨ni, dd, dg⟩ fj.hd
  · exact qon w ⟨ni, dd, dg⟩ fj.hd
 case rest =>
  obtain ⟨y, z, rfl, rfl, hy, hz, hb⟩ := hcut
  obtain ⟨W1, rfl⟩ : ∃ W, W = wc := ⟨_, rfl⟩
  have HB := hI_ hb
  have ly := qai hy
  have lz := qai hz
  have lq := nL_ hql hb.size
  have lg := nL_ hgl hb.size
  have u2 := (hb.cell (p := ⟨q, o + 2, none⟩) hql).trans t2
  have r0 := (hb.cell (p := ⟨gF, j * 6, none⟩) hgl).trans g0
  have r1 := (hb.cell (p := ⟨gF, j * 6 + 1, none⟩) hgl).trans g1
  have r2 := (hb.cell (p := ⟨gF, j * 6 + 2, none⟩) hgl).trans g2
  have r3 := (hb.cell (p := ⟨gF, j * 6 + 3, none⟩) hgl).trans g3
  have r4 := (hb.cell (p := ⟨gF, j * 6 + 4, none⟩) hgl).trans g4
  have r5 := (hb.cell (p := ⟨gF, j * 6 + 5, none⟩) hgl).trans g5
  obtain ⟨x0, x1, x2, xf⟩ := qaS hy
  obtain ⟨z0, z1, z2, zf⟩ := qaS hz
  have HFB := hI_ (HF.out.below hb)
  clear t2 f1 f2 f3 g0 g1 g2 g3 g4 g5 hy hz hb xf z1 z2 zf
  by_cases hle : (ni : Int) ≤ fj.hd.len
  · have hlt : decide (fj.hd.len < (ni : Int)) = false := decide_eq_false (by omega)
    have HR : Hid (qa0 x i j = x) := hI_ (by rw [HWH.out, hlt]; rfl)
    clear hlt
    go_wp2_with fail
    refine bodyPost_ret (results_none Tryz.results141 _ _ _) rfl ?_
    rw [HR.out]
    exact ⟨rfl, HFB.out.mono (nr_ _) (Nat.le_trans HC.out HB.out.size), qaP HB.out⟩
  have hlt : fj.hd.len < (ni : Int) := by omega
  obtain ⟨G, HGG⟩ : ∃ G, Hid (qcv ((lvs (x.feeds.getD 0 Fd.none).bl).take ni) fj.hd.len = G) := ⟨_, hI_ rfl⟩
  obtain ⟨gf, c, HG⟩ : ∃ gf c, Hid (qc9 fj ⟨ni, dd, dg⟩ G = (gf, c)) := ⟨_, _, hI_ rfl⟩
  rw [HGG.out, HG.out, decide_eq_true hlt] at HWH
  have HCL : Hid (∀ W, Below W1.heap.size W1 W → Calls Tryz.prog 115 #[.pointer (some ⟨q, o, none⟩), .int .i64 (ni : Int)] W fun e w' => ∃ v', e = .returned v' ∧ O1 (Value.int .i64) W.heap.size 3 w' v' ((lvs (x.feeds.getD 0 Fd.none).bl).take ni) ∧ Below W.heap.size W w') :=
   hI_ fun W hW => qj1 x.feeds ni q o _ W ((hW.cell (p := ⟨q, o + 2, none⟩) lq).trans u2) (HFB.out.r.below hW) hn0 HN1.out HWI.out.len0.2.1 HWI.out.txt
  have HFJ1 := hI_ (HFj.out.below' HB.out)
  clear hlt
  go_upto_region 2 with fail
  go_cut [8, 9] (fun s8 s9 wx => qmq W1.heap.size W1 wx gf c s8 s9)
  case first =>
   go_region_held3 (fun w' => w'.cell? ⟨q, o + 2, none⟩ = some (.slice (some ⟨gF, 0, none⟩) x.feeds.length cF) ∧ w'.cell? ⟨gF, j * 6, none⟩ = some (.int .i64 fj.pub) ∧ w'.cell? ⟨gF, j * 6 + 1, none⟩ = some (.int .i64 fj.hd.len) ∧ w'.cell? ⟨gF, j * 6 + 2, none⟩ = some (.int .i64 fj.hd.dg) ∧ w'.cell? ⟨gF, j * 6 + 3, none⟩ = some (.int .i64 fj.hd.sg) ∧ w'.cell? ⟨gF, j * 6 + 4, none⟩ = some (vb) ∧ w'.cell? ⟨gF, j * 6 + 5, none⟩ = some (hb') ∧ w'.cell? ⟨y, 0, none⟩ = some (.int .i64 (ni : Int)) ∧ w'.cell? ⟨y, 1, none⟩ = some (.int .i64 dd) ∧ w'.cell? ⟨y, 2, none⟩ = some (.int .i64 dg) ∧ w'.cell? ⟨z, 0, none⟩ = some (.int .i64 fj.hd.len))
    (with_reducible refine ⟨Eq.trans (Below.cell (B := W1.heap.size) ?_ lq) u2, Eq.trans (Below.cell (B := W1.heap.size) ?_ lg) r0, Eq.trans (Below.cell (B := W1.heap.size) ?_ lg) r1, Eq.trans (Below.cell (B := W1.heap.size) ?_ lg) r2, Eq.trans (Below.cell (B := W1.heap.size) ?_ lg) r3, Eq.trans (Below.cell (B := W1.heap.size) ?_ lg) r4, Eq.trans (Below.cell (B := W1.heap.size) ?_ lg) r5, Eq.trans (Below.cell (B := W1.heap.size) ?_ ly) x0, Eq.trans (Below.cell (B := W1.heap.size) ?_ ly) x1, Eq.trans (Below.cell (B := W1.heap.size) ?_ ly) x2, Eq.trans (Below.cell (B := W1.heap.size) ?_ lz) z0⟩ <;> (repeat (first | with_reducible exact bR_ _ _ | with_reducible exact hb04 | with_reducible exact hb05 | with_reducible exact hb06 | with_reducible refine qab ?_ _ | with_reducible refine qac ?_ | (with_reducible refine qae ?_ ?_ _ _ _ _ _ _; rotate_left; (first | exact nr_ _ | omega | (simp; done) | (simp; omega))))); done)
    (first
      | (go_at_call 115; refine (HCL.out _ (by repeat (first | with_reducible exact bR_ _ _ | with_reducible exact hb04 | with_reducible exact hb05 | with_reducible exact hb06 | with_reducible refine qab ?_ _ | with_reducible refine qac ?_ | (with_reducible refine qae ?_ ?_ _ _ _ _ _ _; rotate_left; (first | exact nr_ _ | omega | (simp; done) | (simp; omega)))))).mono ?_; rintro e w4 ⟨v4, rfl, ho4, hb4⟩; have hb04 : Below W1.heap.size W1 w4 := qb6 (by repeat (first | with_reducible exact bR_ _ _ | with_reducible exact hb04 | with_reducible exact hb05 | with_reducible exact hb06 | with_reducible refine qab ?_ _ | with_reducible refine qac ?_ | (with_reducible refine qae ?_ ?_ _ _ _ _ _ _; rotate_left; (first | exact nr_ _ | omega | (simp; done) | (simp; omega))))) hb4; have hs04 := hb04.size)
      | (go_at_call 191; refine (qhc HGG _ _ (ho4.r1.below (by with_reducible repeat (first | exact bR_ _ _ | refine qab ?_ _ | refine qac ?_)))).mono ?_; rintro e w5 ⟨v5, rfl, ho5, hb5⟩; have hb05 : Below W1.heap.size W1 w5 := qb6 (by repeat (first | with_reducible exact bR_ _ _ | with_reducible exact hb04 | with_reducible exact hb05 | with_reducible exact hb06 | with_reducible refine qab ?_ _ | with_reducible refine qac ?_ | (with_reducible refine qae ?_ ?_ _ _ _ _ _ _; rotate_left; (first | exact nr_ _ | omega | (simp; done) | (simp; omega))))) hb5; have hs05 := hb05.size)
      | (go_at_call 190; refine (qiU (h := ⟨ni, dd, dg⟩) HG _ _ _ _ (HFJ1.out.below' (by repeat (first | with_reducible exact bR_ _ _ | with_reducible exact hb04 | with_reducible exact hb05 | with_reducible exact hb06 | with_reducible refine qab ?_ _ | with_reducible refine qac ?_ | (with_reducible refine qae ?_ ?_ _ _ _ _ _ _; rotate_left; (first | exact nr_ _ | omega | (simp; done) | (simp; omega)))))) (ho5.r1.below (by with_reducible repeat (first | exact bR_ _ _ | refine qab ?_ _ | refine qac ?_)))).mono ?_; rintro e w6 ⟨ub, uh, rfl, ho6, hb6⟩
         obtain ⟨uA, uc, rfl⟩ := ho6.bl.sl
         obtain ⟨hA, hc, rfl⟩ := ho6.hv.sl
         have hb06 : Below W1.heap.size W1 w6 := qb6 (by repeat (first | with_reducible exact bR_ _ _ | with_reducible exact hb04 | with_reducible exact hb05 | with_reducible exact hb06 | with_reducible refine qab ?_ _ | with_reducible refine qac ?_ | (with_reducible refine qae ?_ ?_ _ _ _ _ _ _; rotate_left; (first | exact nr_ _ | omega | (simp; done) | (simp; omega))))) hb6
         have hs4 := hb4.size
         have hs5 := hb5.size
         have hs6 := hb6.size
         have hs06 := hb06.size
         try (first
          | (have hz6 := (hb6.block _ (qaB w5 _)).trans (heap_alloc_new w5 _); obtain ⟨k0, k1, k2, k3, k4, k5, kf⟩ := qaa hz6)
          | (have hz6 := (hb6.block _ (nL_ (qaB w4 _) hs5)).trans ((hb5.block _ (qaB w4 _)).trans (heap_alloc_new w4 _)); obtain ⟨k0, k1, k2, k3, k4, k5, kf⟩ := qaa hz6)
          | (have hz6 := (hb6.block _ (nL_ (nL_ (qaB W1 _) hs4) hs5)).trans ((hb5.block _ (nL_ (qaB W1 _) hs4)).trans ((hb4.block _ (qaB W1 _)).trans (heap_alloc_new W1 _))); obtain ⟨k0, k1, k2, k3, k4, k5, kf⟩ := qaa hz6))))
   all_goals
    go_wp2
    go_meet
   · exact qlz ho6 (by omega) hb06 hs06
   · exact qhj ho6 (qaB _ _) hb06 hz6 hs05
   · exact qhj ho6 (nL_ (qaB _ _) hs5) hb06 hz6 hs04
   · exact qhj ho6 (nL_ (nL_ (qaB _ _) hs4) hs5) hb06 hz6 (nr_ _)
  case rest =>
   obtain ⟨y8, vb8, vh8, rfl, rfl, hfb, hb8, hy8⟩ := hcut
   obtain ⟨Wx, rfl⟩ : ∃ W, W = wc := ⟨_, rfl⟩
   have HFB8 := hI_ hfb
   have HFX := HFB.out.below hb8
   have HBX := hI_ (HB.out.trans (hb8.mono HB.out.size))
   have hs8 := hb8.size
   have v2 := (hb8.cell (p := ⟨q, o + 2, none⟩) lq).trans u2
   obtain ⟨vA, vc, rfl⟩ := hfb.fo.bl.sl
   obtain ⟨uA, uc, rfl⟩ := hfb.fo.hv.sl
   have c0 := hfb.c0
   have c1 := hfb.c1
   have c2 := hfb.c2
   have c3 := hfb.c3
   have c4 := hfb.c4
   have c5 := hfb.c5
   clear u2 r0 r1 r2 r3 r4 r5 x0 x1 x2 z0
   by_cases hc : c = 0
   rotate_left
   · have hc1 : (c == 0) = false := by rw [beq_eq_false_iff_ne]; exact hc
     have HR : Hid (qa0 x i j = x) := hI_ (by rw [HWH.out, hc1, Bool.and_false]; rfl)
     have HFXH := hI_ HFX
     clear hc hfb hb8 HFX
     go_wp2_with fail
     refine bodyPost_end (results_none Tryz.results141 _ _ _) rfl ?_
     rw [HR.out]
     exact ⟨rfl, HFXH.out.mono (nr_ _) (Nat.le_trans HC.out HBX.out.size), qaP HBX.out⟩
   subst hc
   have HR : Hid ((qa0 x i j).feeds = x.feeds.set j gf) := hI_ (by rw [HWH.out]; rfl)
   obtain ⟨h1, h2⟩ := HFX.put hj hfb.fo (Nat.le_trans HC.out HB.out.size)
   obtain ⟨W18, HW18⟩ : ∃ W18, Hid (((((((Wx.setCell ⟨gF, j * 6, none⟩ (.int .i64 gf.pub)).setCell ⟨gF, j * 6 + 1, none⟩ (.int .i64 gf.hd.len)).setCell ⟨gF, j * 6 + 2, none⟩ (.int .i64 gf.hd.dg)).setCell ⟨gF, j * 6 + 3, none⟩ (.int .i64 gf.hd.sg)).setCell ⟨gF, j * 6 + 4, none⟩ (.slice vA gf.bl.length vc)).setCell ⟨gF, j * 6 + 5, none⟩ (.slice uA gf.hv.length uc)) = W18) := ⟨_, hI_ rfl⟩
   rw [HW18.out] at h1 h2
   have HP1 := hI_ h1
   have HP2 := hI_ h2
   obtain ⟨⟨F, hF⟩, hFf⟩ := HFX.cells
   have s0 := hF (j * 6) (by omega)
   have s1 := hF (j * 6 + 1) (by omega)
   have s2 := hF (j * 6 + 2) (by omega)
   have s3 := hF (j * 6 + 3) (by omega)
   have s4 := hF (j * 6 + 4) (by omega)
   have s5 := hF (j * 6 + 5) (by omega)
   have hly := hfb.lt
   have n1 : gF ≠ y8 := by omega
   have n2 : y8 ≠ gF := by omega
   clear hfb hb8 HFX h1 h2 hF
   have lqx := nL_ lq hs8
   have d2 : Wx.drew.cell? ⟨q, o + 2, none⟩ = _ := v2
   have e0 : Wx.drew.cell? ⟨y8, 0, none⟩ = _ := c0
   have e1 : Wx.drew.cell? ⟨y8, 1, none⟩ = _ := c1
   have e2 : Wx.drew.cell? ⟨y8, 2, none⟩ = _ := c2
   have e3 : Wx.drew.cell? ⟨y8, 3, none⟩ = _ := c3
   have e4 : Wx.drew.cell? ⟨y8, 4, none⟩ = _ := c4
   have e5 : Wx.drew.cell? ⟨y8, 5, none⟩ = _ := c5
   go_wp2_with fail
   refine qci (fun w' => w'.cell? ⟨q, o + 2, none⟩ = some (.slice (some ⟨gF, 0, none⟩) x.feeds.length cF) ∧ w'.cell? ⟨y8, 0, none⟩ = some (.int .i64 gf.pub) ∧ w'.cell? ⟨y8, 1, none⟩ = some (.int .i64 gf.hd.len) ∧ w'.cell? ⟨y8, 2, none⟩ = some (.int .i64 gf.hd.dg) ∧ w'.cell? ⟨y8, 3, none⟩ = some (.int .i64 gf.hd.sg) ∧ w'.cell? ⟨y8, 4, none⟩ = some (.slice vA gf.bl.length vc) ∧ w'.cell? ⟨y8, 5, none⟩ = some (.slice uA gf.hv.length uc)) 7 (by kernel_rfl) ⟨d2, e0, e1, e2, e3, e4, e5⟩ (fun hS hT => ?_)
   refine qaf (i := 0) (v := ?_) hT rfl (by kernel_rfl) (fun _ _ _ h => h) (Or.inl ⟨by rfl, ?_⟩) hS ?_
   rotate_left
   · intro w_ hSw; (try dsimp only at hSw); go_simp; try with_reducible rfl
   clear hT; intro hT
   refine qaf (i := 1) (v := ?_) hT rfl (by kernel_rfl) (fun _ _ _ h => h) (Or.inl ⟨by rfl, ?_⟩) hS ?_
   rotate_left
   · intro w_ hSw; (try dsimp only at hSw); go_simp; try with_reducible rfl
   clear hT; intro hT
   refine qaf (i := 2) (v := ?_) hT rfl (by kernel_rfl) (fun _ _ _ h => h) (Or.inl ⟨by rfl, ?_⟩) hS ?_
   rotate_left
   · intro w_ hSw; (try dsimp only at hSw); go_simp; try with_reducible rfl
   clear hT; intro hT
   refine qaf (i := 3) (v := ?_) hT rfl (by kernel_rfl) (fun _ _ _ h => h) (Or.inl ⟨by rfl, ?_⟩) hS ?_
   rotate_left
   · intro w_ hSw; (try dsimp only at hSw); go_simp; try with_reducible rfl
   clear hT; intro hT
   refine qaf (i := 4) (v := ?_) hT rfl (by kernel_rfl) (fun _ _ _ h => h) (Or.inl ⟨by rfl, ?_⟩) hS ?_
   rotate_left
   · intro w_ hSw; (try dsimp only at hSw); go_simp; try with_reducible rfl
   clear hT; intro hT
   refine qaf (i := 5) (v := ?_) hT rfl (by kernel_rfl) (fun _ _ _ h => h) (Or.inl ⟨by rfl, ?_⟩) hS ?_
   rotate_left
   · intro w_ hSw; (try dsimp only at hSw); go_simp; try with_reducible rfl
   clear hT; intro hT
   refine qaf (i := 6) (v := ?_) hT rfl (by kernel_rfl) (fun _ _ _ h => h) (Or.inl ⟨by rfl, ?_⟩) hS ?_
   rotate_left
   · intro w_ hSw; (try dsimp only at hSw); go_simp; try with_reducible rfl
   clear hT; intro hT
   refine qch rfl (by kernel_rfl) (by kernel_rfl) (fun K7 hK7 => ?_)
   go_simp
   rw [HW18.out]
   refine hK7.out _ _ ?_
   go_wp2_with fail
   refine bodyPost_end (results_none Tryz.results141 _ _ _) rfl ?_
   rw [HR.out]
   refine ⟨rfl, ?_, qat (qat (qaP HBX.out) HP2.out) (qaP (qac (bR_ _ _)))⟩
   rw [List.length_set]
   exact (HP1.out.below (qac (bR_ _ _))).mono (nr_ _) HP2.out.size
def qop (B : Nat) (W wx : World) (f : Fd) (c : Bool) (s9 s10 : Value) : Prop := ∃ y vb vh, s9 = .pointer (some ⟨y, 0, none⟩) ∧ s10 = .bool c ∧ FB B y wx f vb vh ∧ Below B W wx ∧ B ≤ y
theorem qnl {B : Nat} {W w : World} {f : Fd} {c : Bool} {vb vh : Value} {D : Nat} (hf : qaK D w f vb vh) (hD : B ≤ D) (hb : Below B W w) (hB : B ≤ w.heap.size) :
 qop B W (w.alloc (.cells #[.int .i64 f.pub, .int .i64 f.hd.len, .int .i64 f.hd.dg, .int .i64 f.hd.sg, vb, vh] 59)) f c (.pointer (some ⟨w.heap.size, 0, none⟩)) (.bool c) :=
 ⟨_, vb, vh, rfl, rfl, FB.made (hf.mono hD), hb.alloc hB _, hB⟩
theorem qgZ {B y : Nat} {W w : World} {f : Fd} {c : Bool} {vb vh x0 x1 x2 x3 x4 x5 : Value} {D : Nat} (hf : qaK D w f vb vh) (hD : y < D) (hb : Below B W w) (hy : w.heap[y]? = some (.cells #[x0, x1, x2, x3, x4, x5] 59 (0, 0))) (hB : B ≤ y) :
 qop B W ((((((w.setCell ⟨y, 0, none⟩ (.int .i64 f.pub)).setCell ⟨y, 1, none⟩ (.int .i64 f.hd.len)).setCell ⟨y, 2, none⟩ (.int .i64 f.hd.dg)).setCell ⟨y, 3, none⟩ (.int .i64 f.hd.sg)).setCell ⟨y, 4, none⟩ vb).setCell ⟨y, 5, none⟩ vh) f c (.pointer (some ⟨y, 0, none⟩)) (.bool c) :=
 ⟨_, vb, vh, rfl, rfl, ⟨qcU hy _ _ _ _ _ _, (hf.set6 hD _ _ _ _ _ _).mono (by omega)⟩, qae hb hB _ _ _ _ _ _, hB⟩
theorem qkj {f o : Fd} {i : Int} {t : ByteArray} {proof : List Int} {ok : Bool} (h : Hid (qes f i t proof = (o, ok))) (vb vh pv : Value) (w : World) (hf : qaU w f vb vh) (ht : t.size ≤ maxLen) (hp : RI w pv proof) :
 Calls Tryz.prog 142 #[.agg #[.int .i64 f.pub, .int .i64 f.hd.len, .int .i64 f.hd.dg, .int .i64 f.hd.sg, vb, vh], .int .i64 i, .string t, pv] w (qg9 o ok w) := by
 have := qk5 f i t proof vb vh pv w hf ht hp
 rw [h.out] at this
 exact this
theorem qli {g j t : Nat} {w : World} (h : t / 6 ≠ j) (x0 x1 x2 x3 x4 x5 : Value) :
 ((((((w.setCell ⟨g, j * 6, none⟩ x0).setCell ⟨g, j * 6 + 1, none⟩ x1).setCell ⟨g, j * 6 + 2, none⟩ x2).setCell ⟨g, j * 6 + 3, none⟩ x3).setCell ⟨g, j * 6 + 4, none⟩ x4).setCell ⟨g, j * 6 + 5, none⟩ x5).cell? ⟨g, t, none⟩ = w.cell? ⟨g, t, none⟩ := by
 have hne : ∀ m, m < 6 → (⟨g, j * 6 + m, none⟩ : Addr) ≠ ⟨g, t, none⟩ := fun m hm e => by injection e with _ e _; omega
 rw [World.cell?_setCell_other _ _ _ _ (hne 5 (by omega)), World.cell?_setCell_other _ _ _ _ (hne 4 (by omega)), World.cell?_setCell_other _ _ _ _ (hne 3 (by omega)), World.cell?_setCell_other _ _ _ _ (hne 2 (by omega)), World.cell?_setCell_other _ _ _ _ (hne 1 (by omega)), World.cell?_setCell_other _ _ _ _ (show (⟨g, j * 6, none⟩ : Addr) ≠ ⟨g, t, none⟩ from hne 0 (by omega))]
set_option linter.unusedSimpArgs false in
set_option maxHeartbeats 25600000 in
set_option maxRecDepth 100000 in
theorem qn6 (x : Wd) (i j q o B C gF cF : Nat) (w : World) (hv : WV x) (hij : i ≠ j) (hi : i < x.feeds.length) (hj : j < x.feeds.length) (hL : qbk x i j = true)
 (t1 : w.cell? ⟨q, o + 1, none⟩ = some (.int .i64 x.bad)) (t2 : w.cell? ⟨q, o + 2, none⟩ = some (.slice (some ⟨gF, 0, none⟩) x.feeds.length cF)) (hql : q < w.heap.size) (hqg : q ≠ gF)
 (hF : qa7 B C w (.slice (some ⟨gF, 0, none⟩) x.feeds.length cF) x.feeds) (hC : C ≤ w.heap.size) :
 Calls Tryz.prog 70 #[.pointer (some ⟨q, o, none⟩), .int .i64 (i : Int), .int .i64 (j : Int)] w (qk8 B gF cF (qa5 x i j).feeds w) := by
 have HF := hI_ hF
 have HC := hI_ hC
 have HT2 := hI_ t2
 have hn6 : x.feeds.length ≤ 6 := hv.wi.n6
 have hi1 : (i : Int) < (x.feeds.length : Int) := by omega
 have hj1 : (j : Int) < (x.feeds.length : Int) := by omega
 have hi0 : (0 : Int) ≤ (i : Int) := by omega
 have hj0 : (0 : Int) ≤ (j : Int) := by omega
 by_cases hbad : (i : Int) = x.bad
 · have hbb : ((i : Int) == x.bad) = true := by rw [beq_iff_eq]; exact hbad
   have HR : Hid (qa5 x i j = x) := hI_ (by unfold qa5; rw [if_pos hbad])
   clear hv hL hF hC hbad
   go_enter Tryz.func70, Tryz.ntmps70
   go_wp2_with fail
   refine bodyPost_ret (results_none Tryz.results70 _ _ _) rfl ?_
   rw [HR.out]
   exact ⟨rfl, HF.out.mono (nr_ _) HC.out, qii _ _⟩
 have hbb : ((i : Int) == x.bad) = false := by rw [beq_eq_false_iff_ne]; exact hbad
 have hgv := qfR hv hi hj hL
 have HGV := hI_ hgv
 have HWG : Hid (qa5 x i j = if ((qa0 x i j).feed i).hd.len = ((qa0 x i j).feed j).hd.len then qby i j (qa0 x i j) ((qa0 x i j).feed i).hd.len.toNat else qa0 x i j) := hI_ (by unfold qa5; rw [if_neg hbad])
 have HCALL : Hid (Calls Tryz.prog 141 #[.pointer (some ⟨q, o, none⟩), .int .i64 (i : Int), .int .i64 (j : Int)] w (qk8 B gF cF (qa0 x i j).feeds w)) := hI_ (qkB x i j q o B C gF cF w hv hi hj hL t2 hql hqg hF hC)
 obtain ⟨x1, HX1⟩ : ∃ y, Hid (qa0 x i j = y) := ⟨_, hI_ rfl⟩
 rw [HX1.out] at HGV HWG HCALL
 have hn : x1.feeds.length = x.feeds.length := HGV.out.n
 have HN := hI_ hn
 have hi' : i < x1.feeds.length := by omega
 have hj' : j < x1.feeds.length := by omega
 have HI' := hI_ hi'
 have HJ' := hI_ hj'
 have HFE : Hid (x1.feed i = x1.feeds[i]'hi' ∧ x1.feed j = x1.feeds[j]'hj') := hI_ ⟨HGV.out.wv.wi.fd hi', HGV.out.wv.wi.fd hj'⟩
 rw [HFE.out.1, HFE.out.2] at HWG
 have hbg : q < w.heap.size → gF < w.heap.size := fun _ => by obtain ⟨_, F, h1, _⟩ := hF; exact (h1.lt gF rfl).2
 have hgl := hbg hql
 clear hv hL hF hC hbad hgv hn hbg
 go_enter Tryz.func70, Tryz.ntmps70
 go_wp2_with fail
 refine HCALL.out.mono ?_
 rintro e w1 ⟨rfl, hF1, hg1⟩
 rw [HN.out] at hF1
 have HF1 := hI_ hF1
 have HG1 := hI_ hg1
 have lq1 := nL_ hql hg1.size
 have lg1 := nL_ hgl hg1.size
 have hq1 : w1.heap[q]? = w.heap[q]? := hg1.block q hql (fun e => by cases e; exact hqg rfl)
 have u1 := (World.cell?_of_block (a := ⟨q, o + 1, none⟩) hq1).trans t1
 have u2 := (World.cell?_of_block (a := ⟨q, o + 2, none⟩) hq1).trans t2
 have HU1 := hI_ u1
 have HU2 := hI_ u2
 clear t1 t2 hq1 hg1
 obtain ⟨_, _, va, ha, hA, _, f0, f1, f2, f3, f4, f5, hFi⟩ := hF1.r.at_ hi'
 cases hA
 obtain ⟨_, _, vb, hb', hA, _, g0, g1, g2, g3, g4, g5, hFj⟩ := hF1.r.at_ hj'
 cases hA
 rw [Nat.zero_add] at f1 f4 f5 g1
 obtain ⟨fi, HFI⟩ : ∃ f, Hid (x1.feeds[i]'hi' = f) := ⟨_, hI_ rfl⟩
 obtain ⟨fj1, HFJ⟩ : ∃ f, Hid (x1.feeds[j]'hj' = f) := ⟨_, hI_ rfl⟩
 rw [HFI.out] at f1 hFi HWG
 rw [HFJ.out] at g1 HWG
 have HFi := hI_ hFi
 have HF5 := hI_ f5
 obtain ⟨yA, yc, rfl⟩ := hFi.hv.sl'
 clear f0 f2 f3 f4 g0 g2 g3 g4 g5 hFi hFj hF1
 have hup := qap w1
 obtain ⟨r, HRR⟩ : ∃ r, Hid ((fi.hd.len != fj1.hd.len) = r) := ⟨_, hI_ rfl⟩
 go_wp2_with fail
 refine qoH ?_
 repeat (go_big_quiet_step (fail))
 refine wpQuiet_nil ?_
 intro w2 hw2
 have hb2 := qay hw2
 have HB2 := hI_ hb2
 have lq2 := nL_ lq1 hb2.size
 have lg2 := nL_ lg1 hb2.size
 have HG2 : Hid (w.grownBy w2 (some gF)) := hI_ (qat HG1.out (qaP hb2))
 have HF2 : Hid (qa7 B w2.heap.size w2 (.slice (some ⟨gF, 0, none⟩) x.feeds.length cF) x1.feeds) := hI_ ((HF1.out.below hb2).mono (nr_ _) hb2.size)
 have u1 := (hb2.cell (p := ⟨q, o + 1, none⟩) lq1).trans HU1.out
 have u2 := (hb2.cell (p := ⟨q, o + 2, none⟩) lq1).trans HU2.out
 have f5 := (hb2.cell (p := ⟨gF, i * 6 + 5, none⟩) lg1).trans HF5.out
 rw [HRR.out]
 clear hw2 hup HU1 HU2 hb2
 cases r
 rotate_left
 · have HR : Hid (qa5 x i j = x1) := hI_ (by rw [HWG.out, if_neg]; have := HRR.out; simpa using this)
   go_wp2_with fail
   refine bodyPost_ret (results_none Tryz.results70 _ _ _) rfl ?_
   rw [HR.out]
   refine ⟨rfl, ?_, HG2.out⟩
   rw [HN.out]
   exact HF2.out
 have HLL : Hid (fi.hd.len = fj1.hd.len) := hI_ (by have := HRR.out; simpa using this)
 have HR : Hid (qa5 x i j = qby i j x1 fi.hd.len.toNat) := hI_ (by rw [HWG.out, if_pos HLL.out])
 have HFD : Hid (qgA x1.sec x1.f0 fi) := hI_ (by rw [← HFI.out]; exact HGV.out.wv.fd i HI'.out)
 obtain ⟨n, HLN⟩ : ∃ n : Nat, Hid (fi.hv.length = n ∧ fi.bl.length = n ∧ fi.hd.len = n ∧ n ≤ 16) := by
  have := qax HFD.out.v
  exact ⟨fi.hv.length, hI_ ⟨rfl, by omega, by omega, by omega⟩⟩
 rw [HLN.out.2.2.1, Int.toNat_natCast] at HR
 rw [HLN.out.1] at f5
 have hn16 : n ≤ 16 := HLN.out.2.2.2
 have HGT : Hid (∀ m, m ≤ n → Gv j x1 (qby i j x1 m) ∧ ((qby i j x1 m).feeds.getD j Fd.none).hd = fj1.hd ∧ (qby i j x1 m).feeds.getD i Fd.none = fi) := hI_ (fun m hm => by
  have e1 : x1.feeds.getD i Fd.none = fi := by rw [qam HI'.out]; exact HFI.out
  have e2 : x1.feeds.getD j Fd.none = fj1 := by rw [qam HJ'.out]; exact HFJ.out
  obtain ⟨k1, k2, _⟩ := qfP HGV.out.wv hij HI'.out HJ'.out (by rw [e1, e2]; exact HLL.out) m (by rw [e1, HLN.out.2.2.1, Int.toNat_natCast]; exact hm)
  exact ⟨k1, by rw [k2, e2], by rw [k1.oth i hij, e1]⟩)
 go_wp2_with fail
 clear u1 u2
 go_loopw [48] (fun s wr => ∃ k : Nat, k ≤ n ∧ s = .int .i64 k ∧ qa7 B wr.heap.size wr (.slice (some ⟨gF, 0, none⟩) x.feeds.length cF) (qby i j x1 k).feeds ∧ w.grownBy wr (some gF) ∧ wr.cell? ⟨gF, i * 6 + 5, none⟩ = some (.slice yA n yc)) (fun s _ => n - (intOf s).toNat)
 case atStart => exact ⟨0, Nat.zero_le _, rfl, HF2.out, HG2.out, f5⟩
 case round =>
  obtain ⟨k, hk, rfl, hFr, hgr, hf5⟩ := hrel
  obtain ⟨wk, rfl⟩ : ∃ W, W = wr := ⟨_, rfl⟩
  have HFr := hI_ hFr
  have HGR := hI_ hgr
  have HF5 := hI_ hf5
  have lq := nL_ hql hgr.size
  have lg := nL_ hgl hgr.size
  have hqk : wk.heap[q]? = w.heap[q]? := hgr.block q hql (fun e => by cases e; exact hqg rfl)
  have u2 := (World.cell?_of_block (a := ⟨q, o + 2, none⟩) hqk).trans HT2.out
  obtain ⟨y, HY⟩ : ∃ y, Hid (qby i j x1 k = y) := ⟨_, hI_ rfl⟩
  have hGT := HGT.out k hk
  rw [HY.out] at hGT HFr
  have HGK := hI_ hGT
  have hny : y.feeds.length = x.feeds.length := HGK.out.1.n.trans HN.out
  have HNY := hI_ hny
  clear hqk hGT hgr hny hFr
  by_cases hlt : k < n
  case neg =>
   obtain rfl : k = n := by omega
   have hkk : ¬ (k : Int) < (k : Int) := by omega
   clear hf5 u2
   go_wp2_with fail
   refine bodyPost_end (results_none Tryz.results70 _ _ _) rfl ?_
   rw [HR.out, HY.out]
   refine ⟨rfl, ?_, HGR.out⟩
   rw [HNY.out]
   exact HFr.out
  have hiy : i < y.feeds.length := by rw [HNY.out]; exact hi
  have hjy : j < y.feeds.length := by rw [HNY.out]; exact hj
  have HJY := hI_ hjy
  have hki : (k : Int) < (n : Int) := by omega
  have hk0 : (0 : Int) ≤ (k : Int) := by omega
  obtain ⟨_, _, va, ha, hA, _, f0, f1, f2, f3, f4, f5, hFi⟩ := HFr.out.r.at_ hiy
  cases hA
  obtain ⟨_, _, vb, hb', hA, _, g0, g1, g2, g3, g4, g5, hFj⟩ := HFr.out.r.at_ hjy
  cases hA
  rw [Nat.zero_add] at f4 f5 g0 g1 g2 g3 g4 g5
  have hyi : y.feeds[i]'hiy = fi := by rw [← HGK.out.2.2, qam hiy]
  rw [hyi] at hFi
  obtain rfl : ha = .slice yA n yc := Option.some.inj (f5.symm.trans hf5)
  obtain ⟨fj, HFJ2⟩ : ∃ f, Hid (y.feeds[j]'hjy = f) := ⟨_, hI_ rfl⟩
  rw [HFJ2.out] at g0 g1 g2 g3 hFj
  have hjd : y.feeds.getD j Fd.none = fj := by rw [qam hjy, HFJ2.out]
  have hid_ : y.feeds.getD i Fd.none = fi := HGK.out.2.2
  have HWV := hI_ HGK.out.1.wv
  have HFDJ : Hid (qgA y.sec y.f0 fj) := hI_ (by rw [← HFJ2.out]; exact HWV.out.fd j hjy)
  have HLJ : Hid (fj.hv.length = n ∧ fj.bl.length = n ∧ n ≤ y.f0.bl.length) := by
   have h1 := qax HFDJ.out.v
   have h2 : fj.hd = fj1.hd := by rw [← hjd]; exact HGK.out.2.1
   have h3 := HLL.out
   have h4 := HLN.out.2.2.1
   have h5 := HFDJ.out.le
   have h6 := qax HWV.out.v0
   rw [h2] at h1 h5
   exact hI_ ⟨by omega, by omega, by omega⟩
  have HG1 := hI_ (qhp (x := y) (i := i) (j := j) (k := k) HWV.out hiy hjy (by rw [hid_, HGK.out.2.1]; exact HLL.out) (by rw [hid_, HLN.out.2.2.1, Int.toNat_natCast]; exact hlt))
  have HSN : Hid (qby i j x1 (k + 1) = qbW i j y k) := hI_ (by rw [qdB, HY.out])
  have HIJ : Hid (y.feed i = fi ∧ y.feed j = fj) := hI_ ⟨by unfold Wd.feed; rw [Int.toNat_natCast, hid_], by unfold Wd.feed; rw [Int.toNat_natCast, hjd]⟩
  have hkh : k < fi.hv.length := by rw [HLN.out.1]; exact hlt
  have hkb : k < fi.bl.length := by rw [HLN.out.2.1]; exact hlt
  have hkj : k < fj.hv.length := by rw [HLJ.out.1]; exact hlt
  have hkbi : (k : Int) < (fi.bl.length : Int) := by omega
  have hkji : (k : Int) < (fj.hv.length : Int) := by omega
  have hFih : RB wk (.slice yA n yc) fi.hv := hFi.hv
  obtain ⟨b1, o1, hA1, hbs1, e1⟩ := R1.at_ hFih hkh
  subst hA1
  obtain ⟨b2A, c2, rfl⟩ := hFi.bl.sl'
  obtain ⟨b2, o2, hA2, hbs2, e2⟩ := R1.at_ hFi.bl hkb
  subst hA2
  obtain ⟨b3A, c3, rfl⟩ := hFj.hv.sl'
  obtain ⟨b3, o3, hA3, hbs3, e3⟩ := R1.at_ hFj.hv hkj
  subst hA3
  have HFj := hI_ hFj
  have HSZ : Hid (fi.bl[k].size ≤ 8) := hI_ (qbH HFD.out.v _ (List.getElem_mem hkb))
  obtain ⟨v1, HV1⟩ : ∃ v, Hid (fi.hv[k] = v) := ⟨_, hI_ rfl⟩
  obtain ⟨v2, HV2⟩ : ∃ v, Hid (fj.hv[k] = v) := ⟨_, hI_ rfl⟩
  obtain ⟨t, HT⟩ : ∃ v, Hid (fi.bl[k] = v) := ⟨_, hI_ rfl⟩
  rw [HV1.out] at e1
  rw [HT.out] at e2 HSZ
  rw [HV2.out] at e3
  have HG4 : Hid (v1 = true → v2 = false → qes fj k t (qaQ ((lvs y.f0.bl).take fi.bl.length) k) = (fj.put k t, true)) := hI_ (fun h1 h2 => by
   have := (HG1.out.2.2.2 (by rw [hid_, qam hkh, HV1.out]; exact h1) (by rw [hjd, qam hkj, HV2.out]; exact h2)).2
   rw [hjd, hid_, HLN.out.2.2.1, Int.toNat_natCast, qam hkb, HT.out, ← HLN.out.2.1] at this
   exact this)
  have HGO : Hid (qbW i j y k = if (v1 && !v2) = true then { y with feeds := y.feeds.set j (qes fj k t (qaQ ((lvs y.f0.bl).take fi.bl.length) k)).1 } else y) := hI_ (by
   unfold qbW
   rw [HIJ.out.1, HIJ.out.2, qam hkh, qam hkj, HV1.out, HV2.out, qam hkb, HT.out, HLN.out.2.2.1, Int.toNat_natCast, Int.toNat_natCast, ← HLN.out.2.1])
  clear f0 f1 f2 f3 f5 hf5 hFi hFj hFih hyi hjd hid_
  cases v1
  · have HSAME : Hid (qby i j x1 (k + 1) = y) := hI_ (by rw [HSN.out, HGO.out]; rfl)
    go_wp2_with fail
    go_roundw
    case rel => exact ⟨k + 1, by omega, by go_num, by rw [HSAME.out]; exact HFr.out, HGR.out, HF5.out⟩
    case measure => simp [intOf]; omega
  cases v2
  rotate_left
  · have HSAME : Hid (qby i j x1 (k + 1) = y) := hI_ (by rw [HSN.out, HGO.out]; rfl)
    go_wp2_with fail
    go_roundw
    case rel => exact ⟨k + 1, by omega, by go_num, by rw [HSAME.out]; exact HFr.out, HGR.out, HF5.out⟩
    case measure => simp [intOf]; omega
  have hfp := HG4.out rfl rfl
  obtain ⟨gf, HGF⟩ : ∃ g, Hid (fj.put k t = g) := ⟨_, hI_ rfl⟩
  rw [HGF.out] at hfp
  have HNEW : Hid ((qby i j x1 (k + 1)).feeds = y.feeds.set j gf) := hI_ (by rw [HSN.out, HGO.out, hfp]; rfl)
  have HFP := hI_ hfp
  have HNB : Hid (fi.bl.length ≤ (y.feeds.getD 0 Fd.none).bl.length) := hI_ (by rw [HLN.out.2.1]; exact HLJ.out.2.2)
  have hn0 : 0 < y.feeds.length := by rw [HNY.out]; omega
  have HCL : Hid (∀ W, Below wk.heap.size wk W → Calls Tryz.prog 115 #[.pointer (some ⟨q, o, none⟩), .int .i64 (fi.bl.length : Int)] W fun e w' => ∃ v', e = .returned v' ∧ O1 (Value.int .i64) W.heap.size 3 w' v' ((lvs y.f0.bl).take fi.bl.length) ∧ Below W.heap.size W w') :=
   hI_ fun W hW => qj1 y.feeds fi.bl.length q o _ W ((hW.cell (p := ⟨q, o + 2, none⟩) lq).trans u2) (HFr.out.r.below hW) hn0 HNB.out HWV.out.wi.len0.2.1 HWV.out.wi.txt
  clear hfp hn0
  go_upto_region 7 with fail
  go_cut [8, 9] (fun s8 s9 wx => qop wk.heap.size wk wx gf true s8 s9)
  case first =>
   go_region_held3 (fun w' => w'.cell? ⟨q, o + 2, none⟩ = some (.slice (some ⟨gF, 0, none⟩) x.feeds.length cF) ∧ w'.cell? ⟨gF, j * 6, none⟩ = some (.int .i64 fj.pub) ∧ w'.cell? ⟨gF, j * 6 + 1, none⟩ = some (.int .i64 fj.hd.len) ∧ w'.cell? ⟨gF, j * 6 + 2, none⟩ = some (.int .i64 fj.hd.dg) ∧ w'.cell? ⟨gF, j * 6 + 3, none⟩ = some (.int .i64 fj.hd.sg) ∧ w'.cell? ⟨gF, j * 6 + 4, none⟩ = some (vb) ∧ w'.cell? ⟨gF, j * 6 + 5, none⟩ = some (.slice (some ⟨b3, o3, none⟩) fj.hv.length c3) ∧ w'.cell? ⟨gF, i * 6 + 4, none⟩ = some (.slice (some ⟨b2, o2, none⟩) fi.bl.length c2) ∧ w'.cell? ⟨b2, o2 + k, none⟩ = some (.string t))
    (with_reducible refine ⟨Eq.trans (Below.cell (B := wk.heap.size) ?_ lq) u2, Eq.trans (Below.cell (B := wk.heap.size) ?_ lg) g0, Eq.trans (Below.cell (B := wk.heap.size) ?_ lg) g1, Eq.trans (Below.cell (B := wk.heap.size) ?_ lg) g2, Eq.trans (Below.cell (B := wk.heap.size) ?_ lg) g3, Eq.trans (Below.cell (B := wk.heap.size) ?_ lg) g4, Eq.trans (Below.cell (B := wk.heap.size) ?_ lg) g5, Eq.trans (Below.cell (B := wk.heap.size) ?_ lg) f4, Eq.trans (Below.cell (B := wk.heap.size) ?_ hbs2) e2⟩ <;> (repeat (first | with_reducible exact bR_ _ _ | with_reducible exact hb04 | with_reducible exact hb05 | with_reducible exact hb06 | with_reducible refine qab ?_ _ | with_reducible refine qac ?_ | (with_reducible refine qae ?_ ?_ _ _ _ _ _ _; rotate_left; (first | exact nr_ _ | omega | (simp; done) | (simp; omega))))); done)
    (first
      | (go_at_call 115; refine (HCL.out _ (by repeat (first | with_reducible exact bR_ _ _ | with_reducible exact hb04 | with_reducible exact hb05 | with_reducible exact hb06 | with_reducible refine qab ?_ _ | with_reducible refine qac ?_ | (with_reducible refine qae ?_ ?_ _ _ _ _ _ _; rotate_left; (first | exact nr_ _ | omega | (simp; done) | (simp; omega)))))).mono ?_; rintro e w4 ⟨v4, rfl, ho4, hb4⟩; have hb04 : Below wk.heap.size wk w4 := qb6 (by repeat (first | with_reducible exact bR_ _ _ | with_reducible exact hb04 | with_reducible exact hb05 | with_reducible exact hb06 | with_reducible refine qab ?_ _ | with_reducible refine qac ?_ | (with_reducible refine qae ?_ ?_ _ _ _ _ _ _; rotate_left; (first | exact nr_ _ | omega | (simp; done) | (simp; omega))))) hb4; have hs04 := hb04.size)
      | (go_at_call 121; refine (qfE _ (k : Int) _ _ (ho4.r1.below (by with_reducible repeat (first | exact bR_ _ _ | refine qab ?_ _ | refine qac ?_)))).mono ?_; rintro e w5 ⟨v5, rfl, ho5, hb5⟩; have hb05 : Below wk.heap.size wk w5 := qb6 (by repeat (first | with_reducible exact bR_ _ _ | with_reducible exact hb04 | with_reducible exact hb05 | with_reducible exact hb06 | with_reducible refine qab ?_ _ | with_reducible refine qac ?_ | (with_reducible refine qae ?_ ?_ _ _ _ _ _ _; rotate_left; (first | exact nr_ _ | omega | (simp; done) | (simp; omega))))) hb5; have hs05 := hb05.size)
      | (go_at_call 142; refine (qkj HFP _ _ _ _ (HFj.out.below' (by repeat (first | with_reducible exact bR_ _ _ | with_reducible exact hb04 | with_reducible exact hb05 | with_reducible exact hb06 | with_reducible refine qab ?_ _ | with_reducible refine qac ?_ | (with_reducible refine qae ?_ ?_ _ _ _ _ _ _; rotate_left; (first | exact nr_ _ | omega | (simp; done) | (simp; omega)))))) (Nat.le_trans HSZ.out (by unfold maxLen; omega)) (ho5.r1.below (by with_reducible repeat (first | exact bR_ _ _ | refine qab ?_ _ | refine qac ?_)))).mono ?_; rintro e w6 ⟨ub, uh, rfl, ho6, hb6⟩
         obtain ⟨uA, uc, rfl⟩ := ho6.bl.sl
         obtain ⟨hA, hc, rfl⟩ := ho6.hv.sl
         have hb06 : Below wk.heap.size wk w6 := qb6 (by repeat (first | with_reducible exact bR_ _ _ | with_reducible exact hb04 | with_reducible exact hb05 | with_reducible exact hb06 | with_reducible refine qab ?_ _ | with_reducible refine qac ?_ | (with_reducible refine qae ?_ ?_ _ _ _ _ _ _; rotate_left; (first | exact nr_ _ | omega | (simp; done) | (simp; omega))))) hb6
         have hs4 := hb4.size
         have hs5 := hb5.size
         have hs6 := hb6.size
         have hs06 := hb06.size
         try (first
          | (have hz6 := (hb6.block _ (qaB w5 _)).trans (heap_alloc_new w5 _); obtain ⟨k0, k1, k2, k3, k4, k5, kf⟩ := qaa hz6)
          | (have hz6 := (hb6.block _ (nL_ (qaB w4 _) hs5)).trans ((hb5.block _ (qaB w4 _)).trans (heap_alloc_new w4 _)); obtain ⟨k0, k1, k2, k3, k4, k5, kf⟩ := qaa hz6)
          | (have hz6 := (hb6.block _ (nL_ (nL_ (qaB wk _) hs4) hs5)).trans ((hb5.block _ (nL_ (qaB wk _) hs4)).trans ((hb4.block _ (qaB wk _)).trans (heap_alloc_new wk _))); obtain ⟨k0, k1, k2, k3, k4, k5, kf⟩ := qaa hz6))))
   all_goals
    go_wp2
    go_meet
   · exact qnl ho6 (by omega) hb06 hs06
   · exact qgZ ho6 (qaB _ _) hb06 hz6 hs05
   · exact qgZ ho6 (nL_ (qaB _ _) hs5) hb06 hz6 hs04
   · exact qgZ ho6 (nL_ (nL_ (qaB _ _) hs4) hs5) hb06 hz6 (nr_ _)
  case rest =>
   obtain ⟨y8, vb8, vh8, rfl, rfl, hfb, hb8, hy8⟩ := hcut
   obtain ⟨Wx, rfl⟩ : ∃ W, W = wc := ⟨_, rfl⟩
   have HFX := HFr.out.below hb8
   have hs8 := hb8.size
   have w2 := (hb8.cell (p := ⟨q, o + 2, none⟩) lq).trans u2
   have w5 := (hb8.cell (p := ⟨gF, i * 6 + 5, none⟩) lg).trans HF5.out
   obtain ⟨vA, vc, rfl⟩ := hfb.fo.bl.sl
   obtain ⟨uA, uc, rfl⟩ := hfb.fo.hv.sl
   have d2 : Wx.drew.cell? ⟨q, o + 2, none⟩ = _ := w2
   have e0 : Wx.drew.cell? ⟨y8, 0, none⟩ = _ := hfb.c0
   have e1 : Wx.drew.cell? ⟨y8, 1, none⟩ = _ := hfb.c1
   have e2 : Wx.drew.cell? ⟨y8, 2, none⟩ = _ := hfb.c2
   have e3 : Wx.drew.cell? ⟨y8, 3, none⟩ = _ := hfb.c3
   have e4 : Wx.drew.cell? ⟨y8, 4, none⟩ = _ := hfb.c4
   have e5 : Wx.drew.cell? ⟨y8, 5, none⟩ = _ := hfb.c5
   obtain ⟨h1, h2⟩ := HFX.put HJY.out hfb.fo (nr_ _)
   have h5 := (qli (g := gF) (j := j) (t := i * 6 + 5) (w := Wx) (by omega) (.int .i64 gf.pub) (.int .i64 gf.hd.len) (.int .i64 gf.hd.dg) (.int .i64 gf.hd.sg) (.slice vA gf.bl.length vc) (.slice uA gf.hv.length uc)).trans w5
   obtain ⟨W18, HW18⟩ : ∃ W18, Hid (((((((Wx.setCell ⟨gF, j * 6, none⟩ (.int .i64 gf.pub)).setCell ⟨gF, j * 6 + 1, none⟩ (.int .i64 gf.hd.len)).setCell ⟨gF, j * 6 + 2, none⟩ (.int .i64 gf.hd.dg)).setCell ⟨gF, j * 6 + 3, none⟩ (.int .i64 gf.hd.sg)).setCell ⟨gF, j * 6 + 4, none⟩ (.slice vA gf.bl.length vc)).setCell ⟨gF, j * 6 + 5, none⟩ (.slice uA gf.hv.length uc)) = W18) := ⟨_, hI_ rfl⟩
   rw [HW18.out] at h1 h2 h5
   have HP5 := hI_ h5
   have HP1 := hI_ h1
   have HP2 := hI_ (qat (qat HGR.out (qaP hb8)) h2)
   have HP3 := hI_ h2
   obtain ⟨⟨F, hF⟩, hFf⟩ := HFX.cells
   have s0 := hF (j * 6) (by have := HJY.out; omega)
   have s1 := hF (j * 6 + 1) (by have := HJY.out; omega)
   have s2 := hF (j * 6 + 2) (by have := HJY.out; omega)
   have s3 := hF (j * 6 + 3) (by have := HJY.out; omega)
   have s4 := hF (j * 6 + 4) (by have := HJY.out; omega)
   have s5 := hF (j * 6 + 5) (by have := HJY.out; omega)
   have n1 : gF ≠ y8 := by omega
   have n2 : y8 ≠ gF := by omega
   clear hfb hb8 HFX h1 h2 h5 hF u2 f4 g0 g1 g2 g3 g4 g5 w5
   go_wp2_with fail
   refine qci (fun w' => w'.cell? ⟨q, o + 2, none⟩ = some (.slice (some ⟨gF, 0, none⟩) x.feeds.length cF) ∧ w'.cell? ⟨y8, 0, none⟩ = some (.int .i64 gf.pub) ∧ w'.cell? ⟨y8, 1, none⟩ = some (.int .i64 gf.hd.len) ∧ w'.cell? ⟨y8, 2, none⟩ = some (.int .i64 gf.hd.dg) ∧ w'.cell? ⟨y8, 3, none⟩ = some (.int .i64 gf.hd.sg) ∧ w'.cell? ⟨y8, 4, none⟩ = some (.slice vA gf.bl.length vc) ∧ w'.cell? ⟨y8, 5, none⟩ = some (.slice uA gf.hv.length uc)) 7 (by kernel_rfl) ⟨d2, e0, e1, e2, e3, e4, e5⟩ (fun hS hT => ?_)
   refine qaf (i := 0) (v := ?_) hT rfl (by kernel_rfl) (fun _ _ _ h => h) (Or.inl ⟨by rfl, ?_⟩) hS ?_
   rotate_left
   · intro w_ hSw; (try dsimp only at hSw); go_simp; try with_reducible rfl
   clear hT; intro hT
   refine qaf (i := 1) (v := ?_) hT rfl (by kernel_rfl) (fun _ _ _ h => h) (Or.inl ⟨by rfl, ?_⟩) hS ?_
   rotate_left
   · intro w_ hSw; (try dsimp only at hSw); go_simp; try with_reducible rfl
   clear hT; intro hT
   refine qaf (i := 2) (v := ?_) hT rfl (by kernel_rfl) (fun _ _ _ h => h) (Or.inl ⟨by rfl, ?_⟩) hS ?_
   rotate_left
   · intro w_ hSw; (try dsimp only at hSw); go_simp; try with_reducible rfl
   clear hT; intro hT
   refine qaf (i := 3) (v := ?_) hT rfl (by kernel_rfl) (fun _ _ _ h => h) (Or.inl ⟨by rfl, ?_⟩) hS ?_
   rotate_left
   · intro w_ hSw; (try dsimp only at hSw); go_simp; try with_reducible rfl
   clear hT; intro hT
   refine qaf (i := 4) (v := ?_) hT rfl (by kernel_rfl) (fun _ _ _ h => h) (Or.inl ⟨by rfl, ?_⟩) hS ?_
   rotate_left
   · intro w_ hSw; (try dsimp only at hSw); go_simp; try with_reducible rfl
   clear hT; intro hT
   refine qaf (i := 5) (v := ?_) hT rfl (by kernel_rfl) (fun _ _ _ h => h) (Or.inl ⟨by rfl, ?_⟩) hS ?_
   rotate_left
   · intro w_ hSw; (try dsimp only at hSw); go_simp; try with_reducible rfl
   clear hT; intro hT
   refine qaf (i := 6) (v := ?_) hT rfl (by kernel_rfl) (fun _ _ _ h => h) (Or.inl ⟨by rfl, ?_⟩) hS ?_
   rotate_left
   · intro w_ hSw; (try dsimp only at hSw); go_simp; try with_reducible rfl
   clear hT; intro hT
   refine qch rfl (by kernel_rfl) (by kernel_rfl) (fun K7 hK7 => ?_)
   go_simp
   rw [HW18.out]
   refine hK7.out _ _ ?_
   go_wp2_with fail
   go_roundw
   case rel =>
    refine ⟨k + 1, by omega, by go_num, ?_, qat HP2.out (qaP (qac (bR_ _ _))), HP5.out⟩
    rw [HNEW.out]
    exact (HP1.out.below (qac (bR_ _ _))).mono (nr_ _) HP3.out.size
   case measure => simp [intOf]; omega
end Go.Proofs.YtcplnfmcefkehaaGreat
