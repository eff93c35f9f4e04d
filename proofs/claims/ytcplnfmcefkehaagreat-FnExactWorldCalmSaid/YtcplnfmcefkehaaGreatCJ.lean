/- Words: copies of worlds whose feeds are written again and again. Walk: a peer gives all that it has to another one, in the reference. No condition but a valid world. | Walk: a quiet period of the reference's. No condition but small texts. -/
import Derived.Test.YtcplnfmcefkehaaGreatZu
import Derived.Test.YtcplnfmcefkehaaGreatCI
set_option linter.unusedVariables false
set_option linter.unusedSimpArgs false
namespace Go.Proofs.YtcplnfmcefkehaaGreat
open Go.RowKit
attribute [local go_sem ↓] Go.wp_at_zero Go.wp_at_succ

def qda (B : Nat) (w : World) (v : Value) (fs : List Fd) : Prop :=
 ∃ F, ON 6 B 59 w v fs.length F ∧ ∀ j (hj : j < fs.length), F (j * 6) = .int .i64 fs[j].pub ∧ F (j * 6 + 1) = .int .i64 fs[j].hd.len ∧ F (j * 6 + 2) = .int .i64 fs[j].hd.dg ∧ F (j * 6 + 3) = .int .i64 fs[j].hd.sg ∧ Stb LB (fun w => qaU w fs[j] (F (j * 6 + 4)) (F (j * 6 + 5))) w
section
variable {B g n cap : Nat} {w w' : World} {v : Value} {fs : List Fd}
theorem qda.next (h : qda B w v fs) (hk : qaA LTF w w') : qda B w' v fs := by
 obtain ⟨F, h1, h2⟩ := h
 exact ⟨F, h1.keepT hk (by decide), fun j hj => ⟨(h2 j hj).1, (h2 j hj).2.1, (h2 j hj).2.2.1, (h2 j hj).2.2.2.1, (h2 j hj).2.2.2.2.next (hk.mono LBF)⟩⟩
theorem qa1.toP (h : qa1 B w v fs) : qda B w v fs := by
 obtain ⟨C, F, h1, _, _, h2⟩ := h
 exact ⟨F, h1, fun j hj => ⟨(h2 j hj).1, (h2 j hj).2.1, (h2 j hj).2.2.1, (h2 j hj).2.2.2.1, (h2 j hj).2.2.2.2.1.stb (by decide) (by decide)⟩⟩
theorem qda.r (h : qda B w v fs) : qa6 w v fs := by
 obtain ⟨F, h1, h2⟩ := h
 exact ⟨F, h1.rn, fun j hj => ⟨(h2 j hj).1, (h2 j hj).2.1, (h2 j hj).2.2.1, (h2 j hj).2.2.2.1, (h2 j hj).2.2.2.2.self⟩⟩
theorem qda.stb (h : qda B w v fs) : Stb LT2 (fun w => qa6 w v fs) w := fun _ hk => (h.next (hk.mono qi1)).r
theorem qda.cells (h : qda B w (.slice (some ⟨g, 0, none⟩) n cap) fs) : (∃ F : Nat → Value, ∀ t, t < fs.length * 6 → w.cell? ⟨g, t, none⟩ = some (F t)) ∧ (∀ i, w.frozen? ⟨g, i, none⟩ = false) ∧ ∃ cur, w.heap[g]? = some (.cells cur 59 (0, 0)) := by
 obtain ⟨F, h1, h2⟩ := h
 obtain ⟨_, _, he⟩ := h1.rn.sl
 obtain rfl : n = fs.length := by injection he
 obtain ⟨cur, hr⟩ := h1.row0 g rfl
 exact ⟨⟨F, fun t ht => (h1.at_ (by omega)).1⟩, fun i => qgI hr i, cur, hr⟩
theorem qda.put {j : Nat} (h : qda B w (.slice (some ⟨g, 0, none⟩) n cap) fs) (hx : j < fs.length) {f : Fd} {vb vh : Value} (hf : Stb LB (fun w => qaU w f vb vh) w) :
 qda B ((((((w.setCell ⟨g, j * 6, none⟩ (.int .i64 f.pub)).setCell ⟨g, j * 6 + 1, none⟩ (.int .i64 f.hd.len)).setCell ⟨g, j * 6 + 2, none⟩ (.int .i64 f.hd.dg)).setCell ⟨g, j * 6 + 3, none⟩ (.int .i64 f.hd.sg)).setCell ⟨g, j * 6 + 4, none⟩ vb).setCell ⟨g, j * 6 + 5, none⟩ vh) (.slice (some ⟨g, 0, none⟩) n cap) (fs.set j f) ∧
  w.grownBy ((((((w.setCell ⟨g, j * 6, none⟩ (.int .i64 f.pub)).setCell ⟨g, j * 6 + 1, none⟩ (.int .i64 f.hd.len)).setCell ⟨g, j * 6 + 2, none⟩ (.int .i64 f.hd.dg)).setCell ⟨g, j * 6 + 3, none⟩ (.int .i64 f.hd.sg)).setCell ⟨g, j * 6 + 4, none⟩ vb).setCell ⟨g, j * 6 + 5, none⟩ vh) (some g) := by
 obtain ⟨F, h1, h2⟩ := h
 obtain ⟨_, _, he⟩ := h1.rn.sl
 obtain rfl : n = fs.length := by injection he
 obtain ⟨G, h3, h4, k0, k1, k2, k3, k4, k5, k6⟩ := h1.put6' hx (.int .i64 f.pub) (.int .i64 f.hd.len) (.int .i64 f.hd.dg) (.int .i64 f.hd.sg) vb vh
 obtain ⟨cur, fr, hty⟩ := h1.row g rfl
 have hk : qaA LB w _ := qaA.of_grown h4 (fun r hr => by cases hr; exact ⟨cur, _, fr, hty, by decide⟩)
 refine ⟨⟨G, by rw [List.length_set]; exact h3, fun i hi => ?_⟩, h4⟩
 rw [List.length_set] at hi
 by_cases hjx : i = j
 · subst hjx
   rw [List.getElem_set_self, k0, k1, k2, k3, k4, k5]
   exact ⟨rfl, rfl, rfl, rfl, hf.next hk⟩
 · rw [List.getElem_set_ne (Ne.symm hjx), k6 _ (by omega), k6 _ (by omega), k6 _ (by omega), k6 _ (by omega), k6 _ (by omega), k6 _ (by omega)]
   obtain ⟨g0, g1, g2, g3, g4⟩ := h2 i hi
   exact ⟨g0, g1, g2, g3, g4.next hk⟩
end
structure WdQ (B : Nat) (w : World) (x : Wd) (vF vL vA vN : Value) : Prop where
 feeds : qda B w vF x.feeds
 links : qav B 52 w vL x.links
 asked : qbB B w vA x.asked
 net : qaW B w vN x.net
section
variable {B : Nat} {w w' : World} {x : Wd} {vF vL vA vN : Value}
theorem WdC.q (h : WdC B w x vF vL vA vN) : WdQ B w x vF vL vA vN := ⟨h.feeds.toP, h.links, h.asked, h.net⟩
theorem WdQ.st (h : WdQ B w x vF vL vA vN) : WdS w x vF vL vA vN := WdS.of h.feeds.stb (h.links.stb (by decide)) h.asked.stb h.net.stb
theorem WdQ.keep (h : WdQ B w x vF vL vA vN) (hk : qaA LT2 w w') : WdQ B w' x vF vL vA vN :=
 ⟨h.feeds.next (hk.mono qi1), h.links.next hk (by decide), h.asked.next (hk.mono qkm), h.net.next (hk.mono qk1)⟩
theorem WdQ.below (h : WdQ B w x vF vL vA vN) (hb : Below w.heap.size w w') : WdQ B w' x vF vL vA vN := h.keep (qaA.of_below hb)
theorem WdQ.putF {g cap j n : Nat} {f : Fd} {vb vh : Value} (h : WdQ B w x (.slice (some ⟨g, 0, none⟩) n cap) vL vA vN) (hj : j < x.feeds.length) (hf : Stb LB (fun w => qaU w f vb vh) w) :
 WdQ B ((((((w.setCell ⟨g, j * 6, none⟩ (.int .i64 f.pub)).setCell ⟨g, j * 6 + 1, none⟩ (.int .i64 f.hd.len)).setCell ⟨g, j * 6 + 2, none⟩ (.int .i64 f.hd.dg)).setCell ⟨g, j * 6 + 3, none⟩ (.int .i64 f.hd.sg)).setCell ⟨g, j * 6 + 4, none⟩ vb).setCell ⟨g, j * 6 + 5, none⟩ vh)
  { x with feeds := x.feeds.set j f } (.slice (some ⟨g, 0, none⟩) n cap) vL vA vN := by
 obtain ⟨_, _, cur, hty⟩ := h.feeds.cells
 exact ⟨(h.feeds.put hj hf).1, h.links.next (T := [52]) (qb1 hty (by decide) _ _ _ _ _ _) (by decide), h.asked.next (qb1 hty (by decide) _ _ _ _ _ _), h.net.next (qb1 hty (by decide) _ _ _ _ _ _)⟩
end
structure qk7 (B gF cF : Nat) (y : Wd) (w0 w : World) (vL vA vN : Value) : Prop where
 box : w.heap[w0.heap.size]? = some (.cells #[.int .i64 y.sec, .int .i64 y.bad, .slice (some ⟨gF, 0, none⟩) y.feeds.length cF, vL, vA, vN] 35 (0, 0))
 z : w.heap[w0.heap.size + 1]? = some (.cells #[.int .i64 0, .int .i64 0, .slice none 0 0, .slice none 0 0, .slice none 0 0, .slice none 0 0] 35 (0, 0))
 q : WdQ B w y (.slice (some ⟨gF, 0, none⟩) y.feeds.length cF) vL vA vN
 b : Below w0.heap.size w0 w
 gB : w0.heap.size ≤ gF
section
variable {B gF cF : Nat} {y : Wd} {w0 w w' : World} {vL vA vN : Value}
theorem qk7.below (h : qk7 B gF cF y w0 w vL vA vN) (hb : Below w.heap.size w w') : qk7 B gF cF y w0 w' vL vA vN :=
 ⟨(hb.block _ (qai h.box)).trans h.box, (hb.block _ (qai h.z)).trans h.z, h.q.below hb, h.b.trans (hb.mono h.b.size), h.gB⟩
theorem qk7.gl (h : qk7 B gF cF y w0 w vL vA vN) : gF < w.heap.size := by
 obtain ⟨_, _, cur, hr⟩ := h.q.feeds.cells
 exact qai hr
theorem qk7.put {j : Nat} {f : Fd} {vb vh : Value} (h : qk7 B gF cF y w0 w vL vA vN) (hj : j < y.feeds.length) (hf : Stb LB (fun w => qaU w f vb vh) w) :
 qk7 B gF cF { y with feeds := y.feeds.set j f } w0 ((((((w.setCell ⟨gF, j * 6, none⟩ (.int .i64 f.pub)).setCell ⟨gF, j * 6 + 1, none⟩ (.int .i64 f.hd.len)).setCell ⟨gF, j * 6 + 2, none⟩ (.int .i64 f.hd.dg)).setCell ⟨gF, j * 6 + 3, none⟩ (.int .i64 f.hd.sg)).setCell ⟨gF, j * 6 + 4, none⟩ vb).setCell ⟨gF, j * 6 + 5, none⟩ vh) vL vA vN := by
 have hq := h.q.putF hj hf
 have hg := (h.q.feeds.put hj hf).2
 obtain ⟨_, F, h1, _⟩ : ∃ _ : True, ∃ F, ON 6 B 59 w (.slice (some ⟨gF, 0, none⟩) y.feeds.length cF) y.feeds.length F ∧ True := by obtain ⟨F, h1, _⟩ := h.q.feeds; exact ⟨trivial, F, h1, trivial⟩
 have n1 : w0.heap.size ≠ gF := fun e => h1.nbox h.box (by decide) (by rw [e]; rfl)
 have n2 : w0.heap.size + 1 ≠ gF := fun e => h1.nbox h.z (by decide) (by rw [e]; rfl)
 refine ⟨?_, (hg.block _ (qai h.z) (fun e => by cases e; exact n2 rfl)).trans h.z, ?_, h.b.grown hg h.b.size (fun r hr => by cases hr; exact h.gB), h.gB⟩
 · show _ = some (Obj.cells #[.int .i64 y.sec, .int .i64 y.bad, .slice (some ⟨gF, 0, none⟩) (y.feeds.set j f).length cF, vL, vA, vN] 35 (0, 0))
   rw [List.length_set]
   exact (hg.block _ (qai h.box) (fun e => by cases e; exact n1 rfl)).trans h.box
 · show WdQ B _ _ (.slice (some ⟨gF, 0, none⟩) (y.feeds.set j f).length cF) vL vA vN
   rw [List.length_set]
   exact hq
end
set_option linter.unusedSimpArgs false in
set_option maxHeartbeats 25600000 in
set_option maxRecDepth 100000 in
theorem qiq (x : Wd) (i j : Nat) (vF vL vA vN : Value) (w : World) (hx : WdS w x vF vL vA vN) (hv : WV x) (hij : i ≠ j) (hi : i < x.feeds.length) (hj : j < x.feeds.length) (hL : qbk x i j = true) :
 Calls Tryz.prog 72 #[.agg #[.int .i64 x.sec, .int .i64 x.bad, vF, vL, vA, vN], .int .i64 (i : Int), .int .i64 (j : Int)] w (qhd w (qa5 x i j)) := by
 have HV := hI_ hv
 have hn6 : x.feeds.length ≤ 6 := hv.wi.n6
 have hi1 : (i : Int) < (x.feeds.length : Int) := by omega
 have hj1 : (j : Int) < (x.feeds.length : Int) := by omega
 have hi0 : (0 : Int) ≤ (i : Int) := by omega
 have hj0 : (0 : Int) ≤ (j : Int) := by omega
 obtain ⟨fA, fc, rfl⟩ := hx.r.feeds.sl
 obtain ⟨lA0, lc0, rfl⟩ := hx.r.links.sl
 obtain ⟨aA0, ac0, rfl⟩ := hx.r.asked.sl
 obtain ⟨nA0, nc0, rfl⟩ := hx.r.net.sl
 obtain ⟨W0, HW0⟩ : ∃ W0, Hid ((w.alloc (.cells #[.int .i64 x.sec, .int .i64 x.bad, .slice fA x.feeds.length fc, .slice lA0 x.links.length lc0, .slice aA0 x.asked.length ac0, .slice nA0 x.net.length nc0] 35)).alloc (.cells #[.int .i64 0, .int .i64 0, .slice none 0 0, .slice none 0 0, .slice none 0 0, .slice none 0 0] 35) = W0) := ⟨_, hI_ rfl⟩
 have HB0 : Hid (Below w.heap.size w W0) := hI_ (by rw [← HW0.out]; exact qab (qab (bR_ _ _) _) _)
 have hs0 : w.heap.size + 2 = W0.heap.size := by rw [← HW0.out]; simp
 have HP0 : Hid (W0.heap[w.heap.size]? = some (.cells #[.int .i64 x.sec, .int .i64 x.bad, .slice fA x.feeds.length fc, .slice lA0 x.links.length lc0, .slice aA0 x.asked.length ac0, .slice nA0 x.net.length nc0] 35 (0, 0))) := hI_ (by rw [← HW0.out]; exact qau (heap_alloc_new _ _))
 have HZ0 : Hid (W0.heap[w.heap.size + 1]? = some (.cells #[.int .i64 0, .int .i64 0, .slice none 0 0, .slice none 0 0, .slice none 0 0, .slice none 0 0] 35 (0, 0))) := hI_ (by rw [← HW0.out]; exact qbu (by simp))
 have hl0 : w.heap.size < W0.heap.size := by omega
 have hl1 : w.heap.size + 1 < W0.heap.size := by omega
 have HX0 : Hid (WdS W0 x (.slice fA x.feeds.length fc) (.slice lA0 x.links.length lc0) (.slice aA0 x.asked.length ac0) (.slice nA0 x.net.length nc0)) := hI_ (hx.below HB0.out)
 obtain ⟨t0, t1, t2, t3, t4, t5, tf⟩ := qaa HP0.out
 clear hx hs0
 by_cases hbad : (i : Int) = x.bad
 · have hbb : ((i : Int) == x.bad) = true := by rw [beq_iff_eq]; exact hbad
   have HR : Hid (qa5 x i j = x) := hI_ (by unfold qa5; rw [if_pos hbad])
   obtain ⟨y0, y1, y2, y3, y4, y5, yf⟩ := qaa HZ0.out
   clear hv hL hbad
   go_enter Tryz.func72, Tryz.ntmps72
   go_upto_region 1 with fail
   rw [HW0.out]
   go_wp2_with fail
   refine bodyPost_ret (v := .agg #[.int .i64 x.sec, .int .i64 x.bad, .slice fA x.feeds.length fc, .slice lA0 x.links.length lc0, .slice aA0 x.asked.length ac0, .slice nA0 x.net.length nc0]) (by simp [results, Tryz.results72, go_sem, y0, y1, y2, y3, y4, y5]) rfl ?_
   rw [HR.out]
   exact ⟨_, _, _, _, rfl, HX0.out.set6 HZ0.out _ _ _ _ _ _, qae HB0.out (Nat.le_succ _) _ _ _ _ _ _⟩
 have hbb : ((i : Int) == x.bad) = false := by rw [beq_eq_false_iff_ne]; exact hbad
 have hgv := qfR hv hi hj hL
 have HGV := hI_ hgv
 have HWG : Hid (qa5 x i j = if ((qa0 x i j).feed i).hd.len = ((qa0 x i j).feed j).hd.len then qby i j (qa0 x i j) ((qa0 x i j).feed i).hd.len.toNat else qa0 x i j) := hI_ (by unfold qa5; rw [if_neg hbad])
 have HCALL : Hid (Calls Tryz.prog 144 #[.agg #[.int .i64 x.sec, .int .i64 x.bad, .slice fA x.feeds.length fc, .slice lA0 x.links.length lc0, .slice aA0 x.asked.length ac0, .slice nA0 x.net.length nc0], .int .i64 (i : Int), .int .i64 (j : Int)] W0 (qhd W0 (qa0 x i j))) := hI_ (qis x i j _ _ _ _ W0 HX0.out hv.wi (by omega))
 obtain ⟨x1, HX1⟩ : ∃ y, Hid (qa0 x i j = y) := ⟨_, hI_ rfl⟩
 rw [HX1.out] at HGV HWG HCALL
 have hn : x1.feeds.length = x.feeds.length := HGV.out.n
 have HN := hI_ hn
 have hi' : i < x1.feeds.length := by omega
 have hj' : j < x1.feeds.length := by omega
 have HFE : Hid (x1.feed i = x1.feeds[i]'hi' ∧ x1.feed j = x1.feeds[j]'hj') := hI_ ⟨HGV.out.wv.wi.fd hi', HGV.out.wv.wi.fd hj'⟩
 rw [HFE.out.1, HFE.out.2] at HWG
 clear hv hL hbad hgv hn
 go_enter Tryz.func72, Tryz.ntmps72
 go_wp2_with fail
 rw [HW0.out]
 go_wp2_with fail
 refine HCALL.out.mono ?_
 rintro e w1 ⟨uF, uL, uA, uN, rfl, hs1, hb1⟩
 have HB1 := hI_ hb1
 have HS1 := hI_ hs1
 obtain ⟨aF, cF1, rfl⟩ := hs1.r.feeds.sl
 obtain ⟨aL, cL1, rfl⟩ := hs1.r.links.sl
 obtain ⟨aK, cK1, rfl⟩ := hs1.r.asked.sl
 obtain ⟨aN, cN1, rfl⟩ := hs1.r.net.sl
 clear hb1 hs1 t0 t1 t2 t3 t4 t5 tf
 go_wp2_with fail
 refine (qcO x1 _ _ _ _ w1 HS1.out (HGV.out.wv.wi.sml (by omega))).mono ?_
 rintro e w2 ⟨qF, qL, qA, qN, rfl, hC, hb2⟩
 obtain ⟨gF, cF, rfl, hgF, hgl⟩ := hC.feeds.form (by omega)
 obtain ⟨lA, lc, rfl⟩ := hC.links.sl
 obtain ⟨aA, ac, rfl⟩ := hC.asked.sl
 obtain ⟨nA, nc, rfl⟩ := hC.net.sl
 have hb12 := HB1.out.trans (hb2.mono HB1.out.size)
 have hp2 := (hb12.block _ hl0).trans HP0.out
 have hz2 := (hb12.block _ hl1).trans HZ0.out
 have HB2 := hI_ (HB0.out.trans (hb12.mono HB0.out.size))
 have HC2 := hI_ hC
 have hwg : w.heap.size ≤ gF := by have := HB0.out.size; have := HB1.out.size; omega
 obtain ⟨t0, t1, t2, t3, t4, t5, tf⟩ := qaa hp2
 have hS0 : qk7 w1.heap.size gF cF x1 w ((((((w2.setCell ⟨w.heap.size, 0, none⟩ (.int .i64 x1.sec)).setCell ⟨w.heap.size, 1, none⟩ (.int .i64 x1.bad)).setCell ⟨w.heap.size, 2, none⟩ (.slice (some ⟨gF, 0, none⟩) x1.feeds.length cF)).setCell ⟨w.heap.size, 3, none⟩ (.slice lA x1.links.length lc)).setCell ⟨w.heap.size, 4, none⟩ (.slice aA x1.asked.length ac)).setCell ⟨w.heap.size, 5, none⟩ (.slice nA x1.net.length nc)) (.slice lA x1.links.length lc) (.slice aA x1.asked.length ac) (.slice nA x1.net.length nc) :=
  ⟨qcU hp2 _ _ _ _ _ _, (qcN (by omega) _ _ _ _ _ _).trans hz2, HC2.out.q.keep (qaA.set6 (T := LT2) hp2 (by decide) _ _ _ _ _ _), qae HB2.out (nr_ _) _ _ _ _ _ _, hwg⟩
 obtain ⟨W3, HW3⟩ : ∃ W3, Hid (((((((w2.setCell ⟨w.heap.size, 0, none⟩ (.int .i64 x1.sec)).setCell ⟨w.heap.size, 1, none⟩ (.int .i64 x1.bad)).setCell ⟨w.heap.size, 2, none⟩ (.slice (some ⟨gF, 0, none⟩) x1.feeds.length cF)).setCell ⟨w.heap.size, 3, none⟩ (.slice lA x1.links.length lc)).setCell ⟨w.heap.size, 4, none⟩ (.slice aA x1.asked.length ac)).setCell ⟨w.heap.size, 5, none⟩ (.slice nA x1.net.length nc)) = W3) := ⟨_, hI_ rfl⟩
 rw [HW3.out] at hS0
 have HS3 := hI_ hS0
 clear hp2 hz2 hC hb2 hb12 hgF hgl hS0
 go_upto_region 4 with fail
 rw [HW3.out]
 clear t0 t1 t2 t3 t4 t5 tf
 obtain ⟨t0, t1, t2, t3, t4, t5, tf⟩ := qaa HS3.out.box
 obtain ⟨_, _, va, ha, hA, _, f0, f1, f2, f3, f4, f5, hFi⟩ := HS3.out.q.feeds.r.at_ hi'
 cases hA
 rw [Nat.zero_add] at f1
 obtain ⟨fi, HFI⟩ : ∃ f, Hid (x1.feeds[i]'hi' = f) := ⟨_, hI_ rfl⟩
 obtain ⟨fj1, HFJ⟩ : ∃ f, Hid (x1.feeds[j]'hj' = f) := ⟨_, hI_ rfl⟩
 rw [HFI.out] at f1 HWG
 rw [HFJ.out] at HWG
 have HFD : Hid (qgA x1.sec x1.f0 fi) := hI_ (by rw [← HFI.out]; exact HGV.out.wv.fd i hi')
 obtain ⟨n, HLN⟩ : ∃ n : Nat, Hid (fi.hv.length = n ∧ fi.bl.length = n ∧ fi.hd.len = n ∧ n ≤ 16) := by
  have := qax HFD.out.v
  exact ⟨fi.hv.length, hI_ ⟨rfl, by omega, by omega, by omega⟩⟩
 rw [HLN.out.2.2.1] at f1
 have hn16 : n ≤ 16 := HLN.out.2.2.2
 have hi1' : (i : Int) < (x1.feeds.length : Int) := by omega
 have hj1' : (j : Int) < (x1.feeds.length : Int) := by omega
 clear f0 f2 f3 f4 f5 hFi
 go_wp2_with fail
 clear t0 t1 t2 t3 t4 t5 tf f1
 obtain ⟨T, HTD⟩ : ∃ T : Nat → Wd, Hid (∀ k, T k = if fi.hd.len = fj1.hd.len then qby i j x1 k else x1) := ⟨_, hI_ fun _ => rfl⟩
 have HWT : Hid (qa5 x i j = T n) := hI_ (by rw [HWG.out, HTD.out, HLN.out.2.2.1, Int.toNat_natCast])
 have HT0 : Hid (T 0 = x1) := hI_ (by rw [HTD.out]; split <;> rfl)
 have HGT : Hid (∀ m, m ≤ n → Gv j x1 (T m) ∧ ((T m).feeds.getD j Fd.none).hd = fj1.hd ∧ (T m).feeds.getD i Fd.none = fi) := hI_ (fun m hm => by
  have e1 : x1.feeds.getD i Fd.none = fi := by rw [qam hi']; exact HFI.out
  have e2 : x1.feeds.getD j Fd.none = fj1 := by rw [qam hj']; exact HFJ.out
  rw [HTD.out]
  split
  · rename_i heq
    obtain ⟨k1, k2, _⟩ := qfP HGV.out.wv hij hi' hj' (by rw [e1, e2]; exact heq) m (by rw [e1, HLN.out.2.2.1, Int.toNat_natCast]; exact hm)
    exact ⟨k1, by rw [k2, e2], by rw [k1.oth i hij, e1]⟩
  · exact ⟨Gv.refl j HGV.out.wv, by rw [e2], e1⟩)
 have HRET : Hid (∀ (wr : World) (y : Wd), qk7 w1.heap.size gF cF y w wr (.slice lA x1.links.length lc) (.slice aA x1.asked.length ac) (.slice nA x1.net.length nc) → y = T n → qhd w (qa5 x i j) (.returned (.agg #[.int .i64 y.sec, .int .i64 y.bad, .slice (some ⟨gF, 0, none⟩) y.feeds.length cF, .slice lA x1.links.length lc, .slice aA x1.asked.length ac, .slice nA x1.net.length nc])) ((((((wr.setCell ⟨w.heap.size + 1, 0, none⟩ (.int .i64 y.sec)).setCell ⟨w.heap.size + 1, 1, none⟩ (.int .i64 y.bad)).setCell ⟨w.heap.size + 1, 2, none⟩ (.slice (some ⟨gF, 0, none⟩) y.feeds.length cF)).setCell ⟨w.heap.size + 1, 3, none⟩ (.slice lA x1.links.length lc)).setCell ⟨w.heap.size + 1, 4, none⟩ (.slice aA x1.asked.length ac)).setCell ⟨w.heap.size + 1, 5, none⟩ (.slice nA x1.net.length nc))) := hI_ (fun wr y hS he => by
  rw [HWT.out, ← he]
  exact ⟨_, _, _, _, rfl, hS.q.st.set6 hS.z _ _ _ _ _ _, qae hS.b (Nat.le_succ _) _ _ _ _ _ _⟩)
 go_loopw [8] (fun s wr => ∃ k : Nat, k ≤ n ∧ s = .int .i64 k ∧ (fi.hd.len = fj1.hd.len ∨ k = 0) ∧ qk7 w1.heap.size gF cF (T k) w wr (.slice lA x1.links.length lc) (.slice aA x1.asked.length ac) (.slice nA x1.net.length nc)) (fun s _ => n - (intOf s).toNat)
 case atStart => exact ⟨0, Nat.zero_le _, rfl, .inr rfl, by rw [HT0.out]; exact HS3.out⟩
 case round =>
  obtain ⟨k, hk, rfl, hor, hS⟩ := hrel
  obtain ⟨wk, rfl⟩ : ∃ W, W = wr := ⟨_, rfl⟩
  have HOR := hI_ hor
  obtain ⟨y, HY⟩ : ∃ y, Hid (T k = y) := ⟨_, hI_ rfl⟩
  have hGT := HGT.out k hk
  rw [HY.out] at hGT hS
  have HGK := hI_ hGT
  have HS := hI_ hS
  have hny : y.feeds.length = x1.feeds.length := HGK.out.1.n
  have HNY := hI_ hny
  obtain ⟨t0, t1, t2, t3, t4, t5, tf⟩ := qaa hS.box
  have lp := qai hS.box
  have lg := hS.gl
  clear hGT hor hny
  by_cases hlt : k < n
  case neg =>
   obtain rfl : k = n := by omega
   have hkk : ¬ (k : Int) < (k : Int) := by omega
   obtain ⟨y0, y1, y2, y3, y4, y5, yf⟩ := qaa hS.z
   clear hS
   go_wp2_with fail
   refine bodyPost_ret (v := .agg #[.int .i64 y.sec, .int .i64 y.bad, .slice (some ⟨gF, 0, none⟩) y.feeds.length cF, .slice lA x1.links.length lc, .slice aA x1.asked.length ac, .slice nA x1.net.length nc]) (by simp [results, Tryz.results72, go_sem, y0, y1, y2, y3, y4, y5]) rfl (HRET.out _ _ HS.out HY.out.symm)
  have hiy : i < y.feeds.length := by rw [HNY.out]; exact hi'
  have hjy : j < y.feeds.length := by rw [HNY.out]; exact hj'
  have hiy' : (i : Int) < (y.feeds.length : Int) := by omega
  have hjy' : (j : Int) < (y.feeds.length : Int) := by omega
  have hki : (k : Int) < (n : Int) := by omega
  have hk0 : (0 : Int) ≤ (k : Int) := by omega
  obtain ⟨_, _, va, ha, hA, _, f0, f1, f2, f3, f4, f5, hFi⟩ := hS.q.feeds.r.at_ hiy
  cases hA
  obtain ⟨_, _, vb, hb', hA, _, g0, g1, g2, g3, g4, g5, hFj⟩ := hS.q.feeds.r.at_ hjy
  cases hA
  rw [Nat.zero_add] at f4 f5 g0 g1 g2 g3 g4 g5
  have hyi : y.feeds[i]'hiy = fi := by rw [← HGK.out.2.2, qam hiy]
  rw [hyi] at hFi
  obtain ⟨fj, HFJ2⟩ : ∃ f, Hid (y.feeds[j]'hjy = f) := ⟨_, hI_ rfl⟩
  rw [HFJ2.out] at g0 g1 g2 g3 hFj
  have hjd : y.feeds.getD j Fd.none = fj := by rw [qam hjy, HFJ2.out]
  have hid_ : y.feeds.getD i Fd.none = fi := HGK.out.2.2
  have HHD : Hid (fj.hd = fj1.hd) := hI_ (by rw [← hjd]; exact HGK.out.2.1)
  by_cases heq : fi.hd.len = fj1.hd.len
  case neg =>
   have hk00 : k = 0 := by rcases HOR.out with h | h; (· exact absurd h heq); exact h
   have hne : (fj.hd.len == (n : Int)) = false := by rw [beq_eq_false_iff_ne, HHD.out]; have := HLN.out.2.2.1; omega
   have HYN : Hid (y = T n) := hI_ (by rw [← HY.out, HTD.out, HTD.out, if_neg heq, if_neg heq])
   obtain ⟨y0, y1, y2, y3, y4, y5, yf⟩ := qaa hS.z
   clear hS hFi hFj heq hk00 f0 f1 f2 f3 f4 f5 g0 g2 g3 g4 g5
   go_wp2_with fail
   refine bodyPost_ret (v := .agg #[.int .i64 y.sec, .int .i64 y.bad, .slice (some ⟨gF, 0, none⟩) y.feeds.length cF, .slice lA x1.links.length lc, .slice aA x1.asked.length ac, .slice nA x1.net.length nc]) (by simp [results, Tryz.results72, go_sem, y0, y1, y2, y3, y4, y5]) rfl (HRET.out _ _ HS.out HYN.out)
  have HEQ := hI_ heq
  have heqn : (fj.hd.len == (n : Int)) = true := by rw [beq_iff_eq, HHD.out]; have := HLN.out.2.2.1; omega
  have HWV := hI_ HGK.out.1.wv
  have HFDJ : Hid (qgA y.sec y.f0 fj) := hI_ (by rw [← HFJ2.out]; exact HWV.out.fd j hjy)
  have HLJ : Hid (fj.hv.length = n ∧ fj.bl.length = n ∧ n ≤ y.f0.bl.length) := by
   have h1 := qax HFDJ.out.v
   have h2 := HHD.out
   have h4 := HLN.out.2.2.1
   have h5 := HFDJ.out.le
   have h6 := qax HWV.out.v0
   rw [h2] at h1 h5
   exact hI_ ⟨by omega, by omega, by omega⟩
  have HG1 := hI_ (qhp (x := y) (i := i) (j := j) (k := k) HWV.out hiy hjy (by rw [hid_, HGK.out.2.1]; exact heq) (by rw [hid_, HLN.out.2.2.1, Int.toNat_natCast]; exact hlt))
  have HSN : Hid (T (k + 1) = qbW i j y k) := hI_ (by rw [HTD.out, if_pos heq, qdB, ← HY.out, HTD.out, if_pos heq])
  have HIJ : Hid (y.feed i = fi ∧ y.feed j = fj) := hI_ ⟨by unfold Wd.feed; rw [Int.toNat_natCast, hid_], by unfold Wd.feed; rw [Int.toNat_natCast, hjd]⟩
  have hkh : k < fi.hv.length := by rw [HLN.out.1]; exact hlt
  have hkb : k < fi.bl.length := by rw [HLN.out.2.1]; exact hlt
  have hkj : k < fj.hv.length := by rw [HLJ.out.1]; exact hlt
  have hkhi : (k : Int) < (fi.hv.length : Int) := by omega
  have hkbi : (k : Int) < (fi.bl.length : Int) := by omega
  have hkji : (k : Int) < (fj.hv.length : Int) := by omega
  obtain ⟨b1A, c1, rfl⟩ := hFi.hv.sl'
  obtain ⟨b1, o1, hA1, hbs1, e1⟩ := R1.at_ hFi.hv hkh
  subst hA1
  obtain ⟨b2A, c2, rfl⟩ := hFi.bl.sl'
  obtain ⟨b2, o2, hA2, hbs2, e2⟩ := R1.at_ hFi.bl hkb
  subst hA2
  obtain ⟨b3A, c3, rfl⟩ := hFj.hv.sl'
  obtain ⟨b3, o3, hA3, hbs3, e3⟩ := R1.at_ hFj.hv hkj
  subst hA3
  have HFj := hI_ hFj
  have HSZ : Hid (fi.bl[k].size ≤ 8) := hI_ (qbH HFD.out.v _ (List.getElem_mem hkb))
  obtain ⟨v1, HV1⟩ : ∃ v, Hid (fi.hv[k] = v) := ⟨_, hI_ rfl⟩
  obtain ⟨v2, HV2⟩ : ∃ v, Hid (fj.hv[k] = v) := ⟨_, hI_ rfl⟩
  obtain ⟨t, HT⟩ : ∃ v, Hid (fi.bl[k] = v) := ⟨_, hI_ rfl⟩
  rw [HV1.out] at e1
  rw [HT.out] at e2 HSZ
  rw [HV2.out] at e3
  have HG4 : Hid (v1 = true → v2 = false → qes fj k t (qaQ ((lvs y.f0.bl).take n) k) = (fj.put k t, true)) := hI_ (fun h1 h2 => by
   have := (HG1.out.2.2.2 (by rw [hid_, qam hkh, HV1.out]; exact h1) (by rw [hjd, qam hkj, HV2.out]; exact h2)).2
   rw [hjd, hid_, HLN.out.2.2.1, Int.toNat_natCast, qam hkb, HT.out] at this
   exact this)
  have HGO : Hid (qbW i j y k = if (v1 && !v2) = true then { y with feeds := y.feeds.set j (qes fj k t (qaQ ((lvs y.f0.bl).take n) k)).1 } else y) := hI_ (by
   unfold qbW
   rw [HIJ.out.1, HIJ.out.2, qam hkh, qam hkj, HV1.out, HV2.out, qam hkb, HT.out, HLN.out.2.2.1, Int.toNat_natCast, Int.toNat_natCast])
  have HJY := hI_ hjy
  clear f0 f1 f2 f3 hFi hFj hyi hjd hid_ hS heq
  cases v1
  · have HSAME : Hid (T (k + 1) = y) := hI_ (by rw [HSN.out, HGO.out]; rfl)
    go_wp2_with fail
    go_roundw
    case rel => exact ⟨k + 1, by omega, by go_num, .inl HEQ.out, by rw [HSAME.out]; exact HS.out⟩
    case measure => simp [intOf]; omega
  cases v2
  rotate_left
  · have HSAME : Hid (T (k + 1) = y) := hI_ (by rw [HSN.out, HGO.out]; rfl)
    go_wp2_with fail
    go_roundw
    case rel => exact ⟨k + 1, by omega, by go_num, .inl HEQ.out, by rw [HSAME.out]; exact HS.out⟩
    case measure => simp [intOf]; omega
  have hfp := HG4.out rfl rfl
  obtain ⟨gf, HGF⟩ : ∃ g, Hid (fj.put k t = g) := ⟨_, hI_ rfl⟩
  rw [HGF.out] at hfp
  have HNEW : Hid (T (k + 1) = { y with feeds := y.feeds.set j gf }) := hI_ (by rw [HSN.out, HGO.out, hfp]; rfl)
  have HFP := hI_ hfp
  have HNB : Hid (n ≤ (y.feeds.getD 0 Fd.none).bl.length) := hI_ HLJ.out.2.2
  have hn0 : 0 < y.feeds.length := by omega
  have HCL : Hid (∀ W, Below wk.heap.size wk W → Calls Tryz.prog 95 #[.agg #[.int .i64 y.sec, .int .i64 y.bad, .slice (some ⟨gF, 0, none⟩) y.feeds.length cF, .slice lA x1.links.length lc, .slice aA x1.asked.length ac, .slice nA x1.net.length nc], .int .i64 (n : Int)] W fun e w' => ∃ v', e = .returned v' ∧ O1 (Value.int .i64) W.heap.size 3 w' v' ((lvs y.f0.bl).take n) ∧ Below W.heap.size W w') :=
   hI_ fun W hW => qc3 y.feeds n y.sec y.bad _ _ _ _ W (HS.out.q.feeds.r.below hW) hn0 HNB.out HWV.out.wi.len0.2.1 HWV.out.wi.txt
  clear hfp hn0
  go_upto_region 9 with fail
  go_cut [9, 10] (fun s8 s9 wx => qop wk.heap.size wk wx gf true s8 s9)
  case first =>
   go_region_held3 (fun w' => w'.cell? ⟨w.heap.size, 0, none⟩ = some (.int .i64 y.sec) ∧ w'.cell? ⟨w.heap.size, 1, none⟩ = some (.int .i64 y.bad) ∧ w'.cell? ⟨w.heap.size, 2, none⟩ = some (.slice (some ⟨gF, 0, none⟩) y.feeds.length cF) ∧ w'.cell? ⟨w.heap.size, 3, none⟩ = some (.slice lA x1.links.length lc) ∧ w'.cell? ⟨w.heap.size, 4, none⟩ = some (.slice aA x1.asked.length ac) ∧ w'.cell? ⟨w.heap.size, 5, none⟩ = some (.slice nA x1.net.length nc) ∧ w'.cell? ⟨gF, j * 6, none⟩ = some (.int .i64 fj.pub) ∧ w'.cell? ⟨gF, j * 6 + 1, none⟩ = some (.int .i64 fj.hd.len) ∧ w'.cell? ⟨gF, j * 6 + 2, none⟩ = some (.int .i64 fj.hd.dg) ∧ w'.cell? ⟨gF, j * 6 + 3, none⟩ = some (.int .i64 fj.hd.sg) ∧ w'.cell? ⟨gF, j * 6 + 4, none⟩ = some (vb) ∧ w'.cell? ⟨gF, j * 6 + 5, none⟩ = some (.slice (some ⟨b3, o3, none⟩) fj.hv.length c3) ∧ w'.cell? ⟨gF, i * 6 + 4, none⟩ = some (.slice (some ⟨b2, o2, none⟩) fi.bl.length c2) ∧ w'.cell? ⟨b2, o2 + k, none⟩ = some (.string t))
    (with_reducible refine ⟨Eq.trans (Below.cell (B := wk.heap.size) ?_ lp) t0, Eq.trans (Below.cell (B := wk.heap.size) ?_ lp) t1, Eq.trans (Below.cell (B := wk.heap.size) ?_ lp) t2, Eq.trans (Below.cell (B := wk.heap.size) ?_ lp) t3, Eq.trans (Below.cell (B := wk.heap.size) ?_ lp) t4, Eq.trans (Below.cell (B := wk.heap.size) ?_ lp) t5, Eq.trans (Below.cell (B := wk.heap.size) ?_ lg) g0, Eq.trans (Below.cell (B := wk.heap.size) ?_ lg) g1, Eq.trans (Below.cell (B := wk.heap.size) ?_ lg) g2, Eq.trans (Below.cell (B := wk.heap.size) ?_ lg) g3, Eq.trans (Below.cell (B := wk.heap.size) ?_ lg) g4, Eq.trans (Below.cell (B := wk.heap.size) ?_ lg) g5, Eq.trans (Below.cell (B := wk.heap.size) ?_ lg) f4, Eq.trans (Below.cell (B := wk.heap.size) ?_ hbs2) e2⟩ <;> (repeat (first | with_reducible exact bR_ _ _ | with_reducible exact hb04 | with_reducible exact hb05 | with_reducible exact hb06 | with_reducible refine qab ?_ _ | with_reducible refine qac ?_ | (with_reducible refine qae ?_ ?_ _ _ _ _ _ _; rotate_left; (first | exact nr_ _ | omega | (simp; done) | (simp; omega))))); done)
    (first
      | (go_at_call 95; refine (HCL.out _ (by repeat (first | with_reducible exact bR_ _ _ | with_reducible exact hb04 | with_reducible exact hb05 | with_reducible exact hb06 | with_reducible refine qab ?_ _ | with_reducible refine qac ?_ | (with_reducible refine qae ?_ ?_ _ _ _ _ _ _; rotate_left; (first | exact nr_ _ | omega | (simp; done) | (simp; omega)))))).mono ?_; rintro e w4 ⟨v4, rfl, ho4, hb4⟩; have hb04 : Below wk.heap.size wk w4 := qb6 (by repeat (first | with_reducible exact bR_ _ _ | with_reducible exact hb04 | with_reducible exact hb05 | with_reducible exact hb06 | with_reducible refine qab ?_ _ | with_reducible refine qac ?_ | (with_reducible refine qae ?_ ?_ _ _ _ _ _ _; rotate_left; (first | exact nr_ _ | omega | (simp; done) | (simp; omega))))) hb4; have hs04 := hb04.size)
      | (go_at_call 101; refine (qem _ (k : Int) _ _ (ho4.r1.below (by with_reducible repeat (first | exact bR_ _ _ | refine qab ?_ _ | refine qac ?_)))).mono ?_; rintro e w5 ⟨v5, rfl, ho5, hb5⟩; have hb05 : Below wk.heap.size wk w5 := qb6 (by repeat (first | with_reducible exact bR_ _ _ | with_reducible exact hb04 | with_reducible exact hb05 | with_reducible exact hb06 | with_reducible refine qab ?_ _ | with_reducible refine qac ?_ | (with_reducible refine qae ?_ ?_ _ _ _ _ _ _; rotate_left; (first | exact nr_ _ | omega | (simp; done) | (simp; omega))))) hb5; have hs05 := hb05.size)
      | (go_at_call 145; refine (qgB HFP _ _ _ _ (HFj.out.below' (by repeat (first | with_reducible exact bR_ _ _ | with_reducible exact hb04 | with_reducible exact hb05 | with_reducible exact hb06 | with_reducible refine qab ?_ _ | with_reducible refine qac ?_ | (with_reducible refine qae ?_ ?_ _ _ _ _ _ _; rotate_left; (first | exact nr_ _ | omega | (simp; done) | (simp; omega)))))) (Nat.le_trans HSZ.out (by unfold maxLen; omega)) (ho5.r1.below (by with_reducible repeat (first | exact bR_ _ _ | refine qab ?_ _ | refine qac ?_)))).mono ?_; rintro e w6 ⟨ub, uh, rfl, ho6, hb6⟩
         obtain ⟨uA, uc, rfl⟩ := ho6.bl.sl
         obtain ⟨hA, hc, rfl⟩ := ho6.hv.sl
         have hb06 : Below wk.heap.size wk w6 := qb6 (by repeat (first | with_reducible exact bR_ _ _ | with_reducible exact hb04 | with_reducible exact hb05 | with_reducible exact hb06 | with_reducible refine qab ?_ _ | with_reducible refine qac ?_ | (with_reducible refine qae ?_ ?_ _ _ _ _ _ _; rotate_left; (first | exact nr_ _ | omega | (simp; done) | (simp; omega))))) hb6
         have hs4 := hb4.size
         have hs5 := hb5.size
         have hs6 := hb6.size
         have hs06 := hb06.size
         try (first
          | (have hz6 := (hb6.block _ (qaB w5 _)).trans (heap_alloc_new w5 _); obtain ⟨k0, k1, k2, k3, k4, k5, kf⟩ := qaa hz6)
          | (have hz6 := (hb6.block _ (nL_ (qaB w4 _) hs5)).trans ((hb5.block _ (qaB w4 _)).trans (heap_alloc_new w4 _)); obtain ⟨k0, k1, k2, k3, k4, k5, kf⟩ := qaa hz6)
          | (have hz6 := (hb6.block _ (nL_ (nL_ (qaB wk _) hs4) hs5)).trans ((hb5.block _ (nL_ (qaB wk _) hs4)).trans ((hb4.block _ (qaB wk _)).trans (heap_alloc_new wk _))); obtain ⟨k0, k1, k2, k3, k4, k5, kf⟩ := qaa hz6))))
   all_goals
    go_wp2
    go_meet
   · exact qnl ho6 (by omega) hb06 hs06
   · exact qgZ ho6 (qaB _ _) hb06 hz6 hs05
   · exact qgZ ho6 (nL_ (qaB _ _) hs5) hb06 hz6 hs04
   · exact qgZ ho6 (nL_ (nL_ (qaB _ _) hs4) hs5) hb06 hz6 (nr_ _)
  case rest =>
   obtain ⟨y8, vb8, vh8, rfl, rfl, hfb, hb8, hy8⟩ := hcut
   obtain ⟨Wx, rfl⟩ : ∃ W, W = wc := ⟨_, rfl⟩
   have HSX := hI_ (HS.out.below hb8)
   obtain ⟨vA, vc, rfl⟩ := hfb.fo.bl.sl
   obtain ⟨uA, uc, rfl⟩ := hfb.fo.hv.sl
   have c0 := hfb.c0
   have c1 := hfb.c1
   have c2 := hfb.c2
   have c3 := hfb.c3
   have c4 := hfb.c4
   have c5 := hfb.c5
   have h1 := HSX.out.put HJY.out (hfb.fo.stb (by decide) (by decide))
   obtain ⟨W18, HW18⟩ : ∃ W18, Hid (((((((Wx.setCell ⟨gF, j * 6, none⟩ (.int .i64 gf.pub)).setCell ⟨gF, j * 6 + 1, none⟩ (.int .i64 gf.hd.len)).setCell ⟨gF, j * 6 + 2, none⟩ (.int .i64 gf.hd.dg)).setCell ⟨gF, j * 6 + 3, none⟩ (.int .i64 gf.hd.sg)).setCell ⟨gF, j * 6 + 4, none⟩ (.slice vA gf.bl.length vc)).setCell ⟨gF, j * 6 + 5, none⟩ (.slice uA gf.hv.length uc)) = W18) := ⟨_, hI_ rfl⟩
   rw [HW18.out] at h1
   have HP1 := hI_ h1
   obtain ⟨⟨F, hF⟩, hFf, _⟩ := HSX.out.q.feeds.cells
   have s0 := hF (j * 6) (by have := HJY.out; omega)
   have s1 := hF (j * 6 + 1) (by have := HJY.out; omega)
   have s2 := hF (j * 6 + 2) (by have := HJY.out; omega)
   have s3 := hF (j * 6 + 3) (by have := HJY.out; omega)
   have s4 := hF (j * 6 + 4) (by have := HJY.out; omega)
   have s5 := hF (j * 6 + 5) (by have := HJY.out; omega)
   have n1 : gF ≠ y8 := by omega
   have n2 : y8 ≠ gF := by omega
   clear t0 t1 t2 t3 t4 t5 tf hfb hb8 h1 hF f4 f5 g0 g1 g2 g3 g4 g5 e1 e2 e3
   obtain ⟨t0, t1, t2, t3, t4, t5, tf⟩ := qaa HSX.out.box
   go_wp2_with fail
   rw [HW18.out]
   go_roundw
   case rel =>
    exact ⟨k + 1, by omega, by go_num, .inl HEQ.out, by rw [HNEW.out]; exact HP1.out⟩
   case measure => simp [intOf]; omega
theorem qny {α : Type} {ls : List (List α)} {k : Nat} (hk : k < ls.length) : (List.replicate k [] ++ ls.drop k).set k [] = List.replicate (k + 1) [] ++ ls.drop (k + 1) := by
 rw [List.drop_eq_getElem_cons hk, List.set_append_right _ _ (by simp)]
 simp only [List.length_replicate, Nat.sub_self, List.set_cons_zero]
 rw [List.replicate_succ', List.append_assoc]
 rfl
theorem qbB.putC {B g n cap x : Nat} {w : World} {ls : List (List (Int × Int))} {l : List (Int × Int)} {u : Value} (h : qbB B w (.slice (some ⟨g, 0, none⟩) n cap) ls) (hx : x < ls.length) (hf : Stb LQ (fun w => RP w u l) w) :
 qbB B (w.setCell ⟨g, x, none⟩ u) (.slice (some ⟨g, 0, none⟩) n cap) (ls.set x l) := by
 obtain ⟨F, h1, h2⟩ := h
 obtain ⟨_, _, he⟩ := h1.rn.sl
 obtain rfl : n = ls.length := by injection he
 obtain ⟨h3, h4⟩ := h1.setAt (t := x) (by omega) u
 obtain ⟨cur, fr, hty⟩ := h1.row g rfl
 have hk : qaA LQ w _ := qaA.of_grown h4 (fun r hr => by cases hr; exact ⟨cur, _, fr, hty, by decide⟩)
 refine ⟨_, by rw [List.length_set]; exact h3, fun j hj => ?_⟩
 rw [List.length_set] at hj
 by_cases hjx : j = x
 · subst hjx
   rw [List.getElem_set_self]
   have := hf.next hk
   simpa using this
 · rw [List.getElem_set_ne (Ne.symm hjx)]
   have := (h2 j hj).next hk
   simpa [hjx] using this
structure qla (y : Wd) (w0 w : World) (vF vL vA vN : Value) : Prop where
 box : w.heap[w0.heap.size]? = some (.cells #[.int .i64 y.sec, .int .i64 y.bad, vF, vL, vA, vN] 35 (0, 0))
 z : w.heap[w0.heap.size + 1]? = some (.cells #[.int .i64 0, .int .i64 0, .slice none 0 0, .slice none 0 0, .slice none 0 0, .slice none 0 0] 35 (0, 0))
 s : WdS w y vF vL vA vN
 b : Below w0.heap.size w0 w
theorem qla.below {y : Wd} {w0 w w' : World} {vF vL vA vN : Value} (h : qla y w0 w vF vL vA vN) (hb : Below w.heap.size w w') : qla y w0 w' vF vL vA vN :=
 ⟨(hb.block _ (qai h.box)).trans h.box, (hb.block _ (qai h.z)).trans h.z, h.s.below hb, h.b.trans (hb.mono h.b.size)⟩
theorem qla.set {y y' : Wd} {w0 w : World} {vF vL vA vN uF uL uA uN : Value} (h : qla y w0 w vF vL vA vN) (hs : WdS w y' uF uL uA uN) :
 qla y' w0 ((((((w.setCell ⟨w0.heap.size, 0, none⟩ (.int .i64 y'.sec)).setCell ⟨w0.heap.size, 1, none⟩ (.int .i64 y'.bad)).setCell ⟨w0.heap.size, 2, none⟩ uF).setCell ⟨w0.heap.size, 3, none⟩ uL).setCell ⟨w0.heap.size, 4, none⟩ uA).setCell ⟨w0.heap.size, 5, none⟩ uN) uF uL uA uN :=
 ⟨qcU h.box _ _ _ _ _ _, (qcN (by omega) _ _ _ _ _ _).trans h.z, hs.set6 h.box _ _ _ _ _ _, qae h.b (nr_ _) _ _ _ _ _ _⟩
structure qng (B gA cA : Nat) (x : Wd) (ls : List (List (Int × Int))) (w0 w : World) (vF vL vN : Value) : Prop where
 box : w.heap[w0.heap.size]? = some (.cells #[.int .i64 x.sec, .int .i64 x.bad, vF, vL, .slice (some ⟨gA, 0, none⟩) x.asked.length cA, vN] 35 (0, 0))
 z : w.heap[w0.heap.size + 1]? = some (.cells #[.int .i64 0, .int .i64 0, .slice none 0 0, .slice none 0 0, .slice none 0 0, .slice none 0 0] 35 (0, 0))
 F : qa1 B w vF x.feeds
 L : qav B 52 w vL x.links
 A : qbB B w (.slice (some ⟨gA, 0, none⟩) x.asked.length cA) ls
 N : qaW B w vN []
 b : Below w0.heap.size w0 w
 n : ls.length = x.asked.length
 gB : w0.heap.size ≤ gA
 Bs : B ≤ w.heap.size
section
variable {B gA cA : Nat} {x : Wd} {ls : List (List (Int × Int))} {w0 w w' : World} {vF vL vN : Value}
theorem qng.below (h : qng B gA cA x ls w0 w vF vL vN) (hb : Below w.heap.size w w') : qng B gA cA x ls w0 w' vF vL vN := by
 have hk := qaA.of_below (T := LT2) hb
 exact ⟨(hb.block _ (qai h.box)).trans h.box, (hb.block _ (qai h.z)).trans h.z, h.F.next (hk.mono qi1), h.L.next hk (by decide), h.A.next (hk.mono qkm), h.N.next (hk.mono qk1), h.b.trans (hb.mono h.b.size), h.n, h.gB, Nat.le_trans h.Bs hb.size⟩
theorem qng.put {k : Nat} {u : Value} (h : qng B gA cA x ls w0 w vF vL vN) (hk : k < ls.length) (hu : Stb LQ (fun w => RP w u []) w) : qng B gA cA x (ls.set k []) w0 (w.setCell ⟨gA, k, none⟩ u) vF vL vN := by
 obtain ⟨cur, hty⟩ := h.A.ty
 obtain ⟨F, h1, _⟩ : ∃ F, ON 1 B 50 w (.slice (some ⟨gA, 0, none⟩) x.asked.length cA) ls.length F ∧ True := by obtain ⟨F, h1, _⟩ := h.A; exact ⟨F, h1, trivial⟩
 have n1 : w0.heap.size ≠ gA := fun e => h1.nbox h.box (by decide) (by rw [e]; rfl)
 have n2 : w0.heap.size + 1 ≠ gA := fun e => h1.nbox h.z (by decide) (by rw [e]; rfl)
 exact ⟨(Below.heap_setCell _ _ _ _ n1).trans h.box, (Below.heap_setCell _ _ _ _ n2).trans h.z, h.F.next (qaA.set1 hty (by decide) _), h.L.next (T := [52]) (qaA.set1 hty (by decide) _) (by decide), h.A.putC hk hu, h.N.next (qaA.set1 hty (by decide) _), qaN h.b h.gB, by rw [List.length_set]; exact h.n, h.gB, by simpa using h.Bs⟩
end
set_option linter.unusedSimpArgs false in
set_option maxHeartbeats 25600000 in
set_option maxRecDepth 100000 in
theorem qfH (x : Wd) (vF vL vA vN : Value) (w : World) (hx : WdS w x vF vL vA vN) (ht : ∀ j (hj : j < x.net.length), x.net[j].txt.size ≤ maxLen) :
 Calls Tryz.prog 29 #[.agg #[.int .i64 x.sec, .int .i64 x.bad, vF, vL, vA, vN]] w (qhd w (qcL x)) := by
 obtain ⟨FA, Fc, rfl⟩ := hx.r.feeds.sl
 obtain ⟨LA, Lc, rfl⟩ := hx.r.links.sl
 obtain ⟨AA, Ac, rfl⟩ := hx.r.asked.sl
 obtain ⟨NA, Nc, rfl⟩ := hx.r.net.sl
 obtain ⟨W0, HW0⟩ : ∃ W0, Hid ((w.alloc (.cells #[.int .i64 x.sec, .int .i64 x.bad, .slice FA x.feeds.length Fc, .slice LA x.links.length Lc, .slice AA x.asked.length Ac, .slice NA x.net.length Nc] 35)).alloc (.cells #[.int .i64 0, .int .i64 0, .slice none 0 0, .slice none 0 0, .slice none 0 0, .slice none 0 0] 35) = W0) := ⟨_, hI_ rfl⟩
 have HB0 : Hid (Below w.heap.size w W0) := hI_ (by rw [← HW0.out]; exact qab (qab (bR_ _ _) _) _)
 have hs0 : w.heap.size + 2 = W0.heap.size := by rw [← HW0.out]; simp
 have HS0 : Hid (qla x w W0 (.slice FA x.feeds.length Fc) (.slice LA x.links.length Lc) (.slice AA x.asked.length Ac) (.slice NA x.net.length Nc)) := hI_ ⟨by rw [← HW0.out]; exact qau (heap_alloc_new _ _), by rw [← HW0.out]; exact qbu (by simp), hx.below HB0.out, HB0.out⟩
 have HT := hI_ ht
 clear hx ht
 obtain ⟨p0, p1, p2, p3, p4, p5, pf⟩ := qaa HS0.out.box
 go_enter Tryz.func29, Tryz.ntmps29
 go_wp2_with fail
 rw [HW0.out]
 go_wp2_with fail
 refine (qdO x _ _ _ _ W0 HS0.out.s.r HT.out).mono ?_
 rintro e w1 ⟨rfl, hb1⟩
 clear p0 p1 p2 p3 p4 p5 pf
 have HS1 := hI_ (HS0.out.below hb1)
 have hs1 : w.heap.size + 1 < w1.heap.size := qai HS1.out.z
 clear hb1
 obtain ⟨bv, HBV⟩ : ∃ b, Hid (qcc x = b) := ⟨_, hI_ rfl⟩
 rw [HBV.out]
 cases bv
 · obtain ⟨y0, y1, y2, y3, y4, y5, yf⟩ := qaa HS1.out.z
   have HR : Hid (qcL x = Wd.zero) := hI_ (by unfold qcL; rw [HBV.out]; rfl)
   have HZP := (WdP.zero (B := 0) (C := 0) (w := ((((((w1.setCell ⟨w.heap.size + 1, 0, none⟩ (.int .i64 0)).setCell ⟨w.heap.size + 1, 1, none⟩ (.int .i64 0)).setCell ⟨w.heap.size + 1, 2, none⟩ (.slice none 0 0)).setCell ⟨w.heap.size + 1, 3, none⟩ (.slice none 0 0)).setCell ⟨w.heap.size + 1, 4, none⟩ (.slice none 0 0)).setCell ⟨w.heap.size + 1, 5, none⟩ (.slice none 0 0)))).st
   have HZP := hI_ HZP
   go_wp2_with fail
   refine bodyPost_ret (v := .agg #[.int .i64 0, .int .i64 0, .slice none 0 0, .slice none 0 0, .slice none 0 0, .slice none 0 0]) (by simp [results, Tryz.results29, go_sem, y0, y1, y2, y3, y4, y5]) rfl ?_
   rw [HR.out]
   exact ⟨_, _, _, _, rfl, HZP.out, qae HS1.out.b (Nat.le_succ _) _ _ _ _ _ _⟩
 have hwv : WV x := qcq.1 HBV.out
 have HQ := hI_ hwv.quiet
 have HWV := hI_ hwv
 have hna : x.asked.length = x.feeds.length := hwv.na
 have HNA := hI_ hna
 have hn6 : x.feeds.length ≤ 6 := hwv.wi.n6
 have ha6 : x.asked.length ≤ 6 := by omega
 have hn1 : 0 < x.asked.length := by have := hwv.wi.n1; omega
 have hl40 : x.links.length ≤ 40 := hwv.wi.nl
 have HR : Hid (qcL x = qgl x) := hI_ (by unfold qcL; rw [HBV.out]; rfl)
 clear hwv hna
 obtain ⟨p0, p1, p2, p3, p4, p5, pf⟩ := qaa HS1.out.box
 go_wp2_with fail
 refine (qcO x _ _ _ _ w1 HS1.out.s (HWV.out.wi.sml (by omega))).mono ?_
 rintro e w2 ⟨qF, qL, qA, qN, rfl, hC, hb2⟩
 obtain ⟨gA, cA, rfl, hgA, hgl⟩ := hC.asked.form hn1
 obtain ⟨FB_, Fd_, rfl⟩ := hC.feeds.sl
 obtain ⟨LB_, Ld, rfl⟩ := hC.links.sl
 obtain ⟨NB, Nd, rfl⟩ := hC.net.sl
 have HS2 := hI_ (HS1.out.below hb2)
 have HC2 := hI_ hC
 clear p0 p1 p2 p3 p4 p5 pf
 obtain ⟨p0, p1, p2, p3, p4, p5, pf⟩ := qaa HS2.out.box
 have hk3 : qaA LT2 w2 ((((((w2.setCell ⟨w.heap.size, 0, none⟩ (.int .i64 x.sec)).setCell ⟨w.heap.size, 1, none⟩ (.int .i64 x.bad)).setCell ⟨w.heap.size, 2, none⟩ (.slice FB_ x.feeds.length Fd_)).setCell ⟨w.heap.size, 3, none⟩ (.slice LB_ x.links.length Ld)).setCell ⟨w.heap.size, 4, none⟩ (.slice (some ⟨gA, 0, none⟩) x.asked.length cA)).setCell ⟨w.heap.size, 5, none⟩ (.slice NB x.net.length Nd)) := qaA.set6 (T := LT2) HS2.out.box (by decide) _ _ _ _ _ _
 have hS3 := HS2.out.set (y' := x) HC2.out.s
 have hC3 := HC2.out.keep hk3
 obtain ⟨W3, HW3⟩ : ∃ W3, Hid (((((((w2.setCell ⟨w.heap.size, 0, none⟩ (.int .i64 x.sec)).setCell ⟨w.heap.size, 1, none⟩ (.int .i64 x.bad)).setCell ⟨w.heap.size, 2, none⟩ (.slice FB_ x.feeds.length Fd_)).setCell ⟨w.heap.size, 3, none⟩ (.slice LB_ x.links.length Ld)).setCell ⟨w.heap.size, 4, none⟩ (.slice (some ⟨gA, 0, none⟩) x.asked.length cA)).setCell ⟨w.heap.size, 5, none⟩ (.slice NB x.net.length Nd)) = W3) := ⟨_, hI_ rfl⟩
 rw [HW3.out] at hk3 hS3 hC3
 have HS3 := hI_ hS3
 have HC3 := hI_ hC3
 have hs3 : w1.heap.size ≤ W3.heap.size := Nat.le_trans hb2.size hk3.1
 have hz3 : w.heap.size + 1 < W3.heap.size := qai HS3.out.z
 have hgw : w.heap.size ≤ gA := by omega
 have lz3 : w.heap.size < W3.heap.size := by omega
 clear hk3 hS3 hC3 hC hb2
 go_upto_region 4 with fail
 rw [HW3.out]
 clear p0 p1 p2 p3 p4 p5 pf
 obtain ⟨p0, p1, p2, p3, p4, p5, pf⟩ := qaa HS3.out.box
 go_upto_region 5 with fail
 obtain ⟨WB, HWB⟩ : ∃ W, Hid (W3.setCell ⟨w.heap.size, 5, none⟩ (.slice (some ⟨W3.heap.size, 0, none⟩) 0 0) = W) := ⟨_, hI_ rfl⟩
 rw [HWB.out]
 obtain ⟨W5, HW5⟩ : ∃ W, Hid (WB.alloc (.cells #[] 72) = W) := ⟨_, hI_ rfl⟩
 rw [HW5.out]
 have hS5 : qng w1.heap.size gA cA x x.asked w W5 (.slice FB_ x.feeds.length Fd_) (.slice LB_ x.links.length Ld) (.slice (some ⟨W3.heap.size, 0, none⟩) 0 0) := by
  have hkB : qaA LT2 W3 WB := by rw [← HWB.out]; exact qaA.set1 HS3.out.box (by decide) _
  have hk5 : qaA LT2 WB W5 := by rw [← HW5.out]; exact qaA.alloc _
  have hsB : WB.heap.size = W3.heap.size := by rw [← HWB.out]; simp
  have hb5 : Below WB.heap.size WB W5 := by rw [← HW5.out]; exact qab (bR_ _ _) _
  have hq5 : W5.heap[W3.heap.size]? = some (.cells #[] 72 (0, 0)) := by rw [← HW5.out, ← hsB]; exact heap_alloc_new _ _
  have hkk := hkB.trans hk5
  refine ⟨(hb5.block _ (by omega)).trans ?_, (hb5.block _ (by omega)).trans ?_, HC3.out.feeds.next (hkk.mono qi1), HC3.out.links.next hkk (by decide), HC3.out.asked.next (hkk.mono qkm), qaW.empty hq5 hs3, ?_, rfl, hgw, by have := hb5.size; omega⟩
  · rw [← HWB.out]; exact qas (i := 5) HS3.out.box _
  · rw [← HWB.out]; exact (Below.heap_setCell _ _ _ _ (by show w.heap.size + 1 ≠ w.heap.size; omega)).trans HS3.out.z
  · have h1 : Below w.heap.size w WB := by rw [← HWB.out]; exact qaN HS3.out.b (nr_ _)
    exact h1.trans (hb5.mono (by omega))
 have HS5 := hI_ hS5
 clear p0 p1 p2 p3 p4 p5 pf hS5
 go_wp2_with fail
 go_loopw [3] (fun i wr => ∃ k : Nat, k ≤ x.asked.length ∧ i = .int .i64 k ∧ qng w1.heap.size gA cA x (List.replicate k [] ++ x.asked.drop k) w wr (.slice FB_ x.feeds.length Fd_) (.slice LB_ x.links.length Ld) (.slice (some ⟨W3.heap.size, 0, none⟩) 0 0)) (fun i _ => x.asked.length - (intOf i).toNat)
 case atStart => exact ⟨0, Nat.zero_le _, rfl, HS5.out⟩
 case round =>
  obtain ⟨k, hk, rfl, hF⟩ := hrel
  obtain ⟨wr1, rfl⟩ : ∃ W, W = wr := ⟨_, rfl⟩
  have HF := hI_ hF
  obtain ⟨p0, p1, p2, p3, p4, p5, pf⟩ := qaa hF.box
  by_cases hlt : k < x.asked.length
  · have hki : (k : Int) < (x.asked.length : Int) := by omega
    have hk0 : (0 : Int) ≤ (k : Int) := by omega
    obtain ⟨⟨F, hFc⟩, hFf, cur, hty⟩ := hF.A.cells
    have hc := hFc k (by rw [hF.n]; exact hlt)
    have hgr := qai hty
    have lp := qai hF.box
    have HW := hI_ (World.setCell_alloc_past (w := wr1) (.cells #[] 118) gA k (.slice (some ⟨wr1.heap.size, 0, none⟩) 0 0) hgr)
    have hput := (hF.below (qab (bR_ _ _) (.cells #[] 118))).put (k := k) (u := .slice (some ⟨wr1.heap.size, 0, none⟩) 0 0) (by rw [hF.n]; exact hlt) ((qav.empty (B := 0) (heap_alloc_new _ _) (Nat.zero_le _)).stb (by decide))
    rw [HW.out, qny hlt] at hput
    have HPUT := hI_ hput
    clear hF hput hty hFc
    go_wp2_with fail
    go_roundw
    case rel => exact ⟨k + 1, by omega, by go_num, HPUT.out⟩
    case measure => simp [intOf]; omega
  obtain rfl : k = x.asked.length := by omega
  have hki : ¬ (x.asked.length : Int) < (x.asked.length : Int) := by omega
  have hR0 : qla x.quiet w wr1 (.slice FB_ x.feeds.length Fd_) (.slice LB_ x.links.length Ld) (.slice (some ⟨gA, 0, none⟩) x.asked.length cA) (.slice (some ⟨W3.heap.size, 0, none⟩) 0 0) := by
   have e : List.replicate x.asked.length [] ++ x.asked.drop x.asked.length = x.quiet.asked := by rw [List.drop_length, List.append_nil]; rfl
   refine ⟨hF.box, hF.z, WdS.of hF.F.stb (hF.L.stb (by decide)) ?_ hF.N.stb, hF.b⟩
   rw [← e]; exact hF.A.stb
  have HR0 := hI_ hR0
  have HF0 := hI_ hF.box
  clear hF hR0
  go_wp2_with fail
  clear p0 p1 p2 p3 p4 p5 pf
  go_loopw [4] (fun i wr => ∃ (r : Nat) (vF vL vA vN : Value), r ≤ x.feeds.length ∧ i = .int .i64 r ∧ qla (qdH x.links x.quiet r) w wr vF vL vA vN) (fun i _ => x.feeds.length - (intOf i).toNat)
  case atStart => exact ⟨0, _, _, _, _, Nat.zero_le _, rfl, HR0.out⟩
  case round =>
   obtain ⟨r, vF, vL, vA, vN, hr, rfl, hS⟩ := hrel
   obtain ⟨wr1, rfl⟩ : ∃ W, W = wr := ⟨_, rfl⟩
   have HS := hI_ hS
   have HCM := hI_ (qfu HQ.out r)
   obtain ⟨z, HZN⟩ : ∃ z, Hid (qdH x.links x.quiet r = z) := ⟨_, hI_ rfl⟩
   rw [HZN.out] at HS hS
   have HWZ : Hid (WV z ∧ z.links = x.links ∧ z.feeds.length = x.feeds.length) := hI_ (by rw [← HZN.out]; exact ⟨HCM.out.wv, HCM.out.links, HCM.out.n⟩)
   obtain ⟨zA, zc, rfl⟩ := hS.s.r.feeds.sl
   obtain ⟨p0, p1, p2, p3, p4, p5, pf⟩ := qaa hS.box
   have hzn := HWZ.out.2.2
   rw [hzn] at p2
   clear hS hzn
   by_cases hlt : r < x.feeds.length
   case neg =>
    obtain rfl : r = x.feeds.length := by omega
    have hki3 : ¬ (x.feeds.length : Int) < (x.feeds.length : Int) := by omega
    obtain ⟨zL, zLc, rfl⟩ := HS.out.s.r.links.sl
    obtain ⟨zK, zKc, rfl⟩ := HS.out.s.r.asked.sl
    obtain ⟨zN, zNc, rfl⟩ := HS.out.s.r.net.sl
    have hsz := HS.out.s
    rw [HWZ.out.2.2] at hsz
    have HSZ := hI_ hsz
    have HRZ : Hid (qcL x = z) := hI_ (HR.out.trans HZN.out)
    clear hsz
    go_wp2_with fail
    refine (qcO z _ _ _ _ wr1 HSZ.out (HWZ.out.1.wi.sml (by omega))).mono ?_
    rintro e w9 ⟨kF, kL, kA, kN, rfl, hC9, hb9⟩
    obtain ⟨kF, kFc, rfl⟩ := hC9.feeds.sl
    obtain ⟨kL, kLc, rfl⟩ := hC9.links.sl
    obtain ⟨kA, kAc, rfl⟩ := hC9.asked.sl
    obtain ⟨kN, kNc, rfl⟩ := hC9.net.sl
    have HS9 := hI_ (HS.out.below hb9)
    have HC9 := hI_ hC9
    obtain ⟨y0, y1, y2, y3, y4, y5, yf⟩ := qaa HS9.out.z
    clear hC9 hb9 p0 p1 p2 p3 p4 p5 pf
    go_wp2_with fail
    refine bodyPost_ret (v := .agg #[.int .i64 z.sec, .int .i64 z.bad, .slice kF z.feeds.length kFc, .slice kL z.links.length kLc, .slice kA z.asked.length kAc, .slice kN z.net.length kNc]) (by simp [results, Tryz.results29, go_sem, y0, y1, y2, y3, y4, y5]) rfl ?_
    rw [HRZ.out]
    exact ⟨_, _, _, _, rfl, HC9.out.s.set6 HS9.out.z _ _ _ _ _ _, qae HS9.out.b (Nat.le_succ _) _ _ _ _ _ _⟩
   have hki3 : (r : Int) < (x.feeds.length : Int) := by omega
   go_wp2_with fail
   clear p0 p1 p2 p3 p4 p5 pf
   go_loopw [5] (fun i wr => ∃ (k : Nat) (vF vL vA vN : Value), k ≤ x.links.length ∧ i = .int .i64 k ∧ qla (qdb x.links z k) w wr vF vL vA vN) (fun i _ => x.links.length - (intOf i).toNat)
   case atStart => exact ⟨0, _, _, _, _, Nat.zero_le _, rfl, HS.out⟩
   case round =>
   obtain ⟨k, uF, uL, uA, uN, hk, rfl, hT⟩ := hrel
   obtain ⟨wr2, rfl⟩ : ∃ W, W = wr := ⟨_, rfl⟩
   have HU := hI_ hT
   have HCT := hI_ (qmZ HWZ.out.1 k (by rw [HWZ.out.2.1]; exact hk))
   rw [HWZ.out.2.1] at HCT
   obtain ⟨y, HY⟩ : ∃ y, Hid (qdb x.links z k = y) := ⟨_, hI_ rfl⟩
   rw [HY.out] at HCT HU hT
   have HLEa : Hid (y.links.length = x.links.length) := hI_ (by rw [HCT.out.links, HWZ.out.2.1])
   have HLK : Hid (y.links = x.links) := hI_ (HCT.out.links.trans HWZ.out.2.1)
   by_cases hlk : k < x.links.length
   case neg =>
    obtain rfl : k = x.links.length := by omega
    have hki2 : ¬ (x.links.length : Int) < (x.links.length : Int) := by omega
    obtain ⟨lA2, lc, rfl⟩ := hT.s.r.links.sl
    obtain ⟨p0, p1, p2, p3, p4, p5, pf⟩ := qaa hT.box
    have hyn := HLEa.out
    rw [hyn] at p3
    clear hT hyn
    go_wp2_with fail
    go_roundw
    case rel => exact ⟨r + 1, _, _, _, _, by omega, by go_num, by show qla (qdb x.links (qdH x.links x.quiet r) x.links.length) _ _ _ _ _ _; rw [HZN.out, HY.out]; exact HU.out⟩
    case measure => simp [intOf]; omega
   have hki2 : (k : Int) < (x.links.length : Int) := by omega
   have hk0 : (0 : Int) ≤ (k : Int) := by omega
   obtain ⟨i, j, hl, hij, hjn, L1, L2⟩ := qhy HCT.out.wv (l := x.links[k]) (by rw [HLK.out]; exact List.getElem_mem hlk)
   have HC1 := hI_ (qho HCT.out.wv (i := i) (j := j) (by omega) (by omega) hjn L1)
   have HSNX : Hid (qdb x.links z (k + 1) = qa5 (qa5 y i j) j i) := hI_ (by rw [qer hlk, HY.out, hl]; rfl)
   have HLXa : Hid (∀ h : k < y.links.length, y.links[k] = ((i : Int), (j : Int))) := hI_ (fun h => by have := HLK.out; simp only [this]; exact hl)
   have HLEb : Hid ((qa5 y i j).links.length = x.links.length) := hI_ (by rw [HC1.out.links, HLK.out])
   have HLXb : Hid (∀ h : k < (qa5 y i j).links.length, (qa5 y i j).links[k] = ((i : Int), (j : Int))) := hI_ (fun h => by have := HC1.out.links.trans HLK.out; simp only [this]; exact hl)
   have HL1 := hI_ (And.intro L1 L2)
   have HIJ := hI_ (And.intro hij hjn)
   clear hT L1 L2 hij hjn hl
   obtain ⟨p0, p1, p2, p3, p4, p5, pf⟩ := qaa HU.out.box
   obtain ⟨yA, yc, rfl⟩ := HU.out.s.r.feeds.sl
   obtain ⟨lA2, lc, rfl⟩ := HU.out.s.r.links.sl
   obtain ⟨kA, kc, rfl⟩ := HU.out.s.r.asked.sl
   obtain ⟨mA, mc, rfl⟩ := HU.out.s.r.net.sl
   obtain ⟨bL, oL, hAL, hbsL, e0, e1⟩ := HU.out.s.r.links.at_ (j := k) (by rw [HLEa.out]; exact hlk)
   subst hAL
   simp only [HLXa.out] at e0 e1
   obtain ⟨t0, t1, t2, t3, t4, t5, tf⟩ := qaa HU.out.box
   have lp := qai HU.out.box
   have hkla : (k : Int) < (y.links.length : Int) := by rw [HLEa.out]; exact hki2
   go_wp2_with fail
   have d0 : wr2.drew.cell? ⟨w.heap.size, 0, none⟩ = _ := t0
   have d1 : wr2.drew.cell? ⟨w.heap.size, 1, none⟩ = _ := t1
   have d2 : wr2.drew.cell? ⟨w.heap.size, 2, none⟩ = _ := t2
   have d3 : wr2.drew.cell? ⟨w.heap.size, 3, none⟩ = _ := t3
   have d4 : wr2.drew.cell? ⟨w.heap.size, 4, none⟩ = _ := t4
   have d5 : wr2.drew.cell? ⟨w.heap.size, 5, none⟩ = _ := t5
   have d6 : wr2.drew.cell? ⟨bL, oL + k * 2, none⟩ = _ := e0
   have d7 : wr2.drew.cell? ⟨bL, oL + k * 2 + 1, none⟩ = _ := e1
   refine qci (fun w' => w'.cell? ⟨w.heap.size, 0, none⟩ = some (.int .i64 y.sec) ∧ w'.cell? ⟨w.heap.size, 1, none⟩ = some (.int .i64 y.bad) ∧ w'.cell? ⟨w.heap.size, 2, none⟩ = some (.slice yA y.feeds.length yc) ∧ w'.cell? ⟨w.heap.size, 3, none⟩ = some (.slice (some ⟨bL, oL, none⟩) y.links.length lc) ∧ w'.cell? ⟨w.heap.size, 4, none⟩ = some (.slice kA y.asked.length kc) ∧ w'.cell? ⟨w.heap.size, 5, none⟩ = some (.slice mA y.net.length mc) ∧ w'.cell? ⟨bL, oL + k * 2, none⟩ = some (.int .i64 (i : Int)) ∧ w'.cell? ⟨bL, oL + k * 2 + 1, none⟩ = some (.int .i64 (j : Int))) 14 (by kernel_rfl) ⟨d0, d1, d2, d3, d4, d5, d6, d7⟩ (fun hS hT => ?_)
   refine qaf (i := 0) (v := ?_) hT rfl (by kernel_rfl) (fun _ _ _ h => h) (Or.inl ⟨by rfl, ?_⟩) hS ?_
   rotate_left
   · intro w_ hSw; (try dsimp only at hSw); go_simp; try with_reducible rfl
   clear hT; intro hT
   refine qaf (i := 1) (v := ?_) hT rfl (by kernel_rfl) (fun _ _ _ h => h) (Or.inl ⟨by rfl, ?_⟩) hS ?_
   rotate_left
   · intro w_ hSw; (try dsimp only at hSw); go_simp; try with_reducible rfl
   clear hT; intro hT
   refine qaf (i := 2) (v := ?_) hT rfl (by kernel_rfl) (fun _ _ _ h => h) (Or.inl ⟨by rfl, ?_⟩) hS ?_
   rotate_left
   · intro w_ hSw; (try dsimp only at hSw); go_simp; try with_reducible rfl
   clear hT; intro hT
   refine qaf (i := 3) (v := ?_) hT rfl (by kernel_rfl) (fun _ _ _ h => h) (Or.inl ⟨by rfl, ?_⟩) hS ?_
   rotate_left
   · intro w_ hSw; (try dsimp only at hSw); go_simp; try with_reducible rfl
   clear hT; intro hT
   refine qaf (i := 4) (v := ?_) hT rfl (by kernel_rfl) (fun _ _ _ h => h) (Or.inl ⟨by rfl, ?_⟩) hS ?_
   rotate_left
   · intro w_ hSw; (try dsimp only at hSw); go_simp; try with_reducible rfl
   clear hT; intro hT
   refine qaf (i := 5) (v := ?_) hT rfl (by kernel_rfl) (fun _ _ _ h => h) (Or.inl ⟨by rfl, ?_⟩) hS ?_
   rotate_left
   · intro w_ hSw; (try dsimp only at hSw); go_simp; try with_reducible rfl
   clear hT; intro hT
   refine qaf (i := 6) (v := ?_) hT rfl (by kernel_rfl) (fun _ _ _ h => h) (Or.inl ⟨by rfl, ?_⟩) hS ?_
   rotate_left
   · intro w_ hSw; (try dsimp only at hSw); go_simp; try with_reducible rfl
   clear hT; intro hT
   refine qaf (i := 7) (v := ?_) hT rfl (by kernel_rfl) (fun _ _ _ h => h) (Or.inl ⟨by rfl, ?_⟩) hS ?_
   rotate_left
   · intro w_ hSw; (try dsimp only at hSw); go_simp; try with_reducible rfl
   clear hT; intro hT
   refine qaf (i := 8) (v := ?_) hT rfl (by kernel_rfl) (fun _ _ _ h => h) (Or.inl ⟨by rfl, ?_⟩) hS ?_
   rotate_left
   · intro w_ hSw; (try dsimp only at hSw); go_simp; try with_reducible rfl
   clear hT; intro hT
   refine qaf (i := 9) (v := ?_) hT rfl (by kernel_rfl) (fun _ _ _ h => h) (Or.inl ⟨by rfl, ?_⟩) hS ?_
   rotate_left
   · intro w_ hSw; (try dsimp only at hSw); go_simp; try with_reducible rfl
   clear hT; intro hT
   refine qaf (i := 10) (v := ?_) hT rfl (by kernel_rfl) (fun _ _ _ h => h) (Or.inl ⟨by rfl, ?_⟩) hS ?_
   rotate_left
   · intro w_ hSw; (try dsimp only at hSw); go_simp; try with_reducible rfl
   clear hT; intro hT
   refine qaf (i := 11) (v := ?_) hT rfl (by kernel_rfl) (fun _ _ _ h => h) (Or.inl ⟨by rfl, ?_⟩) hS ?_
   rotate_left
   · intro w_ hSw; (try dsimp only at hSw); go_simp; try with_reducible rfl
   clear hT; intro hT
   refine qaf (i := 12) (v := ?_) hT rfl (by kernel_rfl) (fun _ _ _ h => h) (Or.inl ⟨by rfl, ?_⟩) hS ?_
   rotate_left
   · intro w_ hSw; (try dsimp only at hSw); go_simp; try with_reducible rfl
   clear hT; intro hT
   refine qba (i := 13) hT rfl (by kernel_rfl) (by omega) (fun K1 hK1 => ?_)
   go_simp
   go_wp2_with
    (go_at_call 72; refine (qiq y i j _ _ _ _ _ (HU.out.s.below (qac (bR_ _ _))) HCT.out.wv (by have := HIJ.out.1; omega) (by have := HIJ.out; omega) HIJ.out.2 HL1.out.1).mono ?_
     rintro e wr2x ⟨uF, uL, uA, uN, rfl, hs9, hb9⟩
     have hb9' : Below wr2.heap.size wr2 wr2x := (qac (bR_ _ _)).trans hb9
     have HSXa := hI_ (HU.out.below hb9')
     have HS9a := hI_ hs9
     obtain ⟨uFA, uFc, rfl⟩ := hs9.r.feeds.sl
     obtain ⟨uLA, uLc, rfl⟩ := hs9.r.links.sl
     obtain ⟨uAA, uAc, rfl⟩ := hs9.r.asked.sl
     obtain ⟨uNA, uNc, rfl⟩ := hs9.r.net.sl
     obtain ⟨x0, x1, x2, x3, x4, x5, xf⟩ := qaa HSXa.out.box
     have x6 := (hb9'.cell (p := ⟨bL, oL + k * 2, none⟩) hbsL).trans e0
     have x7 := (hb9'.cell (p := ⟨bL, oL + k * 2 + 1, none⟩) hbsL).trans e1)
   refine hK1.out _ _ ⟨x0, x1, x2, x3, x4, x5, x6, x7⟩ (fun hT => ?_)
   refine qch rfl (by kernel_rfl) (by kernel_rfl) (fun K2 hK2 => ?_)
   go_simp
   have hS9 := HSXa.out.set HS9a.out
   obtain ⟨wr2z, HWza⟩ : ∃ W, Hid (((((((wr2x.setCell ⟨w.heap.size, 0, none⟩ (.int .i64 (qa5 y i j).sec)).setCell ⟨w.heap.size, 1, none⟩ (.int .i64 (qa5 y i j).bad)).setCell ⟨w.heap.size, 2, none⟩ (.slice uFA (qa5 y i j).feeds.length uFc)).setCell ⟨w.heap.size, 3, none⟩ (.slice uLA (qa5 y i j).links.length uLc)).setCell ⟨w.heap.size, 4, none⟩ (.slice uAA (qa5 y i j).asked.length uAc)).setCell ⟨w.heap.size, 5, none⟩ (.slice uNA (qa5 y i j).net.length uNc)) = W) := ⟨_, hI_ rfl⟩
   rw [HWza.out] at hS9
   rw [HWza.out]
   refine hK2.out _ _ ?_
   have HSNa := hI_ hS9
   clear t0 t1 t2 t3 t4 t5 tf d0 d1 d2 d3 d4 d5 d6 d7 e0 e1 x0 x1 x2 x3 x4 x5 xf x6 x7 hS hT hS9 hs9 hb9 hb9' lp hbsL hkla
   clear hK1 hK2
   obtain ⟨bL, oL, hAL, hbsL, e0, e1⟩ := HSNa.out.s.r.links.at_ (j := k) (by rw [HLEb.out]; exact hlk)
   subst hAL
   simp only [HLXb.out] at e0 e1
   obtain ⟨t0, t1, t2, t3, t4, t5, tf⟩ := qaa HSNa.out.box
   have lp := qai HSNa.out.box
   have hklb : (k : Int) < ((qa5 y i j).links.length : Int) := by rw [HLEb.out]; exact hki2
   go_wp2_with fail
   have d0 : wr2z.drew.cell? ⟨w.heap.size, 0, none⟩ = _ := t0
   have d1 : wr2z.drew.cell? ⟨w.heap.size, 1, none⟩ = _ := t1
   have d2 : wr2z.drew.cell? ⟨w.heap.size, 2, none⟩ = _ := t2
   have d3 : wr2z.drew.cell? ⟨w.heap.size, 3, none⟩ = _ := t3
   have d4 : wr2z.drew.cell? ⟨w.heap.size, 4, none⟩ = _ := t4
   have d5 : wr2z.drew.cell? ⟨w.heap.size, 5, none⟩ = _ := t5
   have d6 : wr2z.drew.cell? ⟨bL, oL + k * 2, none⟩ = _ := e0
   have d7 : wr2z.drew.cell? ⟨bL, oL + k * 2 + 1, none⟩ = _ := e1
   refine qci (fun w' => w'.cell? ⟨w.heap.size, 0, none⟩ = some (.int .i64 (qa5 y i j).sec) ∧ w'.cell? ⟨w.heap.size, 1, none⟩ = some (.int .i64 (qa5 y i j).bad) ∧ w'.cell? ⟨w.heap.size, 2, none⟩ = some (.slice uFA (qa5 y i j).feeds.length uFc) ∧ w'.cell? ⟨w.heap.size, 3, none⟩ = some (.slice (some ⟨bL, oL, none⟩) (qa5 y i j).links.length uLc) ∧ w'.cell? ⟨w.heap.size, 4, none⟩ = some (.slice uAA (qa5 y i j).asked.length uAc) ∧ w'.cell? ⟨w.heap.size, 5, none⟩ = some (.slice uNA (qa5 y i j).net.length uNc) ∧ w'.cell? ⟨bL, oL + k * 2, none⟩ = some (.int .i64 (i : Int)) ∧ w'.cell? ⟨bL, oL + k * 2 + 1, none⟩ = some (.int .i64 (j : Int))) 14 (by kernel_rfl) ⟨d0, d1, d2, d3, d4, d5, d6, d7⟩ (fun hS hT => ?_)
   refine qaf (i := 0) (v := ?_) hT rfl (by kernel_rfl) (fun _ _ _ h => h) (Or.inl ⟨by rfl, ?_⟩) hS ?_
   rotate_left
   · intro w_ hSw; (try dsimp only at hSw); go_simp; try with_reducible rfl
   clear hT; intro hT
   refine qaf (i := 1) (v := ?_) hT rfl (by kernel_rfl) (fun _ _ _ h => h) (Or.inl ⟨by rfl, ?_⟩) hS ?_
   rotate_left
   · intro w_ hSw; (try dsimp only at hSw); go_simp; try with_reducible rfl
   clear hT; intro hT
   refine qaf (i := 2) (v := ?_) hT rfl (by kernel_rfl) (fun _ _ _ h => h) (Or.inl ⟨by rfl, ?_⟩) hS ?_
   rotate_left
   · intro w_ hSw; (try dsimp only at hSw); go_simp; try with_reducible rfl
   clear hT; intro hT
   refine qaf (i := 3) (v := ?_) hT rfl (by kernel_rfl) (fun _ _ _ h => h) (Or.inl ⟨by rfl, ?_⟩) hS ?_
   rotate_left
   · intro w_ hSw; (try dsimp only at hSw); go_simp; try with_reducible rfl
   clear hT; intro hT
   refine qaf (i := 4) (v := ?_) hT rfl (by kernel_rfl) (fun _ _ _ h => h) (Or.inl ⟨by rfl, ?_⟩) hS ?_
   rotate_left
   · intro w_ hSw; (try dsimp only at hSw); go_simp; try with_reducible rfl
   clear hT; intro hT
   refine qaf (i := 5) (v := ?_) hT rfl (by kernel_rfl) (fun _ _ _ h => h) (Or.inl ⟨by rfl, ?_⟩) hS ?_
   rotate_left
   · intro w_ hSw; (try dsimp only at hSw); go_simp; try with_reducible rfl
   clear hT; intro hT
   refine qaf (i := 6) (v := ?_) hT rfl (by kernel_rfl) (fun _ _ _ h => h) (Or.inl ⟨by rfl, ?_⟩) hS ?_
   rotate_left
   · intro w_ hSw; (try dsimp only at hSw); go_simp; try with_reducible rfl
   clear hT; intro hT
   refine qaf (i := 7) (v := ?_) hT rfl (by kernel_rfl) (fun _ _ _ h => h) (Or.inl ⟨by rfl, ?_⟩) hS ?_
   rotate_left
   · intro w_ hSw; (try dsimp only at hSw); go_simp; try with_reducible rfl
   clear hT; intro hT
   refine qaf (i := 8) (v := ?_) hT rfl (by kernel_rfl) (fun _ _ _ h => h) (Or.inl ⟨by rfl, ?_⟩) hS ?_
   rotate_left
   · intro w_ hSw; (try dsimp only at hSw); go_simp; try with_reducible rfl
   clear hT; intro hT
   refine qaf (i := 9) (v := ?_) hT rfl (by kernel_rfl) (fun _ _ _ h => h) (Or.inl ⟨by rfl, ?_⟩) hS ?_
   rotate_left
   · intro w_ hSw; (try dsimp only at hSw); go_simp; try with_reducible rfl
   clear hT; intro hT
   refine qaf (i := 10) (v := ?_) hT rfl (by kernel_rfl) (fun _ _ _ h => h) (Or.inl ⟨by rfl, ?_⟩) hS ?_
   rotate_left
   · intro w_ hSw; (try dsimp only at hSw); go_simp; try with_reducible rfl
   clear hT; intro hT
   refine qaf (i := 11) (v := ?_) hT rfl (by kernel_rfl) (fun _ _ _ h => h) (Or.inl ⟨by rfl, ?_⟩) hS ?_
   rotate_left
   · intro w_ hSw; (try dsimp only at hSw); go_simp; try with_reducible rfl
   clear hT; intro hT
   refine qaf (i := 12) (v := ?_) hT rfl (by kernel_rfl) (fun _ _ _ h => h) (Or.inl ⟨by rfl, ?_⟩) hS ?_
   rotate_left
   · intro w_ hSw; (try dsimp only at hSw); go_simp; try with_reducible rfl
   clear hT; intro hT
   refine qba (i := 13) hT rfl (by kernel_rfl) (by omega) (fun K1 hK1 => ?_)
   go_simp
   go_wp2_with
    (go_at_call 72; refine (qiq (qa5 y i j) j i _ _ _ _ _ (HSNa.out.s.below (qac (bR_ _ _))) HC1.out.wv (by have := HIJ.out.1; omega) (by rw [HC1.out.n]; exact HIJ.out.2) (by rw [HC1.out.n]; have := HIJ.out; omega) (by rw [qf3 HC1.out.links]; exact HL1.out.2)).mono ?_
     rintro e wr2zx ⟨uF, uL, uA, uN, rfl, hs9, hb9⟩
     have hb9' : Below wr2z.heap.size wr2z wr2zx := (qac (bR_ _ _)).trans hb9
     have HSXb := hI_ (HSNa.out.below hb9')
     have HS9b := hI_ hs9
     obtain ⟨qFA, qFc, rfl⟩ := hs9.r.feeds.sl
     obtain ⟨qLA, qLc, rfl⟩ := hs9.r.links.sl
     obtain ⟨qAA, qAc, rfl⟩ := hs9.r.asked.sl
     obtain ⟨qNA, qNc, rfl⟩ := hs9.r.net.sl
     obtain ⟨x0, x1, x2, x3, x4, x5, xf⟩ := qaa HSXb.out.box
     have x6 := (hb9'.cell (p := ⟨bL, oL + k * 2, none⟩) hbsL).trans e0
     have x7 := (hb9'.cell (p := ⟨bL, oL + k * 2 + 1, none⟩) hbsL).trans e1)
   refine hK1.out _ _ ⟨x0, x1, x2, x3, x4, x5, x6, x7⟩ (fun hT => ?_)
   refine qch rfl (by kernel_rfl) (by kernel_rfl) (fun K2 hK2 => ?_)
   go_simp
   have hS9 := HSXb.out.set HS9b.out
   obtain ⟨wr2zz, HWzb⟩ : ∃ W, Hid (((((((wr2zx.setCell ⟨w.heap.size, 0, none⟩ (.int .i64 (qa5 (qa5 y i j) j i).sec)).setCell ⟨w.heap.size, 1, none⟩ (.int .i64 (qa5 (qa5 y i j) j i).bad)).setCell ⟨w.heap.size, 2, none⟩ (.slice qFA (qa5 (qa5 y i j) j i).feeds.length qFc)).setCell ⟨w.heap.size, 3, none⟩ (.slice qLA (qa5 (qa5 y i j) j i).links.length qLc)).setCell ⟨w.heap.size, 4, none⟩ (.slice qAA (qa5 (qa5 y i j) j i).asked.length qAc)).setCell ⟨w.heap.size, 5, none⟩ (.slice qNA (qa5 (qa5 y i j) j i).net.length qNc)) = W) := ⟨_, hI_ rfl⟩
   rw [HWzb.out] at hS9
   rw [HWzb.out]
   refine hK2.out _ _ ?_
   have HSNb := hI_ hS9
   clear t0 t1 t2 t3 t4 t5 tf d0 d1 d2 d3 d4 d5 d6 d7 e0 e1 x0 x1 x2 x3 x4 x5 xf x6 x7 hS hT hS9 hs9 hb9 hb9' lp hbsL hklb
   clear hK1 hK2
   go_wp2_with fail
   go_roundw
   case rel => exact ⟨k + 1, _, _, _, _, by omega, by go_num, by rw [HSNX.out]; exact HSNb.out⟩
   case measure => simp [intOf]; omega
end Go.Proofs.YtcplnfmcefkehaaGreat
