/- Walk: a block in transit is delivered or lost. No condition but the weak invariant. -/
import Derived.Test.YtcplnfmcefkehaaGreatCC
import Derived.Test.YtcplnfmcefkehaaGreatCD
set_option linter.unusedVariables false
set_option linter.unusedSimpArgs false
namespace Go.Proofs.YtcplnfmcefkehaaGreat
open Go.RowKit
attribute [local go_sem ↓] Go.wp_at_zero Go.wp_at_succ

theorem qck {W : World} {q : Nat} {x0 x1 x2 x3 x4 : Value} {t : TypeId} (h : W.heap[q]? = some (.cells #[x0, x1, x2, x3, x4] t (0, 0))) : W.cell? ⟨q, 0, none⟩ = some x0 ∧ W.cell? ⟨q, 1, none⟩ = some x1 ∧ W.cell? ⟨q, 2, none⟩ = some x2 ∧ W.cell? ⟨q, 3, none⟩ = some x3 ∧ W.cell? ⟨q, 4, none⟩ = some x4 ∧ ∀ o, W.frozen? ⟨q, o, none⟩ = false :=
 ⟨cell_of_row _ _ 0 _ _ _ h, cell_of_row _ _ 1 _ _ _ h, cell_of_row _ _ 2 _ _ _ h, cell_of_row _ _ 3 _ _ _ h, cell_of_row _ _ 4 _ _ _ h, fun o => by simp [World.frozen?, h]⟩
theorem WI.erase {K : Nat} {x : Wd} (h : WI K x) (k : Nat) : WI K { x with net := x.net.eraseIdx k } := by
 refine ⟨h.sec, h.n1, h.n6, h.na, h.pub, h.whole, h.fv, h.links, h.ask, h.nl, ?_, fun j hj => ?_⟩
 · have := h.net; have := List.length_eraseIdx_le x.net k; show (x.net.eraseIdx k).length ≤ 12; omega
 · have hm : (x.net.eraseIdx k)[j] ∈ x.net := (List.eraseIdx_sublist x.net k).subset (List.getElem_mem hj)
   obtain ⟨i, hi, he⟩ := List.mem_iff_getElem.1 hm
   have := h.pcs i hi
   rw [he] at this
   exact this
def qnh (W0 : World) (q : Nat) (ps : List Pc) (wx : World) : Prop := ∃ W8 A c, wx = W8.setCell ⟨q, 5, none⟩ (.slice A ps.length c) ∧ qbg W0 W8 (.slice A ps.length c) ps ∧ Below W0.heap.size W0 W8
theorem qiD {W0 W8 : World} {q : Nat} {ps qs : List Pc} {A : Option Addr} {n c : Nat} (hn : qs.length = n) (he : qs = ps) (h : qbg W0 W8 (.slice A n c) qs) (hb : Below W0.heap.size W0 W8) : qnh W0 q ps (W8.setCell ⟨q, 5, none⟩ (.slice A n c)) := by
 subst hn; subst he; exact ⟨_, _, _, rfl, h, hb⟩
theorem qiR {x : Wd} {p : Pc} (h : (!qc8 (x.asks p.to_) (p.fr, p.idx) || (x.feed p.to_).hd.len != p.len) = true) : qd2 x p = x := by unfold qd2; rw [if_pos h]
theorem qkZ {x : Wd} {p : Pc} {f : Fd} {ok : Bool} (h : (!qc8 (x.asks p.to_) (p.fr, p.idx) || (x.feed p.to_).hd.len != p.len) = false) (h2 : qes (x.feed p.to_) p.idx p.txt p.prf = (f, ok)) :
 qd2 x p = if ok then { x with feeds := x.feeds.set p.to_.toNat f, asked := x.asked.set p.to_.toNat (qhJ (x.asks p.to_) (p.fr, p.idx)) } else { x with asked := x.asked.set p.to_.toNat (qeg (x.asks p.to_) p.fr) } := by
 unfold qd2; rw [if_neg (by rw [h]; simp), h2]
theorem qdM.putT {B g n cap x : Nat} {w : World} {fs : List Fd} (h : qdM B w (.slice (some ⟨g, 0, none⟩) n cap) fs x) (hx : x < fs.length) {f : Fd} {vb vh : Value} (hf : Stb LB (fun w => qaU w f vb vh) w) :
 Stb LTF (fun w => qa6 w (.slice (some ⟨g, 0, none⟩) n cap) (fs.set x f)) ((((((w.setCell ⟨g, x * 6, none⟩ (.int .i64 f.pub)).setCell ⟨g, x * 6 + 1, none⟩ (.int .i64 f.hd.len)).setCell ⟨g, x * 6 + 2, none⟩ (.int .i64 f.hd.dg)).setCell ⟨g, x * 6 + 3, none⟩ (.int .i64 f.hd.sg)).setCell ⟨g, x * 6 + 4, none⟩ vb).setCell ⟨g, x * 6 + 5, none⟩ vh) := by
 obtain ⟨F, h1, h2⟩ := h
 obtain ⟨_, _, he⟩ := h1.rn.sl
 obtain rfl : n = fs.length := by injection he
 obtain ⟨G, h3, h4, k0, k1, k2, k3, k4, k5, k6⟩ := h1.put6' hx (.int .i64 f.pub) (.int .i64 f.hd.len) (.int .i64 f.hd.dg) (.int .i64 f.hd.sg) vb vh
 obtain ⟨cur, fr, hty⟩ := h1.row g rfl
 have hk : qaA LB w _ := qaA.of_grown h4 (fun r hr => by cases hr; exact ⟨cur, _, fr, hty, by decide⟩)
 intro w2 hk2
 have h5 := h3.keepT hk2 (by decide)
 refine ⟨G, by rw [List.length_set]; exact h5.rn, fun j hj => ?_⟩
 rw [List.length_set] at hj
 by_cases hjx : j = x
 · subst hjx
   rw [List.getElem_set_self, k0, k1, k2, k3, k4, k5]
   exact ⟨rfl, rfl, rfl, rfl, (hf.next hk) w2 (hk2.mono (by decide))⟩
 · rw [List.getElem_set_ne (Ne.symm hjx), k6 _ (by omega), k6 _ (by omega), k6 _ (by omega), k6 _ (by omega), k6 _ (by omega), k6 _ (by omega)]
   obtain ⟨g0, g1, g2, g3, g4⟩ := h2 j hj hjx
   exact ⟨g0, g1, g2, g3, (g4.next hk) w2 (hk2.mono (by decide))⟩
theorem WdC.putFA {B gF gA j nF cF nA cA : Nat} {W W13 w14 : World} {x : Wd} {vL vN u : Value} {f : Fd} {vb vh : Value} {l : List (Int × Int)} (h : WdC B W x (.slice (some ⟨gF, 0, none⟩) nF cF) vL (.slice (some ⟨gA, 0, none⟩) nA cA) vN) (hj : j < x.feeds.length) (hj2 : j < x.asked.length)
 (hf : Stb LB (fun w => qaU w f vb vh) W) (hW : ((((((W.setCell ⟨gF, j * 6, none⟩ (.int .i64 f.pub)).setCell ⟨gF, j * 6 + 1, none⟩ (.int .i64 f.hd.len)).setCell ⟨gF, j * 6 + 2, none⟩ (.int .i64 f.hd.dg)).setCell ⟨gF, j * 6 + 3, none⟩ (.int .i64 f.hd.sg)).setCell ⟨gF, j * 6 + 4, none⟩ vb).setCell ⟨gF, j * 6 + 5, none⟩ vh) = W13)
 (hb : Below W13.heap.size W13 w14) (hu : Stb LQ (fun w => RP w u l) w14) :
 WdS (w14.setCell ⟨gA, j, none⟩ u) { x with feeds := x.feeds.set j f, asked := x.asked.set j l } (.slice (some ⟨gF, 0, none⟩) nF cF) vL (.slice (some ⟨gA, 0, none⟩) nA cA) vN := by
 obtain ⟨curF, htyF⟩ := h.feeds.ty
 have hF := (h.feeds.toX j).putT hj hf
 have hA := h.asked.next (qb1 (o := j * 6) htyF (by decide) (.int .i64 f.pub) (.int .i64 f.hd.len) (.int .i64 f.hd.dg) (.int .i64 f.hd.sg) vb vh)
 have hL := h.links.next (T := [52]) (qb1 (o := j * 6) htyF (by decide) (.int .i64 f.pub) (.int .i64 f.hd.len) (.int .i64 f.hd.dg) (.int .i64 f.hd.sg) vb vh) (by decide)
 have hN := h.net.next (qb1 (o := j * 6) htyF (by decide) (.int .i64 f.pub) (.int .i64 f.hd.len) (.int .i64 f.hd.dg) (.int .i64 f.hd.sg) vb vh)
 rw [hW] at hF hA hL hN
 have hF2 := hF.next (qaA.of_below hb)
 have hA2 := hA.next (qaA.of_below hb)
 have hL2 := hL.next (T := [52]) (qaA.of_below hb) (by decide)
 have hN2 := hN.next (qaA.of_below hb)
 obtain ⟨curA, htyA⟩ := hA2.ty
 exact WdS.of ((hF2.next (qaA.set1 htyA (by decide) u)).mono qi1) ((hL2.next (T := [52]) (qaA.set1 htyA (by decide) u) (by decide)).stb (by decide)) (hA2.put hj2 hu) (hN2.next (qaA.set1 htyA (by decide) u)).stb
theorem qnr {l r : List (Int × Int)} {a : Int × Int} (h : Hid (qhJ l a = r)) (v : Value) (w : World) (hv : RP w v l) (hl : l.length ≤ 1000000) : Calls Tryz.prog 202 #[v, .agg #[.int .i64 a.1, .int .i64 a.2]] w (qgC r w) := by
 rw [← h.out]; exact qi9 l a v w hv hl
theorem qmu {l r : List (Int × Int)} {p : Int} (h : Hid (qeg l p = r)) (v : Value) (w : World) (hv : RP w v l) (hl : l.length ≤ 1000000) : Calls Tryz.prog 203 #[v, .int .i64 p] w (qgC r w) := by
 rw [← h.out]; exact qhX l p v w hv hl
theorem qgB {f o : Fd} {i : Int} {t : ByteArray} {proof : List Int} {ok : Bool} (h : Hid (qes f i t proof = (o, ok))) (vb vh pv : Value) (w : World) (hf : qaU w f vb vh) (ht : t.size ≤ maxLen) (hp : RI w pv proof) :
 Calls Tryz.prog 145 #[.agg #[.int .i64 f.pub, .int .i64 f.hd.len, .int .i64 f.hd.dg, .int .i64 f.hd.sg, vb, vh], .int .i64 i, .string t, pv] w (qg9 o ok w) := by
 have := qk6 f i t proof vb vh pv w hf ht hp
 rw [h.out] at this
 exact this
theorem qcu {k gb m i : Nat} {w : World} {u : Value} (hk : k ≠ gb) : (w.setCell ⟨gb, m, none⟩ u).cell? ⟨k, i, none⟩ = w.cell? ⟨k, i, none⟩ := World.cell?_of_block (Below.heap_setCell _ _ _ _ hk)
theorem qkF {q g o : Nat} {w : World} (h : q ≠ g) (x0 x1 x2 x3 x4 x5 : Value) : ((((((w.setCell ⟨g, o, none⟩ x0).setCell ⟨g, o + 1, none⟩ x1).setCell ⟨g, o + 2, none⟩ x2).setCell ⟨g, o + 3, none⟩ x3).setCell ⟨g, o + 4, none⟩ x4).setCell ⟨g, o + 5, none⟩ x5).heap[q]? = w.heap[q]? :=
 (Below.heap_setCell _ _ _ _ h).trans ((Below.heap_setCell _ _ _ _ h).trans ((Below.heap_setCell _ _ _ _ h).trans ((Below.heap_setCell _ _ _ _ h).trans ((Below.heap_setCell _ _ _ _ h).trans (Below.heap_setCell _ _ _ _ h)))))
def qk9 (B : Nat) (W wx : World) (f : Fd) (ok : Bool) (s9 s10 : Value) : Prop := ∃ y vb vh, s9 = .pointer (some ⟨y, 0, none⟩) ∧ s10 = .bool ok ∧ FB B y wx f vb vh ∧ Below B W wx ∧ B ≤ y
theorem qmU {B : Nat} {W w : World} {f : Fd} {c : Bool} {vb vh : Value} {D : Nat} (hf : qaK D w f vb vh) (hD : B ≤ D) (hb : Below B W w) (hB : B ≤ w.heap.size) :
 qk9 B W (w.alloc (.cells #[.int .i64 f.pub, .int .i64 f.hd.len, .int .i64 f.hd.dg, .int .i64 f.hd.sg, vb, vh] 59)) f c (.pointer (some ⟨w.heap.size, 0, none⟩)) (.bool c) :=
 ⟨_, vb, vh, rfl, rfl, FB.made (hf.mono hD), hb.alloc hB _, hB⟩
theorem qmV {B y : Nat} {W w : World} {f : Fd} {c : Bool} {vb vh x0 x1 x2 x3 x4 x5 : Value} {D : Nat} (hf : qaK D w f vb vh) (hD : y < D) (hb : Below B W w) (hy : w.heap[y]? = some (.cells #[x0, x1, x2, x3, x4, x5] 59 (0, 0))) (hB : B ≤ y) :
 qk9 B W ((((((w.setCell ⟨y, 0, none⟩ (.int .i64 f.pub)).setCell ⟨y, 1, none⟩ (.int .i64 f.hd.len)).setCell ⟨y, 2, none⟩ (.int .i64 f.hd.dg)).setCell ⟨y, 3, none⟩ (.int .i64 f.hd.sg)).setCell ⟨y, 4, none⟩ vb).setCell ⟨y, 5, none⟩ vh) f c (.pointer (some ⟨y, 0, none⟩)) (.bool c) :=
 ⟨_, vb, vh, rfl, rfl, ⟨qcU hy _ _ _ _ _ _, (hf.set6 hD _ _ _ _ _ _).mono (by omega)⟩, qae hb hB _ _ _ _ _ _, hB⟩
set_option linter.unusedSimpArgs false in
set_option maxHeartbeats 6400000 in
set_option maxRecDepth 100000 in
theorem qjZ {K : Nat} (x : Wd) (kd a b c : Int) (t : ByteArray) (vF vL vA vN : Value) (w : World) (hx : WdS w x vF vL vA vN) (hw : WI K x) (hK : K ≤ 1000000) :
 Calls Tryz.prog 187 #[.agg #[.int .i64 x.sec, .int .i64 x.bad, vF, vL, vA, vN], .agg #[.int .i64 kd, .int .i64 a, .int .i64 b, .int .i64 c, .string t]] w (qhd w (qgz x a (kd == 8))) := by
 have HWI := hI_ hw
 have HKK := hI_ hK
 clear hw hK
 obtain ⟨s, bd, fs, ls, ks, ps⟩ := x
 obtain ⟨fA, fc, rfl⟩ := hx.r.feeds.sl
 obtain ⟨lA, lc, rfl⟩ := hx.r.links.sl
 obtain ⟨aA, ac, rfl⟩ := hx.r.asked.sl
 obtain ⟨nA, nc, rfl⟩ := hx.r.net.sl
 simp only at hx
 obtain ⟨W0, HW0⟩ : ∃ W0, Hid (((w.alloc (.cells #[.int .i64 s, .int .i64 bd, .slice fA fs.length fc, .slice lA ls.length lc, .slice aA ks.length ac, .slice nA ps.length nc] 35)).alloc (.cells #[.int .i64 kd, .int .i64 a, .int .i64 b, .int .i64 c, .string t] 144)).alloc (.cells #[.int .i64 0, .int .i64 0, .slice none 0 0, .slice none 0 0, .slice none 0 0, .slice none 0 0] 35) = W0) := ⟨_, hI_ rfl⟩
 have HB0 : Hid (Below w.heap.size w W0) := hI_ (by rw [← HW0.out]; exact qab (qab (qab (bR_ _ _) _) _) _)
 have hs0 : w.heap.size + 3 = W0.heap.size := by rw [← HW0.out]; simp
 have HP0 : Hid (W0.heap[w.heap.size]? = some (.cells #[.int .i64 s, .int .i64 bd, .slice fA fs.length fc, .slice lA ls.length lc, .slice aA ks.length ac, .slice nA ps.length nc] 35 (0, 0))) := hI_ (by rw [← HW0.out]; exact qau (qau (heap_alloc_new _ _)))
 have HE0 : Hid (W0.heap[w.heap.size + 1]? = some (.cells #[.int .i64 kd, .int .i64 a, .int .i64 b, .int .i64 c, .string t] 144 (0, 0))) := hI_ (by rw [← HW0.out]; exact qau (qbu (by simp)))
 have HZ0 : Hid (W0.heap[w.heap.size + 1 + 1]? = some (.cells #[.int .i64 0, .int .i64 0, .slice none 0 0, .slice none 0 0, .slice none 0 0, .slice none 0 0] 35 (0, 0))) := hI_ (by rw [← HW0.out]; exact qbu (by simp))
 have HX0 : Hid (WdS W0 ⟨s, bd, fs, ls, ks, ps⟩ (.slice fA fs.length fc) (.slice lA ls.length lc) (.slice aA ks.length ac) (.slice nA ps.length nc)) := hI_ (hx.below HB0.out)
 have hl0 : w.heap.size < W0.heap.size := by omega
 have hle : w.heap.size + 1 < W0.heap.size := by omega
 have hl1 : w.heap.size + 1 + 1 < W0.heap.size := by omega
 clear hx hs0
 obtain ⟨p0, p1, p2, p3, p4, p5, pf⟩ := qaa HP0.out
 obtain ⟨e0, e1, e2, e3, e4, ef⟩ := qck HE0.out
 have hnm : ps.length ≤ 12 := HWI.out.net
 obtain ⟨v, HV⟩ : ∃ v, Hid (inB a 0 ((ps.length : Int) - 1) = v) := ⟨_, hI_ rfl⟩
 cases v
 · have HR : Hid (qgz ⟨s, bd, fs, ls, ks, ps⟩ a (kd == 8) = ⟨s, bd, fs, ls, ks, ps⟩) := hI_ (by unfold qgz; rw [HV.out]; rfl)
   obtain ⟨z0, z1, z2, z3, z4, z5, zf⟩ := qaa HZ0.out
   go_enter Tryz.func187, Tryz.ntmps187
   go_wp2_with fail
   rw [HW0.out]
   go_wp2_with (go_at_call 85; refine (qbG HV _).mono ?_; rintro e w' ⟨rfl, rfl⟩)
   refine bodyPost_ret (v := .agg #[.int .i64 s, .int .i64 bd, .slice fA fs.length fc, .slice lA ls.length lc, .slice aA ks.length ac, .slice nA ps.length nc]) (by simp [results, Tryz.results187, go_sem, z0, z1, z2, z3, z4, z5]) rfl ?_
   rw [HR.out]
   exact ⟨_, _, _, _, rfl, HX0.out.set6 HZ0.out _ _ _ _ _ _, qae HB0.out (by omega) _ _ _ _ _ _⟩
 obtain ⟨k, rfl, hk⟩ : ∃ k : Nat, a = k ∧ k < ps.length := by
  have h := qak.1 HV.out
  exact ⟨a.toNat, by omega, by omega⟩
 obtain ⟨b2, o2, xp, hA, hb2, f0, f1, f2, f3, f4, f5, hst⟩ := ql1 HX0.out.net hk
 subst hA
 have HPC := hI_ (HWI.out.pcs k hk)
 simp only at HPC
 obtain ⟨⟨fr, to_, ln, ix, tx, pr⟩, HPK⟩ : ∃ p, Hid (ps[k] = p) := ⟨_, hI_ rfl⟩
 rw [HPK.out] at f0 f1 f2 f3 f4 hst HPC
 simp only at f0 f1 f2 f3 f4 hst HPC
 obtain ⟨xA, xc, rfl⟩ := R1.sl' hst.self
 have HST := hI_ hst
 have HRN := hI_ (qfa HX0.out.net)
 simp only at HRN
 have HWN : Hid (∀ lost, qgz ⟨s, bd, fs, ls, ks, ps⟩ k lost = if lost then ⟨s, bd, fs, ls, ks, ps.eraseIdx k⟩ else qd2 ⟨s, bd, fs, ls, ks, ps.eraseIdx k⟩ ⟨fr, to_, ln, ix, tx, pr⟩) := hI_ (by
  intro lost
  unfold qgz
  rw [HV.out]
  simp only [Int.toNat_natCast]
  rw [qam hk, HPK.out]; rfl)
 have HLK := hI_ hk
 have hki : (k : Int) < (ps.length : Int) := by omega
 have hk0 : (0 : Int) ≤ (k : Int) := by omega
 obtain ⟨W1, HW1⟩ : ∃ W1, Hid (W0.alloc (.cells #[.int .i64 fr, .int .i64 to_, .int .i64 ln, .int .i64 ix, .string tx, .slice xA pr.length xc] 72) = W1) := ⟨_, hI_ rfl⟩
 obtain ⟨g, hg⟩ : ∃ g, W0.heap.size = g := ⟨_, rfl⟩
 have hB1 : Below W0.heap.size W0 W1 := by rw [← HW1.out]; exact qab (bR_ _ _) _
 have HG1 : Hid (W1.heap[g]? = some (.cells #[.int .i64 fr, .int .i64 to_, .int .i64 ln, .int .i64 ix, .string tx, .slice xA pr.length xc] 72 (0, 0))) := hI_ (by rw [← HW1.out, ← hg]; exact heap_alloc_new _ _)
 have HP1 := hI_ ((hB1.block _ hl0).trans HP0.out)
 have HE1 := hI_ ((hB1.block _ hle).trans HE0.out)
 have HZ1 := hI_ ((hB1.block _ hl1).trans HZ0.out)
 have HX1 := hI_ (HX0.out.below hB1)
 have HB1 := hI_ (HB0.out.trans (hB1.mono (Nat.le_of_lt hl0)))
 have HST1 := hI_ (HST.out.next (qaA.of_below hB1))
 have lg1 : g < W1.heap.size := (Array.getElem?_eq_some_iff.1 HG1.out).1
 have lq1 : w.heap.size < W1.heap.size := (Array.getElem?_eq_some_iff.1 HP1.out).1
 have le1 : w.heap.size + 1 < W1.heap.size := (Array.getElem?_eq_some_iff.1 HE1.out).1
 have lz1 : w.heap.size + 1 + 1 < W1.heap.size := (Array.getElem?_eq_some_iff.1 HZ1.out).1
 have hgq : w.heap.size + 1 + 1 < g := by omega
 clear hst
 go_enter Tryz.func187, Tryz.ntmps187
 go_wp2_with fail
 rw [HW0.out]
 go_upto_region 4 with (go_at_call 85; refine (qbG HV _).mono ?_; rintro e w' ⟨rfl, rfl⟩)
 rw [HW1.out]
 clear p0 p1 p2 p3 p4 p5 pf e0 e1 e2 e3 e4 ef f0 f1 f2 f3 f4 f5 hB1 hl0 hle hl1
 go_cut [] (fun wx => qnh W1 w.heap.size (ps.eraseIdx k) wx)
 case first =>
  obtain ⟨H, hH1, hH2⟩ := HRN.out
  have hH2' : ∀ j (hj : j < ps.length), H (j * 6) = .int .i64 ps[j].fr ∧ H (j * 6 + 1) = .int .i64 ps[j].to_ ∧ H (j * 6 + 2) = .int .i64 ps[j].len ∧ H (j * 6 + 3) = .int .i64 ps[j].idx ∧ H (j * 6 + 4) = .string ps[j].txt ∧ Stb LT2 (fun w => RI w (H (j * 6 + 5)) ps[j].prf) W1 :=
   fun j hj => ⟨(hH2 j hj).1, (hH2 j hj).2.1, (hH2 j hj).2.2.1, (hH2 j hj).2.2.2.1, (hH2 j hj).2.2.2.2.1, (hH2 j hj).2.2.2.2.2.next (qaA.of_below (by rw [← HW1.out]; exact qab (bR_ _ _) _))⟩
  have hRN : RN 6 W1 (.slice (some ⟨b2, o2, none⟩) ps.length nc) ps.length H := hH1.below (by rw [← HW1.out]; exact qab (bR_ _ _) _)
  obtain ⟨_, _, hsl, hcap, hmx, _⟩ := hRN
  cases hsl
  have hnc := hcap.1
  unfold maxLen at hmx
  have hkl := HLK.out
  have hk1 : (k : Int) + 1 ≤ (ps.length : Int) := by omega
  have hkn : (ps.length : Int) ≤ (nc : Int) := by omega
  have hkc : (k : Int) ≤ (nc : Int) := by omega
  have hkc1 : (k : Int) + 1 ≤ (nc : Int) := by omega
  have hh0 : (0 : Int) ≤ (k : Int) + 1 := by omega
  have ht1 : ((k : Int) + 1).toNat = k + 1 := by omega
  have hltk : (ps.take k).length = k := by rw [List.length_take]; omega
  have HR1 : Hid (∀ W, Below W1.heap.size W1 W → RN 6 W (.slice (some ⟨b2, o2, none⟩) k nc) (ps.take k).length H) := hI_ fun W hW => by
   rw [hltk]; exact (RN.take_ (hH1.below (by rw [← HW1.out]; exact qab (bR_ _ _) _)) (by omega)).below hW
  have HF1 : Hid (∀ j (hj : j < (ps.take k).length), H (j * 6) = .int .i64 (ps.take k)[j].fr ∧ H (j * 6 + 1) = .int .i64 (ps.take k)[j].to_ ∧ H (j * 6 + 2) = .int .i64 (ps.take k)[j].len ∧ H (j * 6 + 3) = .int .i64 (ps.take k)[j].idx ∧ H (j * 6 + 4) = .string (ps.take k)[j].txt ∧ Stb LT2 (fun w => RI w (H (j * 6 + 5)) (ps.take k)[j].prf) W1) :=
   hI_ fun j hj => by rw [List.getElem_take]; exact hH2' j (by rw [hltk] at hj; omega)
  have hldr : (ps.drop (k + 1)).length = ps.length - (k + 1) := List.length_drop
  have HR2 : Hid (∀ W, Below W1.heap.size W1 W → RN 6 W (.slice (if nc = k + 1 then some ⟨b2, o2, none⟩ else some ⟨b2, o2 + (k + 1) * 6, none⟩) (ps.length - (k + 1)) (nc - (k + 1))) (ps.drop (k + 1)).length (fun t => H ((k + 1) * 6 + t))) := hI_ fun W hW => by
   rw [hldr]
   by_cases hlt : k + 1 < ps.length
   · rw [if_neg (by omega)]
     exact (RN.drop_ (hH1.below (by rw [← HW1.out]; exact qab (bR_ _ _) _)) hlt).below hW
   · have e0 : ps.length - (k + 1) = 0 := by omega
     rw [e0]
     refine ⟨_, _, rfl, ⟨Nat.zero_le _, fun h => ?_⟩, by unfold maxLen; omega, fun h => by omega⟩
     split at h <;> cases h
  have HF2 : Hid (∀ j (hj : j < (ps.drop (k + 1)).length), H ((k + 1) * 6 + j * 6) = .int .i64 (ps.drop (k + 1))[j].fr ∧ H ((k + 1) * 6 + (j * 6 + 1)) = .int .i64 (ps.drop (k + 1))[j].to_ ∧ H ((k + 1) * 6 + (j * 6 + 2)) = .int .i64 (ps.drop (k + 1))[j].len ∧ H ((k + 1) * 6 + (j * 6 + 3)) = .int .i64 (ps.drop (k + 1))[j].idx ∧ H ((k + 1) * 6 + (j * 6 + 4)) = .string (ps.drop (k + 1))[j].txt ∧ Stb LT2 (fun w => RI w (H ((k + 1) * 6 + (j * 6 + 5))) (ps.drop (k + 1))[j].prf) W1) :=
   hI_ fun j hj => by
    rw [List.getElem_drop, show (k + 1) * 6 + j * 6 = (k + 1 + j) * 6 by omega, show (k + 1) * 6 + (j * 6 + 1) = (k + 1 + j) * 6 + 1 by omega, show (k + 1) * 6 + (j * 6 + 2) = (k + 1 + j) * 6 + 2 by omega, show (k + 1) * 6 + (j * 6 + 3) = (k + 1 + j) * 6 + 3 by omega, show (k + 1) * 6 + (j * 6 + 4) = (k + 1 + j) * 6 + 4 by omega, show (k + 1) * 6 + (j * 6 + 5) = (k + 1 + j) * 6 + 5 by omega]
    exact hH2' (k + 1 + j) (by rw [hldr] at hj; omega)
  have HER : Hid (ps.take k ++ ps.drop (k + 1) = ps.eraseIdx k) := hI_ (List.eraseIdx_eq_take_drop_succ ps k).symm
  have HLE : Hid ((ps.take k).length + (ps.drop (k + 1)).length = (ps.take k ++ ps.drop (k + 1)).length) := hI_ (by rw [List.length_append])
  have HLT := hI_ hltk
  have HLD := hI_ hldr
  have h11 : Hid ((ps.take k).length ≤ 100000000000 ∧ (ps.take k).length + (ps.drop (k + 1)).length ≤ 100000000000) := hI_ ⟨by omega, by rw [List.length_drop]; omega⟩
  clear hltk hldr hH1 hH2 hH2' hcap hnc
  have hwrap : IntKind.i64.wrap ((k : Int) + 1) = (k : Int) + 1 := IntWalk.i64_in _ (by omega)
  obtain ⟨t0, t1, t2, t3, t4, t5, tf⟩ := qaa HP1.out
  obtain ⟨e0, e1, e2, e3, e4, ef⟩ := qck HE1.out
  clear t0 t1 t2 t3 t4 e0 e2 e3 e4 ef
  have hal : ∀ o, (W1.alloc o).cell? ⟨w.heap.size, 5, none⟩ = some (.slice (some ⟨b2, o2, none⟩) ps.length nc) := fun o => (Below.cell (B := W1.heap.size) (qab (bR_ _ _) o) lq1).trans t5
  by_cases hend : nc = k + 1
  · have hpl : ps.length = k + 1 := by omega
    have HR2 : Hid (∀ (m c : Nat) W, Below W1.heap.size W1 W → c ≤ maxLen → m = (ps.drop (k + 1)).length → RN 6 W (.slice (some ⟨b2, o2, none⟩) m c) (ps.drop (k + 1)).length (fun t => H ((k + 1) * 6 + t))) := hI_ fun m c W hW hc hm => by
     have e0 : ps.length - (k + 1) = 0 := by omega
     rw [← hm]
     have e1 : m = 0 := by rw [hm, HLD.out, e0]
     subst e1
     exact ⟨_, _, rfl, ⟨Nat.zero_le _, fun h => by cases h⟩, hc, fun h => by omega⟩
    clear hpl
    have hend2 : k + 1 = nc := hend.symm
    clear hend
    have u5a : ∀ o, (W1.alloc o).drew.cell? ⟨w.heap.size, 5, none⟩ = some (.slice (some ⟨b2, o2, none⟩) ps.length nc) := hal
    have b1 : W1.drew.cell? ⟨w.heap.size + 1, 1, none⟩ = some (.int .i64 (k : Int)) := (Below.cell (B := W1.heap.size) (qac (bR_ _ _)) le1).trans e1
    have b1a : ∀ o, (W1.alloc o).drew.cell? ⟨w.heap.size + 1, 1, none⟩ = some (.int .i64 (k : Int)) := fun o => (Below.cell (B := W1.heap.size) (qac (qab (bR_ _ _) o)) le1).trans e1
    refine qci (fun w' => w'.cell? ⟨w.heap.size + 1, 1, none⟩ = some (.int .i64 (k : Int)) ∧ w'.cell? ⟨w.heap.size, 5, none⟩ = some (.slice (some ⟨b2, o2, none⟩) ps.length nc)) 15 (by kernel_rfl) ⟨b1, (Below.cell (B := W1.heap.size) (qac (bR_ _ _)) lq1).trans t5⟩ (fun hS hT => ?_)
    refine qaf (i := 1) (v := ?_) hT rfl (by kernel_rfl) (fun _ _ _ h => h) (Or.inl ⟨by rfl, ?_⟩) hS ?_
    rotate_left
    · intro w_ hSw
      (try dsimp only at hSw)
      go_simp
      try with_reducible rfl
    clear hT
    intro hT
    refine qaf (i := 2) (v := ?_) hT rfl (by kernel_rfl) (fun _ _ _ h => h) (Or.inl ⟨by rfl, ?_⟩) hS ?_
    rotate_left
    · intro w_ hSw
      (try dsimp only at hSw)
      go_simp
      try with_reducible rfl
    clear hT
    intro hT
    refine qaf (i := 3) (v := ?_) hT rfl (by kernel_rfl) (fun _ _ _ h => h) (Or.inl ⟨by rfl, ?_⟩) hS ?_
    rotate_left
    · intro w_ hSw
      (try dsimp only at hSw)
      go_simp
      try with_reducible rfl
    clear hT
    intro hT
    refine qaf (i := 4) (v := ?_) hT rfl (by kernel_rfl) (fun _ _ _ h => h) (Or.inl ⟨by rfl, ?_⟩) hS ?_
    rotate_left
    · intro w_ hSw
      (try dsimp only at hSw)
      go_simp
      try with_reducible rfl
    clear hT
    intro hT
    refine qaf (i := 5) (v := ?_) hT rfl (by kernel_rfl) (fun _ _ _ h => h) (Or.inl ⟨by rfl, ?_⟩) hS ?_
    rotate_left
    · intro w_ hSw
      (try dsimp only at hSw)
      go_simp
      try with_reducible rfl
    clear hT
    intro hT
    refine qaf (i := 7) (v := ?_) hT rfl (by kernel_rfl) (fun _ _ _ h => h) (Or.inl ⟨by rfl, ?_⟩) hS ?_
    rotate_left
    · intro w_ hSw
      (try dsimp only at hSw)
      go_simp
      try with_reducible rfl
    clear hT
    intro hT
    refine qaf (i := 8) (v := ?_) hT rfl (by kernel_rfl) (fun _ _ _ h => h) (Or.inl ⟨by rfl, ?_⟩) hS ?_
    rotate_left
    · intro w_ hSw
      (try dsimp only at hSw)
      go_simp
      try with_reducible rfl
    clear hT
    intro hT
    refine qaf (i := 9) (v := ?_) hT rfl (by kernel_rfl) (fun _ _ _ h => h) (Or.inl ⟨by rfl, ?_⟩) hS ?_
    rotate_left
    · intro w_ hSw
      (try dsimp only at hSw)
      go_simp
      try with_reducible rfl
    clear hT
    intro hT
    refine qaf (i := 10) (v := ?_) hT rfl (by kernel_rfl) (fun _ _ _ h => h) (Or.inl ⟨by rfl, ?_⟩) hS ?_
    rotate_left
    · intro w_ hSw
      (try dsimp only at hSw)
      go_simp
      try with_reducible rfl
    clear hT
    intro hT
    refine qaf (i := 11) (v := ?_) hT rfl (by kernel_rfl) (fun _ _ _ h => h) (Or.inl ⟨by rfl, ?_⟩) hS ?_
    rotate_left
    · intro w_ hSw
      (try dsimp only at hSw)
      go_simp
      try with_reducible rfl
    clear hT
    intro hT
    refine qaf (i := 12) (v := ?_) hT rfl (by kernel_rfl) (fun _ _ _ h => h) (Or.inl ⟨by rfl, ?_⟩) hS ?_
    rotate_left
    · intro w_ hSw
      (try dsimp only at hSw)
      go_simp
      try with_reducible rfl
    clear hT
    intro hT
    refine qba (i := 0) hT rfl (by kernel_rfl) (by omega) (fun K1 hK1 => ?_)
    go_simp
    refine hK1.out _ _ (by first | exact ⟨b1a _, u5a _⟩ | exact ⟨by simp [b1], by simp [t5]⟩) (fun hT => ?_)
    refine qba (i := 6) hT rfl (by kernel_rfl) (by omega) (fun K2 hK2 => ?_)
    (refine qa9 (by rfl) ?_); (refine qey (W0 := W1) (ps2 := ps.take k) (by with_reducible repeat (first | exact at0 _ _ | refine qbI ?_ | refine qau ?_)) (by omega) (HR1.out _ (by with_reducible repeat (first | exact bR_ _ _ | exact hb06 | refine qab ?_ _ | refine qac ?_))) HF1.out h11.out.1 (Below.size (by with_reducible repeat (first | exact bR_ _ _ | exact hb06 | refine qab ?_ _ | refine qac ?_))) rfl rfl rfl ?_)
    intro A6 c6 w6 ho6 hg6 hk6
    have hb06 : Below W1.heap.size W1 w6 := Below.grown (by with_reducible repeat (first | exact bR_ _ _ | exact hb06 | refine qab ?_ _ | refine qac ?_)) hg6 (Below.size (by with_reducible repeat (first | exact bR_ _ _ | exact hb06 | refine qab ?_ _ | refine qac ?_))) (fun r hr => by cases hr; omega)
    have u5 := (hb06.cell (p := ⟨w.heap.size, 5, none⟩) lq1).trans t5
    have u1 := (hb06.cell (p := ⟨w.heap.size + 1, 1, none⟩) le1).trans e1
    obtain ⟨n6, hn6⟩ : ∃ n, n = (ps.take k).length := ⟨_, rfl⟩
    have HN6 : Hid (Value.slice A6 (ps.take k).length c6 = .slice A6 n6 c6) := hI_ (by rw [hn6])
    simp only [← hn6]
    clear hn6
    refine hK2.out _ _ ⟨u1, u5⟩ (fun hT => ?_)
    refine qba (i := 13) hT rfl (by kernel_rfl) (by omega) (fun K3 hK3 => ?_)
    (refine qa9 (by rfl) ?_); (refine qfe (W0 := W1) (ps := ps.take k) (ps2 := ps.drop (k + 1)) ho6 (HR2.out _ _ _ (by with_reducible repeat (first | exact bR_ _ _ | exact hb06 | refine qab ?_ _ | refine qac ?_)) (by simp) (by have := HLD.out; omega)) HF2.out h11.out.2 (Below.size (by with_reducible repeat (first | exact bR_ _ _ | exact hb06 | refine qab ?_ _ | refine qac ?_))) rfl HN6.out.symm rfl ?_)
    intro A8 c8 w8 ho8 hg8
    have hb08 : Below W1.heap.size W1 w8 := Below.grown (by with_reducible repeat (first | exact bR_ _ _ | exact hb06 | refine qab ?_ _ | refine qac ?_)) hg8 (Below.size (by with_reducible repeat (first | exact bR_ _ _ | exact hb06 | refine qab ?_ _ | refine qac ?_))) (fun r hr => (ho6.lt r hr).1)
    obtain ⟨n8, hn8⟩ : ∃ n, (ps.take k).length + (ps.drop (k + 1)).length = n := ⟨_, rfl⟩
    simp only [hn8] at ho8 ⊢
    obtain ⟨x0, x1, x2, x3, x4, x5, xf⟩ := qaa ((hb08.block _ lq1).trans HP1.out)
    obtain ⟨j0, j1, j2, j3, j4, jf⟩ := qck ((hb08.block _ le1).trans HE1.out)
    have y1 : (w8.setCell ⟨w.heap.size, 5, none⟩ (.slice A8 n8 c8)).cell? ⟨w.heap.size + 1, 1, none⟩ = some (.int .i64 (k : Int)) := (World.cell?_of_block (Below.heap_setCell _ _ _ _ (by show w.heap.size + 1 ≠ w.heap.size; omega))).trans j1
    refine hK3.out _ _ ⟨j1, x5⟩ (fun hT => ?_)
    have hS := And.intro j1 x5
    refine qaf (i := 14) (v := ?_) hT rfl (by kernel_rfl) (fun _ _ _ h => h) (Or.inl ⟨by rfl, ?_⟩) hS ?_
    rotate_left
    · intro w_ hSw
      (try dsimp only at hSw)
      go_simp
      try with_reducible rfl
    clear hT
    intro hT
    refine qch rfl (by kernel_rfl) (by kernel_rfl) (fun K4 hK4 => ?_)
    go_simp
    refine hK4.out _ _ ?_
    go_wp2
    go_meet
    exact qiD (HLE.out.symm.trans hn8) HER.out ho8 hb08
  · have HR2 := HR2.out
    rw [if_neg hend] at HR2
    have HR2 := hI_ HR2
    have u5a : ∀ o, (W1.alloc o).drew.cell? ⟨w.heap.size, 5, none⟩ = some (.slice (some ⟨b2, o2, none⟩) ps.length nc) := hal
    have b1 : W1.drew.cell? ⟨w.heap.size + 1, 1, none⟩ = some (.int .i64 (k : Int)) := (Below.cell (B := W1.heap.size) (qac (bR_ _ _)) le1).trans e1
    have b1a : ∀ o, (W1.alloc o).drew.cell? ⟨w.heap.size + 1, 1, none⟩ = some (.int .i64 (k : Int)) := fun o => (Below.cell (B := W1.heap.size) (qac (qab (bR_ _ _) o)) le1).trans e1
    refine qci (fun w' => w'.cell? ⟨w.heap.size + 1, 1, none⟩ = some (.int .i64 (k : Int)) ∧ w'.cell? ⟨w.heap.size, 5, none⟩ = some (.slice (some ⟨b2, o2, none⟩) ps.length nc)) 15 (by kernel_rfl) ⟨b1, (Below.cell (B := W1.heap.size) (qac (bR_ _ _)) lq1).trans t5⟩ (fun hS hT => ?_)
    refine qaf (i := 1) (v := ?_) hT rfl (by kernel_rfl) (fun _ _ _ h => h) (Or.inl ⟨by rfl, ?_⟩) hS ?_
    rotate_left
    · intro w_ hSw
      (try dsimp only at hSw)
      go_simp
      try with_reducible rfl
    clear hT
    intro hT
    refine qaf (i := 2) (v := ?_) hT rfl (by kernel_rfl) (fun _ _ _ h => h) (Or.inl ⟨by rfl, ?_⟩) hS ?_
    rotate_left
    · intro w_ hSw
      (try dsimp only at hSw)
      go_simp
      try with_reducible rfl
    clear hT
    intro hT
    refine qaf (i := 3) (v := ?_) hT rfl (by kernel_rfl) (fun _ _ _ h => h) (Or.inl ⟨by rfl, ?_⟩) hS ?_
    rotate_left
    · intro w_ hSw
      (try dsimp only at hSw)
      go_simp
      try with_reducible rfl
    clear hT
    intro hT
    refine qaf (i := 4) (v := ?_) hT rfl (by kernel_rfl) (fun _ _ _ h => h) (Or.inl ⟨by rfl, ?_⟩) hS ?_
    rotate_left
    · intro w_ hSw
      (try dsimp only at hSw)
      go_simp
      try with_reducible rfl
    clear hT
    intro hT
    refine qaf (i := 5) (v := ?_) hT rfl (by kernel_rfl) (fun _ _ _ h => h) (Or.inl ⟨by rfl, ?_⟩) hS ?_
    rotate_left
    · intro w_ hSw
      (try dsimp only at hSw)
      go_simp
      try with_reducible rfl
    clear hT
    intro hT
    refine qaf (i := 7) (v := ?_) hT rfl (by kernel_rfl) (fun _ _ _ h => h) (Or.inl ⟨by rfl, ?_⟩) hS ?_
    rotate_left
    · intro w_ hSw
      (try dsimp only at hSw)
      go_simp
      try with_reducible rfl
    clear hT
    intro hT
    refine qaf (i := 8) (v := ?_) hT rfl (by kernel_rfl) (fun _ _ _ h => h) (Or.inl ⟨by rfl, ?_⟩) hS ?_
    rotate_left
    · intro w_ hSw
      (try dsimp only at hSw)
      go_simp
      try with_reducible rfl
    clear hT
    intro hT
    refine qaf (i := 9) (v := ?_) hT rfl (by kernel_rfl) (fun _ _ _ h => h) (Or.inl ⟨by rfl, ?_⟩) hS ?_
    rotate_left
    · intro w_ hSw
      (try dsimp only at hSw)
      go_simp
      try with_reducible rfl
    clear hT
    intro hT
    refine qaf (i := 10) (v := ?_) hT rfl (by kernel_rfl) (fun _ _ _ h => h) (Or.inl ⟨by rfl, ?_⟩) hS ?_
    rotate_left
    · intro w_ hSw
      (try dsimp only at hSw)
      go_simp
      try with_reducible rfl
    clear hT
    intro hT
    refine qaf (i := 11) (v := ?_) hT rfl (by kernel_rfl) (fun _ _ _ h => h) (Or.inl ⟨by rfl, ?_⟩) hS ?_
    rotate_left
    · intro w_ hSw
      (try dsimp only at hSw)
      go_simp
      try with_reducible rfl
    clear hT
    intro hT
    refine qaf (i := 12) (v := ?_) hT rfl (by kernel_rfl) (fun _ _ _ h => h) (Or.inl ⟨by rfl, ?_⟩) hS ?_
    rotate_left
    · intro w_ hSw
      (try dsimp only at hSw)
      go_simp
      try with_reducible rfl
    clear hT
    intro hT
    refine qba (i := 0) hT rfl (by kernel_rfl) (by omega) (fun K1 hK1 => ?_)
    go_simp
    refine hK1.out _ _ (by first | exact ⟨b1a _, u5a _⟩ | exact ⟨by simp [b1], by simp [t5]⟩) (fun hT => ?_)
    refine qba (i := 6) hT rfl (by kernel_rfl) (by omega) (fun K2 hK2 => ?_)
    (refine qa9 (by rfl) ?_); (refine qey (W0 := W1) (ps2 := ps.take k) (by with_reducible repeat (first | exact at0 _ _ | refine qbI ?_ | refine qau ?_)) (by omega) (HR1.out _ (by with_reducible repeat (first | exact bR_ _ _ | exact hb06 | refine qab ?_ _ | refine qac ?_))) HF1.out h11.out.1 (Below.size (by with_reducible repeat (first | exact bR_ _ _ | exact hb06 | refine qab ?_ _ | refine qac ?_))) rfl rfl rfl ?_)
    intro A6 c6 w6 ho6 hg6 hk6
    have hb06 : Below W1.heap.size W1 w6 := Below.grown (by with_reducible repeat (first | exact bR_ _ _ | exact hb06 | refine qab ?_ _ | refine qac ?_)) hg6 (Below.size (by with_reducible repeat (first | exact bR_ _ _ | exact hb06 | refine qab ?_ _ | refine qac ?_))) (fun r hr => by cases hr; omega)
    have u5 := (hb06.cell (p := ⟨w.heap.size, 5, none⟩) lq1).trans t5
    obtain ⟨n6, hn6⟩ : ∃ n, n = (ps.take k).length := ⟨_, rfl⟩
    have HN6 : Hid (Value.slice A6 (ps.take k).length c6 = .slice A6 n6 c6) := hI_ (by rw [hn6])
    simp only [← hn6]
    clear hn6
    have u1 := (hb06.cell (p := ⟨w.heap.size + 1, 1, none⟩) le1).trans e1
    refine hK2.out _ _ ⟨u1, u5⟩ (fun hT => ?_)
    refine qba (i := 13) hT rfl (by kernel_rfl) (by omega) (fun K3 hK3 => ?_)
    (refine qa9 (by rfl) ?_); (refine qfe (W0 := W1) (ps := ps.take k) (ps2 := ps.drop (k + 1)) ho6 (HR2.out _ (by with_reducible repeat (first | exact bR_ _ _ | exact hb06 | refine qab ?_ _ | refine qac ?_))) HF2.out h11.out.2 (Below.size (by with_reducible repeat (first | exact bR_ _ _ | exact hb06 | refine qab ?_ _ | refine qac ?_))) rfl HN6.out.symm rfl ?_)
    intro A8 c8 w8 ho8 hg8
    have hb08 : Below W1.heap.size W1 w8 := Below.grown (by with_reducible repeat (first | exact bR_ _ _ | exact hb06 | refine qab ?_ _ | refine qac ?_)) hg8 (Below.size (by with_reducible repeat (first | exact bR_ _ _ | exact hb06 | refine qab ?_ _ | refine qac ?_))) (fun r hr => (ho6.lt r hr).1)
    obtain ⟨n8, hn8⟩ : ∃ n, (ps.take k).length + (ps.drop (k + 1)).length = n := ⟨_, rfl⟩
    simp only [hn8] at ho8 ⊢
    obtain ⟨x0, x1, x2, x3, x4, x5, xf⟩ := qaa ((hb08.block _ lq1).trans HP1.out)
    obtain ⟨j0, j1, j2, j3, j4, jf⟩ := qck ((hb08.block _ le1).trans HE1.out)
    have y1 : (w8.setCell ⟨w.heap.size, 5, none⟩ (.slice A8 n8 c8)).cell? ⟨w.heap.size + 1, 1, none⟩ = some (.int .i64 (k : Int)) := (World.cell?_of_block (Below.heap_setCell _ _ _ _ (by show w.heap.size + 1 ≠ w.heap.size; omega))).trans j1
    refine hK3.out _ _ ⟨j1, x5⟩ (fun hT => ?_)
    have hS := And.intro j1 x5
    refine qaf (i := 14) (v := ?_) hT rfl (by kernel_rfl) (fun _ _ _ h => h) (Or.inl ⟨by rfl, ?_⟩) hS ?_
    rotate_left
    · intro w_ hSw
      (try dsimp only at hSw)
      go_simp
      try with_reducible rfl
    clear hT
    intro hT
    refine qch rfl (by kernel_rfl) (by kernel_rfl) (fun K4 hK4 => ?_)
    go_simp
    refine hK4.out _ _ ?_
    go_wp2
    go_meet
    exact qiD (HLE.out.symm.trans hn8) HER.out ho8 hb08
 case rest =>
  obtain ⟨qs, HQS⟩ : ∃ l, Hid (ps.eraseIdx k = l) := ⟨_, hI_ rfl⟩
  rw [HQS.out] at hcut
  obtain ⟨W8, A8, c8, rfl, hP8, hb8⟩ := hcut
  have HWI1 : Hid (WI K ⟨s, bd, fs, ls, ks, qs⟩) := hI_ (by have h := HWI.out.erase k; simp only at h; rw [HQS.out] at h; exact h)
  have HSM : Hid (Sml ⟨s, bd, fs, ls, ks, qs⟩) := hI_ (HWI1.out.sml HKK.out)
  have HWN1 := HWN.out
  rw [HQS.out] at HWN1
  have HWN2 := hI_ HWN1
  have hk9 : qaA LT2 W8 (W8.setCell ⟨w.heap.size, 5, none⟩ (.slice A8 qs.length c8)) := qaA.set1 ((hb8.block _ lq1).trans HP1.out) (by decide) _
  have hX8 := HX1.out.below hb8
  have hX9 : WdS (W8.setCell ⟨w.heap.size, 5, none⟩ (.slice A8 qs.length c8)) ⟨s, bd, fs, ls, ks, qs⟩ (.slice fA fs.length fc) (.slice lA ls.length lc) (.slice aA ks.length ac) (.slice A8 qs.length c8) :=
   WdS.of (hX8.feeds.next hk9) (hX8.links.next hk9) (hX8.asked.next hk9) ((hP8.stb (qaA.of_below hb8)).next hk9)
  have hst9 := HST1.out.next ((qaA.of_below hb8).trans hk9)
  have hp9 : (W8.setCell ⟨w.heap.size, 5, none⟩ (.slice A8 qs.length c8)).heap[w.heap.size]? = some (.cells #[.int .i64 s, .int .i64 bd, .slice fA fs.length fc, .slice lA ls.length lc, .slice aA ks.length ac, .slice A8 qs.length c8] 35 (0, 0)) := qas (i := 5) ((hb8.block _ lq1).trans HP1.out) _
  have he9 : (W8.setCell ⟨w.heap.size, 5, none⟩ (.slice A8 qs.length c8)).heap[w.heap.size + 1]? = _ := (Below.heap_setCell _ _ _ _ (by show w.heap.size + 1 ≠ w.heap.size; omega)).trans ((hb8.block _ le1).trans HE1.out)
  have hz9 : (W8.setCell ⟨w.heap.size, 5, none⟩ (.slice A8 qs.length c8)).heap[w.heap.size + 1 + 1]? = _ := (Below.heap_setCell _ _ _ _ (by show w.heap.size + 1 + 1 ≠ w.heap.size; omega)).trans ((hb8.block _ lz1).trans HZ1.out)
  have hg9 : (W8.setCell ⟨w.heap.size, 5, none⟩ (.slice A8 qs.length c8)).heap[g]? = _ := (Below.heap_setCell _ _ _ _ (by show g ≠ w.heap.size; omega)).trans ((hb8.block _ lg1).trans HG1.out)
  have hb9 : Below w.heap.size w (W8.setCell ⟨w.heap.size, 5, none⟩ (.slice A8 qs.length c8)) := qaN (HB1.out.trans (hb8.mono (Nat.le_of_lt lq1))) (nr_ _)
  obtain ⟨W9, HW9⟩ : ∃ W, Hid (W8.setCell ⟨w.heap.size, 5, none⟩ (.slice A8 qs.length c8) = W) := ⟨_, hI_ rfl⟩
  rw [HW9.out] at hX9 hst9 hp9 he9 hz9 hg9 hb9 ⊢
  obtain ⟨W, HW⟩ : ∃ W, Hid (W9.alloc (.cells #[.int .i64 fr, .int .i64 ix] 118) = W) := ⟨_, hI_ rfl⟩
  obtain ⟨r, hr⟩ : ∃ r, W9.heap.size = r := ⟨_, rfl⟩
  have hB : Below W9.heap.size W9 W := by rw [← HW.out]; exact qab (bR_ _ _) _
  have HX := hI_ (hX9.below hB)
  have HS := hI_ (hst9.next (qaA.of_below hB))
  have HP := hI_ ((hB.block _ (qai hp9)).trans hp9)
  have HE := hI_ ((hB.block _ (qai he9)).trans he9)
  have HZ := hI_ ((hB.block _ (qai hz9)).trans hz9)
  have HG := hI_ ((hB.block _ (qai hg9)).trans hg9)
  have HA : Hid (W.heap[r]? = some (.cells #[.int .i64 fr, .int .i64 ix] 118 (0, 0))) := hI_ (by rw [← HW.out, ← hr]; exact heap_alloc_new _ _)
  have HB : Hid (Below w.heap.size w W) := hI_ (hb9.trans (hB.mono hb9.size))
  have lq := qai HP.out
  have le := qai HE.out
  have lz := qai HZ.out
  have lg := qai HG.out
  have lr := qai HA.out
  have hrg : g < r := by rw [← hr]; exact qai hg9
  obtain ⟨t0, t1, t2, t3, t4, t5, tf⟩ := qaa hg9
  go_upto_region 6 with fail
  rw [HW.out]
  clear t0 t1 t2 t3 t4 t5 tf hP8 hb8 hk9 hX8 hX9 hst9 hp9 he9 hz9 hg9 hb9 hB lg1 lq1 le1 lz1 HWN1
  have HNO : Hid (∀ (x' : Wd) (w' : World), x' = ⟨s, bd, fs, ls, ks, qs⟩ → Below W.heap.size W w' → qhd w x' (.returned (.agg #[.int .i64 s, .int .i64 bd, .slice fA fs.length fc, .slice lA ls.length lc, .slice aA ks.length ac, .slice A8 qs.length c8])) ((((((w'.setCell ⟨w.heap.size + 1 + 1, 0, none⟩ (.int .i64 s)).setCell ⟨w.heap.size + 1 + 1, 1, none⟩ (.int .i64 bd)).setCell ⟨w.heap.size + 1 + 1, 2, none⟩ (.slice fA fs.length fc)).setCell ⟨w.heap.size + 1 + 1, 3, none⟩ (.slice lA ls.length lc)).setCell ⟨w.heap.size + 1 + 1, 4, none⟩ (.slice aA ks.length ac)).setCell ⟨w.heap.size + 1 + 1, 5, none⟩ (.slice A8 qs.length c8))) := hI_ (by
   rintro x' w' rfl hb
   exact ⟨_, _, _, _, rfl, (HX.out.below hb).set6 ((hb.block _ lz).trans HZ.out) _ _ _ _ _ _, qae (HB.out.trans (hb.mono (Nat.le_of_lt lq))) (by omega) _ _ _ _ _ _⟩)
  obtain ⟨e0, e1, e2, e3, e4, ef⟩ := qck HE.out
  obtain ⟨t0, t1, t2, t3, t4, t5, tf⟩ := qaa HP.out
  obtain ⟨g0, g1, g2, g3, g4, g5, gf⟩ := qaa HG.out
  obtain ⟨s0, s1, sf⟩ := qaH HA.out
  by_cases hkd : kd = 8
  · subst hkd
    have HR : Hid (qgz ⟨s, bd, fs, ls, ks, ps⟩ k ((8 : Int) == 8) = ⟨s, bd, fs, ls, ks, qs⟩) := hI_ (by rw [HWN2.out]; rfl)
    have hup := qap W
    clear e1 e2 e3 e4 ef t0 t1 t2 t3 t4 t5 tf g0 g1 g2 g3 g4 g5 gf s0 s1 sf
    refine qoH ?_
    repeat (go_big_quiet_step (fail))
    refine wpQuiet_nil ?_
    intro w1 hw1
    have hb1 := qay hw1
    clear hw1 hup
    obtain ⟨t0, t1, t2, t3, t4, t5, tf⟩ := qaa ((hb1.block _ lq).trans HP.out)
    obtain ⟨z0, z1, z2, z3, z4, z5, zf⟩ := qaa ((hb1.block _ lz).trans HZ.out)
    go_wp2_with fail
    refine bodyPost_ret (v := .agg #[.int .i64 s, .int .i64 bd, .slice fA fs.length fc, .slice lA ls.length lc, .slice aA ks.length ac, .slice A8 qs.length c8]) (by simp [results, Tryz.results187, go_sem, z0, z1, z2, z3, z4, z5]) rfl (HNO.out _ _ HR.out hb1)
  have hkd1 : (kd == 8) = false := by rw [beq_eq_false_iff_ne]; exact hkd
  clear hkd
  obtain ⟨j, rfl, hj⟩ : ∃ j : Nat, to_ = j ∧ j < fs.length := by
   have h := qak.1 HPC.out.2.1
   exact ⟨to_.toNat, by omega, by omega⟩
  have hj' : (j : Int) < (fs.length : Int) := by omega
  have hj0 : (0 : Int) ≤ (j : Int) := by omega
  have hka : j < ks.length := by have := HWI.out.na; simp only at this; omega
  have hka' : (j : Int) < (ks.length : Int) := by omega
  obtain ⟨b0, o0, yb, yh, hA, hbs, f0, f1, f2, f3, f4, f5, hFj⟩ := HX.out.r.feeds.at_ hj
  subst hA
  obtain ⟨a0, p0, vk, hA, hab, ek, hRK⟩ := HX.out.r.asked.at_ hka
  subst hA
  have HFD : Hid ((⟨s, bd, fs, ls, ks, qs⟩ : Wd).feed j = fs[j]) := hI_ (HWI1.out.fd hj)
  have HAS : Hid ((⟨s, bd, fs, ls, ks, qs⟩ : Wd).asks j = ks[j]) := hI_ (HWI1.out.as_ hj)
  have HLK2 : Hid (ks[j].length ≤ 1000000) := hI_ (Nat.le_trans (HWI.out.ask j hka) HKK.out)
  obtain ⟨fj, HFJ⟩ : ∃ f, Hid (fs[j] = f) := ⟨_, hI_ rfl⟩
  obtain ⟨lk, HLK3⟩ : ∃ l, Hid (ks[j] = l) := ⟨_, hI_ rfl⟩
  rw [HFJ.out] at f0 f1 f2 f3 hFj HFD
  rw [HLK3.out] at hRK HAS HLK2
  have HRK := hI_ hRK
  have HFJR := hI_ hFj
  obtain ⟨v1, HV1⟩ : ∃ v, Hid (qc8 lk (fr, ix) = v) := ⟨_, hI_ rfl⟩
  have HWN3 : Hid (qgz ⟨s, bd, fs, ls, ks, ps⟩ k false = qd2 ⟨s, bd, fs, ls, ks, qs⟩ ⟨fr, j, ln, ix, tx, pr⟩) := hI_ (by rw [HWN2.out]; rfl)
  have HC3 : Hid ((!qc8 ((⟨s, bd, fs, ls, ks, qs⟩ : Wd).asks (⟨fr, j, ln, ix, tx, pr⟩ : Pc).to_) (fr, ix) || ((⟨s, bd, fs, ls, ks, qs⟩ : Wd).feed (⟨fr, j, ln, ix, tx, pr⟩ : Pc).to_).hd.len != ln) = (!v1 || fj.hd.len != ln)) := hI_ (by
   show (!qc8 ((⟨s, bd, fs, ls, ks, qs⟩ : Wd).asks j) (fr, ix) || ((⟨s, bd, fs, ls, ks, qs⟩ : Wd).feed j).hd.len != ln) = _
   rw [HAS.out, HFD.out, HV1.out])
  have hup := qap W
  clear hRK hFj HWN
  cases v1
  · have HR : Hid (qgz ⟨s, bd, fs, ls, ks, ps⟩ k false = ⟨s, bd, fs, ls, ks, qs⟩) := hI_ (by rw [HWN3.out]; exact qiR (HC3.out.trans rfl))
    clear f0 f1 f2 f3 f4 f5 e1 e2 e3 e4
    refine qoH ?_
    repeat (go_big_quiet_step (first
     | (go_at_call 97; exact qal (qbL (a := (fr, ix)) HV1 _ _ (HRK.out.below (qao _ _))))))
    refine wpQuiet_nil ?_
    intro w1 hw1
    have hb1 := qay hw1
    have HB1 := hI_ hb1
    clear hw1 hup
    clear e0 ef t0 t1 t2 t3 t4 t5 tf g0 g1 g2 g3 g4 g5 gf s0 s1 sf ek
    obtain ⟨t0, t1, t2, t3, t4, t5, tf⟩ := qaa ((hb1.block _ lq).trans HP.out)
    obtain ⟨z0, z1, z2, z3, z4, z5, zf⟩ := qaa ((hb1.block _ lz).trans HZ.out)
    go_wp2_with fail
    refine bodyPost_ret (v := .agg #[.int .i64 s, .int .i64 bd, .slice (some ⟨b0, o0, none⟩) fs.length fc, .slice lA ls.length lc, .slice (some ⟨a0, p0, none⟩) ks.length ac, .slice A8 qs.length c8]) (by simp [results, Tryz.results187, go_sem, z0, z1, z2, z3, z4, z5]) rfl (HNO.out _ _ HR.out hb1)
  by_cases hlen : fj.hd.len = ln
  rotate_left
  · have hln1 : (fj.hd.len == ln) = false := by rw [beq_eq_false_iff_ne]; exact hlen
    have hln2 : (fj.hd.len != ln) = true := by simp [hlen]
    have HR : Hid (qgz ⟨s, bd, fs, ls, ks, ps⟩ k false = ⟨s, bd, fs, ls, ks, qs⟩) := hI_ (by rw [HWN3.out]; exact qiR (HC3.out.trans (by rw [hln2]; rfl)))
    clear f0 f2 f3 f4 f5 e1 e2 e3 e4 hlen
    refine qoH ?_
    repeat (go_big_quiet_step (first
     | (go_at_call 97; exact qal (qbL (a := (fr, ix)) HV1 _ _ (HRK.out.below (qao _ _))))))
    refine wpQuiet_nil ?_
    intro w1 hw1
    have hb1 := qay hw1
    have HB1 := hI_ hb1
    clear hw1 hup
    clear e0 ef t0 t1 t2 t3 t4 t5 tf g0 g1 g2 g3 g4 g5 gf s0 s1 sf ek
    obtain ⟨t0, t1, t2, t3, t4, t5, tf⟩ := qaa ((hb1.block _ lq).trans HP.out)
    obtain ⟨z0, z1, z2, z3, z4, z5, zf⟩ := qaa ((hb1.block _ lz).trans HZ.out)
    go_wp2_with fail
    refine bodyPost_ret (v := .agg #[.int .i64 s, .int .i64 bd, .slice (some ⟨b0, o0, none⟩) fs.length fc, .slice lA ls.length lc, .slice (some ⟨a0, p0, none⟩) ks.length ac, .slice A8 qs.length c8]) (by simp [results, Tryz.results187, go_sem, z0, z1, z2, z3, z4, z5]) rfl (HNO.out _ _ HR.out hb1)
  subst hlen
  obtain ⟨gf2, ok, HPUT⟩ : ∃ f ok, Hid (qes fj ix tx pr = (f, ok)) := ⟨_, _, hI_ rfl⟩
  have HR0 : Hid (qgz ⟨s, bd, fs, ls, ks, ps⟩ k false = if ok then ⟨s, bd, fs.set j gf2, ls, ks.set j (qhJ lk (fr, ix)), qs⟩ else ⟨s, bd, fs, ls, ks.set j (qeg lk fr), qs⟩) := hI_ (by
   rw [HWN3.out]
   have h1 := qkZ (x := ⟨s, bd, fs, ls, ks, qs⟩) (p := ⟨fr, j, fj.hd.len, ix, tx, pr⟩) (f := gf2) (ok := ok) (HC3.out.trans (by simp)) (by
    show qes ((⟨s, bd, fs, ls, ks, qs⟩ : Wd).feed j) ix tx pr = _
    rw [HFD.out]; exact HPUT.out)
   rw [h1]
   show (if ok = true then (⟨s, bd, fs.set (j : Int).toNat gf2, ls, ks.set (j : Int).toNat (qhJ ((⟨s, bd, fs, ls, ks, qs⟩ : Wd).asks j) (fr, ix)), qs⟩ : Wd) else ⟨s, bd, fs, ls, ks.set (j : Int).toNat (qeg ((⟨s, bd, fs, ls, ks, qs⟩ : Wd).asks j) fr), qs⟩) = _
   rw [HAS.out, Int.toNat_natCast])
  have HFC := hI_ (And.intro f0 (And.intro f1 (And.intro f2 (And.intro f3 (And.intro f4 f5)))))
  have HEK := hI_ ek
  clear f0 f2 f3 f4 f5 e1 e2 e3 e4
  refine qoH ?_
  repeat (go_big_quiet_step (first
   | (go_at_call 97; exact qal (qbL (a := (fr, ix)) HV1 _ _ (HRK.out.below (qao _ _))))))
  refine wpQuiet_nil ?_
  intro w1 hw1
  have hb1 := qay hw1
  have HB1 := hI_ hb1
  clear hw1 hup
  clear e0 ef t0 t1 t2 t3 t4 t5 tf g0 g1 g2 g3 g4 g5 gf s0 s1 sf ek f1
  have lq2 := nL_ lq hb1.size
  have lg2 := nL_ lg hb1.size
  have lb2 := nL_ hbs hb1.size
  obtain ⟨t0, t1, t2, t3, t4, t5, tf⟩ := qaa ((hb1.block _ lq).trans HP.out)
  obtain ⟨g0, g1, g2, g3, g4, g5, gf⟩ := qaa ((hb1.block _ lg).trans HG.out)
  have f0 := (hb1.cell (p := ⟨b0, _, none⟩) hbs).trans HFC.out.1
  have f1 := (hb1.cell (p := ⟨b0, _, none⟩) hbs).trans HFC.out.2.1
  have f2 := (hb1.cell (p := ⟨b0, _, none⟩) hbs).trans HFC.out.2.2.1
  have f3 := (hb1.cell (p := ⟨b0, _, none⟩) hbs).trans HFC.out.2.2.2.1
  have f4 := (hb1.cell (p := ⟨b0, _, none⟩) hbs).trans HFC.out.2.2.2.2.1
  have f5 := (hb1.cell (p := ⟨b0, _, none⟩) hbs).trans HFC.out.2.2.2.2.2
  have HFJ1 := hI_ (HFJR.out.below' hb1)
  have HS1 : Hid (RI w1 (.slice xA pr.length xc) pr) := hI_ ((HS.out.next (qaA.of_below hb1)).self)
  have HT8 : Hid (tx.size ≤ maxLen) := hI_ (Nat.le_trans HPC.out.2.2.1 (by unfold maxLen; omega))
  clear hb1
  go_upto_region 8 with fail
  go_cut [7, 8] (fun s7 s8 wx => qk9 w1.heap.size w1 wx gf2 ok s7 s8)
  case first =>
   go_region_held3 (fun w' => w'.cell? ⟨w.heap.size, 2, none⟩ = some (.slice (some ⟨b0, o0, none⟩) fs.length fc) ∧ w'.cell? ⟨g, 1, none⟩ = some (.int .i64 (j : Int)) ∧ w'.cell? ⟨g, 3, none⟩ = some (.int .i64 ix) ∧ w'.cell? ⟨g, 4, none⟩ = some (.string tx) ∧ w'.cell? ⟨g, 5, none⟩ = some (.slice xA pr.length xc) ∧ w'.cell? ⟨b0, o0 + j * 6, none⟩ = some (.int .i64 fj.pub) ∧ w'.cell? ⟨b0, o0 + j * 6 + 1, none⟩ = some (.int .i64 fj.hd.len) ∧ w'.cell? ⟨b0, o0 + j * 6 + 2, none⟩ = some (.int .i64 fj.hd.dg) ∧ w'.cell? ⟨b0, o0 + j * 6 + 3, none⟩ = some (.int .i64 fj.hd.sg) ∧ w'.cell? ⟨b0, o0 + j * 6 + 4, none⟩ = some yb ∧ w'.cell? ⟨b0, o0 + j * 6 + 5, none⟩ = some yh)
    (with_reducible refine ⟨Eq.trans (Below.cell (B := w1.heap.size) ?_ lq2) t2, Eq.trans (Below.cell (B := w1.heap.size) ?_ lg2) g1, Eq.trans (Below.cell (B := w1.heap.size) ?_ lg2) g3, Eq.trans (Below.cell (B := w1.heap.size) ?_ lg2) g4, Eq.trans (Below.cell (B := w1.heap.size) ?_ lg2) g5, Eq.trans (Below.cell (B := w1.heap.size) ?_ lb2) f0, Eq.trans (Below.cell (B := w1.heap.size) ?_ lb2) f1, Eq.trans (Below.cell (B := w1.heap.size) ?_ lb2) f2, Eq.trans (Below.cell (B := w1.heap.size) ?_ lb2) f3, Eq.trans (Below.cell (B := w1.heap.size) ?_ lb2) f4, Eq.trans (Below.cell (B := w1.heap.size) ?_ lb2) f5⟩ <;> (repeat (first | with_reducible exact bR_ _ _ | with_reducible exact hb06 | with_reducible refine qab ?_ _ | with_reducible refine qac ?_ | with_reducible refine qae ?_ ?_ _ _ _ _ _ _ | omega)); done)
    ((go_at_call 145; refine (qgB HPUT _ _ _ _ (HFJ1.out.below' (by with_reducible repeat (first | exact bR_ _ _ | refine qab ?_ _ | refine qac ?_ ))) HT8.out (HS1.out.below (by with_reducible repeat (first | exact bR_ _ _ | refine qab ?_ _ | refine qac ?_ )))).mono ?_; rintro e w6 ⟨ub, uh, rfl, ho6, hb6⟩
      obtain ⟨uA, uc, rfl⟩ := ho6.bl.sl
      obtain ⟨hA, hc, rfl⟩ := ho6.hv.sl
      have hb06 : Below w1.heap.size w1 w6 := qb6 (by with_reducible repeat (first | exact bR_ _ _ | refine qab ?_ _ | refine qac ?_)) hb6
      have hs06 := hb06.size
      try (have hz6 := (hb6.block _ (qaB _ _)).trans (heap_alloc_new _ _); obtain ⟨k0, k1, k2, k3, k4, k5, kf⟩ := qaa hz6)))
   all_goals
    go_wp2
    go_meet
   · exact qmU ho6 (by simp) hb06 hs06
   · exact qmV ho6 (by simp) hb06 hz6 (by simp)
  case rest =>
   obtain ⟨y, vb6, vh6, rfl, rfl, hfb, hb6, hy⟩ := hcut
   obtain ⟨Wx, rfl⟩ : ∃ W, W = wc := ⟨_, rfl⟩
   have hBx : Below W.heap.size W Wx := HB1.out.trans (hb6.mono HB1.out.size)
   have HBX := hI_ hBx
   have HFB := hI_ hfb
   have hyx := hfb.lt
   have hWx := hBx.size
   have hyl : W.heap.size ≤ y := Nat.le_trans HB1.out.size hy
   clear t0 t1 t2 t3 t4 t5 tf g0 g1 g2 g3 g4 g5 gf f0 f1 f2 f3 f4 f5 hfb hb6 lq2 lg2 lb2 hy
   obtain ⟨t0, t1, t2, t3, t4, t5, tf⟩ := qaa ((hBx.block _ lq).trans HP.out)
   clear hBx
   go_wp2_with fail
   refine (qcO ⟨s, bd, fs, ls, ks, qs⟩ _ _ _ _ Wx (HX.out.below HBX.out) HSM.out).mono ?_
   rintro e wk ⟨uF, uL, uA, uN, rfl, hC, hbc⟩
   obtain ⟨gF, cF, rfl, hgF, hgl⟩ := hC.feeds.form (by simp only; omega)
   obtain ⟨gA, cA, rfl, hgA, hgAl⟩ := hC.asked.form (by simp only; omega)
   obtain ⟨uLA, uLc, rfl⟩ := hC.links.sl
   obtain ⟨uNA, uNc, rfl⟩ := hC.net.sl
   simp only at hgF hgl hgA hgAl hC
   have hneg : gF ≠ gA := fun e => by
    obtain ⟨cu1, h1⟩ := hC.feeds.ty
    obtain ⟨cu2, h2⟩ := hC.asked.ty
    rw [e, h2] at h1
    cases h1
   have HBK := hI_ (HBX.out.trans (hbc.mono HBX.out.size))
   obtain ⟨W2, HW2⟩ : ∃ W2, Hid (wk.alloc (.cells #[.int .i64 s, .int .i64 bd, .slice (some ⟨gF, 0, none⟩) fs.length cF, .slice uLA ls.length uLc, .slice (some ⟨gA, 0, none⟩) ks.length cA, .slice uNA qs.length uNc] 35) = W2) := ⟨_, hI_ rfl⟩
   have hB2 : Below wk.heap.size wk W2 := by rw [← HW2.out]; exact qab (bR_ _ _) _
   have HO2 : Hid (W2.heap[wk.heap.size]? = some (.cells #[.int .i64 s, .int .i64 bd, .slice (some ⟨gF, 0, none⟩) fs.length cF, .slice uLA ls.length uLc, .slice (some ⟨gA, 0, none⟩) ks.length cA, .slice uNA qs.length uNc] 35 (0, 0))) := hI_ (by rw [← HW2.out]; exact heap_alloc_new _ _)
   have hs2 : W2.heap.size = wk.heap.size + 1 := by rw [← HW2.out]; simp
   have HC2 := hI_ (hC.keep (qaA.of_below hB2))
   have HF2 := hI_ ((HFB.out.below hbc).below hB2)
   have HB2 : Hid (Below W.heap.size W W2) := hI_ (HBK.out.trans (hB2.mono HBK.out.size))
   have hkx := hbc.size
   have n1 : gA ≠ wk.heap.size := by omega
   have n2 : wk.heap.size ≠ gA := by omega
   have n3 : g ≠ gA := by omega
   have n4 : w.heap.size ≠ gA := by omega
   have n5 : a0 ≠ gA := by omega
   have n6 : w.heap.size + 1 + 1 ≠ gA := by omega
   have n7 : gF ≠ wk.heap.size := by omega
   have n8 : wk.heap.size ≠ gF := by omega
   have n9 : g ≠ gF := by omega
   have n10 : w.heap.size ≠ gF := by omega
   have n11 : a0 ≠ gF := by omega
   have n12 : w.heap.size + 1 + 1 ≠ gF := by omega
   have n13 : r ≠ gF := by omega
   have n14 : r ≠ gA := by omega
   have n15 : y ≠ gF := by omega
   have n16 : gF ≠ y := by omega
   have n17 : w.heap.size + 1 + 1 ≠ wk.heap.size := by omega
   have n18 : wk.heap.size ≠ w.heap.size + 1 + 1 := by omega
   have l2A : gA < W2.heap.size := by omega
   have l2o : wk.heap.size < W2.heap.size := by omega
   have l2g : g < W2.heap.size := by omega
   have l2q : w.heap.size < W2.heap.size := by omega
   have l2a : a0 < W2.heap.size := by omega
   have l2r : r < W2.heap.size := by omega
   have l2z : w.heap.size + 1 + 1 < W2.heap.size := by omega
   have hWB : W.heap.size ≤ gA := by omega
   have hWF : W.heap.size ≤ gF := by omega
   clear hC hbc hB2 hgF hgl hgA hgAl hkx hs2 hWx hyx hyl t0 t1 t2 t3 t4 t5 tf
   go_upto_region 10 with fail
   rw [HW2.out]
   cases ok
   · have HR : Hid (qgz ⟨s, bd, fs, ls, ks, ps⟩ k false = ⟨s, bd, fs, ls, ks.set j (qeg lk fr), qs⟩) := hI_ (by rw [HR0.out]; rfl)
     obtain ⟨nl, HNL⟩ : ∃ l, Hid (qeg lk fr = l) := ⟨_, hI_ rfl⟩
     rw [HNL.out] at HR
     go_upto_region 13 with fail
     have o4 := (qaa HO2.out).2.2.2.2.1
     have g0 := (qaa ((HB2.out.block _ lg).trans HG.out)).1
     have g1 := (qaa ((HB2.out.block _ lg).trans HG.out)).2.1
     have t4 := (qaa ((HB2.out.block _ lq).trans HP.out)).2.2.2.2.1
     have ek := (HB2.out.cell (p := ⟨a0, _, none⟩) hab).trans HEK.out
     go_region_held3 (fun w' => w'.cell? ⟨wk.heap.size, 4, none⟩ = some (.slice (some ⟨gA, 0, none⟩) ks.length cA) ∧ w'.cell? ⟨g, 1, none⟩ = some (.int .i64 (j : Int)) ∧ w'.cell? ⟨w.heap.size, 4, none⟩ = some (.slice (some ⟨a0, p0, none⟩) ks.length ac) ∧ w'.cell? ⟨a0, p0 + j, none⟩ = some vk ∧ w'.cell? ⟨g, 0, none⟩ = some (.int .i64 fr))
      (first | with_reducible exact ⟨m0, m1, m2, m3, m4⟩ | (with_reducible refine ⟨Eq.trans (Below.cell (B := W2.heap.size) ?_ l2o) o4, Eq.trans (Below.cell (B := W2.heap.size) ?_ l2g) g1, Eq.trans (Below.cell (B := W2.heap.size) ?_ l2q) t4, Eq.trans (Below.cell (B := W2.heap.size) ?_ l2a) ek, Eq.trans (Below.cell (B := W2.heap.size) ?_ l2g) g0⟩ <;> (with_reducible repeat (first | exact bR_ _ _ | exact hb014 | refine qab ?_ _ | refine qac ?_)); done))
      ((go_at_call 203; refine (qmu HNL _ _ (HRK.out.below (HB2.out.trans (Below.mono (by with_reducible repeat (first | exact bR_ _ _ | refine qab ?_ _ | refine qac ?_)) HB2.out.size))) HLK2.out).mono ?_; rintro e w14 ⟨v14, n0, rfl, ho14, hb14⟩
        obtain ⟨vA, vc, rfl⟩ := ho14.sl
        have hb014 : Below W2.heap.size W2 w14 := qb6 (by with_reducible repeat (first | exact bR_ _ _ | refine qab ?_ _ | refine qac ?_)) hb14
        obtain ⟨⟨F, hF⟩, hFf, _⟩ := (HC2.out.asked.next (qaA.of_below hb014)).cells
        have r0 := hF j hka
        have m0 := (qcu (i := 4) (m := j) (u := .slice vA nl.length vc) n2).trans ((hb014.cell (p := ⟨wk.heap.size, 4, none⟩) l2o).trans o4)
        have m1 := (qcu (i := 1) (m := j) (u := .slice vA nl.length vc) n3).trans ((hb014.cell (p := ⟨g, 1, none⟩) l2g).trans g1)
        have m2 := (qcu (i := 4) (m := j) (u := .slice vA nl.length vc) n4).trans ((hb014.cell (p := ⟨w.heap.size, 4, none⟩) l2q).trans t4)
        have m3 := (qcu (i := p0 + j) (m := j) (u := .slice vA nl.length vc) n5).trans ((hb014.cell (p := ⟨a0, _, none⟩) l2a).trans ek)
        have m4 := (qcu (i := 0) (m := j) (u := .slice vA nl.length vc) n3).trans ((hb014.cell (p := ⟨g, 0, none⟩) l2g).trans g0)))
     have hput := (HC2.out.keep (qaA.of_below hb014)).putA (j := j) hka (ho14.stb (by decide))
     have hB18 : Below W.heap.size W (w14.setCell ⟨gA, j, none⟩ (.slice vA nl.length vc)) := qaN (HB2.out.trans (hb014.mono HB2.out.size)) hWB
     have ho18 : (w14.setCell ⟨gA, j, none⟩ (.slice vA nl.length vc)).heap[wk.heap.size]? = _ := (Below.heap_setCell _ _ _ _ n2).trans ((hb014.block _ l2o).trans HO2.out)
     obtain ⟨W18, HW18⟩ : ∃ W, Hid (w14.setCell ⟨gA, j, none⟩ (.slice vA nl.length vc) = W) := ⟨_, hI_ rfl⟩
     rw [HW18.out] at hput hB18 ho18
     have hz18 := (hB18.block _ lz).trans HZ.out
     have HPT := hI_ hput
     have HB18 := hI_ hB18
     have HZ18 := hI_ hz18
     have HLN : Hid ((ks.set j nl).length = ks.length) := hI_ List.length_set
     clear hput hB18 m0 m1 m2 m3 m4 o4 g1 t4 ek
     obtain ⟨v0, v1, v2, v3, v4, v5, vf⟩ := qaa ho18
     obtain ⟨z0, z1, z2, z3, z4, z5, zf⟩ := qaa hz18
     rw [HW18.out]
     go_wp2_with fail
     refine bodyPost_ret (v := .agg #[.int .i64 s, .int .i64 bd, .slice (some ⟨gF, 0, none⟩) fs.length cF, .slice uLA ls.length uLc, .slice (some ⟨gA, 0, none⟩) ks.length cA, .slice uNA qs.length uNc]) (by simp [results, Tryz.results187, go_sem, z0, z1, z2, z3, z4, z5]) rfl ?_
     rw [HR.out]
     exact ⟨_, _, _, _, rfl, HPT.out.set6 HZ18.out _ _ _ _ _ _, qae (HB.out.trans (HB18.out.mono (Nat.le_of_lt lq))) (by omega) _ _ _ _ _ _⟩
   · have HR : Hid (qgz ⟨s, bd, fs, ls, ks, ps⟩ k false = ⟨s, bd, fs.set j gf2, ls, ks.set j (qhJ lk (fr, ix)), qs⟩) := hI_ (by rw [HR0.out]; rfl)
     obtain ⟨nl, HNL⟩ : ∃ l, Hid (qhJ lk (fr, ix) = l) := ⟨_, hI_ rfl⟩
     rw [HNL.out] at HR
     obtain ⟨vB, vBc, rfl⟩ := HF2.out.fo.bl.sl
     obtain ⟨vH, vHc, rfl⟩ := HF2.out.fo.hv.sl
     have c0 := HF2.out.c0
     have c1 := HF2.out.c1
     have c2 := HF2.out.c2
     have c3 := HF2.out.c3
     have c4 := HF2.out.c4
     have c5 := HF2.out.c5
     obtain ⟨⟨F, hF⟩, hFf, _⟩ := HC2.out.feeds.cells
     simp only at hF
     have r0 := hF (j * 6) (by omega)
     have r1 := hF (j * 6 + 1) (by omega)
     have r2 := hF (j * 6 + 2) (by omega)
     have r3 := hF (j * 6 + 3) (by omega)
     have r4 := hF (j * 6 + 4) (by omega)
     have r5 := hF (j * 6 + 5) (by omega)
     have o2 := (qaa HO2.out).2.2.1
     have g1 := (qaa ((HB2.out.block _ lg).trans HG.out)).2.1
     obtain ⟨W13, HW13⟩ : ∃ W13, Hid (((((((W2.setCell ⟨gF, j * 6, none⟩ (.int .i64 gf2.pub)).setCell ⟨gF, j * 6 + 1, none⟩ (.int .i64 gf2.hd.len)).setCell ⟨gF, j * 6 + 2, none⟩ (.int .i64 gf2.hd.dg)).setCell ⟨gF, j * 6 + 3, none⟩ (.int .i64 gf2.hd.sg)).setCell ⟨gF, j * 6 + 4, none⟩ (.slice vB gf2.bl.length vBc)).setCell ⟨gF, j * 6 + 5, none⟩ (.slice vH gf2.hv.length vHc)) = W13) := ⟨_, hI_ rfl⟩
     clear hF
     go_upto_region 12 with fail
     rw [HW13.out]
     have hk13 : ∀ q, q ≠ gF → W13.heap[q]? = W2.heap[q]? := fun q hq => by rw [← HW13.out]; exact qkF hq _ _ _ _ _ _
     have hB13 : Below W.heap.size W W13 := by rw [← HW13.out]; exact qeZ (o := j * 6) HB2.out hWF _ _ _ _ _ _
     have hs13 : W2.heap.size = W13.heap.size := by rw [← HW13.out]; simp
     rw [hs13] at l2A l2o l2g l2q l2a l2r l2z
     have HK13 := hI_ hk13
     have HB13 := hI_ hB13
     clear r0 r1 r2 r3 r4 r5 c0 c1 c2 c3 c4 c5 o2 g1 hFf hk13 hB13 hs13
     have o4 := (qaa ((HK13.out _ n8).trans HO2.out)).2.2.2.2.1
     have g1 := (qaa ((HB13.out.block _ lg).trans HG.out)).2.1
     have t4 := (qaa ((HB13.out.block _ lq).trans HP.out)).2.2.2.2.1
     have ek := (HB13.out.cell (p := ⟨a0, _, none⟩) hab).trans HEK.out
     have s0 := (qaH ((HB13.out.block _ lr).trans HA.out)).1
     have s1 := (qaH ((HB13.out.block _ lr).trans HA.out)).2.1
     have HCA : Hid (qbB Wx.heap.size W13 (.slice (some ⟨gA, 0, none⟩) ks.length cA) ks) := hI_ (by
      obtain ⟨cu, hty⟩ := HC2.out.feeds.ty
      have h := HC2.out.asked.next (qb1 (o := j * 6) hty (by decide) (.int .i64 gf2.pub) (.int .i64 gf2.hd.len) (.int .i64 gf2.hd.dg) (.int .i64 gf2.hd.sg) (.slice vB gf2.bl.length vBc) (.slice vH gf2.hv.length vHc))
      rw [HW13.out] at h
      exact h)
     go_region_held3 (fun w' => w'.cell? ⟨wk.heap.size, 4, none⟩ = some (.slice (some ⟨gA, 0, none⟩) ks.length cA) ∧ w'.cell? ⟨g, 1, none⟩ = some (.int .i64 (j : Int)) ∧ w'.cell? ⟨w.heap.size, 4, none⟩ = some (.slice (some ⟨a0, p0, none⟩) ks.length ac) ∧ w'.cell? ⟨a0, p0 + j, none⟩ = some vk ∧ w'.cell? ⟨r, 0, none⟩ = some (.int .i64 fr) ∧ w'.cell? ⟨r, 1, none⟩ = some (.int .i64 ix))
      (first | with_reducible exact ⟨m0, m1, m2, m3, m4, m5⟩ | (with_reducible refine ⟨Eq.trans (Below.cell (B := W13.heap.size) ?_ l2o) o4, Eq.trans (Below.cell (B := W13.heap.size) ?_ l2g) g1, Eq.trans (Below.cell (B := W13.heap.size) ?_ l2q) t4, Eq.trans (Below.cell (B := W13.heap.size) ?_ l2a) ek, Eq.trans (Below.cell (B := W13.heap.size) ?_ l2r) s0, Eq.trans (Below.cell (B := W13.heap.size) ?_ l2r) s1⟩ <;> (with_reducible repeat (first | exact bR_ _ _ | exact hb014 | refine qab ?_ _ | refine qac ?_)); done))
      ((go_at_call 202; refine (qnr (a := (fr, ix)) HNL _ _ (HRK.out.below (HB13.out.trans (Below.mono (by with_reducible repeat (first | exact bR_ _ _ | refine qab ?_ _ | refine qac ?_)) HB13.out.size))) HLK2.out).mono ?_; rintro e w14 ⟨v14, n0, rfl, ho14, hb14⟩
        obtain ⟨vA, vc, rfl⟩ := ho14.sl
        have hb014 : Below W13.heap.size W13 w14 := qb6 (by with_reducible repeat (first | exact bR_ _ _ | refine qab ?_ _ | refine qac ?_)) hb14
        obtain ⟨⟨F, hF⟩, hFf, _⟩ := (HCA.out.next (qaA.of_below hb014)).cells
        have r0 := hF j hka
        have m0 := (qcu (i := 4) (m := j) (u := .slice vA nl.length vc) n2).trans ((hb014.cell (p := ⟨wk.heap.size, 4, none⟩) l2o).trans o4)
        have m1 := (qcu (i := 1) (m := j) (u := .slice vA nl.length vc) n3).trans ((hb014.cell (p := ⟨g, 1, none⟩) l2g).trans g1)
        have m2 := (qcu (i := 4) (m := j) (u := .slice vA nl.length vc) n4).trans ((hb014.cell (p := ⟨w.heap.size, 4, none⟩) l2q).trans t4)
        have m3 := (qcu (i := p0 + j) (m := j) (u := .slice vA nl.length vc) n5).trans ((hb014.cell (p := ⟨a0, _, none⟩) l2a).trans ek)
        have m4 := (qcu (i := 0) (m := j) (u := .slice vA nl.length vc) n14).trans ((hb014.cell (p := ⟨r, 0, none⟩) l2r).trans s0)
        have m5 := (qcu (i := 1) (m := j) (u := .slice vA nl.length vc) n14).trans ((hb014.cell (p := ⟨r, 1, none⟩) l2r).trans s1)))
     have hput := HC2.out.putFA (j := j) hj hka (HF2.out.fo.stb (by decide) (by decide)) HW13.out hb014 (ho14.stb (by decide))
     have hB18 : Below W.heap.size W (w14.setCell ⟨gA, j, none⟩ (.slice vA nl.length vc)) := qaN (HB13.out.trans (hb014.mono HB13.out.size)) hWB
     have ho18 : (w14.setCell ⟨gA, j, none⟩ (.slice vA nl.length vc)).heap[wk.heap.size]? = _ := (Below.heap_setCell _ _ _ _ n2).trans ((hb014.block _ l2o).trans ((HK13.out _ n8).trans HO2.out))
     obtain ⟨W18, HW18⟩ : ∃ W, Hid (w14.setCell ⟨gA, j, none⟩ (.slice vA nl.length vc) = W) := ⟨_, hI_ rfl⟩
     rw [HW18.out] at hput hB18 ho18
     have hz18 := (hB18.block _ lz).trans HZ.out
     have HPT := hI_ hput
     have HB18 := hI_ hB18
     have HZ18 := hI_ hz18
     have HLN : Hid ((ks.set j nl).length = ks.length) := hI_ List.length_set
     clear hput hB18 m0 m1 m2 m3 m4 o4 g1 t4 ek
     obtain ⟨v0, v1, v2, v3, v4, v5, vf⟩ := qaa ho18
     obtain ⟨z0, z1, z2, z3, z4, z5, zf⟩ := qaa hz18
     rw [HW18.out]
     go_wp2_with fail
     refine bodyPost_ret (v := .agg #[.int .i64 s, .int .i64 bd, .slice (some ⟨gF, 0, none⟩) fs.length cF, .slice uLA ls.length uLc, .slice (some ⟨gA, 0, none⟩) ks.length cA, .slice uNA qs.length uNc]) (by simp [results, Tryz.results187, go_sem, z0, z1, z2, z3, z4, z5]) rfl ?_
     rw [HR.out]
     exact ⟨_, _, _, _, rfl, HPT.out.set6 HZ18.out _ _ _ _ _ _, qae (HB.out.trans (HB18.out.mono (Nat.le_of_lt lq))) (by omega) _ _ _ _ _ _⟩
end Go.Proofs.YtcplnfmcefkehaaGreat
