/- Walk: a block of the writer is appended. No condition but small sizes. | Walk: a run with some blocks and connections is drawn. No condition. | Words: one row of a copy is written; contracts whose value has a name. No condition. | Walk: the draw of FeedHead; words for the laws on FeedHead. -/
import Derived.Test.YtcplnfmcefkehaaGreatTd
import Derived.Test.YtcplnfmcefkehaaGreatBZ
import Derived.Deep.CutBlock
import Derived.Deep.DeepCutAuto
set_option linter.unusedVariables false
set_option linter.unusedSimpArgs false
namespace Go.Proofs.YtcplnfmcefkehaaGreat
open Go.RowKit
attribute [local go_sem ↓] Go.wp_at_zero Go.wp_at_succ

structure qg6 (g P : Nat) (w : World) (q y : Nat) (x : Wd) (vF vL vA vN : Value) (wr : World) : Prop where
 z : wr.heap[q]? = some (.cells #[.int .i64 0, .int .i64 0, .slice none 0 0, .slice none 0 0, .slice none 0 0, .slice none 0 0] 35 (0, 0))
 b : wr.heap[y]? = some (.cells #[.int .i64 x.sec, .int .i64 x.bad, vF, vL, vA, vN] 35 (0, 0))
 s : WdS wr x vF vL vA vN
 r : Rdr wr g P
 o : qbb g w wr
 d : DW x
 hq : w.heap.size = q
 hy : q < y
 hg : g < q
section
variable {g P P' q y : Nat} {w wr w2 : World} {x x' : Wd} {vF vL vA vN uF uL uA uN : Value}
theorem qg6.mono (h : qg6 g P w q y x vF vL vA vN wr) (hP : P ≤ P') : qg6 g P' w q y x vF vL vA vN wr := ⟨h.z, h.b, h.s, h.r.mono hP, h.o, h.d, h.hq, h.hy, h.hg⟩
theorem qg6.only (h : qg6 g P w q y x vF vL vA vN wr) (ho : qbb g wr w2) (hr : Rdr w2 g P') : qg6 g P' w q y x vF vL vA vN w2 :=
 ⟨(ho.block _ (qai h.z) (fun e => by have := Option.some.inj e; have := h.hg; omega)).trans h.z, (ho.block _ (qai h.b) (fun e => by have := Option.some.inj e; have := h.hg; have := h.hy; omega)).trans h.b,
   h.s.keep (qf7 ho h.r), hr, h.o.trans ho, h.d, h.hq, h.hy, h.hg⟩
theorem qg6.below (h : qg6 g P w q y x vF vL vA vN wr) (hb : Below wr.heap.size wr w2) : qg6 g P w q y x vF vL vA vN w2 := h.only (qbb.of_below hb) (h.r.below hb)
end
theorem WdS.sl {w : World} {x : Wd} {vF vL vA vN : Value} (h : WdS w x vF vL vA vN) : (∃ A c, vF = .slice A x.feeds.length c) ∧ (∃ A c, vL = .slice A x.links.length c) ∧ (∃ A c, vA = .slice A x.asked.length c) ∧ ∃ A c, vN = .slice A x.net.length c := ⟨h.r.feeds.sl, h.r.links.sl, h.r.asked.sl, h.r.net.sl⟩
end Go.Proofs.YtcplnfmcefkehaaGreat
namespace Go.Proofs.YtcplnfmcefkehaaGreat
open Go.RowKit

section
variable {B g j n cap : Nat} {w : World} {x : Wd} {vF vL vA vN : Value}
theorem qa1.cells (h : qa1 B w (.slice (some ⟨g, 0, none⟩) n cap) x.feeds) : (∃ F : Nat → Value, ∀ t, t < x.feeds.length * 6 → w.cell? ⟨g, t, none⟩ = some (F t)) ∧ (∀ i, w.frozen? ⟨g, i, none⟩ = false) ∧ ∃ cur, w.heap[g]? = some (.cells cur 59 (0, 0)) := (h.toX 0).cells
theorem qbB.cells {ls : List (List (Int × Int))} (h : qbB B w (.slice (some ⟨g, 0, none⟩) n cap) ls) : (∃ F : Nat → Value, ∀ t, t < ls.length → w.cell? ⟨g, t, none⟩ = some (F t)) ∧ (∀ i, w.frozen? ⟨g, i, none⟩ = false) ∧ ∃ cur, w.heap[g]? = some (.cells cur 50 (0, 0)) := by
 obtain ⟨F, h1, h2⟩ := h
 obtain ⟨_, _, he⟩ := h1.rn.sl
 obtain rfl : n = ls.length := by injection he
 obtain ⟨cur, hr⟩ := h1.row0 g rfl
 exact ⟨⟨F, fun t ht => (h1.at_ (by omega)).1⟩, fun i => qgI hr i, cur, hr⟩
theorem qb1 {T : List TypeId} {o : Nat} {cur : Array Value} {e : TypeId} {fr : Nat × Nat} (hty : w.heap[g]? = some (.cells cur e fr)) (he : e ∉ T) (x0 x1 x2 x3 x4 x5 : Value) :
 qaA T w ((((((w.setCell ⟨g, o, none⟩ x0).setCell ⟨g, o + 1, none⟩ x1).setCell ⟨g, o + 2, none⟩ x2).setCell ⟨g, o + 3, none⟩ x3).setCell ⟨g, o + 4, none⟩ x4).setCell ⟨g, o + 5, none⟩ x5) :=
 qaA.of_grown (row := some g) (qat (qat (qat (qat (qat (qaR _ _ _) (qaR _ _ _)) (qaR _ _ _)) (qaR _ _ _)) (qaR _ _ _)) (qaR _ _ _)) (fun r hr => by cases hr; exact ⟨cur, e, _, hty, he⟩)
theorem WdC.putF {f : Fd} {vb vh : Value} (h : WdC B w x (.slice (some ⟨g, 0, none⟩) n cap) vL vA vN) (hj : j < x.feeds.length) (hf : Stb LB (fun w => qaU w f vb vh) w) :
 WdS ((((((w.setCell ⟨g, j * 6, none⟩ (.int .i64 f.pub)).setCell ⟨g, j * 6 + 1, none⟩ (.int .i64 f.hd.len)).setCell ⟨g, j * 6 + 2, none⟩ (.int .i64 f.hd.dg)).setCell ⟨g, j * 6 + 3, none⟩ (.int .i64 f.hd.sg)).setCell ⟨g, j * 6 + 4, none⟩ vb).setCell ⟨g, j * 6 + 5, none⟩ vh)
  { x with feeds := x.feeds.set j f } (.slice (some ⟨g, 0, none⟩) n cap) vL vA vN := by
 obtain ⟨cur, hty⟩ := h.feeds.ty
 exact WdS.of ((h.feeds.toX j).put hj hf) ((h.links.next (T := [52]) (qb1 hty (by decide) _ _ _ _ _ _) (by decide)).stb (by decide)) (h.asked.next (qb1 hty (by decide) _ _ _ _ _ _)).stb (h.net.next (qb1 hty (by decide) _ _ _ _ _ _)).stb
end
theorem FB.setz {B q z : Nat} {w : World} {f : Fd} {vb vh : Value} {cur : Array Value} {x : Nat × Nat} (h : FB B q w f vb vh) (hz : w.heap[z]? = some (.cells cur 55 x)) (hne : q ≠ z) (i : Nat) (u : Value) : FB B q (w.setCell ⟨z, i, none⟩ u) f vb vh :=
 ⟨(Below.heap_setCell _ _ _ _ hne).trans h.box, ⟨h.fo.bl.setq hz (by decide) _ _, h.fo.hv.setq hz (by decide) _ _⟩⟩
structure HW (g q z : Nat) (W0 w : World) (f : Fd) (vb vh : Value) (h : Hd) (gv : Value) (gl : List Int) : Prop where
 fb : FB (g + 1) q w f vb vh
 hd : w.heap[z]? = some (.cells #[.int .i64 h.len, .int .i64 h.dg, .int .i64 h.sg] 55 (0, 0))
 gr : O1 (Value.int .i64) (g + 1) 3 w gv gl
 bel : Below W0.heap.size W0 w
theorem HW.below {g q z : Nat} {W0 w w' : World} {f : Fd} {vb vh : Value} {h : Hd} {gv : Value} {gl : List Int} (k : HW g q z W0 w f vb vh h gv gl) (hb : Below w.heap.size w w') : HW g q z W0 w' f vb vh h gv gl :=
 ⟨k.fb.below hb, (hb.block z (Array.getElem?_eq_some_iff.1 k.hd).1).trans k.hd, k.gr.below hb, k.bel.trans (hb.mono k.bel.size)⟩
theorem HW.only {g q z : Nat} {W0 w w' : World} {f : Fd} {vb vh : Value} {h : Hd} {gv : Value} {gl : List Int} (k : HW g q z W0 w f vb vh h gv gl) (ho : qbb g w w') (hg : W0.heap.size ≤ g) (hgl : g < w.heap.size) (hq : g ≠ q) (hz : g ≠ z) : HW g q z W0 w' f vb vh h gv gl :=
 ⟨k.fb.only ho (Nat.lt_succ_self g) hq, (ho.block z (Array.getElem?_eq_some_iff.1 k.hd).1 (fun e => hz (Option.some.inj e).symm)).trans k.hd, k.gr.only ho (Nat.lt_succ_self g), k.bel.trans (ho.below hg hgl)⟩
theorem HW.set1 {g q z : Nat} {W0 w : World} {f : Fd} {vb vh : Value} {h : Hd} {gv : Value} {gl : List Int} (k : HW g q z W0 w f vb vh h gv gl) (hq : q ≠ z) (hz : W0.heap.size ≤ z) (d : Int) : HW g q z W0 (w.setCell ⟨z, 1, none⟩ (.int .i64 d)) f vb vh ⟨h.len, d, h.sg⟩ gv gl :=
 ⟨k.fb.setz k.hd hq _ _, qas k.hd _, k.gr.setq k.hd (by decide) _ _, k.bel.setCell hz _⟩
theorem qiU {f o : Fd} {h : Hd} {l : List Int} {c : Int} (hh : Hid (qc9 f h l = (o, c))) (vb vh lv : Value) (w : World) (hf : qaU w f vb vh) (hl : RI w lv l) :
 Calls Tryz.prog 190 #[.agg #[.int .i64 f.pub, .int .i64 f.hd.len, .int .i64 f.hd.dg, .int .i64 f.hd.sg, vb, vh], .agg #[.int .i64 h.len, .int .i64 h.dg, .int .i64 h.sg], lv] w (qjI o c w) := by
 have := qkg f h l vb vh lv w hf hl
 rw [hh.out] at this
 exact this
theorem qiV {f o : Fd} {h : Hd} {l : List Int} {c : Int} (hh : Hid (qc9 f h l = (o, c))) (vb vh lv : Value) (w : World) (hf : qaU w f vb vh) (hl : RI w lv l) :
 Calls Tryz.prog 195 #[.agg #[.int .i64 f.pub, .int .i64 f.hd.len, .int .i64 f.hd.dg, .int .i64 f.hd.sg, vb, vh], .agg #[.int .i64 h.len, .int .i64 h.dg, .int .i64 h.sg], lv] w (qjI o c w) := by
 have := qkh f h l vb vh lv w hf hl
 rw [hh.out] at this
 exact this
structure LW (B q z : Nat) (w : World) (f : Fd) (vb vh : Value) (h : Hd) (gv : Value) (gl : List Int) : Prop where
 fb : FB B q w f vb vh
 hd : w.heap[z]? = some (.cells #[.int .i64 h.len, .int .i64 h.dg, .int .i64 h.sg] 55 (0, 0))
 gr : RI w gv gl
section
variable {B q z : Nat} {w w' : World} {f : Fd} {vb vh : Value} {h : Hd} {gv : Value} {gl : List Int}
theorem LW.below (k : LW B q z w f vb vh h gv gl) (hb : Below w.heap.size w w') : LW B q z w' f vb vh h gv gl :=
 ⟨k.fb.below hb, (hb.block z (Array.getElem?_eq_some_iff.1 k.hd).1).trans k.hd, k.gr.below hb⟩
end
end Go.Proofs.YtcplnfmcefkehaaGreat
