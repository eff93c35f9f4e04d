/- Walks: sizes of whole worlds, as sums; marks of whole worlds. -/
import Derived.Test.YtcplnfmcefkehaaGreatBS
import Derived.Test.YtcplnfmcefkehaaGreatBQ
set_option linter.unusedVariables false
set_option linter.unusedSimpArgs false
namespace Go.Proofs.YtcplnfmcefkehaaGreat
open Go.RowKit

def qqP (x : Wd) : Nat := x.feeds.length + qpu fsz x.feeds + x.links.length + (x.asked.length + qpu List.length x.asked) + (x.net.length + qpu psz x.net)
theorem qqh {x : Wd} (h : qqP x ≤ 1048576) : qrB x := by
 unfold qqP at h
 refine ⟨by omega, fun j hj => ?_, by omega, by omega, fun j hj => ?_, by omega, fun j hj => ?_⟩
 · have := qqd fsz x.feeds hj
   unfold fsz at *
   omega
 · have := qqd List.length x.asked hj
   omega
 · have := qqd psz x.net hj
   unfold psz at *
   omega
theorem qqM : ∀ fs : List Fd, qpu fw fs = 4 * fs.length + qpu fsz fs
 | [] => rfl
 | f :: fs => by
   have := qqM fs
   unfold qpu at *
   simp only [List.map_cons, List.sum_cons, List.length_cons, this]
   unfold fw fsz
   omega
theorem qqN : ∀ ls : List (List (Int × Int)), qpu lw ls = 2 * qpu List.length ls
 | [] => rfl
 | f :: fs => by
   have := qqN fs
   unfold qpu at *
   simp only [List.map_cons, List.sum_cons, this]
   unfold lw
   omega
theorem qqO : ∀ ps : List Pc, qpu pw ps = 5 * ps.length + qpu psz ps
 | [] => rfl
 | f :: fs => by
   have := qqO fs
   unfold qpu at *
   simp only [List.map_cons, List.sum_cons, List.length_cons, this]
   unfold pw psz
   omega
def qrj (x : Wd) (w : World) (e : Ending) (w' : World) : Prop := ∃ r : Int, e = .returned (.int .i64 r) ∧ r ≤ 1048576 ∧ (0 ≤ r → qqP x ≤ 1048576) ∧ Below w.heap.size w w'
set_option maxHeartbeats 800000 in
theorem qre (x : Wd) (vF vL vK vN : Value) (w : World) (hx : WdR w x vF vL vK vN) (ht : qrA x) :
 Calls Tryz.prog 12 #[.agg #[.int .i64 x.sec, .int .i64 x.bad, vF, vL, vK, vN], .int .i64 1048576] w (qrj x w) := by
 obtain ⟨s, b, fs, ls, ks, ps⟩ := x
 obtain ⟨W0, HW0⟩ : ∃ W0, Hid (w.alloc (.cells #[.int .i64 s, .int .i64 b, vF, vL, vK, vN] 27) = W0) := ⟨_, hI_ rfl⟩
 have HB0 : Hid (Below w.heap.size w W0) := hI_ (by rw [← HW0.out]; exact (bR_ _ _).alloc (nr_ _) _)
 have hp : W0.heap[w.heap.size]? = some (.cells #[.int .i64 s, .int .i64 b, vF, vL, vK, vN] 27 (0, 0)) := by rw [← HW0.out]; exact heap_alloc_new w _
 have lp := (Array.getElem?_eq_some_iff.1 hp).1
 have HP := hI_ hp
 have HX := hI_ (hx.below HB0.out)
 have HT := hI_ ht
 obtain ⟨p0, p1, p2, p3, p4, p5, pf⟩ := qaa hp
 clear hx ht hp
 simp only
 go_enter Tryz.func12, Tryz.ntmps12
 go_wp2_with fail
 rw [HW0.out]
 refine (qrb fs _ 1048576 W0 HX.out.feeds HT.out.f (by omega) (by omega)).mono ?_
 rintro e w1 ⟨r1, rfl, hr1, hs1, hb1⟩
 by_cases hn1 : r1 < 0
 · go_wp2
   go_ret; exact ⟨-1, rfl, by omega, by omega, HB0.out.trans (hb1.mono HB0.out.size)⟩
 have HS1 := hI_ (hs1 (by omega))
 clear hs1 p0 p1 p2 p3 p4 p5 pf
 obtain ⟨p0, p1, p2, p3, p4, p5, pf⟩ := qaa ((hb1.block _ lp).trans HP.out)
 have hg1 : 0 ≤ r1 := by omega
 go_wp2_with fail
 refine (qrc ls _ r1 w1 (HX.out.below hb1).links hg1 hr1).mono ?_
 rintro e w2 ⟨⟨r2, rfl, hr2, hs2⟩, rfl⟩
 by_cases hn2 : r2 < 0
 · go_wp2
   go_ret; exact ⟨-1, rfl, by omega, by omega, HB0.out.trans (hb1.mono HB0.out.size)⟩
 have HS2 := hI_ (hs2 (by omega))
 have hg2 : 0 ≤ r2 := by omega
 clear hs2
 go_wp2_with fail
 refine (qq9 ks _ r2 w1 (HX.out.below hb1).asked hg2 hr2).mono ?_
 rintro e w3 ⟨r3, rfl, hr3, hs3, hb3⟩
 have hb13 := qa3 hb1 hb3
 by_cases hn3 : r3 < 0
 · go_wp2
   go_ret; exact ⟨-1, rfl, by omega, by omega, HB0.out.trans (hb13.mono HB0.out.size)⟩
 have HS3 := hI_ (hs3 (by omega))
 have hg3 : 0 ≤ r3 := by omega
 clear hs3 p0 p1 p2 p3 p4 p5 pf
 obtain ⟨p0, p1, p2, p3, p4, p5, pf⟩ := qaa ((hb13.block _ lp).trans HP.out)
 go_wp2_with fail
 refine (qqW ps _ r3 w3 (HX.out.below hb13).net HT.out.n hg3 hr3).mono ?_
 rintro e w4 ⟨r4, rfl, hr4, hs4, hb4⟩
 have hb14 := qa3 hb13 hb4
 by_cases hn4 : r4 < 0
 · go_wp2
   go_ret; exact ⟨-1, rfl, by omega, by omega, HB0.out.trans (hb14.mono HB0.out.size)⟩
 have HS4 := hI_ (hs4 (by omega))
 clear hs4
 go_wp2
 go_ret
 exact ⟨r4, rfl, hr4, fun _ => by unfold qqP; have := HS1.out; have := HS2.out; have := HS3.out; have := HS4.out; simp only; omega, HB0.out.trans (hb14.mono HB0.out.size)⟩
theorem Mid.widen {B C B' C' : Nat} {a b : World} (h : Mid B C a b) (hB : B' ≤ B) (hC : C ≤ C') : Mid B' C' a b := ⟨h.os, h.tape, h.output, h.size, fun k hk hd => h.block k hk (by omega)⟩
def qrg (k : Nat) (x : Wd) : Nat := qpS (qpR (qpN k x.feeds x.feeds.length + 2 * x.links.length) x.asked x.asked.length) x.net x.net.length
set_option maxHeartbeats 800000 in
theorem qqb (x : Wd) (vF vL vK vN : Value) (k B C : Nat) (w : World) (hx : WdO B C w x vF vL vK vN) (hC : C ≤ w.heap.size) (hs : qqP x ≤ 1048576) (hk : k ≤ 1000000) :
 Calls Tryz.prog 20 #[.agg #[.int .i64 x.sec, .int .i64 x.bad, vF, vL, vK, vN], .int .i64 k] w fun e w' => e = .returned (.int .i64 ((qrg k x : Nat) : Int)) ∧ Mid B C w w' := by
 obtain ⟨W0, HW0⟩ : ∃ W0, Hid (w.alloc (.cells #[.int .i64 x.sec, .int .i64 x.bad, vF, vL, vK, vN] 35) = W0) := ⟨_, hI_ rfl⟩
 have hb0 : Below w.heap.size w W0 := by rw [← HW0.out]; exact (bR_ _ _).alloc (nr_ _) _
 have hp : W0.heap[w.heap.size]? = some (.cells #[.int .i64 x.sec, .int .i64 x.bad, vF, vL, vK, vN] 35 (0, 0)) := by rw [← HW0.out]; exact heap_alloc_new w _
 have lp := (Array.getElem?_eq_some_iff.1 hp).1
 obtain ⟨b1, b2, b3, h1, h2, h3, h4, q1, q2, q3, q4⟩ := hx.below hb0
 obtain ⟨K1, HK1⟩ : ∃ K, Hid (qpN k x.feeds x.feeds.length = K) := ⟨_, hI_ rfl⟩
 obtain ⟨K2, HK2⟩ : ∃ K, Hid (K1 + 2 * x.links.length = K) := ⟨_, hI_ rfl⟩
 obtain ⟨K3, HK3⟩ : ∃ K, Hid (qpR K2 x.asked x.asked.length = K) := ⟨_, hI_ rfl⟩
 obtain ⟨K4, HK4⟩ : ∃ K, Hid (qpS K3 x.net x.net.length = K) := ⟨_, hI_ rfl⟩
 have hZ := qqh hs
 have HZ := hI_ hZ
 unfold qqP at hs
 have c1 : K1 ≤ 10000000 := by rw [← HK1.out]; unfold qpN; rw [qpy, qqM]; omega
 have c2 : K2 ≤ 20000000 := by have := HK2.out; omega
 have c3 : K3 ≤ 30000000 := by rw [← HK3.out]; unfold qpR; rw [qpy, qqN]; omega
 have c4 : K4 ≤ 40000000 := by rw [← HK4.out]; unfold qpS; rw [qpy, qqO]; omega
 have HF : Hid (qrg k x = K4) := hI_ (by unfold qrg; rw [HK1.out, HK2.out, HK3.out, HK4.out])
 rw [HF.out]
 have HP := hI_ hp
 have HQ := hI_ (show _ ∧ _ ∧ _ ∧ _ from ⟨q1, q2, q3, q4⟩)
 obtain ⟨p0, p1, p2, p3, p4, p5, pf⟩ := qaa hp
 have hCB : B ≤ W0.heap.size := Nat.le_trans (by omega : B ≤ w.heap.size) hb0.size
 have hcb1 : b1 ≤ W0.heap.size := Nat.le_trans (by omega : b1 ≤ w.heap.size) hb0.size
 have HSZ0 := hI_ hb0.size
 have HB0 := hI_ hb0
 clear hx hp q1 q2 q3 q4 hs hZ hb0
 go_enter Tryz.func20, Tryz.ntmps20
 go_wp2_with fail
 rw [HW0.out]
 refine (qpL x.feeds _ k B b1 W0 HQ.out.1 hCB hcb1 (by rw [HK1.out]; omega) HZ.out.f1).mono ?_
 rintro e w1 ⟨rfl, -, hm1, -⟩
 rw [HK1.out]
 have hp1 := (hm1.block w.heap.size lp (.inr (by omega))).trans HP.out
 have lp1 := (Array.getElem?_eq_some_iff.1 hp1).1
 have l1 := HQ.out.2.1.mid hm1 (nr_ _)
 have a1 := HQ.out.2.2.1.mid hm1 h2
 have n1 := HQ.out.2.2.2.mid hm1 (Nat.le_trans h2 h3)
 have HM1 := hI_ hm1
 have HH1 := hI_ (show _ ∧ _ ∧ _ from ⟨l1, a1, n1⟩)
 have HP1 := hI_ hp1
 clear p0 p1 p2 p3 p4 p5 pf hm1 l1 a1 n1 hp1
 obtain ⟨p0, p1, p2, p3, p4, p5, pf⟩ := qaa HP1.out
 go_wp2_with fail
 refine (qpM x.links _ K1 b1 b2 w1 HH1.out.1 (by have := HZ.out.l0; omega) (by omega)).mono ?_
 rintro e w2 ⟨rfl, -, hg2⟩
 rw [HK2.out]
 have hm2 : Mid b1 b2 w1 w2 := Mid.grown hg2 (fun k hk => ⟨(HH1.out.1.lt k hk).1, HH1.out.1.1 k hk⟩)
 have hp2 := (hm2.block w.heap.size lp1 (.inr (by omega))).trans HP1.out
 have lp2 := (Array.getElem?_eq_some_iff.1 hp2).1
 have a2 := HH1.out.2.1.mid hm2 (nr_ _)
 have n2 := HH1.out.2.2.mid hm2 h3
 have HM2 := hI_ hm2
 have HH2 := hI_ (show _ ∧ _ from ⟨a2, n2⟩)
 have HP2 := hI_ hp2
 clear p0 p1 p2 p3 p4 p5 pf hm2 a2 n2 hp2 hg2
 obtain ⟨p0, p1, p2, p3, p4, p5, pf⟩ := qaa HP2.out
 go_wp2_with fail
 refine (qpK x.asked _ K2 b2 b3 w2 HH2.out.1 (by rw [HK3.out]; omega) HZ.out.k1).mono ?_
 rintro e w3 ⟨rfl, -, hm3, -⟩
 rw [HK3.out]
 have hp3 := (hm3.block w.heap.size lp2 (.inr (by omega))).trans HP2.out
 have n3 := HH2.out.2.mid hm3 (nr_ _)
 have HM3 := hI_ hm3
 have HH3 := hI_ n3
 clear p0 p1 p2 p3 p4 p5 pf hm3 n3
 obtain ⟨p0, p1, p2, p3, p4, p5, pf⟩ := qaa hp3
 clear hp3
 go_wp2_with fail
 refine (qpI x.net _ K3 b3 C w3 HH3.out (by rw [HK4.out]; omega) HZ.out.n1).mono ?_
 rintro e w4 ⟨rfl, -, hm4, -⟩
 rw [HK4.out]
 have HM4 := hI_ hm4
 clear p0 p1 p2 p3 p4 p5 pf hm4
 go_wp2
 go_ret
 refine ⟨rfl, ?_⟩
 have e1 : Mid B C W0 w1 := HM1.out.widen (nr_ _) (by omega)
 have e2 : Mid B C w1 w2 := HM2.out.widen (by omega) (by omega)
 have e3 : Mid B C w2 w3 := HM3.out.widen (by omega) (by omega)
 have e4 : Mid B C w3 w4 := HM4.out.widen (by omega) (nr_ _)
 exact (((((Mid.of_below HB0.out).trans e1).trans e2).trans e3).trans e4)
end Go.Proofs.YtcplnfmcefkehaaGreat
