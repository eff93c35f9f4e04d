/- Walks: marks of whole worlds whose rows lie anywhere in a stretch; the size of valid worlds. -/
import Derived.Test.YtcplnfmcefkehaaGreatLs
import Derived.Test.YtcplnfmcefkehaaGreatCI
set_option linter.unusedVariables false
set_option linter.unusedSimpArgs false
namespace Go.Proofs.YtcplnfmcefkehaaGreat
open Go.RowKit

theorem qpE {α : Type} (f : α → Nat) (K : Nat) : ∀ l : List α, (∀ j (hj : j < l.length), f l[j] ≤ K) → qpu f l ≤ l.length * K
 | [], _ => by simp [qpu]
 | a :: l, h => by
   have h0 : f a ≤ K := h 0 (by simp)
   have := qpE f K l (fun j hj => h (j + 1) (by simpa using hj))
   unfold qpu at *
   simp only [List.map_cons, List.sum_cons, List.length_cons]
   rw [Nat.succ_mul]
   omega
theorem qrx {x : Wd} (h : WV x) : qqP x ≤ 2000 := by
 have hi := h.wi
 have a1 := qpE fsz 32 x.feeds (fun j hj => by have := qax (hi.fv j hj).1; unfold fsz; omega)
 have a2 := qpE List.length 40 x.asked hi.ask
 have a3 := qpE psz 100 x.net (fun j hj => by have := (hi.pcs j hj).2.2.2; unfold psz; omega)
 have b1 := hi.n6
 have b2 := hi.na
 have b3 := hi.nl
 have b4 := hi.net
 unfold qqP
 omega
section
variable {T : List TypeId} {B C B1 B2 : Nat} {w w' : World} {v vF vL vA vN : Value} {x : Wd}
theorem qa7.nextT {fs : List Fd} (h : qa7 B C w v fs) (hk : qaA T w w') (t1 : 59 ∈ T) (t2 : 9 ∈ T) (t3 : 4 ∈ T) : qa7 B C w' v fs := by
 obtain ⟨h0, F, h1, h2, h3⟩ := h
 exact ⟨h0, F, h1.keepT hk t1, fun j hj => ⟨(h2 j hj).1, (h2 j hj).2.1, (h2 j hj).2.2.1, (h2 j hj).2.2.2.1, (h2 j hj).2.2.2.2.1.keep hk t2 t3, (h2 j hj).2.2.2.2.2⟩, h3⟩
theorem qcA.nextT {ls : List (List (Int × Int))} (h : qcA B C w v ls) (hk : qaA T w w') (t1 : 50 ∈ T) (t2 : 118 ∈ T) : qcA B C w' v ls := by
 obtain ⟨h0, F, h1, h2, h3⟩ := h
 exact ⟨h0, F, h1.keepT hk t1, fun j hj => (h2 j hj).keepT hk t2, h3⟩
theorem qbd.nextT {ps : List Pc} (h : qbd B C w v ps) (hk : qaA T w w') (t1 : 72 ∈ T) (t2 : 3 ∈ T) : qbd B C w' v ps := by
 obtain ⟨h0, F, h1, h2, h3⟩ := h
 exact ⟨h0, F, h1.keepT hk t1, fun j hj => ⟨(h2 j hj).1, (h2 j hj).2.1, (h2 j hj).2.2.1, (h2 j hj).2.2.2.1, (h2 j hj).2.2.2.2.1, (h2 j hj).2.2.2.2.2.1.keepT hk t2, (h2 j hj).2.2.2.2.2.2⟩, h3⟩
theorem qa7.mid {fs : List Fd} (h : qa7 B C w v fs) (hb : Mid B1 B2 w w') (hB : B2 ≤ B) : qa7 B C w' v fs := by
 obtain ⟨h0, F, h1, h2, h3⟩ := h
 exact ⟨h0, F, h1.mid hb hB, fun j hj => ⟨(h2 j hj).1, (h2 j hj).2.1, (h2 j hj).2.2.1, (h2 j hj).2.2.2.1, ⟨(h2 j hj).2.2.2.2.1.bl.mid hb hB, (h2 j hj).2.2.2.2.1.hv.mid hb hB⟩, (h2 j hj).2.2.2.2.2⟩, h3⟩
theorem WdP.mid (h : WdP B C w x vF vL vA vN) (hb : Mid B1 B2 w w') (hB : B2 ≤ B) : WdP B C w' x vF vL vA vN := ⟨h.F.mid hb hB, h.L.mid hb hB, h.A.mid hb hB, h.N.mid hb hB⟩
theorem WdP.r (h : WdP B C w x vF vL vA vN) : WdR w x vF vL vA vN := ⟨h.F.r, h.L.r, h.A.r, h.N.r⟩
theorem WdO.p (h : WdO B C w x vF vL vA vN) : WdP B C w x vF vL vA vN := by
 obtain ⟨b1, b2, b3, h1, h2, h3, h4, p1, p2, p3, p4⟩ := h
 exact ⟨p1.mono (nr_ _) (by omega), p2.mono (by omega) (by omega), p3.mono (by omega) (by omega), p4.mono (by omega) (nr_ _)⟩
end
set_option maxHeartbeats 800000 in
theorem qp1 (x : Wd) (vF vL vK vN : Value) (k B C : Nat) (w : World) (hx : WdP B C w x vF vL vK vN) (hB : B ≤ w.heap.size) (hC : C ≤ w.heap.size) (hs : qqP x ≤ 1048576) (hk : k ≤ 1000000) :
 Calls Tryz.prog 20 #[.agg #[.int .i64 x.sec, .int .i64 x.bad, vF, vL, vK, vN], .int .i64 k] w fun e w' => e = .returned (.int .i64 ((qrg k x : Nat) : Int)) ∧ WdP B C w' (mW k x) vF vL vK vN ∧ Mid B C w w' := by
 obtain ⟨W0, HW0⟩ : ∃ W0, Hid (w.alloc (.cells #[.int .i64 x.sec, .int .i64 x.bad, vF, vL, vK, vN] 35) = W0) := ⟨_, hI_ rfl⟩
 have hb0 : Below w.heap.size w W0 := by rw [← HW0.out]; exact (bR_ _ _).alloc (nr_ _) _
 have hp : W0.heap[w.heap.size]? = some (.cells #[.int .i64 x.sec, .int .i64 x.bad, vF, vL, vK, vN] 35 (0, 0)) := by rw [← HW0.out]; exact heap_alloc_new w _
 have lp := (Array.getElem?_eq_some_iff.1 hp).1
 have HQ := hI_ (hx.below hb0)
 obtain ⟨K1, HK1⟩ : ∃ K, Hid (qpN k x.feeds x.feeds.length = K) := ⟨_, hI_ rfl⟩
 obtain ⟨K2, HK2⟩ : ∃ K, Hid (K1 + 2 * x.links.length = K) := ⟨_, hI_ rfl⟩
 obtain ⟨K3, HK3⟩ : ∃ K, Hid (qpR K2 x.asked x.asked.length = K) := ⟨_, hI_ rfl⟩
 obtain ⟨K4, HK4⟩ : ∃ K, Hid (qpS K3 x.net x.net.length = K) := ⟨_, hI_ rfl⟩
 have hZ := qqh hs
 have HZ := hI_ hZ
 unfold qqP at hs
 have c1 : K1 ≤ 10000000 := by rw [← HK1.out]; unfold qpN; rw [qpy, qqM]; omega
 have c2 : K2 ≤ 20000000 := by have := HK2.out; omega
 have c3 : K3 ≤ 30000000 := by rw [← HK3.out]; unfold qpR; rw [qpy, qqN]; omega
 have c4 : K4 ≤ 40000000 := by rw [← HK4.out]; unfold qpS; rw [qpy, qqO]; omega
 have HF : Hid (qrg k x = K4) := hI_ (by unfold qrg; rw [HK1.out, HK2.out, HK3.out, HK4.out])
 have HM : Hid (mW k x = { x with feeds := mFs k x.feeds x.feeds.length, links := (List.range x.links.length).map (mP K1), asked := mLs K2 x.asked x.asked.length, net := mNs K3 x.net x.net.length }) := hI_ (by unfold mW; rw [HK1.out, HK2.out, HK3.out])
 rw [HF.out]
 have HP := hI_ hp
 obtain ⟨p0, p1, p2, p3, p4, p5, pf⟩ := qaa hp
 have hCB : B ≤ W0.heap.size := Nat.le_trans hB hb0.size
 have hcb1 : C ≤ W0.heap.size := Nat.le_trans hC hb0.size
 have HB0 := hI_ hb0
 clear hx hp hs hZ hb0
 go_enter Tryz.func20, Tryz.ntmps20
 go_wp2_with fail
 rw [HW0.out]
 refine (qpL x.feeds _ k B C W0 HQ.out.F hCB hcb1 (by rw [HK1.out]; omega) HZ.out.f1).mono ?_
 rintro e w1 ⟨rfl, f1, hm1⟩
 rw [HK1.out]
 have hp1 := (hm1.1.block w.heap.size lp (.inr (by omega))).trans HP.out
 have lp1 := (Array.getElem?_eq_some_iff.1 hp1).1
 have HM1 := hI_ hm1.1
 have HF1 := hI_ f1
 have HL1 := hI_ (HQ.out.L.keepT hm1.2 (by decide))
 have HA1 := hI_ (HQ.out.A.nextT hm1.2 (by decide) (by decide))
 have HN1 := hI_ (HQ.out.N.nextT hm1.2 (by decide) (by decide))
 have HP1 := hI_ hp1
 clear p0 p1 p2 p3 p4 p5 pf hm1 hp1 f1
 obtain ⟨p0, p1, p2, p3, p4, p5, pf⟩ := qaa HP1.out
 go_wp2_with fail
 refine (qpM x.links _ K1 B C w1 HL1.out (by have := HZ.out.l0; omega) (by omega)).mono ?_
 rintro e w2 ⟨rfl, l2, hg2⟩
 rw [HK2.out]
 have hm2 : MK NL B C w1 w2 := MK.grown hg2 (fun k hk => ⟨(HL1.out.lt k hk).1, HL1.out.1 k hk⟩) (HL1.out.off (by decide))
 have hp2 := (hm2.1.block w.heap.size lp1 (.inr (by omega))).trans HP1.out
 have lp2 := (Array.getElem?_eq_some_iff.1 hp2).1
 have HM2 := hI_ hm2.1
 have HF2 := hI_ (HF1.out.nextT hm2.2 (by decide) (by decide) (by decide))
 have HL2 := hI_ l2
 have HA2 := hI_ (HA1.out.nextT hm2.2 (by decide) (by decide))
 have HN2 := hI_ (HN1.out.nextT hm2.2 (by decide) (by decide))
 have HP2 := hI_ hp2
 clear p0 p1 p2 p3 p4 p5 pf hm2 hp2 hg2 l2
 obtain ⟨p0, p1, p2, p3, p4, p5, pf⟩ := qaa HP2.out
 go_wp2_with fail
 refine (qpK x.asked _ K2 B C w2 HA2.out (by rw [HK3.out]; omega) HZ.out.k1).mono ?_
 rintro e w3 ⟨rfl, a3, hm3⟩
 rw [HK3.out]
 have hp3 := (hm3.1.block w.heap.size lp2 (.inr (by omega))).trans HP2.out
 have HM3 := hI_ hm3.1
 have HF3 := hI_ (HF2.out.nextT hm3.2 (by decide) (by decide) (by decide))
 have HL3 := hI_ (HL2.out.keepT hm3.2 (by decide))
 have HA3 := hI_ a3
 have HN3 := hI_ (HN2.out.nextT hm3.2 (by decide) (by decide))
 clear p0 p1 p2 p3 p4 p5 pf hm3 a3
 obtain ⟨p0, p1, p2, p3, p4, p5, pf⟩ := qaa hp3
 clear hp3
 go_wp2_with fail
 refine (qpI x.net _ K3 B C w3 HN3.out (by rw [HK4.out]; omega) HZ.out.n1).mono ?_
 rintro e w4 ⟨rfl, n4, hm4⟩
 rw [HK4.out]
 have HM4 := hI_ hm4.1
 have HF4 := hI_ (HF3.out.nextT hm4.2 (by decide) (by decide) (by decide))
 have HL4 := hI_ (HL3.out.keepT hm4.2 (by decide))
 have HA4 := hI_ (HA3.out.nextT hm4.2 (by decide) (by decide))
 have HN4 := hI_ n4
 clear p0 p1 p2 p3 p4 p5 pf hm4 n4
 go_wp2
 go_ret
 rw [HM.out]
 exact ⟨rfl, ⟨HF4.out, HL4.out, HA4.out, HN4.out⟩, (((((Mid.of_below HB0.out).trans HM1.out).trans HM2.out).trans HM3.out).trans HM4.out)⟩
end Go.Proofs.YtcplnfmcefkehaaGreat
