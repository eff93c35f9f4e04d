/- Walks: what is held of feeds, links, requests, blocks in transit and whole worlds behind their marks. -/
import Derived.Test.YtcplnfmcefkehaaGreatBT
set_option linter.unusedVariables false
set_option linter.unusedSimpArgs false
namespace Go.Proofs.YtcplnfmcefkehaaGreat
open Go.RowKit

set_option maxHeartbeats 1600000 in
theorem qp8 (fs : List Fd) (v : Value) (k : Nat) (w : World) (hv : qa6 w v (mFs k fs fs.length)) (hk : qpN k fs fs.length ≤ 100000000) (hz : ∀ j (hj : j < fs.length), fs[j].bl.length ≤ 1048576 ∧ fs[j].hv.length ≤ 1048576) :
 Calls Tryz.prog 77 #[v, .int .i64 k] w fun e w' => e = .returned (.int .i64 ((qpN k fs fs.length : Nat) : Int)) ∧ Below w.heap.size w w' := by
 have HV := hI_ hv
 have HZ := hI_ hz
 obtain ⟨A, c, rfl⟩ := hv.sl
 have hm := hv.len
 simp only [qpB] at hm HV ⊢
 unfold maxLen at hm
 clear hv hz
 go_enter Tryz.func77, Tryz.ntmps77
 go_wp2
 go_loopw [1, 5] (fun t i wr => ∃ j : Nat, j ≤ fs.length ∧ i = .int .i64 j ∧ t = .int .i64 ((qpN k fs j : Nat) : Int) ∧ Below w.heap.size w wr) (fun _ i _ => fs.length - (intOf i).toNat)
 case atStart => exact ⟨0, Nat.zero_le _, rfl, by rw [qqr], bR_ _ _⟩
 case round =>
  obtain ⟨j, hj, rfl, rfl, hb⟩ := hrel
  have HG := hI_ hb
  by_cases hlt : j < fs.length
  · obtain ⟨q, HQ⟩ : ∃ q, Hid (qpN k fs j = q) := ⟨_, hI_ rfl⟩
    have hqb : q ≤ 100000000 := by rw [← HQ.out]; exact Nat.le_trans (qqc (fs.length - j) j (by omega)) hk
    obtain ⟨b, o, x, y, rfl, hbs, d0, d1, d2, d3, d4, d5, hfd⟩ := (HV.out.below hb).at_ (j := j) (by rw [qpB]; exact hlt)
    rw [qpP, if_pos hlt, qam hlt, HQ.out] at d0 d1 d2 d3 hfd
    have hzj := HZ.out j hlt
    obtain ⟨f0, HF0⟩ : ∃ f, Hid (fs[j] = f) := ⟨_, hI_ rfl⟩
    rw [HF0.out] at d0 d1 d2 d3 hfd hzj
    obtain ⟨K, HK⟩ : ∃ K : Int, Hid (((q : Nat) : Int) = K) := ⟨_, hI_ rfl⟩
    have hK0 : 0 ≤ K := by rw [← HK.out]; omega
    have hK1 : K ≤ 1000000000 := by rw [← HK.out]; omega
    have e0 : wr.cell? ⟨b, o + j * 6, none⟩ = some (.int .i64 K) := by rw [d0, ← HK.out]; rfl
    have e1 : wr.cell? ⟨b, o + j * 6 + 1, none⟩ = some (.int .i64 (K + 1)) := by rw [d1, ← HK.out]; rfl
    have e2 : wr.cell? ⟨b, o + j * 6 + 1 + 1, none⟩ = some (.int .i64 (K + 1 + 1)) := by rw [← HK.out]; exact d2
    have e3 : wr.cell? ⟨b, o + j * 6 + 1 + 2, none⟩ = some (.int .i64 (K + 1 + 1 + 1)) := by rw [← HK.out]; exact d3
    have hs : RS wr x ((List.range f0.bl.length).map fun i => mtx (q + 4 + i)) := hfd.bl
    have hh : RB wr y ((List.range f0.hv.length).map fun i => ((q + 4 + f0.bl.length + i) % 3 == 0)) := hfd.hv
    have HS := hI_ hs
    have HH := hI_ hh
    have HX5 := hI_ d5
    have HBS := hI_ hbs
    rw [HQ.out, HK.out]
    clear d0 d1 d2 d3 hfd hs hh hbs
    go_wp2_with fail
    rw [show K + 1 + 1 + 1 + 1 = ((q + 4 : Nat) : Int) by rw [← HK.out]; omega]
    clear e0 e1 e2 e3 d4 d5
    refine (qpT f0.bl.length x (q + 4) wr HS.out (by omega) (by omega)).mono ?_
    rintro e w1 ⟨rfl, hb1⟩
    obtain ⟨K2, HK2⟩ : ∃ K : Int, Hid (((q + 4 + f0.bl.length : Nat) : Int) = K) := ⟨_, hI_ rfl⟩
    have hK2 : ¬ K2 < 0 := by rw [← HK2.out]; omega
    rw [HK2.out]
    have e51 := (hb1.cell (p := ⟨b, o + j * 6 + 5, none⟩) HBS.out).trans HX5.out
    have HH1 := hI_ (HH.out.below hb1)
    have HB1 := hI_ hb1
    clear hb1
    go_wp2_with fail
    rw [← HK2.out]
    clear e51
    refine (qp7 f0.hv.length y (q + 4 + f0.bl.length) w1 HH1.out (by omega) (by omega)).mono ?_
    rintro e w2 ⟨rfl, hb2⟩
    obtain ⟨K3, HK3⟩ : ∃ K : Int, Hid (((q + 4 + f0.bl.length + f0.hv.length : Nat) : Int) = K) := ⟨_, hI_ rfl⟩
    have hK3 : ¬ K3 < 0 := by rw [← HK3.out]; omega
    rw [HK3.out]
    have HB2 := hI_ (qa3 HB1.out hb2)
    clear hb2
    go_wp2
    go_roundw
    case rel =>
     refine ⟨j + 1, by omega, by go_num, ?_, HG.out.trans (HB2.out.mono HG.out.size)⟩
     rw [qpO hlt, HQ.out, HF0.out, ← HK3.out]; unfold fw; congr 1; omega
    case measure => simp [intOf]; omega
  · obtain rfl : j = fs.length := by omega
    go_wp2
    go_ret
    exact ⟨rfl, HG.out⟩
theorem qp9 (n : Nat) (v : Value) (k : Nat) (w : World) (hv : RP w v ((List.range n).map (mP k))) (hl : n ≤ 2000000) (hk : k ≤ 1000000000) :
 Calls Tryz.prog 78 #[v, .int .i64 k] w fun e w' => e = .returned (.int .i64 ((k + 2 * n : Nat) : Int)) ∧ w = w' := by
 obtain ⟨A, c, rfl, h1, h2, h3⟩ := hv
 simp only [List.length_map, List.length_range] at h1 h3 ⊢
 have H3 := hI_ h3
 clear h1 h2 h3
 go_enter Tryz.func78, Tryz.ntmps78
 go_wp2
 go_loop [1, 5] (fun t i => ∃ j : Nat, j ≤ n ∧ i = .int .i64 j ∧ t = .int .i64 ((k + 2 * j : Nat) : Int)) (fun _ i => n - (intOf i).toNat)
 case atStart => exact ⟨0, Nat.zero_le _, rfl, rfl⟩
 case round =>
  obtain ⟨j, hj, rfl, rfl⟩ := hrel
  obtain ⟨K, HK⟩ : ∃ K : Int, Hid (((k + 2 * j : Nat) : Int) = K) := ⟨_, hI_ rfl⟩
  have hK0 : 0 ≤ K := by rw [← HK.out]; omega
  have hK1 : K ≤ 2000000000 := by rw [← HK.out]; omega
  rw [HK.out]
  by_cases hlt : j < n
  · obtain ⟨b, o, rfl, hb, hc⟩ := H3.out (by omega)
    have e0 : w.cell? ⟨b, o + j * 2, none⟩ = some (.int .i64 K) := by have := (hc j hlt).1; rw [List.getElem_map, List.getElem_range] at this; rw [← HK.out]; exact this
    have e1 : w.cell? ⟨b, o + j * 2 + 1, none⟩ = some (.int .i64 (K + 1)) := by have := (hc j hlt).2; rw [List.getElem_map, List.getElem_range] at this; rw [← HK.out]; exact this
    clear hc
    go_wp2
    go_round
    case rel => exact ⟨j + 1, by omega, by go_num, by have := HK.out; go_num⟩
    case measure => simp [intOf]; omega
  · obtain rfl : j = n := by omega
    go_wp2
    go_ret
    exact ⟨qfp HK.out.symm, rfl⟩
theorem qqm (n : Nat) (v : Value) (k : Nat) (w : World) (hv : RP w v ((List.range n).map (mP k))) (hl : n ≤ 2000000) (hk : k ≤ 1000000000) :
 Calls Tryz.prog 148 #[v, .int .i64 k] w fun e w' => e = .returned (.int .i64 ((k + 2 * n : Nat) : Int)) ∧ w = w' := by
 obtain ⟨A, c, rfl, h1, h2, h3⟩ := hv
 simp only [List.length_map, List.length_range] at h1 h3 ⊢
 have H3 := hI_ h3
 clear h1 h2 h3
 go_enter Tryz.func148, Tryz.ntmps148
 go_wp2
 go_loop [1, 5] (fun t i => ∃ j : Nat, j ≤ n ∧ i = .int .i64 j ∧ t = .int .i64 ((k + 2 * j : Nat) : Int)) (fun _ i => n - (intOf i).toNat)
 case atStart => exact ⟨0, Nat.zero_le _, rfl, rfl⟩
 case round =>
  obtain ⟨j, hj, rfl, rfl⟩ := hrel
  obtain ⟨K, HK⟩ : ∃ K : Int, Hid (((k + 2 * j : Nat) : Int) = K) := ⟨_, hI_ rfl⟩
  have hK0 : 0 ≤ K := by rw [← HK.out]; omega
  have hK1 : K ≤ 2000000000 := by rw [← HK.out]; omega
  rw [HK.out]
  by_cases hlt : j < n
  · obtain ⟨b, o, rfl, hb, hc⟩ := H3.out (by omega)
    have e0 : w.cell? ⟨b, o + j * 2, none⟩ = some (.int .i64 K) := by have := (hc j hlt).1; rw [List.getElem_map, List.getElem_range] at this; rw [← HK.out]; exact this
    have e1 : w.cell? ⟨b, o + j * 2 + 1, none⟩ = some (.int .i64 (K + 1)) := by have := (hc j hlt).2; rw [List.getElem_map, List.getElem_range] at this; rw [← HK.out]; exact this
    clear hc
    go_wp2
    go_round
    case rel => exact ⟨j + 1, by omega, by go_num, by have := HK.out; go_num⟩
    case measure => simp [intOf]; omega
  · obtain rfl : j = n := by omega
    go_wp2
    go_ret
    exact ⟨qfp HK.out.symm, rfl⟩
set_option maxHeartbeats 800000 in
theorem qp6 (ls : List (List (Int × Int))) (v : Value) (k : Nat) (w : World) (hv : qdh w v (mLs k ls ls.length)) (hk : qpR k ls ls.length ≤ 100000000) (hz : ∀ j (hj : j < ls.length), ls[j].length ≤ 1048576) :
 Calls Tryz.prog 79 #[v, .int .i64 k] w fun e w' => e = .returned (.int .i64 ((qpR k ls ls.length : Nat) : Int)) ∧ w = w' := by
 have HV := hI_ hv
 have HZ := hI_ hz
 obtain ⟨A, c, rfl⟩ := hv.sl
 have hm := hv.len
 simp only [qpD] at hm HV ⊢
 unfold maxLen at hm
 clear hv hz
 go_enter Tryz.func79, Tryz.ntmps79
 go_wp2
 go_loop [1, 5] (fun t i => ∃ j : Nat, j ≤ ls.length ∧ i = .int .i64 j ∧ t = .int .i64 ((qpR k ls j : Nat) : Int)) (fun _ i => ls.length - (intOf i).toNat)
 case atStart => exact ⟨0, Nat.zero_le _, rfl, by rw [qqs]⟩
 case round =>
  obtain ⟨j, hj, rfl, rfl⟩ := hrel
  by_cases hlt : j < ls.length
  · obtain ⟨q, HQ⟩ : ∃ q, Hid (qpR k ls j = q) := ⟨_, hI_ rfl⟩
    have hqb : q ≤ 100000000 := by rw [← HQ.out]; exact Nat.le_trans (qqB (ls.length - j) j (by omega)) hk
    obtain ⟨b, o, x, rfl, hbs, d0, hfd⟩ := HV.out.at_ (j := j) (by rw [qpD]; exact hlt)
    rw [qpU, if_pos hlt, qam hlt, HQ.out] at hfd
    have hzj := HZ.out j hlt
    obtain ⟨l0, HL0⟩ : ∃ f, Hid (ls[j] = f) := ⟨_, hI_ rfl⟩
    rw [HL0.out] at hfd hzj
    have HS := hI_ hfd
    rw [HQ.out]
    clear hfd
    go_wp2_with fail
    refine (qqm l0.length x q w HS.out (by omega) (by omega)).mono ?_
    rintro e w1 ⟨rfl, rfl⟩
    obtain ⟨K2, HK2⟩ : ∃ K : Int, Hid (((q + 2 * l0.length : Nat) : Int) = K) := ⟨_, hI_ rfl⟩
    have hK2 : ¬ K2 < 0 := by rw [← HK2.out]; omega
    rw [HK2.out]
    go_wp2
    go_round
    case rel =>
     refine ⟨j + 1, by omega, by go_num, ?_⟩
     rw [qpX hlt, HQ.out, HL0.out, ← HK2.out]; rfl
    case measure => simp [intOf]; omega
  · obtain rfl : j = ls.length := by omega
    go_wp2
    go_ret
    exact ⟨rfl, rfl⟩
set_option maxHeartbeats 1600000 in
theorem qp0 (ps : List Pc) (v : Value) (k : Nat) (w : World) (hv : qbx w v (mNs k ps ps.length)) (hk : qpS k ps ps.length ≤ 100000000) (hz : ∀ j (hj : j < ps.length), ps[j].prf.length ≤ 1048576) :
 Calls Tryz.prog 80 #[v, .int .i64 k] w fun e w' => e = .returned (.int .i64 ((qpS k ps ps.length : Nat) : Int)) ∧ Below w.heap.size w w' := by
 have HV := hI_ hv
 have HZ := hI_ hz
 obtain ⟨A, c, rfl⟩ := hv.sl
 have hm := hv.len
 simp only [qpA] at hm HV ⊢
 unfold maxLen at hm
 clear hv hz
 go_enter Tryz.func80, Tryz.ntmps80
 go_wp2
 go_loopw [1, 5] (fun t i wr => ∃ j : Nat, j ≤ ps.length ∧ i = .int .i64 j ∧ t = .int .i64 ((qpS k ps j : Nat) : Int) ∧ Below w.heap.size w wr) (fun _ i _ => ps.length - (intOf i).toNat)
 case atStart => exact ⟨0, Nat.zero_le _, rfl, by rw [qqt], bR_ _ _⟩
 case round =>
  obtain ⟨j, hj, rfl, rfl, hb⟩ := hrel
  have HG := hI_ hb
  by_cases hlt : j < ps.length
  · obtain ⟨q, HQ⟩ : ∃ q, Hid (qpS k ps j = q) := ⟨_, hI_ rfl⟩
    have hqb : q ≤ 100000000 := by rw [← HQ.out]; exact Nat.le_trans (qqC (ps.length - j) j (by omega)) hk
    obtain ⟨b, o, x, rfl, hbs, d0, d1, d2, d3, d4, d5, hfd⟩ := (HV.out.below hb).at_ (j := j) (by rw [qpA]; exact hlt)
    rw [qpQ, if_pos hlt, qam hlt, HQ.out] at d0 d1 d2 d3 d4 hfd
    have hzj := HZ.out j hlt
    obtain ⟨f0, HF0⟩ : ∃ f, Hid (ps[j] = f) := ⟨_, hI_ rfl⟩
    rw [HF0.out] at d0 d1 d2 d3 d4 hfd hzj
    have hlt' : (j : Int) < (ps.length : Int) := by omega
    have hj0 : (0 : Int) ≤ (j : Int) := by omega
    obtain ⟨K, HK⟩ : ∃ K : Int, Hid (((q : Nat) : Int) = K) := ⟨_, hI_ rfl⟩
    have hK0 : 0 ≤ K := by rw [← HK.out]; omega
    have hK1 : K ≤ 1000000000 := by rw [← HK.out]; omega
    obtain ⟨T, HTT⟩ : ∃ T, Hid (mtx (q + 4) = T) := ⟨_, hI_ rfl⟩
    have e0 : wr.cell? ⟨b, o + j * 6, none⟩ = some (.int .i64 K) := by rw [d0, ← HK.out]; rfl
    have e1 : wr.cell? ⟨b, o + j * 6 + 1, none⟩ = some (.int .i64 (K + 1)) := by rw [d1, ← HK.out]; rfl
    have e2 : wr.cell? ⟨b, o + j * 6 + 2, none⟩ = some (.int .i64 (K + 1 + 1)) := by rw [← HK.out]; exact d2
    have e3 : wr.cell? ⟨b, o + j * 6 + 3, none⟩ = some (.int .i64 (K + 1 + 1 + 1)) := by rw [← HK.out]; exact d3
    have e4 : wr.cell? ⟨b, o + j * 6 + 4, none⟩ = some (.string T) := by rw [← HTT.out]; exact d4
    have hs : RI wr x ((List.range f0.prf.length).map fun i => ((q + 5 + i : Nat) : Int)) := hfd
    have HS := hI_ hs
    have HX5 := hI_ d5
    have HBS := hI_ hbs
    rw [HQ.out, HK.out]
    clear d0 d1 d2 d3 d4 hfd hs d5
    go_wp2_with fail
    rw [show K + 1 + 1 + 1 + 1 = ((q + 4 : Nat) : Int) by rw [← HK.out]; omega]
    have hup := qap wr
    refine qoH ?_
    repeat (go_big_quiet_step ((go_at_call 129; exact qal (qp2 HTT _ (by omega)))))
    refine wpQuiet_nil ?_
    intro w1 hw1
    have hb1 := qay hw1
    clear hw1 hup e0 e1 e2 e3 e4
    have e51 := (hb1.cell (p := ⟨b, o + j * 6 + 5, none⟩) HBS.out).trans HX5.out
    have HS1 := hI_ (HS.out.below hb1)
    have HB1 := hI_ hb1
    obtain ⟨K4, HK4⟩ : ∃ K : Int, Hid (((q + 4 : Nat) : Int) = K) := ⟨_, hI_ rfl⟩
    have hK40 : 0 ≤ K4 := by rw [← HK4.out]; omega
    have hK41 : K4 ≤ 1000000000 := by rw [← HK4.out]; omega
    rw [HK4.out]
    clear hb1
    go_wp2_with fail
    rw [show K4 + 1 = ((q + 5 : Nat) : Int) by rw [← HK4.out]; omega]
    clear e51
    refine (qqn f0.prf.length x (q + 5) w1 HS1.out (by omega) (by omega)).mono ?_
    rintro e w2 ⟨rfl, hb2⟩
    obtain ⟨K3, HK3⟩ : ∃ K : Int, Hid (((q + 5 + f0.prf.length : Nat) : Int) = K) := ⟨_, hI_ rfl⟩
    have hK3 : ¬ K3 < 0 := by rw [← HK3.out]; omega
    rw [HK3.out]
    have HB2 := hI_ (qa3 HB1.out hb2)
    clear hb2
    go_wp2
    go_roundw
    case rel =>
     refine ⟨j + 1, by omega, by go_num, ?_, HG.out.trans (HB2.out.mono HG.out.size)⟩
     rw [qpY hlt, HQ.out, HF0.out, ← HK3.out]; unfold pw; congr 1; omega
    case measure => simp [intOf]; omega
  · obtain rfl : j = ps.length := by omega
    go_wp2
    go_ret
    exact ⟨rfl, HG.out⟩
def mW (k : Nat) (x : Wd) : Wd := { x with feeds := mFs k x.feeds x.feeds.length, links := (List.range x.links.length).map (mP (qpN k x.feeds x.feeds.length)), asked := mLs (qpN k x.feeds x.feeds.length + 2 * x.links.length) x.asked x.asked.length, net := mNs (qpR (qpN k x.feeds x.feeds.length + 2 * x.links.length) x.asked x.asked.length) x.net x.net.length }
set_option maxHeartbeats 800000 in
theorem qpJ (x : Wd) (s b : Int) (vF vL vK vN : Value) (k : Nat) (w : World) (hx : WdR w (mW k x) vF vL vK vN) (hs : qqP x ≤ 1048576) (hk : k ≤ 1000000) :
 Calls Tryz.prog 34 #[.agg #[.int .i64 s, .int .i64 b, vF, vL, vK, vN], .int .i64 k] w fun e w' => e = .returned (.int .i64 ((qrg k x : Nat) : Int)) ∧ Below w.heap.size w w' := by
 obtain ⟨W0, HW0⟩ : ∃ W0, Hid (w.alloc (.cells #[.int .i64 s, .int .i64 b, vF, vL, vK, vN] 35) = W0) := ⟨_, hI_ rfl⟩
 have hb0 : Below w.heap.size w W0 := by rw [← HW0.out]; exact (bR_ _ _).alloc (nr_ _) _
 have hp : W0.heap[w.heap.size]? = some (.cells #[.int .i64 s, .int .i64 b, vF, vL, vK, vN] 35 (0, 0)) := by rw [← HW0.out]; exact heap_alloc_new w _
 have lp := (Array.getElem?_eq_some_iff.1 hp).1
 have HX := hI_ (hx.below hb0)
 obtain ⟨K1, HK1⟩ : ∃ K, Hid (qpN k x.feeds x.feeds.length = K) := ⟨_, hI_ rfl⟩
 obtain ⟨K2, HK2⟩ : ∃ K, Hid (K1 + 2 * x.links.length = K) := ⟨_, hI_ rfl⟩
 obtain ⟨K3, HK3⟩ : ∃ K, Hid (qpR K2 x.asked x.asked.length = K) := ⟨_, hI_ rfl⟩
 obtain ⟨K4, HK4⟩ : ∃ K, Hid (qpS K3 x.net x.net.length = K) := ⟨_, hI_ rfl⟩
 have hZ := qqh hs
 have HZ := hI_ hZ
 unfold qqP at hs
 have c1 : K1 ≤ 10000000 := by rw [← HK1.out]; unfold qpN; rw [qpy, qqM]; omega
 have c2 : K2 ≤ 20000000 := by have := HK2.out; omega
 have c3 : K3 ≤ 30000000 := by rw [← HK3.out]; unfold qpR; rw [qpy, qqN]; omega
 have c4 : K4 ≤ 40000000 := by rw [← HK4.out]; unfold qpS; rw [qpy, qqO]; omega
 have HF : Hid (qrg k x = K4) := hI_ (by unfold qrg; rw [HK1.out, HK2.out, HK3.out, HK4.out])
 rw [HF.out]
 have hL : RP W0 vL ((List.range x.links.length).map (mP K1)) := by have := HX.out.links; unfold mW at this; rw [HK1.out] at this; exact this
 have hA : qdh W0 vK (mLs K2 x.asked x.asked.length) := by have := HX.out.asked; unfold mW at this; rw [HK1.out, HK2.out] at this; exact this
 have hN : qbx W0 vN (mNs K3 x.net x.net.length) := by have := HX.out.net; unfold mW at this; rw [HK1.out, HK2.out, HK3.out] at this; exact this
 have HL := hI_ hL
 have HA := hI_ hA
 have HN := hI_ hN
 have HP := hI_ hp
 have g1 : ¬ ((K1 : Nat) : Int) < 0 := by omega
 have g2 : ¬ ((K2 : Nat) : Int) < 0 := by omega
 have g3 : ¬ ((K3 : Nat) : Int) < 0 := by omega
 have g4 : ¬ ((K4 : Nat) : Int) < 0 := by omega
 obtain ⟨p0, p1, p2, p3, p4, p5, pf⟩ := qaa hp
 have HB0 := hI_ hb0
 clear hx hp hs hZ hb0 hL hA hN
 go_enter Tryz.func34, Tryz.ntmps34
 go_wp2_with fail
 rw [HW0.out]
 go_wp2_with fail
 refine (qp8 x.feeds vF k W0 HX.out.feeds (by rw [HK1.out]; omega) HZ.out.f1).mono ?_
 rintro e w1 ⟨rfl, hb1⟩
 rw [HK1.out]
 have hp1 := (hb1.block w.heap.size lp).trans HP.out
 have HL1 := hI_ (HL.out.below hb1)
 have HA1 := hI_ (HA.out.below hb1)
 have HN1 := hI_ (HN.out.below hb1)
 have HB1 := hI_ hb1
 clear p0 p1 p2 p3 p4 p5 pf hb1
 obtain ⟨p0, p1, p2, p3, p4, p5, pf⟩ := qaa hp1
 clear hp1
 go_wp2_with fail
 refine (qp9 x.links.length vL K1 w1 HL1.out (by have := HZ.out.l0; omega) (by omega)).mono ?_
 rintro e w2 ⟨rfl, rfl⟩
 rw [HK2.out]
 go_wp2_with fail
 refine (qp6 x.asked vK K2 w1 HA1.out (by rw [HK3.out]; omega) HZ.out.k1).mono ?_
 rintro e w3 ⟨rfl, rfl⟩
 rw [HK3.out]
 go_wp2_with fail
 refine (qp0 x.net vN K3 w1 HN1.out (by rw [HK4.out]; omega) HZ.out.n1).mono ?_
 rintro e w4 ⟨rfl, hb4⟩
 rw [HK4.out]
 have HB4 := hI_ (qa3 HB1.out hb4)
 clear p0 p1 p2 p3 p4 p5 pf hb4
 go_wp2
 go_ret
 exact ⟨rfl, HB0.out.trans (HB4.out.mono HB0.out.size)⟩
end Go.Proofs.YtcplnfmcefkehaaGreat
