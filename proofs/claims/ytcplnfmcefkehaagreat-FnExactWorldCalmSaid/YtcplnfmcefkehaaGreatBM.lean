/- Walks: equality of worlds that read alike. | Walks: links and leaves of the reference. -/
import Derived.Test.YtcplnfmcefkehaaGreatBL
set_option linter.unusedVariables false
set_option linter.unusedSimpArgs false
namespace Go.Proofs.YtcplnfmcefkehaaGreat
open Go.RowKit

theorem qqA (a b : Int) (w : World) : Calls Tryz.prog 123 #[.agg #[.int .i64 a, .int .i64 b], .agg #[.int .i64 a, .int .i64 b]] w fun e w' => e = .returned (.bool true) ∧ Below w.heap.size w w' := by
 go_enter Tryz.func123, Tryz.ntmps123
 go_wp2
 go_ret
 exact ⟨rfl, ((bR_ _ _).alloc (nr_ _) _).alloc (by simp) _⟩
theorem qqU (a b : Int) (w : World) : Calls Tryz.prog 178 #[.agg #[.int .i64 a, .int .i64 b], .agg #[.int .i64 a, .int .i64 b]] w fun e w' => e = .returned (.bool true) ∧ Below w.heap.size w w' := by
 go_enter Tryz.func178, Tryz.ntmps178
 go_wp2
 go_ret
 exact ⟨rfl, ((bR_ _ _).alloc (nr_ _) _).alloc (by simp) _⟩
theorem qql (p : Pc) (x y : Value) (w : World) (hx : RI w x p.prf) (hy : RI w y p.prf) :
 Calls Tryz.prog 125 #[.agg #[.int .i64 p.fr, .int .i64 p.to_, .int .i64 p.len, .int .i64 p.idx, .string p.txt, x], .agg #[.int .i64 p.fr, .int .i64 p.to_, .int .i64 p.len, .int .i64 p.idx, .string p.txt, y]] w fun e w' => e = .returned (.bool true) ∧ Below w.heap.size w w' := by
 have HA := hI_ ((hx.alloc (.cells #[.int .i64 p.fr, .int .i64 p.to_, .int .i64 p.len, .int .i64 p.idx, .string p.txt, x] 72)).alloc (.cells #[.int .i64 p.fr, .int .i64 p.to_, .int .i64 p.len, .int .i64 p.idx, .string p.txt, y] 72))
 have HB := hI_ ((hy.alloc (.cells #[.int .i64 p.fr, .int .i64 p.to_, .int .i64 p.len, .int .i64 p.idx, .string p.txt, x] 72)).alloc (.cells #[.int .i64 p.fr, .int .i64 p.to_, .int .i64 p.len, .int .i64 p.idx, .string p.txt, y] 72))
 clear hx hy
 go_enter Tryz.func125, Tryz.ntmps125
 go_wp2_with (go_at_call 19; refine (qnF p.prf _ _ _ HA.out HB.out).mono ?_; rintro e w2 ⟨rfl, hb2⟩)
 go_ret
 exact ⟨rfl, (((bR_ _ _).alloc (nr_ _) _).alloc (by simp) _).trans (hb2.mono (by simp; omega))⟩
theorem qqk (l : List (Int × Int)) (va vb : Value) (w : World) (ha : RP w va l) (hb : RP w vb l) :
 Calls Tryz.prog 58 #[va, vb] w fun e w' => e = .returned (.bool true) ∧ Below w.heap.size w w' := by
 have HA := hI_ ha
 have HB := hI_ hb
 have hm := ha.len
 obtain ⟨A, c, rfl⟩ := ha.sl
 obtain ⟨A2, c2, rfl⟩ := hb.sl
 unfold maxLen at hm
 clear ha hb
 have hnn : ((l.length : Int) != (l.length : Int)) = false := by simp
 go_enter Tryz.func58, Tryz.ntmps58
 go_wp2
 go_loopw [5] (fun i wr => ∃ k : Nat, k ≤ l.length ∧ i = .int .i64 k ∧ Below w.heap.size w wr) (fun i _ => l.length - (intOf i).toNat)
 case atStart => exact ⟨0, Nat.zero_le _, rfl, bR_ _ _⟩
 case round =>
  obtain ⟨k, hk, rfl, hbw⟩ := hrel
  by_cases hlt : k < l.length
  · obtain ⟨b, o, rfl, hbs, e0, e1⟩ := (HA.out.below hbw).at_ hlt
    obtain ⟨b', o', rfl, hbs', d0, d1⟩ := (HB.out.below hbw).at_ hlt
    generalize l[k] = x at *
    have hup := qap wr
    have hki : (k : Int) < (l.length : Int) := by omega
    have hk0 : (0 : Int) ≤ (k : Int) := by omega
    go_wp2
    refine qoH ?_
    repeat (go_big_quiet_step ((go_at_call 123; exact qal (qqA _ _ _))))
    refine wpQuiet_nil ?_
    intro w1 hw1
    have hb1 := qay hw1
    clear hw1 hup
    go_wp2
    go_roundw
    case rel => exact ⟨k + 1, by omega, by go_num, hbw.trans (hb1.mono hbw.size)⟩
    case measure => simp [intOf]; omega
  · go_wp2
    go_ret
    exact ⟨rfl, hbw⟩
theorem qqz (l : List (Int × Int)) (va vb : Value) (w : World) (ha : RP w va l) (hb : RP w vb l) :
 Calls Tryz.prog 124 #[va, vb] w fun e w' => e = .returned (.bool true) ∧ Below w.heap.size w w' := by
 have HA := hI_ ha
 have HB := hI_ hb
 have hm := ha.len
 obtain ⟨A, c, rfl⟩ := ha.sl
 obtain ⟨A2, c2, rfl⟩ := hb.sl
 unfold maxLen at hm
 clear ha hb
 have hnn : ((l.length : Int) != (l.length : Int)) = false := by simp
 go_enter Tryz.func124, Tryz.ntmps124
 go_wp2
 go_loopw [5] (fun i wr => ∃ k : Nat, k ≤ l.length ∧ i = .int .i64 k ∧ Below w.heap.size w wr) (fun i _ => l.length - (intOf i).toNat)
 case atStart => exact ⟨0, Nat.zero_le _, rfl, bR_ _ _⟩
 case round =>
  obtain ⟨k, hk, rfl, hbw⟩ := hrel
  by_cases hlt : k < l.length
  · obtain ⟨b, o, rfl, hbs, e0, e1⟩ := (HA.out.below hbw).at_ hlt
    obtain ⟨b', o', rfl, hbs', d0, d1⟩ := (HB.out.below hbw).at_ hlt
    generalize l[k] = x at *
    have hup := qap wr
    have hki : (k : Int) < (l.length : Int) := by omega
    have hk0 : (0 : Int) ≤ (k : Int) := by omega
    go_wp2
    refine qoH ?_
    repeat (go_big_quiet_step ((go_at_call 178; exact qal (qqU _ _ _))))
    refine wpQuiet_nil ?_
    intro w1 hw1
    have hb1 := qay hw1
    clear hw1 hup
    go_wp2
    go_roundw
    case rel => exact ⟨k + 1, by omega, by go_num, hbw.trans (hb1.mono hbw.size)⟩
    case measure => simp [intOf]; omega
  · go_wp2
    go_ret
    exact ⟨rfl, hbw⟩
theorem qqi (l : List (List (Int × Int))) (va vb : Value) (w : World) (ha : qdh w va l) (hb : qdh w vb l) :
 Calls Tryz.prog 59 #[va, vb] w fun e w' => e = .returned (.bool true) ∧ Below w.heap.size w w' := by
 have HA := hI_ ha
 have HB := hI_ hb
 have hm := ha.len
 obtain ⟨A, c, rfl⟩ := ha.sl
 obtain ⟨A2, c2, rfl⟩ := hb.sl
 unfold maxLen at hm
 clear ha hb
 have hnn : ((l.length : Int) != (l.length : Int)) = false := by simp
 go_enter Tryz.func59, Tryz.ntmps59
 go_wp2
 go_loopw [5] (fun i wr => ∃ k : Nat, k ≤ l.length ∧ i = .int .i64 k ∧ Below w.heap.size w wr) (fun i _ => l.length - (intOf i).toNat)
 case atStart => exact ⟨0, Nat.zero_le _, rfl, bR_ _ _⟩
 case round =>
  obtain ⟨k, hk, rfl, hbw⟩ := hrel
  by_cases hlt : k < l.length
  · obtain ⟨b, o, x, rfl, hbs, e0, e1⟩ := (HA.out.below hbw).at_ hlt
    obtain ⟨b', o', y, rfl, hbs', d0, d1⟩ := (HB.out.below hbw).at_ hlt
    have HE := hI_ e1
    have HD := hI_ d1
    clear e1 d1
    generalize l[k] = f at *
    have hup := qap wr
    have hki : (k : Int) < (l.length : Int) := by omega
    have hk0 : (0 : Int) ≤ (k : Int) := by omega
    go_wp2
    refine qoH ?_
    repeat (go_big_quiet_step ((go_at_call 124; exact qal (qqz f _ _ _ (HE.out.below (qao _ _)) (HD.out.below (qao _ _))))))
    refine wpQuiet_nil ?_
    intro w1 hw1
    have hb1 := qay hw1
    clear hw1 hup
    go_wp2
    go_roundw
    case rel => exact ⟨k + 1, by omega, by go_num, hbw.trans (hb1.mono hbw.size)⟩
    case measure => simp [intOf]; omega
  · go_wp2
    go_ret
    exact ⟨rfl, hbw⟩
theorem qp5 (l : List Pc) (va vb : Value) (w : World) (ha : qbx w va l) (hb : qbx w vb l) :
 Calls Tryz.prog 60 #[va, vb] w fun e w' => e = .returned (.bool true) ∧ Below w.heap.size w w' := by
 have HA := hI_ ha
 have HB := hI_ hb
 have hm := ha.len
 obtain ⟨A, c, rfl⟩ := ha.sl
 obtain ⟨A2, c2, rfl⟩ := hb.sl
 unfold maxLen at hm
 clear ha hb
 have hnn : ((l.length : Int) != (l.length : Int)) = false := by simp
 go_enter Tryz.func60, Tryz.ntmps60
 go_wp2
 go_loopw [5] (fun i wr => ∃ k : Nat, k ≤ l.length ∧ i = .int .i64 k ∧ Below w.heap.size w wr) (fun i _ => l.length - (intOf i).toNat)
 case atStart => exact ⟨0, Nat.zero_le _, rfl, bR_ _ _⟩
 case round =>
  obtain ⟨k, hk, rfl, hbw⟩ := hrel
  by_cases hlt : k < l.length
  · obtain ⟨b, o, x, rfl, hbs, e0, e1, e2, e3, e4, e5, e6⟩ := (HA.out.below hbw).at_ hlt
    obtain ⟨b', o', y, rfl, hbs', d0, d1, d2, d3, d4, d5, d6⟩ := (HB.out.below hbw).at_ hlt
    have HE := hI_ e6
    have HD := hI_ d6
    clear e6 d6
    generalize l[k] = f at *
    have hup := qap wr
    have hki : (k : Int) < (l.length : Int) := by omega
    have hk0 : (0 : Int) ≤ (k : Int) := by omega
    go_wp2
    refine qoH ?_
    repeat (go_big_quiet_step ((go_at_call 125; exact qal (qql f _ _ _ (HE.out.below (qao _ _)) (HD.out.below (qao _ _))))))
    refine wpQuiet_nil ?_
    intro w1 hw1
    have hb1 := qay hw1
    clear hw1 hup
    go_wp2
    go_roundw
    case rel => exact ⟨k + 1, by omega, by go_num, hbw.trans (hb1.mono hbw.size)⟩
    case measure => simp [intOf]; omega
  · go_wp2
    go_ret
    exact ⟨rfl, hbw⟩
theorem qpC (x : Wd) (vF vL vA vN uF uL uA uN : Value) (w : World) (hv : WdR w x vF vL vA vN) (hu : WdR w x uF uL uA uN) :
 Calls Tryz.prog 16 #[.agg #[.int .i64 x.sec, .int .i64 x.bad, vF, vL, vA, vN], .agg #[.int .i64 x.sec, .int .i64 x.bad, uF, uL, uA, uN]] w fun e w' => e = .returned (.bool true) ∧ Below w.heap.size w w' := by
 obtain ⟨W2, HW2⟩ : ∃ W2, Hid ((w.alloc (.cells #[.int .i64 x.sec, .int .i64 x.bad, vF, vL, vA, vN] 35)).alloc (.cells #[.int .i64 x.sec, .int .i64 x.bad, uF, uL, uA, uN] 35) = W2) := ⟨_, hI_ rfl⟩
 have hb2 : Below w.heap.size w W2 := by rw [← HW2.out]; exact ((bR_ _ _).alloc (nr_ _) _).alloc (by simp) _
 have hp : W2.heap[w.heap.size]? = some (.cells #[.int .i64 x.sec, .int .i64 x.bad, vF, vL, vA, vN] 35 (0, 0)) := by
  rw [← HW2.out, heap_alloc_old _ _ (by simp)]; exact heap_alloc_new w _
 have hq : W2.heap[w.heap.size + 1]? = some (.cells #[.int .i64 x.sec, .int .i64 x.bad, uF, uL, uA, uN] 35 (0, 0)) := by
  rw [← HW2.out]
  have := heap_alloc_new (w.alloc (.cells #[.int .i64 x.sec, .int .i64 x.bad, vF, vL, vA, vN] 35)) (.cells #[.int .i64 x.sec, .int .i64 x.bad, uF, uL, uA, uN] 35)
  simpa using this
 have lp := (Array.getElem?_eq_some_iff.1 hp).1
 have lq := (Array.getElem?_eq_some_iff.1 hq).1
 have HV := hI_ (hv.below hb2)
 have HU := hI_ (hu.below hb2)
 obtain ⟨p0, p1, p2, p3, p4, p5, pf⟩ := qaa hp
 obtain ⟨q0, q1, q2, q3, q4, q5, qf⟩ := qaa hq
 have HP := hI_ hp
 have HQ := hI_ hq
 clear hp hq hv hu
 have hss : (x.sec != x.sec) = false := by simp
 have hbb : (x.bad != x.bad) = false := by simp
 go_enter Tryz.func16, Tryz.ntmps16
 go_wp2_with fail
 rw [HW2.out]
 go_wp2_with fail
 refine (qqj x.feeds _ _ W2 HV.out.feeds HU.out.feeds).mono ?_
 rintro e w3 ⟨rfl, hb3⟩
 clear p0 p1 p2 p3 p4 p5 pf q0 q1 q2 q3 q4 q5 qf
 obtain ⟨p0, p1, p2, p3, p4, p5, pf⟩ := qaa ((hb3.block _ lp).trans HP.out)
 obtain ⟨q0, q1, q2, q3, q4, q5, qf⟩ := qaa ((hb3.block _ lq).trans HQ.out)
 go_wp2_with fail
 refine (qqk x.links _ _ w3 (HV.out.below hb3).links (HU.out.below hb3).links).mono ?_
 rintro e w4 ⟨rfl, hb4⟩
 have hb24 := qa3 hb3 hb4
 clear p0 p1 p2 p3 p4 p5 pf q0 q1 q2 q3 q4 q5 qf
 obtain ⟨p0, p1, p2, p3, p4, p5, pf⟩ := qaa ((hb24.block _ lp).trans HP.out)
 obtain ⟨q0, q1, q2, q3, q4, q5, qf⟩ := qaa ((hb24.block _ lq).trans HQ.out)
 go_wp2_with fail
 refine (qqi x.asked _ _ w4 (HV.out.below hb24).asked (HU.out.below hb24).asked).mono ?_
 rintro e w5 ⟨rfl, hb5⟩
 have hb25 := qa3 hb24 hb5
 clear p0 p1 p2 p3 p4 p5 pf q0 q1 q2 q3 q4 q5 qf
 obtain ⟨p0, p1, p2, p3, p4, p5, pf⟩ := qaa ((hb25.block _ lp).trans HP.out)
 obtain ⟨q0, q1, q2, q3, q4, q5, qf⟩ := qaa ((hb25.block _ lq).trans HQ.out)
 go_wp2_with fail
 refine (qp5 x.net _ _ w5 (HV.out.below hb25).net (HU.out.below hb25).net).mono ?_
 rintro e w6 ⟨rfl, hb6⟩
 have hb26 := qa3 hb25 hb6
 go_wp2
 go_ret
 exact ⟨rfl, hb2.trans (hb26.mono hb2.size)⟩
theorem qmR (bl : List ByteArray) (n : Nat) : lvs (bl.take n) = (lvs bl).take n := by simp [lvs, List.map_take]
theorem qa6.at0 {w : World} {A : Option Addr} {n c : Nat} {fs : List Fd} (h : qa6 w (.slice A n c) fs) (hj : 0 < fs.length) :
 ∃ b o x y, A = some ⟨b, o, none⟩ ∧ b < w.heap.size ∧ w.cell? ⟨b, o, none⟩ = some (.int .i64 (fs.getD 0 Fd.none).pub) ∧ w.cell? ⟨b, o + 1, none⟩ = some (.int .i64 (fs.getD 0 Fd.none).hd.len) ∧ w.cell? ⟨b, o + 2, none⟩ = some (.int .i64 (fs.getD 0 Fd.none).hd.dg) ∧ w.cell? ⟨b, o + 3, none⟩ = some (.int .i64 (fs.getD 0 Fd.none).hd.sg) ∧ w.cell? ⟨b, o + 4, none⟩ = some x ∧ w.cell? ⟨b, o + 5, none⟩ = some y ∧ qaU w (fs.getD 0 Fd.none) x y := by
 obtain ⟨b, o, x, y, h1, h2, h3⟩ := h.at_ hj
 rw [Nat.zero_mul, Nat.add_zero] at h3
 rw [qam hj]
 exact ⟨b, o, x, y, h1, h2, h3⟩
set_option maxHeartbeats 800000 in
theorem qc3 (fs : List Fd) (n : Nat) (s b : Int) (vF vL vA vN : Value) (w : World) (hF : qa6 w vF fs) (h0 : 0 < fs.length) (hn : n ≤ (fs.getD 0 Fd.none).bl.length) (h16 : (fs.getD 0 Fd.none).bl.length ≤ 16) (hs : ∀ t ∈ (fs.getD 0 Fd.none).bl, t.size ≤ 8) :
 Calls Tryz.prog 95 #[.agg #[.int .i64 s, .int .i64 b, vF, vL, vA, vN], .int .i64 n] w fun e w' => ∃ v', e = .returned v' ∧ O1 (Value.int .i64) w.heap.size 3 w' v' ((lvs (fs.getD 0 Fd.none).bl).take n) ∧ Below w.heap.size w w' := by
 obtain ⟨W0, HW0⟩ : ∃ W0, Hid (w.alloc (.cells #[.int .i64 s, .int .i64 b, vF, vL, vA, vN] 35) = W0) := ⟨_, hI_ rfl⟩
 have HB0 : Hid (Below w.heap.size w W0) := hI_ (by rw [← HW0.out]; exact (bR_ _ _).alloc (nr_ _) _)
 obtain ⟨A, c, rfl⟩ := hF.sl
 have hp : W0.heap[w.heap.size]? = some (.cells #[.int .i64 s, .int .i64 b, .slice A fs.length c, vL, vA, vN] 35 (0, 0)) := by rw [← HW0.out]; exact heap_alloc_new w _
 obtain ⟨b0, o, x, y, rfl, hbs, c0, c1, c2, c3, c4, c5, c6⟩ := (hF.below HB0.out).at0 h0
 obtain ⟨p0, p1, p2, p3, p4, p5, pf⟩ := qaa hp
 have hm := hF.len
 unfold maxLen at hm
 generalize fs.getD 0 Fd.none = f at *
 have h0i : (0 : Int) < (fs.length : Int) := by omega
 have HT := c6.bl
 obtain ⟨xA, xc, rfl⟩ := HT.sl'
 have hcap : f.bl.length ≤ xc ∧ xc ≤ 9223372036854775807 := by
  obtain ⟨_, _, e0, h1, h2, _⟩ := HT
  cases e0
  unfold maxLen at h2
  exact ⟨h1.1, h2⟩
 obtain ⟨hc1, hc2⟩ := hcap
 have hnc : n ≤ xc := by omega
 have HTT := hI_ (HT.take hn)
 have HS := hI_ (fun t ht => Nat.le_trans (hs t (List.mem_of_mem_take ht)) (by unfold maxLen; omega : 8 ≤ maxLen) : ∀ t ∈ f.bl.take n, t.size ≤ maxLen)
 clear HT hF hp c6 hs
 rw [← HW0.out] at c4
 go_enter Tryz.func95, Tryz.ntmps95
 go_wp2_with fail
 rw [HW0.out]
 refine (qdC (f.bl.take n) _ W0 HTT.out (by simp; omega) HS.out).mono ?_
 rintro e w1 ⟨v', rfl, ho, hb1⟩
 rw [qmR] at ho
 go_wp2
 go_ret
 exact ⟨v', rfl, ho.mono HB0.out.size, HB0.out.trans (hb1.mono HB0.out.size)⟩
theorem qcp {n k : Nat} {l : List (Int × Int)} (h : k < l.length) (hp : qdV n l k = false) : qcE n l = false := qdi h hp
set_option maxHeartbeats 3200000 in
theorem qkK (s b : Int) (n cF : Nat) (AF : Option Addr) (l : List (Int × Int)) (vL vA vN : Value) (w : World) (hL : RP w vL l) (hn : n ≤ maxLen) :
 Calls Tryz.prog 42 #[.agg #[.int .i64 s, .int .i64 b, .slice AF n cF, vL, vA, vN]] w fun e w' => e = .returned (.bool (qcE n l)) ∧ Below w.heap.size w w' := by
 obtain ⟨W0, HW0⟩ : ∃ W0, Hid (w.alloc (.cells #[.int .i64 s, .int .i64 b, .slice AF n cF, vL, vA, vN] 35) = W0) := ⟨_, hI_ rfl⟩
 have HB0 : Hid (Below w.heap.size w W0) := hI_ (by rw [← HW0.out]; exact (bR_ _ _).alloc (nr_ _) _)
 obtain ⟨A, c, rfl⟩ := hL.sl
 have hp : W0.heap[w.heap.size]? = some (.cells #[.int .i64 s, .int .i64 b, .slice AF n cF, .slice A l.length c, vA, vN] 35 (0, 0)) := by rw [← HW0.out]; exact heap_alloc_new w _
 have lp := (Array.getElem?_eq_some_iff.1 hp).1
 have HP := hI_ hp
 have HV := hI_ (hL.below HB0.out)
 have hm := hL.len
 unfold maxLen at hm hn
 clear hL hp
 go_enter Tryz.func42, Tryz.ntmps42
 go_wp2
 rw [HW0.out]
 go_loopw [3] (fun i wr => ∃ k : Nat, k ≤ l.length ∧ i = .int .i64 k ∧ qdv k (qdV n l) = true ∧ Below W0.heap.size W0 wr) (fun i _ => l.length - (intOf i).toNat)
 case atStart => exact ⟨0, Nat.zero_le _, rfl, qb9, bR_ _ _⟩
 case round =>
  obtain ⟨k, hk, rfl, hno, hbw⟩ := hrel
  have HNO := hI_ hno
  have HBW := hI_ hbw
  obtain ⟨p0, p1, p2, p3, p4, p5, pf⟩ := qaa ((hbw.block _ lp).trans HP.out)
  have lpr := nL_ lp hbw.size
  clear hno hbw
  by_cases hlt : k < l.length
  case neg =>
   obtain rfl : k = l.length := by omega
   go_wp2
   go_ret
   exact ⟨qaM HNO.out.symm, HB0.out.trans (HBW.out.mono HB0.out.size)⟩
  obtain ⟨b', o, rfl, hbs, e0, e1⟩ := (HV.out.below HBW.out).at_ hlt
  have hki : (k : Int) < (l.length : Int) := by omega
  have hk0 : (0 : Int) ≤ (k : Int) := by omega
  obtain ⟨y, HYE⟩ : ∃ y, Hid (l[k] = y) := ⟨_, hI_ rfl⟩
  obtain ⟨bp, HPR⟩ : ∃ r, Hid ((k == 0 || ltL (l.getD (k - 1) (0, 0)) y) = r) := ⟨_, hI_ rfl⟩
  have HAT : Hid (qdV n l k = (inB y.1 0 ((n : Int) - 1) && inB y.2 (y.1 + 1) ((n : Int) - 1) && bp)) := hI_ (by unfold qdV qc5; rw [qam hlt, HYE.out, HPR.out])
  rw [HYE.out] at e0 e1
  obtain ⟨W1, HW1⟩ : ∃ W1, Hid (wr.alloc (.cells #[.int .i64 y.1, .int .i64 y.2] 52) = W1) := ⟨_, hI_ rfl⟩
  have HBU : Hid (Below W0.heap.size W0 W1) := hI_ (by rw [← HW1.out]; exact HBW.out.alloc HBW.out.size _)
  have hq : W1.heap[wr.heap.size]? = some (.cells #[.int .i64 y.1, .int .i64 y.2] 52 (0, 0)) := by rw [← HW1.out]; exact heap_alloc_new wr _
  have q0 : W1.cell? ⟨wr.heap.size, 0, none⟩ = some (.int .i64 y.1) := cell_of_row _ _ 0 _ _ _ hq
  have q1 : W1.cell? ⟨wr.heap.size, 1, none⟩ = some (.int .i64 y.2) := cell_of_row _ _ 1 _ _ _ hq
  have lq : wr.heap.size < W1.heap.size := (Array.getElem?_eq_some_iff.1 hq).1
  obtain ⟨u0, u1, u2, u3, u4, u5, uf⟩ := qaa ((HBU.out.block _ lp).trans HP.out)
  have lpu := nL_ lp HBU.out.size
  obtain ⟨_, _, hAe, hbs1, f0, f1⟩ := (HV.out.below HBU.out).at_ hlt
  cases hAe
  rw [HYE.out] at f0 f1
  clear hq
  cases h1 : inB y.1 0 ((n : Int) - 1)
  · rw [h1] at HAT
    go_wp2_with (go_at_call 85; refine (qaV _ _ _ _).mono ?_; rintro e w' ⟨rfl, rfl⟩)
    go_ret
    exact ⟨qaM (qcp hlt (by rw [HAT.out]; rfl)).symm, HB0.out.trans ((HBW.out.alloc HBW.out.size _).mono HB0.out.size)⟩
  obtain ⟨hy0, hy1⟩ := qak.1 h1
  cases h2 : inB y.2 (y.1 + 1) ((n : Int) - 1)
  · rw [h1, h2] at HAT
    go_wp2_with (go_at_call 85; refine (qaV _ _ _ _).mono ?_; rintro e w' ⟨rfl, rfl⟩)
    go_ret
    exact ⟨qaM (qcp hlt (by rw [HAT.out]; rfl)).symm, HB0.out.trans ((HBW.out.alloc HBW.out.size _).mono HB0.out.size)⟩
  rw [h1, h2] at HAT
  go_wp2_with (go_at_call 85; refine (qaV _ _ _ _).mono ?_; rintro e w' ⟨rfl, rfl⟩)
  rw [HW1.out]
  clear p0 p1 p2 p3 p4 p5 pf e0 e1
  have hup := qap W1
  by_cases hk00 : k = 0
  · subst hk00
    go_wp2
    refine qoH ?_
    repeat (go_big_quiet_step (fail))
    refine wpQuiet_nil ?_
    intro w1 hw1
    have hb1 := qay hw1
    clear hw1 hup
    go_wp2
    go_roundw
    case rel => exact ⟨0 + 1, by omega, by go_num, qbh HNO.out (by rw [HAT.out, ← HPR.out]; rfl), HBU.out.trans (hb1.mono HBU.out.size)⟩
    case measure => simp [intOf]; omega
  have hkp : (0 : Int) < (k : Int) := by omega
  have hkn : 0 < k := by omega
  obtain ⟨m, hkm⟩ : ∃ m : Nat, (k : Int) - 1 = (m : Int) := ⟨k - 1, by omega⟩
  have hmk : m < l.length := by omega
  obtain ⟨_, _, hAe, _, g0, g1⟩ := (HV.out.below HBU.out).at_ hmk
  cases hAe
  have hm0 : (0 : Int) ≤ (m : Int) := by omega
  have hmi : (m : Int) < (l.length : Int) := by omega
  have HPZ : Hid (bp = ltL l[m] y) := hI_ (by rw [← HPR.out, show k - 1 = m by omega, qam hmk]; simp [hk00])
  generalize l[m] = z at *
  by_cases h3 : y.1 < z.1
  · have HBP : Hid (bp = false) := hI_ (by rw [HPZ.out]; simp [ltL]; omega)
    go_wp2
    refine qoH ?_
    repeat (go_big_quiet_step (fail))
    refine wpQuiet_nil ?_
    intro w1 hw1
    have hb1 := qay hw1
    clear hw1 hup
    go_wp2
    go_ret
    exact ⟨qaM (qcp hlt (by rw [HAT.out, HBP.out]; rfl)).symm, HB0.out.trans ((HBU.out.trans (hb1.mono HBU.out.size)).mono HB0.out.size)⟩
  have d3 : decide (y.1 < z.1) = false := by rw [decide_eq_false_iff_not]; omega
  by_cases h4 : z.1 = y.1
  case neg =>
   have HBP : Hid (bp = true) := hI_ (by rw [HPZ.out]; simp [ltL]; omega)
   have d4 : (z.1 == y.1) = false := by rw [beq_eq_false_iff_ne]; exact h4
   go_wp2
   refine qoH ?_
   repeat (go_big_quiet_step (fail))
   refine wpQuiet_nil ?_
   intro w1 hw1
   have hb1 := qay hw1
   clear hw1 hup
   go_wp2
   go_roundw
   case rel => exact ⟨k + 1, by omega, by go_num, qbh HNO.out (by rw [HAT.out, HBP.out]; rfl), HBU.out.trans (hb1.mono HBU.out.size)⟩
   case measure => simp [intOf]; omega
  by_cases h5 : y.2 ≤ z.2
  · have HBP : Hid (bp = false) := hI_ (by rw [HPZ.out]; simp [ltL]; omega)
    go_wp2
    refine qoH ?_
    repeat (go_big_quiet_step (fail))
    refine wpQuiet_nil ?_
    intro w1 hw1
    have hb1 := qay hw1
    clear hw1 hup
    go_wp2
    go_ret
    exact ⟨qaM (qcp hlt (by rw [HAT.out, HBP.out]; rfl)).symm, HB0.out.trans ((HBU.out.trans (hb1.mono HBU.out.size)).mono HB0.out.size)⟩
  have d5 : decide (y.2 ≤ z.2) = false := by rw [decide_eq_false_iff_not]; omega
  have HBP : Hid (bp = true) := hI_ (by rw [HPZ.out]; simp [ltL]; omega)
  go_wp2
  refine qoH ?_
  repeat (go_big_quiet_step (fail))
  refine wpQuiet_nil ?_
  intro w1 hw1
  have hb1 := qay hw1
  clear hw1 hup
  go_wp2
  go_roundw
  case rel => exact ⟨k + 1, by omega, by go_num, qbh HNO.out (by rw [HAT.out, HBP.out]; rfl), HBU.out.trans (hb1.mono HBU.out.size)⟩
  case measure => simp [intOf]; omega
end Go.Proofs.YtcplnfmcefkehaaGreat
