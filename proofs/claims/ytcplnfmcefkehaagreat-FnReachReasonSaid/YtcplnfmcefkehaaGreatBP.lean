/- Walks: HeadMake, the writer's leaves, links of the program. | Walk: the program's check of one feed of a world. | Walk: the program's check of a block in transit. | Walk: WorldValid of the program. -/
import Derived.Test.YtcplnfmcefkehaaGreatBO
import Derived.Test.YtcplnfmcefkehaaGreatBD
namespace Go.Proofs.YtcplnfmcefkehaaGreat
open Go.RowKit

theorem O1.takeM {α : Type} {enc : α → Value} {B : Nat} {e : TypeId} {w : World} {A : Option Addr} {n c m : Nat} {l : List α} (h : O1 enc B e w (.slice A n c) l) (hm : m ≤ l.length) : O1 enc B e w (.slice A m c) (l.take m) := by
  have hl : (l.take m).length = m := by simp; omega
  refine ⟨by simp, ?_⟩
  rcases h.2 with ⟨hv, h0⟩ | ⟨g, cap, cur, hv, hg, hh, hn, hc, hs, ht⟩
  · injection hv with h1 h2 h3
    have hm0 : m = 0 := by omega
    refine .inl ⟨?_, by rw [hl]; exact hm0⟩
    rw [h1, h3, hm0]
  · injection hv with h1 h2 h3
    refine .inr ⟨g, cap, cur, by rw [h1, h3, hl], hg, hh, by omega, hc, hs, ?_⟩
    rw [hl]
    have := congrArg (List.take m) ht
    rw [List.take_take, ← List.map_take] at this
    simpa [Nat.min_eq_left hm] using this
theorem TreeDigest_iw {l : List Int} {d : Int} (h : Hid (treeD l = d)) (v : Value) (w : World) (hv : RI w v l) : Calls Tryz.prog 109 #[v] w fun e w' => e = .returned (.int .i64 d) ∧ Below w.heap.size w w' := by
  rw [← h.out]; exact TreeDigest_i l v w hv
theorem areLeaves_w {l : List Int} {b : Bool} (h : Hid (leavesOk l = b)) (v : Value) (w : World) (hv : RI w v l) : Calls Tryz.prog 167 #[v] w fun e w' => e = .returned (.bool b) ∧ w = w' := by
  rw [← h.out]; exact areLeaves_any l v w hv
set_option maxHeartbeats 800000 in
theorem HeadMake_i (s : Int) (l : List Int) (v : Value) (w : World) (hv : RI w v l) : Calls Tryz.prog 114 #[.int .i64 s, v] w (HeadPost (hmake s l).1 (hmake s l).2 w) := by
  have HV := Lib.hid hv
  obtain ⟨A, c, rfl, n1, n2, _⟩ := hv
  unfold maxLen at n2
  have hbm : l.length ≤ 9223372036854775807 := by have := n1.1; omega
  clear n1 n2
  obtain ⟨b1, HK⟩ : ∃ b, Hid (key s = b) := ⟨_, Lib.hid rfl⟩
  obtain ⟨b2, HL⟩ : ∃ b, Hid (leavesOk l = b) := ⟨_, Lib.hid rfl⟩
  have hb0 : Below w.heap.size w (w.alloc (.cells #[.int .i64 0, .int .i64 0, .int .i64 0] 55)) := (Below.refl _ _).alloc (Nat.le_refl _) _
  have hr0 := HV.out.below hb0
  have HB0 := Lib.hid hb0
  have HR0 := Lib.hid hr0
  clear hb0 hr0
  cases b1
  · have HR : Hid (hmake s l = (Hd.zero, false)) := Lib.hid (by unfold hmake; rw [HK.out]; rfl)
    rw [HR.out]
    go_enter Tryz.func114, Tryz.ntmps114
    go_wp2_with (first
      | (go_at_call 106; refine (isKey_b HK _).mono ?_; rintro e w' ⟨rfl, rfl⟩)
      | (go_at_call 167; refine (areLeaves_w HL _ _ HR0.out).mono ?_; rintro e w' ⟨rfl, rfl⟩))
    exact bodyPost_ret (v := .tuple #[.agg #[.int .i64 0, .int .i64 0, .int .i64 0], .bool false]) (by simp [results, Tryz.results114, go_sem]) rfl ⟨rfl, by repeat (first | exact HB0.out | exact Below.refl _ _ | refine Below.setCell ?_ (Nat.le_refl _) _ | refine Below.alloc ?_ (Nat.le_refl _) _)⟩
  cases b2
  · have HR : Hid (hmake s l = (Hd.zero, false)) := Lib.hid (by unfold hmake; rw [HK.out, HL.out]; rfl)
    rw [HR.out]
    go_enter Tryz.func114, Tryz.ntmps114
    go_wp2_with (first
      | (go_at_call 106; refine (isKey_b HK _).mono ?_; rintro e w' ⟨rfl, rfl⟩)
      | (go_at_call 167; refine (areLeaves_w HL _ _ HR0.out).mono ?_; rintro e w' ⟨rfl, rfl⟩))
    exact bodyPost_ret (v := .tuple #[.agg #[.int .i64 0, .int .i64 0, .int .i64 0], .bool false]) (by simp [results, Tryz.results114, go_sem]) rfl ⟨rfl, by repeat (first | exact HB0.out | exact Below.refl _ _ | refine Below.setCell ?_ (Nat.le_refl _) _ | refine Below.alloc ?_ (Nat.le_refl _) _)⟩
  · have HR : Hid (hmake s l = (⟨l.length, treeD l, s * (pair l.length (treeD l) + 1) % 997⟩, true)) := Lib.hid (by unfold hmake; rw [HK.out, HL.out]; rfl)
    rw [HR.out]
    obtain ⟨s1, s2⟩ := key_true.1 HK.out
    have hl16 := (leavesOk_true.1 HL.out).1
    have hd1 : dig (l.length : Int) = true := dig_true.2 (by omega)
    have hd2 := treeD_dig HL.out
    have hp := pair_bd l.length (treeD l)
    obtain ⟨d, HD⟩ : ∃ d, Hid (treeD l = d) := ⟨_, Lib.hid rfl⟩
    obtain ⟨m, HM⟩ : ∃ m, Hid (pair l.length d + 1 = m) := ⟨_, Lib.hid rfl⟩
    rw [HD.out] at hd2 hp
    rw [HD.out]
    show Calls _ _ _ _ (HeadPost ⟨l.length, d, s * (pair l.length d + 1) % 997⟩ true w)
    rw [HM.out]
    have hm1 : 1 ≤ m ∧ m ≤ 991 := by have := HM.out; omega
    have hsm : 0 ≤ s * m ∧ s * m ≤ 996 * 991 := ⟨Int.mul_nonneg (by omega) (by omega), Int.mul_le_mul (by omega) (by omega) (by omega) (by omega)⟩
    have HD1 := Lib.hid hd1
    have HD2 := Lib.hid hd2
    clear hp hd1 hd2
    have hz0 : (w.alloc (.cells #[.int .i64 0, .int .i64 0, .int .i64 0] 55)).heap[w.heap.size]? = some (.cells #[.int .i64 0, .int .i64 0, .int .i64 0] 55 (0, 0)) := heap_alloc_new w _
    have HZ0 := Lib.hid hz0
    clear hz0
    go_enter Tryz.func114, Tryz.ntmps114
    go_wp2_with (first
      | (go_at_call 106; refine (isKey_b HK _).mono ?_; rintro e w' ⟨rfl, rfl⟩)
      | (go_at_call 167; refine (areLeaves_w HL _ _ HR0.out).mono ?_; rintro e w' ⟨rfl, rfl⟩))
    refine (TreeDigest_iw HD _ _ HR0.out).mono ?_
    rintro e w1 ⟨rfl, hb1⟩
    have hz1 := (hb1.block w.heap.size (lt_al _ _)).trans HZ0.out
    have hl1 : w.heap.size < w1.heap.size := (Array.getElem?_eq_some_iff.1 hz1).1
    have HB1 : Hid (Below w.heap.size w w1) := Lib.hid (HB0.out.trans (hb1.mono HB0.out.size))
    obtain ⟨z0, z1, z2, zf⟩ := box3c hz1
    have HZ1 := Lib.hid hz1
    clear hz1 hb1
    obtain ⟨W1, HW1⟩ : ∃ W1, Hid (w1.alloc (.cells #[.int .i64 l.length, .int .i64 d, .int .i64 0] 55) = W1) := ⟨_, Lib.hid rfl⟩
    have hbw1 : Below w1.heap.size w1 W1 := by rw [← HW1.out]; exact (Below.refl _ _).alloc (Nat.le_refl _) _
    have hq1 : W1.heap[w1.heap.size]? = some (.cells #[.int .i64 l.length, .int .i64 d, .int .i64 0] 55 (0, 0)) := by rw [← HW1.out]; exact heap_alloc_new w1 _
    have lq1 : w1.heap.size < W1.heap.size := (Array.getElem?_eq_some_iff.1 hq1).1
    have HQ1 := Lib.hid hq1
    have HBW1 := Lib.hid hbw1
    clear hq1 hbw1
    go_wp2_with fail
    rw [HW1.out]
    refine (message_b HM W1 HD1.out HD2.out).mono ?_
    rintro e w2 ⟨rfl, hb2⟩
    clear z0 z1 z2 zf
    obtain ⟨z0, z1, z2, zf⟩ := box3c ((hb2.block _ (Nat.lt_of_lt_of_le hl1 HBW1.out.size)).trans ((HBW1.out.block _ hl1).trans HZ1.out))
    obtain ⟨y0, y1, y2, yf⟩ := box3c ((hb2.block _ lq1).trans HQ1.out)
    have hl2 : w.heap.size < w2.heap.size := Nat.lt_of_lt_of_le hl1 (Nat.le_trans HBW1.out.size hb2.size)
    have lq2 : w1.heap.size < w2.heap.size := Nat.lt_of_lt_of_le lq1 hb2.size
    have HB2 : Hid (Below w.heap.size w w2) := Lib.hid ((HB1.out.trans (HBW1.out.mono HB1.out.size)).trans (hb2.mono (Nat.le_trans HB1.out.size HBW1.out.size)))
    have HSZ := Lib.hid HB1.out.size
    clear hb2
    have hne : w.heap.size ≠ w1.heap.size := by omega
    go_wp2
    refine bodyPost_ret (v := .tuple #[.agg #[.int .i64 l.length, .int .i64 d, .int .i64 (s * m % 997)], .bool true]) (by simp [results, Tryz.results114, go_sem, z0, z1, z2]) rfl ⟨rfl, ?_⟩
    repeat (first | exact HB2.out | refine Below.setCell ?_ (by first | exact Nat.le_refl _ | exact HSZ.out) _)
theorem HeadMake_ib {s : Int} {l : List Int} {h : Hd} {ok : Bool} (hh : Hid (hmake s l = (h, ok))) (v : Value) (w : World) (hv : RI w v l) : Calls Tryz.prog 114 #[.int .i64 s, v] w (HeadPost h ok w) := by
  have := HeadMake_i s l v w hv
  rw [hh.out] at this
  exact this
theorem exists_any (q n cF : Nat) (AF : Option Addr) (p : Int) (w : World) (h : w.cell? ⟨q, 2, none⟩ = some (.slice AF n cF)) (hn : n ≤ maxLen) :
    Calls Tryz.prog 111 #[.pointer (some ⟨q, 0, none⟩), .int .i64 p] w fun e w' => e = .returned (.bool (inB p 0 ((n : Int) - 1))) ∧ w = w' := by
  unfold maxLen at hn
  go_enter Tryz.func111, Tryz.ntmps111
  go_wp2_with (go_at_call 107; refine (within_any _ _ _ _).mono ?_; rintro e w' ⟨rfl, rfl⟩)
  go_ret
  exact ⟨rfl, rfl⟩
/-- How two links compare. -/
def cmpL (a b : Int × Int) : Int := if a.1 = b.1 then a.2 - b.2 else a.1 - b.1
theorem cmpL_lt (a b : Int × Int) : ltL a b = decide (cmpL a b < 0) := by
  unfold ltL cmpL
  rw [Bool.eq_iff_iff, decide_eq_true_eq, decide_eq_true_eq]
  split <;> omega
theorem compare_any (a b : Int × Int) (n : Nat) (w : World) (hn : n ≤ maxLen) (ha : 0 ≤ a.1 ∧ a.1 < n ∧ 0 ≤ a.2 ∧ a.2 < n) (hb : 0 ≤ b.1 ∧ b.1 < n ∧ 0 ≤ b.2 ∧ b.2 < n) :
    Calls Tryz.prog 112 #[.agg #[.int .i64 a.1, .int .i64 a.2], .agg #[.int .i64 b.1, .int .i64 b.2]] w fun e w' => e = .returned (.int .i64 (cmpL a b)) ∧ Below w.heap.size w w' := by
  unfold maxLen at hn
  have HB : Hid (Below w.heap.size w ((w.alloc (.cells #[.int .i64 a.1, .int .i64 a.2] 52)).alloc (.cells #[.int .i64 b.1, .int .i64 b.2] 52))) := Lib.hid (((Below.refl _ _).alloc (Nat.le_refl _) _).alloc (by simp) _)
  obtain ⟨a1, a2, a3, a4⟩ := ha
  obtain ⟨b1, b2, b3, b4⟩ := hb
  by_cases h1 : a.1 = b.1
  · have h1' : (a.1 != b.1) = false := by simp [h1]
    have HC : Hid (cmpL a b = a.2 - b.2) := Lib.hid (by unfold cmpL; rw [if_pos h1])
    clear h1
    go_enter Tryz.func112, Tryz.ntmps112
    go_wp2
    go_ret
    exact ⟨reti HC.out.symm, HB.out⟩
  · have h1' : (a.1 != b.1) = true := by simp [h1]
    have HC : Hid (cmpL a b = a.1 - b.1) := Lib.hid (by unfold cmpL; rw [if_neg h1])
    clear h1
    go_enter Tryz.func112, Tryz.ntmps112
    go_wp2
    go_ret
    exact ⟨reti HC.out.symm, HB.out⟩
theorem compare_b {a b : Int × Int} {r : Int} (h : Hid (cmpL a b = r)) (n : Nat) (w : World) (hn : n ≤ maxLen) (ha : 0 ≤ a.1 ∧ a.1 < n ∧ 0 ≤ a.2 ∧ a.2 < n) (hb : 0 ≤ b.1 ∧ b.1 < n ∧ 0 ≤ b.2 ∧ b.2 < n) :
    Calls Tryz.prog 112 #[.agg #[.int .i64 a.1, .int .i64 a.2], .agg #[.int .i64 b.1, .int .i64 b.2]] w fun e w' => e = .returned (.int .i64 r) ∧ Below w.heap.size w w' := by
  rw [← h.out]; exact compare_any a b n w hn ha hb
set_option maxHeartbeats 800000 in
theorem leaves_w (fs : List Fd) (n q : Nat) (vF : Value) (w : World) (hq : w.cell? ⟨q, 2, none⟩ = some vF) (hF : FeedsR w vF fs) (h0 : 0 < fs.length) (hn : n ≤ (fs.getD 0 Fd.none).bl.length) (h16 : (fs.getD 0 Fd.none).bl.length ≤ 16) (hs : ∀ t ∈ (fs.getD 0 Fd.none).bl, t.size ≤ 8) :
    Calls Tryz.prog 115 #[.pointer (some ⟨q, 0, none⟩), .int .i64 n] w fun e w' => ∃ v', e = .returned v' ∧ O1 (Value.int .i64) w.heap.size 3 w' v' ((lvs (fs.getD 0 Fd.none).bl).take n) ∧ Below w.heap.size w w' := by
  obtain ⟨A, c, rfl⟩ := hF.sl
  obtain ⟨b0, o, x, y, rfl, hbs, c0, c1, c2, c3, c4, c5, c6⟩ := hF.at0 h0
  have hm := hF.len
  unfold maxLen at hm
  generalize fs.getD 0 Fd.none = f at *
  have h0i : (0 : Int) < (fs.length : Int) := by omega
  have HT := Lib.hid c6.bl
  have HS := Lib.hid hs
  clear c6 hs hF
  go_enter Tryz.func115, Tryz.ntmps115
  go_wp2_with fail
  refine (leaves_any f.pub f.hd x y f.bl w HT.out (by omega) HS.out).mono ?_
  rintro e w1 ⟨v1, rfl, ho, hb1⟩
  obtain ⟨A1, d1, rfl⟩ := ho.sl
  have hll : (lvs f.bl).length = f.bl.length := lvs_len _
  have hlen : n ≤ (lvs f.bl).length := by omega
  have hcap : (lvs f.bl).length ≤ d1 ∧ d1 ≤ 9223372036854775807 := by
    obtain ⟨_, _, e0, q1, q2, _⟩ := ho.r1
    cases e0
    unfold maxLen at q2
    exact ⟨q1.1, q2⟩
  obtain ⟨hc1, hc2⟩ := hcap
  have hnd : n ≤ d1 := by omega
  have HO := Lib.hid (ho.takeM hlen)
  have HB := Lib.hid hb1
  clear ho hb1 hll
  go_wp2
  go_ret
  exact ⟨_, rfl, HO.out, HB.out⟩
set_option maxHeartbeats 3200000 in
theorem linksRight_i (q n cF : Nat) (AF : Option Addr) (l : List (Int × Int)) (vL : Value) (w : World) (h2 : w.cell? ⟨q, 2, none⟩ = some (.slice AF n cF)) (h3 : w.cell? ⟨q, 3, none⟩ = some vL) (hL : RP w vL l) (hn : n ≤ maxLen) (hq : q < w.heap.size) :
    Calls Tryz.prog 53 #[.pointer (some ⟨q, 0, none⟩)] w fun e w' => e = .returned (.bool (linksOk n l)) ∧ Below w.heap.size w w' := by
  obtain ⟨A, c, rfl⟩ := hL.sl
  have HV := Lib.hid hL
  have hm := hL.len
  have HM := Lib.hid hn
  have HC2 := Lib.hid h2
  have HC3 := Lib.hid h3
  unfold maxLen at hm hn
  clear hL
  go_enter Tryz.func53, Tryz.ntmps53
  go_wp2
  clear h2 h3
  go_loopw [10] (fun i wr => ∃ k : Nat, k ≤ l.length ∧ i = .int .i64 k ∧ allB k (linkAt n l) = true ∧ Below w.heap.size w wr) (fun i _ => l.length - (intOf i).toNat)
  case atStart => exact ⟨0, Nat.zero_le _, rfl, allB_zero, Below.refl _ _⟩
  case round =>
    obtain ⟨k, hk, rfl, hno, hbw⟩ := hrel
    have HNO := Lib.hid hno
    have HBW := Lib.hid hbw
    clear hno hbw
    by_cases hlt : k < l.length
    case neg =>
      obtain rfl : k = l.length := by omega
      go_wp2
      go_ret
      exact ⟨retb HNO.out.symm, HBW.out⟩
    obtain ⟨b', o, rfl, hbs, e0, e1⟩ := (HV.out.below HBW.out).at_ hlt
    have hki : (k : Int) < (l.length : Int) := by omega
    have hk0 : (0 : Int) ≤ (k : Int) := by omega
    obtain ⟨y, HYE⟩ : ∃ y, Hid (l[k] = y) := ⟨_, Lib.hid rfl⟩
    obtain ⟨bp, HPR⟩ : ∃ r, Hid ((k == 0 || ltL (l.getD (k - 1) (0, 0)) y) = r) := ⟨_, Lib.hid rfl⟩
    have HAT : Hid (linkAt n l k = (inB y.1 0 ((n : Int) - 1) && inB y.2 (y.1 + 1) ((n : Int) - 1) && bp)) := Lib.hid (by unfold linkAt linkOk; rw [getD_lt hlt, HYE.out, HPR.out])
    rw [HYE.out] at e0 e1
    obtain ⟨W1, HW1⟩ : ∃ W1, Hid (wr.alloc (.cells #[.int .i64 y.1, .int .i64 y.2] 52) = W1) := ⟨_, Lib.hid rfl⟩
    have HBU : Hid (Below w.heap.size w W1) := Lib.hid (by rw [← HW1.out]; exact HBW.out.alloc HBW.out.size _)
    have hq1 : W1.heap[wr.heap.size]? = some (.cells #[.int .i64 y.1, .int .i64 y.2] 52 (0, 0)) := by rw [← HW1.out]; exact heap_alloc_new wr _
    have q0 : W1.cell? ⟨wr.heap.size, 0, none⟩ = some (.int .i64 y.1) := cell_of_row _ _ 0 _ _ _ hq1
    have q1 : W1.cell? ⟨wr.heap.size, 1, none⟩ = some (.int .i64 y.2) := cell_of_row _ _ 1 _ _ _ hq1
    have lq : wr.heap.size < W1.heap.size := (Array.getElem?_eq_some_iff.1 hq1).1
    have u2 : W1.cell? ⟨q, 2, none⟩ = _ := (HBU.out.cell (p := ⟨q, 2, none⟩) hq).trans HC2.out
    have u3 : W1.cell? ⟨q, 3, none⟩ = _ := (HBU.out.cell (p := ⟨q, 3, none⟩) hq).trans HC3.out
    have lpu := Nat.lt_of_lt_of_le hq HBU.out.size
    obtain ⟨_, _, hAe, hbs1, f0, f1⟩ := (HV.out.below HBU.out).at_ hlt
    cases hAe
    rw [HYE.out] at f0 f1
    clear hq1
    have hup := up_cell W1
    cases h1 : inB y.1 0 ((n : Int) - 1)
    · go_wp2
      rw [HW1.out]
      refine wp_region_up (by kernel_rfl) (by kernel_rfl) ?_
      repeat (go_big_quiet_step ((go_at_call 111; exact up_same (exists_any _ n cF AF _ _ ((hup _ _ _ lpu).trans u2) HM.out))))
      refine wpQuiet_nil ?_
      intro w1 hw1
      have hb1 := of_up hw1
      clear hw1 hup
      go_wp2
      go_ret
      exact ⟨retb (linksOk_no hlt (by rw [HAT.out]; rw [h1]; rfl)).symm, HBU.out.trans (hb1.mono HBU.out.size)⟩

    obtain ⟨hy0, hy1⟩ := inB_true.1 h1
    cases h2 : inB y.2 0 ((n : Int) - 1)
    · go_wp2
      rw [HW1.out]
      refine wp_region_up (by kernel_rfl) (by kernel_rfl) ?_
      repeat (go_big_quiet_step ((go_at_call 111; exact up_same (exists_any _ n cF AF _ _ ((hup _ _ _ lpu).trans u2) HM.out))))
      refine wpQuiet_nil ?_
      intro w1 hw1
      have hb1 := of_up hw1
      clear hw1 hup
      go_wp2
      go_ret
      exact ⟨retb (linksOk_no hlt (by rw [HAT.out]; rw [h1, show inB y.2 (y.1 + 1) ((n : Int) - 1) = false from inB_false.2 (by have := inB_false.1 h2; omega)]; rfl)).symm, HBU.out.trans (hb1.mono HBU.out.size)⟩

    obtain ⟨hy2, hy3⟩ := inB_true.1 h2
    by_cases hge : y.2 ≤ y.1
    · go_wp2
      rw [HW1.out]
      refine wp_region_up (by kernel_rfl) (by kernel_rfl) ?_
      repeat (go_big_quiet_step ((go_at_call 111; exact up_same (exists_any _ n cF AF _ _ ((hup _ _ _ lpu).trans u2) HM.out))))
      refine wpQuiet_nil ?_
      intro w1 hw1
      have hb1 := of_up hw1
      clear hw1 hup
      go_wp2
      go_ret
      exact ⟨retb (linksOk_no hlt (by rw [HAT.out]; rw [h1, show inB y.2 (y.1 + 1) ((n : Int) - 1) = false from inB_false.2 (by omega)]; rfl)).symm, HBU.out.trans (hb1.mono HBU.out.size)⟩

    have dge : decide (y.2 ≤ y.1) = false := by rw [decide_eq_false_iff_not]; exact hge
    have HIN : Hid (inB y.2 (y.1 + 1) ((n : Int) - 1) = true) := Lib.hid (inB_true.2 (by omega))
    have HYR : Hid (0 ≤ y.1 ∧ y.1 < n ∧ 0 ≤ y.2 ∧ y.2 < n) := Lib.hid (by omega)
    by_cases hk00 : k = 0
    · have HBP : Hid (bp = true) := Lib.hid (by rw [← HPR.out, hk00]; rfl)
      have dk : decide (0 < k) = false := by rw [decide_eq_false_iff_not]; omega
      clear hk00
      go_wp2
      rw [HW1.out]
      refine wp_region_up (by kernel_rfl) (by kernel_rfl) ?_
      repeat (go_big_quiet_step ((go_at_call 111; exact up_same (exists_any _ n cF AF _ _ ((hup _ _ _ lpu).trans u2) HM.out))))
      refine wpQuiet_nil ?_
      intro w1 hw1
      have hb1 := of_up hw1
      clear hw1 hup
      go_wp2
      go_roundw
      case rel => exact ⟨k + 1, by omega, by go_num, allB_snoc HNO.out (by rw [HAT.out]; rw [h1, HIN.out, HBP.out]; rfl), HBU.out.trans (hb1.mono HBU.out.size)⟩
      case measure => simp [intOf]; omega

    have hkp : (0 : Int) < (k : Int) := by omega
    have hkn : 0 < k := by omega
    obtain ⟨m, hkm⟩ : ∃ m : Nat, (k : Int) - 1 = (m : Int) := ⟨k - 1, by omega⟩
    have hmk : m < l.length := by omega
    have hmk2 : m < k := by omega
    obtain ⟨_, _, hAe, _, g0, g1⟩ := (HV.out.below HBU.out).at_ hmk
    cases hAe
    have hm0 : (0 : Int) ≤ (m : Int) := by omega
    have hmi : (m : Int) < (l.length : Int) := by omega
    have HPZ : Hid (bp = ltL l[m] y) := Lib.hid (by rw [← HPR.out, show k - 1 = m by omega, getD_lt hmk]; simp [hk00])
    have HZR : Hid (0 ≤ l[m].1 ∧ l[m].1 < n ∧ 0 ≤ l[m].2 ∧ l[m].2 < n) := Lib.hid (by
      have hz := allB_iff.1 HNO.out m hmk2
      unfold linkAt linkOk at hz
      rw [getD_lt hmk] at hz
      simp only [Bool.and_eq_true] at hz
      have i1 := inB_true.1 hz.1.1
      have i2 := inB_true.1 hz.1.2
      omega)
    generalize l[m] = z at *
    obtain ⟨r, HCM⟩ : ∃ r, Hid (cmpL z y = r) := ⟨_, Lib.hid rfl⟩
    by_cases hr : r < 0
    · have hr' : ¬ 0 ≤ r := by omega
      have dr : decide (0 ≤ r) = false := by rw [decide_eq_false_iff_not]; exact hr'
      have HBP : Hid (bp = true) := Lib.hid (by rw [HPZ.out, cmpL_lt, HCM.out]; simp [hr])
      go_wp2
      rw [HW1.out]
      refine wp_region_up (by kernel_rfl) (by kernel_rfl) ?_
      repeat (go_big_quiet_step (first
        | (go_at_call 111; exact up_same (exists_any _ n cF AF _ _ ((hup _ _ _ lpu).trans u2) HM.out))
        | (go_at_call 112; exact up_call (compare_b HCM n _ HM.out HZR.out HYR.out))))
      refine wpQuiet_nil ?_
      intro w1 hw1
      have hb1 := of_up hw1
      clear hw1 hup
      go_wp2
      go_roundw
      case rel => exact ⟨k + 1, by omega, by go_num, allB_snoc HNO.out (by rw [HAT.out]; rw [h1, HIN.out, HBP.out]; rfl), HBU.out.trans (hb1.mono HBU.out.size)⟩
      case measure => simp [intOf]; omega

    · have hr' : 0 ≤ r := by omega
      have HBP : Hid (bp = false) := Lib.hid (by rw [HPZ.out, cmpL_lt, HCM.out]; simp; omega)
      go_wp2
      rw [HW1.out]
      refine wp_region_up (by kernel_rfl) (by kernel_rfl) ?_
      repeat (go_big_quiet_step (first
        | (go_at_call 111; exact up_same (exists_any _ n cF AF _ _ ((hup _ _ _ lpu).trans u2) HM.out))
        | (go_at_call 112; exact up_call (compare_b HCM n _ HM.out HZR.out HYR.out))))
      refine wpQuiet_nil ?_
      intro w1 hw1
      have hb1 := of_up hw1
      clear hw1 hup
      go_wp2
      go_ret
      exact ⟨retb (linksOk_no hlt (by rw [HAT.out]; rw [h1, HIN.out, HBP.out]; rfl)).symm, HBU.out.trans (hb1.mono HBU.out.size)⟩

end Go.Proofs.YtcplnfmcefkehaaGreat
namespace Go.Proofs.YtcplnfmcefkehaaGreat
open Go.RowKit

theorem run_heads_neq (a1 a2 a3 b1 b2 b3 : Int) (w : World) :
    (binOp .neq 55 (.agg #[.int .i64 a1, .int .i64 a2, .int .i64 a3]) (.agg #[.int .i64 b1, .int .i64 b2, .int .i64 b3])).run Tryz.prog w = .ok (.bool (!(a1 == b1 && a2 == b2 && a3 == b3))) w := by
  rw [run_neq_struct, run_equalIn_agg _ _ _ _ _ (by kernel_rfl) (by kernel_rfl)]
  by_cases h1 : a1 = b1 <;> by_cases h2 : a2 = b2 <;> by_cases h3 : a3 = b3 <;> simp [go_sem, h1, h2, h3]
theorem DigestText_w {s : ByteArray} {d : Int} (h : Hid (textD s.data.toList = d)) (w : World) (hs : s.size ≤ 8) : Calls Tryz.prog 76 #[.string s] w fun e w' => e = .returned (.int .i64 d) ∧ w = w' := by
  rw [← h.out]; exact DigestText_ok s w hs

set_option maxHeartbeats 12800000 in
set_option maxRecDepth 100000 in
theorem feedRight_i (fs : List Fd) (f : Fd) (q : Nat) (s b : Int) (vF vL vK vN va vh : Value) (w : World) (hbox : w.heap[q]? = some (.cells #[.int .i64 s, .int .i64 b, vF, vL, vK, vN] 35 (0, 0))) (hF : FeedsR w vF fs) (hf : FeedR w f va vh) (h0 : 0 < fs.length) (hv0 : fvalid (fs.getD 0 Fd.none) = true) :
    Calls Tryz.prog 54 #[.pointer (some ⟨q, 0, none⟩), .agg #[.int .i64 f.pub, .int .i64 f.hd.len, .int .i64 f.hd.dg, .int .i64 f.hd.sg, va, vh]] w fun e w' => e = .returned (.bool (feedOk s (fs.getD 0 Fd.none) f)) ∧ Below w.heap.size w w' := by
  obtain ⟨P0, ⟨L, D, S⟩, bl, hv⟩ := f
  obtain ⟨hbl, hhv⟩ := hf
  simp only at hbl hhv ⊢
  obtain ⟨vA, vc, rfl⟩ := hF.sl
  obtain ⟨xA, xc, rfl⟩ := hbl.sl'
  obtain ⟨yA, yc, rfl⟩ := hhv.sl'
  obtain ⟨W0, HW0⟩ : ∃ W0, Hid (w.alloc (.cells #[.int .i64 P0, .int .i64 L, .int .i64 D, .int .i64 S, .slice xA bl.length xc, .slice yA hv.length yc] 59) = W0) := ⟨_, Lib.hid rfl⟩
  have HB0 : Hid (Below w.heap.size w W0) := Lib.hid (by rw [← HW0.out]; exact (Below.refl _ _).alloc (Nat.le_refl _) _)
  have lw : q < w.heap.size := (Array.getElem?_eq_some_iff.1 hbox).1
  have hp := (HB0.out.block q lw).trans hbox
  have hq : W0.heap[w.heap.size]? = some (.cells #[.int .i64 P0, .int .i64 L, .int .i64 D, .int .i64 S, .slice xA bl.length xc, .slice yA hv.length yc] 59 (0, 0)) := by rw [← HW0.out]; exact heap_alloc_new w _
  have lp := (Array.getElem?_eq_some_iff.1 hp).1
  have lq := (Array.getElem?_eq_some_iff.1 hq).1
  have HF := Lib.hid (hF.below HB0.out)
  have HX := Lib.hid (hbl.below HB0.out)
  have HY := Lib.hid (hhv.below HB0.out)
  obtain ⟨b0, o, z0x, z1x, rfl, hbs, c0, c1, c2, c3, c4, c5, c6⟩ := HF.out.at0 h0
  have HF0 := Lib.hid c6
  obtain ⟨zA, zc, rfl⟩ := c6.bl.sl'
  have hm := hF.len
  unfold maxLen at hm
  obtain ⟨f0, HF00⟩ : ∃ f0, Hid (fs.getD 0 Fd.none = f0) := ⟨_, Lib.hid rfl⟩
  rw [HF00.out] at HF0 hv0 c0 c1 c2 c3 c4 ⊢
  have HV0 := Lib.hid hv0
  obtain ⟨g1, g2, g3, g4⟩ := fv_lens hv0
  have G4 := Lib.hid g4
  have G1 := Lib.hid g1
  obtain ⟨p0, p1, p2, p3, p4, p5, pf⟩ := box_cells hp
  obtain ⟨q0, q1, q2, q3, q4, q5, qf⟩ := box_cells hq
  have HP := Lib.hid hp
  have HQ := Lib.hid hq
  have h0i : (0 : Int) < (fs.length : Int) := by omega
  have HZ0 := Lib.hid c4
  have HL0 := Lib.hid c1
  clear hF hbl hhv hp hq c6 hv0 g4 c0 c2 c3 c5 g1 g2 hbox
  obtain ⟨bv, HV⟩ : ∃ r, Hid (fvalid ⟨P0, ⟨L, D, S⟩, bl, hv⟩ = r) := ⟨_, Lib.hid rfl⟩
  obtain ⟨p, HPU⟩ : ∃ p, Hid (hpub s = p) := ⟨_, Lib.hid rfl⟩
  have HRF : Hid (FeedR W0 ⟨P0, ⟨L, D, S⟩, bl, hv⟩ (.slice xA bl.length xc) (.slice yA hv.length yc)) := Lib.hid ⟨HX.out, HY.out⟩
  have HFK : Hid (feedOk s f0 ⟨P0, ⟨L, D, S⟩, bl, hv⟩ = (bv && P0 == p && decide (L ≤ f0.hd.len) && (L == 0 || hdEq ⟨L, D, S⟩ (hmake s ((lvs f0.bl).take L.toNat)).1) && allB bl.length (blockAt f0 ⟨P0, ⟨L, D, S⟩, bl, hv⟩))) := Lib.hid (by unfold feedOk; rw [HV.out, HPU.out])
  cases bv
  · have hup := up_cell W0
    go_enter Tryz.func54, Tryz.ntmps54
    go_wp2_with fail
    rw [HW0.out]
    refine wp_region_up (by kernel_rfl) (by kernel_rfl) ?_
    repeat (go_big_quiet_step (first
      | (go_at_call 51; exact up_call (FeedValid_ib HV _ _ _ (HRF.out.below (up_below _ _))))
      | (go_at_call 113; exact up_same (HeadPublic_ib HPU _))))
    refine wpQuiet_nil ?_
    intro w1 hw1
    have hb1 := of_up hw1
    clear hw1 hup
    go_wp2
    go_ret
    exact ⟨retb (by rw [HFK.out]; rfl), HB0.out.trans (hb1.mono HB0.out.size)⟩
  obtain ⟨l1, l2, l3, l4⟩ := fv_lens HV.out
  have L4 := Lib.hid l4
  clear l4
  simp only at l1 l2 l3
  subst l1
  have L2 := Lib.hid l2
  clear l2
  by_cases hpe : P0 = p
  case neg =>
    have hpe' : (P0 != p) = true := by simp [hpe]
    have hup := up_cell W0
    go_enter Tryz.func54, Tryz.ntmps54
    go_wp2_with fail
    rw [HW0.out]
    refine wp_region_up (by kernel_rfl) (by kernel_rfl) ?_
    repeat (go_big_quiet_step (first
      | (go_at_call 51; exact up_call (FeedValid_ib HV _ _ _ (HRF.out.below (up_below _ _))))
      | (go_at_call 113; exact up_same (HeadPublic_ib HPU _))))
    refine wpQuiet_nil ?_
    intro w1 hw1
    have hb1 := of_up hw1
    clear hw1 hup
    go_wp2
    go_ret
    exact ⟨retb (by rw [HFK.out, show (P0 == p) = false by simp [hpe]]; rfl), HB0.out.trans (hb1.mono HB0.out.size)⟩
  have hpe' : (P0 != p) = false := by simp [hpe]
  have HPE : Hid ((P0 == p) = true) := Lib.hid (by simp [hpe])
  clear hpe
  by_cases hle : f0.hd.len < (bl.length : Int)
  · have hup := up_cell W0
    have HLE : Hid (decide ((bl.length : Int) ≤ f0.hd.len) = false) := Lib.hid (by rw [decide_eq_false_iff_not]; omega)
    go_enter Tryz.func54, Tryz.ntmps54
    go_wp2_with fail
    rw [HW0.out]
    refine wp_region_up (by kernel_rfl) (by kernel_rfl) ?_
    repeat (go_big_quiet_step (first
      | (go_at_call 51; exact up_call (FeedValid_ib HV _ _ _ (HRF.out.below (up_below _ _))))
      | (go_at_call 113; exact up_same (HeadPublic_ib HPU _))))
    refine wpQuiet_nil ?_
    intro w1 hw1
    have hb1 := of_up hw1
    clear hw1 hup
    go_wp2
    go_ret
    exact ⟨retb (by rw [HFK.out, HLE.out, Bool.and_false]; rfl), HB0.out.trans (hb1.mono HB0.out.size)⟩
  have HLE : Hid (decide ((bl.length : Int) ≤ f0.hd.len) = true) := Lib.hid (by rw [decide_eq_true_eq]; omega)
  have hlb : bl.length ≤ f0.bl.length := by have := G1.out; omega
  have dle : decide (f0.hd.len < (bl.length : Int)) = false := by rw [decide_eq_false_iff_not]; exact hle
  obtain ⟨h, ok, HH⟩ : ∃ h ok, Hid (hmake s ((lvs f0.bl).take bl.length) = (h, ok)) := ⟨_, _, Lib.hid rfl⟩
  have HFR : Hid (feedOk s f0 ⟨P0, ⟨(bl.length : Int), D, S⟩, bl, hv⟩ = (((bl.length : Int) == 0 || hdEq ⟨bl.length, D, S⟩ h) && allB bl.length (blockAt f0 ⟨P0, ⟨bl.length, D, S⟩, bl, hv⟩))) := Lib.hid (by rw [HFK.out, HPE.out, HLE.out, Int.toNat_natCast, HH.out]; rfl)
  clear hle
  by_cases hz : bl.length = 0
  · have hup := up_cell W0
    have hz' : ((bl.length : Int) == 0) = true := by simp [hz]
    have HZ' := Lib.hid hz'
    have HAZ : Hid (allB bl.length (blockAt f0 ⟨P0, ⟨bl.length, D, S⟩, bl, hv⟩) = true) := Lib.hid (by rw [hz]; rfl)
    have hzi : (bl.length : Int) = 0 := by omega
    have HZI := Lib.hid hzi
    clear hz hzi
    go_enter Tryz.func54, Tryz.ntmps54
    go_wp2_with fail
    rw [HW0.out]
    refine wp_region_up (by kernel_rfl) (by kernel_rfl) ?_
    repeat (go_big_quiet_step (first
      | (go_at_call 51; exact up_call (FeedValid_ib HV _ _ _ (HRF.out.below (up_below _ _))))
      | (go_at_call 113; exact up_same (HeadPublic_ib HPU _))))
    refine wpQuiet_nil ?_
    intro w1 hw1
    have hb1 := of_up hw1
    clear hw1 hup
    have hb1' := Lib.hid hb1
    clear p0 p1 p2 p3 p4 p5 pf q0 q1 q2 q3 q4 q5 qf
    obtain ⟨p0, p1, p2, p3, p4, p5, pf⟩ := box_cells ((hb1.block _ lp).trans HP.out)
    obtain ⟨q0, q1, q2, q3, q4, q5, qf⟩ := box_cells ((hb1.block _ lq).trans HQ.out)
    go_wp2
    go_ret
    exact ⟨retb (by rw [HFR.out, HZ'.out, HAZ.out]; rfl), HB0.out.trans (hb1.mono HB0.out.size)⟩
  have hz' : ((bl.length : Int) == 0) = false := by simp [hz]
  have HZ' := Lib.hid hz'
  have hup := up_cell W0
  go_enter Tryz.func54, Tryz.ntmps54
  go_wp2_with fail
  rw [HW0.out]
  refine wp_region_up (by kernel_rfl) (by kernel_rfl) ?_
  repeat (go_big_quiet_step (first
    | (go_at_call 51; exact up_call (FeedValid_ib HV _ _ _ (HRF.out.below (up_below _ _))))
    | (go_at_call 113; exact up_same (HeadPublic_ib HPU _))))
  refine wpQuiet_nil ?_
  intro w1 hw1
  have hb1 := of_up hw1
  clear hw1 hup
  have hb1' := Lib.hid hb1
  have hsz0 : W0.heap.size ≤ w1.heap.size := hb1.size
  obtain ⟨pp0, pp1, pp2, pp3, pp4, pp5, ppf⟩ := box_cells HP.out
  obtain ⟨qq0, qq1, qq2, qq3, qq4, qq5, qqf⟩ := box_cells HQ.out
  clear qq0 qq2 qq3 qq4 qq5
  clear p0 p1 p2 p3 p4 p5 pf q0 q1 q2 q3 q4 q5 qf
  obtain ⟨p0, p1, p2, p3, p4, p5, pf⟩ := box_cells ((hb1.block _ lp).trans HP.out)
  obtain ⟨q0, q1, q2, q3, q4, q5, qf⟩ := box_cells ((hb1.block _ lq).trans HQ.out)
  have lq1 := Nat.lt_of_lt_of_le lq hsz0
  have heq : ∀ w : World, (binOp .neq 55 (.agg #[.int .i64 h.len, .int .i64 h.dg, .int .i64 h.sg]) (.agg #[.int .i64 (bl.length : Int), .int .i64 D, .int .i64 S])).run Tryz.prog w = .ok (.bool (!hdEq ⟨bl.length, D, S⟩ h)) w := fun w => by
    rw [run_heads_neq]; unfold hdEq; simp only; rw [BEq.comm (a := h.len), BEq.comm (a := h.dg), BEq.comm (a := h.sg)]
  clear dle c1 c4 hb1
  go_wp2
  clear p0 p1 p2 p3 p4 p5 pf q0 q1 q2 q3 q4 q5 qf
  go_region_held3 (fun w' => w'.cell? ⟨q, 0, none⟩ = some (.int .i64 s) ∧ w'.cell? ⟨q, 1, none⟩ = some (.int .i64 b) ∧ w'.cell? ⟨q, 2, none⟩ = some (.slice (some ⟨b0, o, none⟩) fs.length vc) ∧ w'.cell? ⟨q, 3, none⟩ = some (vL) ∧ w'.cell? ⟨q, 4, none⟩ = some (vK) ∧ w'.cell? ⟨q, 5, none⟩ = some (vN) ∧ w'.cell? ⟨w.heap.size, 1, none⟩ = some (.int .i64 (bl.length : Int)))
    (exact ⟨(Below.cell (by repeat (first | exact hb1'.out | exact hbm | exact hbn | refine below_drew' ?_ | refine below_al ?_ (by repeat (first | exact hsz0 | exact hsz2 | exact hsz3 | refine sz_drew ?_ | refine sz_al ?_ _)) _ | refine Below.setCell ?_ (by repeat (first | exact hsz0 | exact hsz2 | exact hsz3 | refine sz_drew ?_ | refine sz_al ?_ _)) _)) lp).trans pp0, (Below.cell (by repeat (first | exact hb1'.out | exact hbm | exact hbn | refine below_drew' ?_ | refine below_al ?_ (by repeat (first | exact hsz0 | exact hsz2 | exact hsz3 | refine sz_drew ?_ | refine sz_al ?_ _)) _ | refine Below.setCell ?_ (by repeat (first | exact hsz0 | exact hsz2 | exact hsz3 | refine sz_drew ?_ | refine sz_al ?_ _)) _)) lp).trans pp1, (Below.cell (by repeat (first | exact hb1'.out | exact hbm | exact hbn | refine below_drew' ?_ | refine below_al ?_ (by repeat (first | exact hsz0 | exact hsz2 | exact hsz3 | refine sz_drew ?_ | refine sz_al ?_ _)) _ | refine Below.setCell ?_ (by repeat (first | exact hsz0 | exact hsz2 | exact hsz3 | refine sz_drew ?_ | refine sz_al ?_ _)) _)) lp).trans pp2, (Below.cell (by repeat (first | exact hb1'.out | exact hbm | exact hbn | refine below_drew' ?_ | refine below_al ?_ (by repeat (first | exact hsz0 | exact hsz2 | exact hsz3 | refine sz_drew ?_ | refine sz_al ?_ _)) _ | refine Below.setCell ?_ (by repeat (first | exact hsz0 | exact hsz2 | exact hsz3 | refine sz_drew ?_ | refine sz_al ?_ _)) _)) lp).trans pp3, (Below.cell (by repeat (first | exact hb1'.out | exact hbm | exact hbn | refine below_drew' ?_ | refine below_al ?_ (by repeat (first | exact hsz0 | exact hsz2 | exact hsz3 | refine sz_drew ?_ | refine sz_al ?_ _)) _ | refine Below.setCell ?_ (by repeat (first | exact hsz0 | exact hsz2 | exact hsz3 | refine sz_drew ?_ | refine sz_al ?_ _)) _)) lp).trans pp4, (Below.cell (by repeat (first | exact hb1'.out | exact hbm | exact hbn | refine below_drew' ?_ | refine below_al ?_ (by repeat (first | exact hsz0 | exact hsz2 | exact hsz3 | refine sz_drew ?_ | refine sz_al ?_ _)) _ | refine Below.setCell ?_ (by repeat (first | exact hsz0 | exact hsz2 | exact hsz3 | refine sz_drew ?_ | refine sz_al ?_ _)) _)) lp).trans pp5, (Below.cell (by repeat (first | exact hb1'.out | exact hbm | exact hbn | refine below_drew' ?_ | refine below_al ?_ (by repeat (first | exact hsz0 | exact hsz2 | exact hsz3 | refine sz_drew ?_ | refine sz_al ?_ _)) _ | refine Below.setCell ?_ (by repeat (first | exact hsz0 | exact hsz2 | exact hsz3 | refine sz_drew ?_ | refine sz_al ?_ _)) _)) lq).trans qq1⟩)
    (first
      | (go_at_call 115; refine (leaves_w fs bl.length q _ _ ((Below.cell (by repeat (first | exact hb1'.out | exact hbm | exact hbn | refine below_drew' ?_ | refine below_al ?_ (by repeat (first | exact hsz0 | exact hsz2 | exact hsz3 | refine sz_drew ?_ | refine sz_al ?_ _)) _ | refine Below.setCell ?_ (by repeat (first | exact hsz0 | exact hsz2 | exact hsz3 | refine sz_drew ?_ | refine sz_al ?_ _)) _)) lp).trans pp2) (HF.out.below (by repeat (first | exact hb1'.out | exact hbm | exact hbn | refine below_drew' ?_ | refine below_al ?_ (by repeat (first | exact hsz0 | exact hsz2 | exact hsz3 | refine sz_drew ?_ | refine sz_al ?_ _)) _ | refine Below.setCell ?_ (by repeat (first | exact hsz0 | exact hsz2 | exact hsz3 | refine sz_drew ?_ | refine sz_al ?_ _)) _))) h0 (by rw [HF00.out]; exact hlb) (by rw [HF00.out]; exact g3) (by rw [HF00.out]; exact G4.out)).mono ?_; rintro e w2 ⟨v2, rfl, ho2, hb2⟩; rw [HF00.out] at ho2
         have hbm : Below W0.heap.size W0 w2 := below_st (by repeat (first | exact hb1'.out | exact hbm | exact hbn | refine below_drew' ?_ | refine below_al ?_ (by repeat (first | exact hsz0 | exact hsz2 | exact hsz3 | refine sz_drew ?_ | refine sz_al ?_ _)) _ | refine Below.setCell ?_ (by repeat (first | exact hsz0 | exact hsz2 | exact hsz3 | refine sz_drew ?_ | refine sz_al ?_ _)) _)) (by repeat (first | exact hsz0 | exact hsz2 | exact hsz3 | refine sz_drew ?_ | refine sz_al ?_ _)) hb2
         have hsz2 := hbm.size
         try (have hz2 := (hb2.block _ (lt_al _ _)).trans (heap_alloc_new _ _); obtain ⟨a0, a1, a2, af⟩ := box3c hz2))
      | (go_at_call 114; refine (HeadMake_ib HH _ _ (by first | exact ho2.r1 | exact (ho2.alloc _).r1)).mono ?_; rintro e w3 ⟨rfl, hb3⟩
         have hbn : Below W0.heap.size W0 w3 := below_st (by repeat (first | exact hb1'.out | exact hbm | exact hbn | refine below_drew' ?_ | refine below_al ?_ (by repeat (first | exact hsz0 | exact hsz2 | exact hsz3 | refine sz_drew ?_ | refine sz_al ?_ _)) _ | refine Below.setCell ?_ (by repeat (first | exact hsz0 | exact hsz2 | exact hsz3 | refine sz_drew ?_ | refine sz_al ?_ _)) _)) (by repeat (first | exact hsz0 | exact hsz2 | exact hsz3 | refine sz_drew ?_ | refine sz_al ?_ _)) hb3
         have hsz3 := hbn.size
         try (have hz3 := (hb3.block _ (lt_al _ _)).trans (heap_alloc_new _ _); obtain ⟨a0, a1, a2, af⟩ := box3c hz3)
         try (have hz3 := (hb3.block _ (Array.getElem?_eq_some_iff.1 hz2).1).trans hz2; obtain ⟨a0, a1, a2, af⟩ := box3c hz3)))
  all_goals (
    obtain ⟨r0, r1, r2, r3, r4, r5, rf⟩ := box_cells ((hbn.block _ lq).trans HQ.out)
    have n2 := Nat.lt_of_lt_of_le lq hsz2
    have n3 := Nat.lt_of_lt_of_le lq hsz3
    cases hde : hdEq ⟨bl.length, D, S⟩ h
    · rw [hde] at heq
      go_wp2
      go_ret
      exact ⟨retb (by rw [HFR.out, HZ'.out, hde]; rfl), HB0.out.trans (Below.mono (by repeat (first | exact hb1'.out | exact hbm | exact hbn | refine below_drew' ?_ | refine below_al ?_ (by repeat (first | exact hsz0 | exact hsz2 | exact hsz3 | refine sz_drew ?_ | refine sz_al ?_ _)) _ | refine Below.setCell ?_ (by repeat (first | exact hsz0 | exact hsz2 | exact hsz3 | refine sz_drew ?_ | refine sz_al ?_ _)) _)) HB0.out.size)⟩
    · rw [hde] at heq
      have HFS : Hid (feedOk s f0 ⟨P0, ⟨(bl.length : Int), D, S⟩, bl, hv⟩ = allB bl.length (blockAt f0 ⟨P0, ⟨bl.length, D, S⟩, bl, hv⟩)) := Lib.hid (by rw [HFR.out, HZ'.out, hde]; rfl)
      go_wp2
      go_loopw [60] (fun i wr => ∃ k : Nat, k ≤ bl.length ∧ i = .int .i64 k ∧ allB k (blockAt f0 ⟨P0, ⟨bl.length, D, S⟩, bl, hv⟩) = true ∧ Below W0.heap.size W0 wr) (fun i _ => bl.length - (intOf i).toNat)
      case atStart => exact ⟨0, Nat.zero_le _, rfl, allB_zero, (by repeat (first | exact hb1'.out | exact hbm | exact hbn | refine below_drew' ?_ | refine below_al ?_ (by repeat (first | exact hsz0 | exact hsz2 | exact hsz3 | refine sz_drew ?_ | refine sz_al ?_ _)) _ | refine Below.setCell ?_ (by repeat (first | exact hsz0 | exact hsz2 | exact hsz3 | refine sz_drew ?_ | refine sz_al ?_ _)) _))⟩
      case round =>
        obtain ⟨k, hk, rfl, hno, hbw⟩ := hrel
        have HNO := Lib.hid hno
        have HBW := Lib.hid hbw
        clear hno r0 r1 r2 r3 r4 r5 rf heq
        obtain ⟨p0, p1, p2, p3, p4, p5, pf⟩ := box_cells ((hbw.block _ lp).trans HP.out)
        obtain ⟨q0, q1, q2, q3, q4, q5, qf⟩ := box_cells ((hbw.block _ lq).trans HQ.out)
        have lpr := Nat.lt_of_lt_of_le lp hbw.size
        have lqr := Nat.lt_of_lt_of_le lq hbw.size
        have lbr := Nat.lt_of_lt_of_le hbs hbw.size
        have c4 := (hbw.cell (p := ⟨b0, o + 4, none⟩) hbs).trans HZ0.out
        clear hbw
        by_cases hlt : k < bl.length
        case neg =>
          obtain rfl : k = bl.length := by omega
          go_wp2
          go_ret
          exact ⟨retb (by rw [HFS.out, HNO.out]), HB0.out.trans (HBW.out.mono HB0.out.size)⟩
        have hlt2 : k < hv.length := by have := L2.out; omega
        have hlt3 : k < f0.bl.length := by omega
        obtain ⟨t1, i1, rfl, s1, d1⟩ := (HX.out.below HBW.out).get hlt
        obtain ⟨t2, i2, rfl, s2, d2⟩ := (HY.out.below HBW.out).get hlt2
        obtain ⟨t3, i3, rfl, s3, d3⟩ := (HF0.out.bl.below HBW.out).get hlt3
        have hki : (k : Int) < (bl.length : Int) := by omega
        have hki2 : (k : Int) < (hv.length : Int) := by omega
        have hki3 : (k : Int) < (f0.bl.length : Int) := by omega
        have hk0 : (0 : Int) ≤ (k : Int) := by omega
        obtain ⟨e1, E1⟩ : ∃ r, Hid (textD bl[k].data.toList = r) := ⟨_, Lib.hid rfl⟩
        obtain ⟨e3, E3⟩ : ∃ r, Hid (textD f0.bl[k].data.toList = r) := ⟨_, Lib.hid rfl⟩
        have Z1 : Hid (bl[k].size ≤ 8) := Lib.hid (L4.out _ (List.getElem_mem hlt))
        have Z3 : Hid (f0.bl[k].size ≤ 8) := Lib.hid (G4.out _ (List.getElem_mem hlt3))
        have HBA : Hid (blockAt f0 ⟨P0, ⟨bl.length, D, S⟩, bl, hv⟩ k = (!hv[k] || e1 == e3)) := Lib.hid (by unfold blockAt; simp only; rw [getD_lt hlt, getD_lt hlt2, getD_lt hlt3, E1.out, E3.out])
        generalize bl[k] = u1 at *
        generalize hv[k] = u2 at *
        generalize f0.bl[k] = u3 at *
        have hup := up_cell wr
        cases u2
        · go_wp2
          refine wp_region_up (by kernel_rfl) (by kernel_rfl) ?_
          repeat (go_big_quiet_step (first
            | (go_at_call_of 76 (Value.string u1); exact up_same (DigestText_w E1 _ Z1.out))
            | (go_at_call 76; exact up_same (DigestText_w E3 _ Z3.out))))
          refine wpQuiet_nil ?_
          intro w9 hw9
          have hb9 := of_up hw9
          clear hw9 hup
          go_wp2
          go_roundw
          case rel => exact ⟨k + 1, by omega, by go_num, allB_snoc HNO.out (by rw [HBA.out]; first | rfl | rw [HE.out]; rfl), HBW.out.trans (hb9.mono HBW.out.size)⟩
          case measure => simp [intOf]; omega
        by_cases hee : e1 = e3
        · have hee' : (e1 != e3) = false := by simp [hee]
          have HE : Hid ((e1 == e3) = true) := Lib.hid (by simp [hee])
          go_wp2
          refine wp_region_up (by kernel_rfl) (by kernel_rfl) ?_
          repeat (go_big_quiet_step (first
            | (go_at_call_of 76 (Value.string u1); exact up_same (DigestText_w E1 _ Z1.out))
            | (go_at_call 76; exact up_same (DigestText_w E3 _ Z3.out))))
          refine wpQuiet_nil ?_
          intro w9 hw9
          have hb9 := of_up hw9
          clear hw9 hup
          go_wp2
          go_roundw
          case rel => exact ⟨k + 1, by omega, by go_num, allB_snoc HNO.out (by rw [HBA.out]; first | rfl | rw [HE.out]; rfl), HBW.out.trans (hb9.mono HBW.out.size)⟩
          case measure => simp [intOf]; omega
        · have hee' : (e1 != e3) = true := by simp [hee]
          have HE : Hid ((e1 == e3) = false) := Lib.hid (by simp [hee])
          clear hee
          go_wp2
          refine wp_region_up (by kernel_rfl) (by kernel_rfl) ?_
          repeat (go_big_quiet_step (first
            | (go_at_call_of 76 (Value.string u1); exact up_same (DigestText_w E1 _ Z1.out))
            | (go_at_call 76; exact up_same (DigestText_w E3 _ Z3.out))))
          refine wpQuiet_nil ?_
          intro w9 hw9
          have hb9 := of_up hw9
          clear hw9 hup
          go_wp2
          go_ret
          exact ⟨retb (feedOk_no hlt (by rw [HBA.out, HE.out]; rfl)).symm, HB0.out.trans ((HBW.out.trans (hb9.mono HBW.out.size)).mono HB0.out.size)⟩)
end Go.Proofs.YtcplnfmcefkehaaGreat
namespace Go.Proofs.YtcplnfmcefkehaaGreat
open Go.RowKit

set_option maxHeartbeats 6400000 in
set_option maxRecDepth 100000 in
theorem pieceRight_i (fs : List Fd) (p : Pc) (s b : Int) (q : Nat) (vF vL vK vN vp : Value) (w : World) (hbox : w.heap[q]? = some (.cells #[.int .i64 s, .int .i64 b, vF, vL, vK, vN] 35 (0, 0))) (hF : FeedsR w vF fs) (hp : RI w vp p.prf) (h0 : 0 < fs.length) (hv0 : fvalid (fs.getD 0 Fd.none) = true) (ht : p.txt.size ≤ maxLen) :
    Calls Tryz.prog 56 #[.pointer (some ⟨q, 0, none⟩), .agg #[.int .i64 p.fr, .int .i64 p.to_, .int .i64 p.len, .int .i64 p.idx, .string p.txt, vp]] w fun e w' => e = .returned (.bool (pieceOk fs.length (fs.getD 0 Fd.none) p)) ∧ Below w.heap.size w w' := by
  obtain ⟨fr, to_, len, idx, txt, prf⟩ := p
  simp only at hp ht ⊢
  obtain ⟨vA, vc, rfl⟩ := hF.sl
  obtain ⟨xA, xc, rfl⟩ := hp.sl'
  obtain ⟨W0, HW0⟩ : ∃ W0, Hid (w.alloc (.cells #[.int .i64 fr, .int .i64 to_, .int .i64 len, .int .i64 idx, .string txt, .slice xA prf.length xc] 72) = W0) := ⟨_, Lib.hid rfl⟩
  have HB0 : Hid (Below w.heap.size w W0) := Lib.hid (by rw [← HW0.out]; exact (Below.refl _ _).alloc (Nat.le_refl _) _)
  have lw : q < w.heap.size := (Array.getElem?_eq_some_iff.1 hbox).1
  have hpb := (HB0.out.block q lw).trans hbox
  have hq : W0.heap[w.heap.size]? = some (.cells #[.int .i64 fr, .int .i64 to_, .int .i64 len, .int .i64 idx, .string txt, .slice xA prf.length xc] 72 (0, 0)) := by rw [← HW0.out]; exact heap_alloc_new w _
  have lp := (Array.getElem?_eq_some_iff.1 hpb).1
  have lq := (Array.getElem?_eq_some_iff.1 hq).1
  have HF := Lib.hid (hF.below HB0.out)
  have HX := Lib.hid (hp.below HB0.out)
  obtain ⟨b0, o, z0x, z1x, rfl, hbs, c0, c1, c2, c3, c4, c5, c6⟩ := HF.out.at0 h0
  have hm := hF.len
  have HMM := Lib.hid hm
  unfold maxLen at hm ht
  obtain ⟨f0, HF00⟩ : ∃ f0, Hid (fs.getD 0 Fd.none = f0) := ⟨_, Lib.hid rfl⟩
  rw [HF00.out] at hv0 c1 ⊢
  obtain ⟨g1, g2, g3, g4⟩ := fv_lens hv0
  have G4 := Lib.hid g4
  have G1 := Lib.hid g1
  obtain ⟨p0, p1, p2, p3, p4, p5, pf⟩ := box_cells hpb
  obtain ⟨q0, q1, q2, q3, q4, q5, qf⟩ := box_cells hq
  have h0i : (0 : Int) < (fs.length : Int) := by omega
  clear hbox hF hp hpb hq c6 hv0 g4 c0 c2 c3 c4 c5 g1 g2
  have hup := up_cell W0
  cases h1 : inB fr 0 ((fs.length : Int) - 1)
  · go_enter Tryz.func56, Tryz.ntmps56
    go_wp2_with fail
    rw [HW0.out]
    refine wp_region_up (by kernel_rfl) (by kernel_rfl) ?_
    repeat (go_big_quiet_step (first
      | (go_at_call 111; exact up_same (exists_any _ fs.length vc (some ⟨b0, o, none⟩) _ _ ((hup _ _ _ lp).trans p2) HMM.out))
      | (go_at_call 107; exact up_same (within_any _ _ _ _))))
    refine wpQuiet_nil ?_
    intro w1 hw1
    have hb1 := of_up hw1
    clear hw1 hup
    go_wp2
    go_ret
    exact ⟨retb (by unfold pieceOk; simp only [h1]; simp), HB0.out.trans (hb1.mono HB0.out.size)⟩
  cases h2 : inB to_ 0 ((fs.length : Int) - 1)
  · go_enter Tryz.func56, Tryz.ntmps56
    go_wp2_with fail
    rw [HW0.out]
    refine wp_region_up (by kernel_rfl) (by kernel_rfl) ?_
    repeat (go_big_quiet_step (first
      | (go_at_call 111; exact up_same (exists_any _ fs.length vc (some ⟨b0, o, none⟩) _ _ ((hup _ _ _ lp).trans p2) HMM.out))
      | (go_at_call 107; exact up_same (within_any _ _ _ _))))
    refine wpQuiet_nil ?_
    intro w1 hw1
    have hb1 := of_up hw1
    clear hw1 hup
    go_wp2
    go_ret
    exact ⟨retb (by unfold pieceOk; simp only [h1, h2]; simp), HB0.out.trans (hb1.mono HB0.out.size)⟩
  cases h3 : inB len 1 f0.hd.len
  · go_enter Tryz.func56, Tryz.ntmps56
    go_wp2_with fail
    rw [HW0.out]
    refine wp_region_up (by kernel_rfl) (by kernel_rfl) ?_
    repeat (go_big_quiet_step (first
      | (go_at_call 111; exact up_same (exists_any _ fs.length vc (some ⟨b0, o, none⟩) _ _ ((hup _ _ _ lp).trans p2) HMM.out))
      | (go_at_call 107; exact up_same (within_any _ _ _ _))))
    refine wpQuiet_nil ?_
    intro w1 hw1
    have hb1 := of_up hw1
    clear hw1 hup
    go_wp2
    go_ret
    exact ⟨retb (by unfold pieceOk; simp only [h1, h2, h3]; simp), HB0.out.trans (hb1.mono HB0.out.size)⟩
  obtain ⟨hl1, hl2⟩ := inB_true.1 h3
  have hl16 : len ≤ 16 := by have := G1.out; omega
  cases h4 : inB idx 0 (len - 1)
  · go_enter Tryz.func56, Tryz.ntmps56
    go_wp2_with fail
    rw [HW0.out]
    refine wp_region_up (by kernel_rfl) (by kernel_rfl) ?_
    repeat (go_big_quiet_step (first
      | (go_at_call 111; exact up_same (exists_any _ fs.length vc (some ⟨b0, o, none⟩) _ _ ((hup _ _ _ lp).trans p2) HMM.out))
      | (go_at_call 107; exact up_same (within_any _ _ _ _))))
    refine wpQuiet_nil ?_
    intro w1 hw1
    have hb1 := of_up hw1
    clear hw1 hup
    go_wp2
    go_ret
    exact ⟨retb (by unfold pieceOk; simp only [h1, h2, h3, h4]; simp), HB0.out.trans (hb1.mono HB0.out.size)⟩
  by_cases h5 : txt.size ≤ 8
  case neg =>
    have h5' : (8 : Int) < (txt.size : Int) := by omega
    have d5 : decide (txt.size ≤ 8) = false := by simp; omega
    go_enter Tryz.func56, Tryz.ntmps56
    go_wp2_with fail
    rw [HW0.out]
    refine wp_region_up (by kernel_rfl) (by kernel_rfl) ?_
    repeat (go_big_quiet_step (first
      | (go_at_call 111; exact up_same (exists_any _ fs.length vc (some ⟨b0, o, none⟩) _ _ ((hup _ _ _ lp).trans p2) HMM.out))
      | (go_at_call 107; exact up_same (within_any _ _ _ _))))
    refine wpQuiet_nil ?_
    intro w1 hw1
    have hb1 := of_up hw1
    clear hw1 hup
    go_wp2
    go_ret
    exact ⟨retb (by unfold pieceOk; simp only [h1, h2, h3, h4, d5]; simp), HB0.out.trans (hb1.mono HB0.out.size)⟩
  have h5' : decide ((8 : Int) < (txt.size : Int)) = false := by rw [decide_eq_false_iff_not]; omega
  have d5 : decide (txt.size ≤ 8) = true := by simp; omega
  obtain ⟨m, HM⟩ : ∃ m : Nat, len = (m : Int) := ⟨len.toNat, by omega⟩
  subst HM
  have hmb : m ≤ f0.bl.length := by have := G1.out; omega
  have HFIN : Hid (pieceOk fs.length f0 ⟨fr, to_, m, idx, txt, prf⟩ = (prf == proofOf ((lvs f0.bl).take m) idx)) := Lib.hid (by unfold pieceOk; simp only [h1, h2, h3, h4, d5, Int.toNat_natCast, Bool.true_and])
  go_enter Tryz.func56, Tryz.ntmps56
  go_wp2_with fail
  rw [HW0.out]
  refine wp_region_up (by kernel_rfl) (by kernel_rfl) ?_
  repeat (go_big_quiet_step (first
    | (go_at_call 111; exact up_same (exists_any _ fs.length vc (some ⟨b0, o, none⟩) _ _ ((hup _ _ _ lp).trans p2) HMM.out))
    | (go_at_call 107; exact up_same (within_any _ _ _ _))))
  refine wpQuiet_nil ?_
  intro w1 hw1
  have hb1 := of_up hw1
  clear hw1 hup
  have hsz0 : W0.heap.size ≤ w1.heap.size := hb1.size
  clear h1 h2 h3 h4 h5' d5 c1
  go_wp2
  go_region_held3 (fun w' => w'.cell? ⟨q, 0, none⟩ = some (.int .i64 s) ∧ w'.cell? ⟨q, 1, none⟩ = some (.int .i64 b) ∧ w'.cell? ⟨q, 2, none⟩ = some (.slice (some ⟨b0, o, none⟩) fs.length vc) ∧ w'.cell? ⟨q, 3, none⟩ = some (vL) ∧ w'.cell? ⟨q, 4, none⟩ = some (vK) ∧ w'.cell? ⟨q, 5, none⟩ = some (vN) ∧ w'.cell? ⟨w.heap.size, 2, none⟩ = some (.int .i64 (m : Int)) ∧ w'.cell? ⟨w.heap.size, 3, none⟩ = some (.int .i64 idx) ∧ w'.cell? ⟨w.heap.size, 5, none⟩ = some (.slice xA prf.length xc))
    (exact ⟨(Below.cell (by repeat (first | exact hb1 | exact hbm | exact hbn | exact hbo | refine below_drew' ?_ | refine below_al ?_ (by repeat (first | exact hsz0 | exact hsz2 | exact hsz3 | refine sz_drew ?_ | refine sz_al ?_ _)) _ | refine Below.setCell ?_ (by repeat (first | exact hsz0 | exact hsz2 | exact hsz3 | refine sz_drew ?_ | refine sz_al ?_ _)) _)) lp).trans p0, (Below.cell (by repeat (first | exact hb1 | exact hbm | exact hbn | exact hbo | refine below_drew' ?_ | refine below_al ?_ (by repeat (first | exact hsz0 | exact hsz2 | exact hsz3 | refine sz_drew ?_ | refine sz_al ?_ _)) _ | refine Below.setCell ?_ (by repeat (first | exact hsz0 | exact hsz2 | exact hsz3 | refine sz_drew ?_ | refine sz_al ?_ _)) _)) lp).trans p1, (Below.cell (by repeat (first | exact hb1 | exact hbm | exact hbn | exact hbo | refine below_drew' ?_ | refine below_al ?_ (by repeat (first | exact hsz0 | exact hsz2 | exact hsz3 | refine sz_drew ?_ | refine sz_al ?_ _)) _ | refine Below.setCell ?_ (by repeat (first | exact hsz0 | exact hsz2 | exact hsz3 | refine sz_drew ?_ | refine sz_al ?_ _)) _)) lp).trans p2, (Below.cell (by repeat (first | exact hb1 | exact hbm | exact hbn | exact hbo | refine below_drew' ?_ | refine below_al ?_ (by repeat (first | exact hsz0 | exact hsz2 | exact hsz3 | refine sz_drew ?_ | refine sz_al ?_ _)) _ | refine Below.setCell ?_ (by repeat (first | exact hsz0 | exact hsz2 | exact hsz3 | refine sz_drew ?_ | refine sz_al ?_ _)) _)) lp).trans p3, (Below.cell (by repeat (first | exact hb1 | exact hbm | exact hbn | exact hbo | refine below_drew' ?_ | refine below_al ?_ (by repeat (first | exact hsz0 | exact hsz2 | exact hsz3 | refine sz_drew ?_ | refine sz_al ?_ _)) _ | refine Below.setCell ?_ (by repeat (first | exact hsz0 | exact hsz2 | exact hsz3 | refine sz_drew ?_ | refine sz_al ?_ _)) _)) lp).trans p4, (Below.cell (by repeat (first | exact hb1 | exact hbm | exact hbn | exact hbo | refine below_drew' ?_ | refine below_al ?_ (by repeat (first | exact hsz0 | exact hsz2 | exact hsz3 | refine sz_drew ?_ | refine sz_al ?_ _)) _ | refine Below.setCell ?_ (by repeat (first | exact hsz0 | exact hsz2 | exact hsz3 | refine sz_drew ?_ | refine sz_al ?_ _)) _)) lp).trans p5, (Below.cell (by repeat (first | exact hb1 | exact hbm | exact hbn | exact hbo | refine below_drew' ?_ | refine below_al ?_ (by repeat (first | exact hsz0 | exact hsz2 | exact hsz3 | refine sz_drew ?_ | refine sz_al ?_ _)) _ | refine Below.setCell ?_ (by repeat (first | exact hsz0 | exact hsz2 | exact hsz3 | refine sz_drew ?_ | refine sz_al ?_ _)) _)) lq).trans q2, (Below.cell (by repeat (first | exact hb1 | exact hbm | exact hbn | exact hbo | refine below_drew' ?_ | refine below_al ?_ (by repeat (first | exact hsz0 | exact hsz2 | exact hsz3 | refine sz_drew ?_ | refine sz_al ?_ _)) _ | refine Below.setCell ?_ (by repeat (first | exact hsz0 | exact hsz2 | exact hsz3 | refine sz_drew ?_ | refine sz_al ?_ _)) _)) lq).trans q3, (Below.cell (by repeat (first | exact hb1 | exact hbm | exact hbn | exact hbo | refine below_drew' ?_ | refine below_al ?_ (by repeat (first | exact hsz0 | exact hsz2 | exact hsz3 | refine sz_drew ?_ | refine sz_al ?_ _)) _ | refine Below.setCell ?_ (by repeat (first | exact hsz0 | exact hsz2 | exact hsz3 | refine sz_drew ?_ | refine sz_al ?_ _)) _)) lq).trans q5⟩)
    (first
      | (go_at_call 115; refine (leaves_w fs m q _ _ ((Below.cell (by repeat (first | exact hb1 | exact hbm | exact hbn | exact hbo | refine below_drew' ?_ | refine below_al ?_ (by repeat (first | exact hsz0 | exact hsz2 | exact hsz3 | refine sz_drew ?_ | refine sz_al ?_ _)) _ | refine Below.setCell ?_ (by repeat (first | exact hsz0 | exact hsz2 | exact hsz3 | refine sz_drew ?_ | refine sz_al ?_ _)) _)) lp).trans p2) (HF.out.below (by repeat (first | exact hb1 | exact hbm | exact hbn | exact hbo | refine below_drew' ?_ | refine below_al ?_ (by repeat (first | exact hsz0 | exact hsz2 | exact hsz3 | refine sz_drew ?_ | refine sz_al ?_ _)) _ | refine Below.setCell ?_ (by repeat (first | exact hsz0 | exact hsz2 | exact hsz3 | refine sz_drew ?_ | refine sz_al ?_ _)) _))) h0 (by rw [HF00.out]; exact hmb) (by rw [HF00.out]; exact g3) (by rw [HF00.out]; exact G4.out)).mono ?_; rintro e w2 ⟨v2, rfl, ho2, hb2⟩; rw [HF00.out] at ho2
         have hbm : Below W0.heap.size W0 w2 := below_st (by repeat (first | exact hb1 | exact hbm | exact hbn | exact hbo | refine below_drew' ?_ | refine below_al ?_ (by repeat (first | exact hsz0 | exact hsz2 | exact hsz3 | refine sz_drew ?_ | refine sz_al ?_ _)) _ | refine Below.setCell ?_ (by repeat (first | exact hsz0 | exact hsz2 | exact hsz3 | refine sz_drew ?_ | refine sz_al ?_ _)) _)) (by repeat (first | exact hsz0 | exact hsz2 | exact hsz3 | refine sz_drew ?_ | refine sz_al ?_ _)) hb2
         have hsz2 := hbm.size)
      | (go_at_call 121; refine (TreeProof_i _ idx _ _ ho2.r1).mono ?_; rintro e w3 ⟨v3, rfl, ho3, hb3⟩
         have hbn : Below W0.heap.size W0 w3 := below_st (by repeat (first | exact hb1 | exact hbm | exact hbn | exact hbo | refine below_drew' ?_ | refine below_al ?_ (by repeat (first | exact hsz0 | exact hsz2 | exact hsz3 | refine sz_drew ?_ | refine sz_al ?_ _)) _ | refine Below.setCell ?_ (by repeat (first | exact hsz0 | exact hsz2 | exact hsz3 | refine sz_drew ?_ | refine sz_al ?_ _)) _)) (by repeat (first | exact hsz0 | exact hsz2 | exact hsz3 | refine sz_drew ?_ | refine sz_al ?_ _)) hb3
         have hsz3 := hbn.size)
      | (go_at_call 120; refine (equalI_any prf _ _ _ _ (HX.out.below (by repeat (first | exact hb1 | exact hbm | exact hbn | exact hbo | refine below_drew' ?_ | refine below_al ?_ (by repeat (first | exact hsz0 | exact hsz2 | exact hsz3 | refine sz_drew ?_ | refine sz_al ?_ _)) _ | refine Below.setCell ?_ (by repeat (first | exact hsz0 | exact hsz2 | exact hsz3 | refine sz_drew ?_ | refine sz_al ?_ _)) _))) ho3.r1).mono ?_; rintro e w4 ⟨rfl, hb4⟩
         have hbo : Below W0.heap.size W0 w4 := below_st (by repeat (first | exact hb1 | exact hbm | exact hbn | exact hbo | refine below_drew' ?_ | refine below_al ?_ (by repeat (first | exact hsz0 | exact hsz2 | exact hsz3 | refine sz_drew ?_ | refine sz_al ?_ _)) _ | refine Below.setCell ?_ (by repeat (first | exact hsz0 | exact hsz2 | exact hsz3 | refine sz_drew ?_ | refine sz_al ?_ _)) _)) (by repeat (first | exact hsz0 | exact hsz2 | exact hsz3 | refine sz_drew ?_ | refine sz_al ?_ _)) hb4))
  all_goals (
    go_wp2
    go_ret
    exact ⟨retb HFIN.out.symm, HB0.out.trans (Below.mono (by repeat (first | exact hb1 | exact hbm | exact hbn | exact hbo | refine below_drew' ?_ | refine below_al ?_ (by repeat (first | exact hsz0 | exact hsz2 | exact hsz3 | refine sz_drew ?_ | refine sz_al ?_ _)) _ | refine Below.setCell ?_ (by repeat (first | exact hsz0 | exact hsz2 | exact hsz3 | refine sz_drew ?_ | refine sz_al ?_ _)) _)) HB0.out.size)⟩)
end Go.Proofs.YtcplnfmcefkehaaGreat
namespace Go.Proofs.YtcplnfmcefkehaaGreat
open Go.RowKit

theorem linksRight_b {n : Nat} {l : List (Int × Int)} {r : Bool} (h : Hid (linksOk n l = r)) (q cF : Nat) (AF : Option Addr) (vL : Value) (w : World) (h2 : w.cell? ⟨q, 2, none⟩ = some (.slice AF n cF)) (h3 : w.cell? ⟨q, 3, none⟩ = some vL) (hL : RP w vL l) (hn : n ≤ maxLen) (hq : q < w.heap.size) :
    Calls Tryz.prog 53 #[.pointer (some ⟨q, 0, none⟩)] w fun e w' => e = .returned (.bool r) ∧ Below w.heap.size w w' := by
  rw [← h.out]; exact linksRight_i q n cF AF l vL w h2 h3 hL hn hq
theorem feedRight_b {fs : List Fd} {f f0 : Fd} {s : Int} {r : Bool} (hf0 : Hid (fs.getD 0 Fd.none = f0)) (h : Hid (feedOk s f0 f = r)) (q : Nat) (b : Int) (vF vL vK vN va vh : Value) (w : World) (hbox : w.heap[q]? = some (.cells #[.int .i64 s, .int .i64 b, vF, vL, vK, vN] 35 (0, 0))) (hF : FeedsR w vF fs) (hf : FeedR w f va vh) (h0 : 0 < fs.length) (hv0 : Hid (fvalid f0 = true)) :
    Calls Tryz.prog 54 #[.pointer (some ⟨q, 0, none⟩), .agg #[.int .i64 f.pub, .int .i64 f.hd.len, .int .i64 f.hd.dg, .int .i64 f.hd.sg, va, vh]] w fun e w' => e = .returned (.bool r) ∧ Below w.heap.size w w' := by
  have := feedRight_i fs f q s b vF vL vK vN va vh w hbox hF hf h0 (by rw [hf0.out]; exact hv0.out)
  rwa [hf0.out, h.out] at this
theorem pieceRight_b {fs : List Fd} {f0 : Fd} {p : Pc} {n : Nat} {r : Bool} (hf0 : Hid (fs.getD 0 Fd.none = f0)) (hn : Hid (fs.length = n)) (h : Hid (pieceOk n f0 p = r)) (q : Nat) (s b : Int) (vF vL vK vN vp : Value) (w : World) (hbox : w.heap[q]? = some (.cells #[.int .i64 s, .int .i64 b, vF, vL, vK, vN] 35 (0, 0))) (hF : FeedsR w vF fs) (hp : RI w vp p.prf) (h0 : 0 < fs.length) (hv0 : Hid (fvalid f0 = true)) (ht : p.txt.size ≤ maxLen) :
    Calls Tryz.prog 56 #[.pointer (some ⟨q, 0, none⟩), .agg #[.int .i64 p.fr, .int .i64 p.to_, .int .i64 p.len, .int .i64 p.idx, .string p.txt, vp]] w fun e w' => e = .returned (.bool r) ∧ Below w.heap.size w w' := by
  have := pieceRight_i fs p s b q vF vL vK vN vp w hbox hF hp h0 (by rw [hf0.out]; exact hv0.out) ht
  rwa [hf0.out, hn.out, h.out] at this

set_option maxHeartbeats 6400000 in
set_option maxRecDepth 100000 in
theorem WorldValid_i (x : Wd) (vF vL vK vN : Value) (w : World) (hx : WdR w x vF vL vK vN) (ht : ∀ j (hj : j < x.net.length), x.net[j].txt.size ≤ maxLen) :
    Calls Tryz.prog 15 #[.agg #[.int .i64 x.sec, .int .i64 x.bad, vF, vL, vK, vN]] w fun e w' => e = .returned (.bool (wvalid x)) ∧ Below w.heap.size w w' := by
  obtain ⟨s, b, fs, ls, ks, ps⟩ := x
  obtain ⟨hF, hL, hK, hN⟩ := hx
  simp only at hF hL hK hN ht ⊢
  obtain ⟨vA, vc, rfl⟩ := hF.sl
  obtain ⟨lA, lc, rfl⟩ := hL.sl
  obtain ⟨kA, kc, rfl⟩ := hK.sl
  obtain ⟨nA, nc, rfl⟩ := hN.sl
  obtain ⟨W0, HW0⟩ : ∃ W0, Hid (w.alloc (.cells #[.int .i64 s, .int .i64 b, .slice vA fs.length vc, .slice lA ls.length lc, .slice kA ks.length kc, .slice nA ps.length nc] 35) = W0) := ⟨_, Lib.hid rfl⟩
  have HB0 : Hid (Below w.heap.size w W0) := Lib.hid (by rw [← HW0.out]; exact (Below.refl _ _).alloc (Nat.le_refl _) _)
  have hp : W0.heap[w.heap.size]? = some (.cells #[.int .i64 s, .int .i64 b, .slice vA fs.length vc, .slice lA ls.length lc, .slice kA ks.length kc, .slice nA ps.length nc] 35 (0, 0)) := by rw [← HW0.out]; exact heap_alloc_new w _
  have lp := (Array.getElem?_eq_some_iff.1 hp).1
  have HF := Lib.hid (hF.below HB0.out)
  have HL := Lib.hid (hL.below HB0.out)
  have HK := Lib.hid (hK.below HB0.out)
  have HN := Lib.hid (hN.below HB0.out)
  have HT := Lib.hid ht
  have hm := hF.len
  have HM := Lib.hid hm
  have hm2 := hL.len
  have hm3 := hK.len
  have hm4 := hN.len
  unfold maxLen at hm hm2 hm3 hm4
  have HP := Lib.hid hp
  obtain ⟨p0, p1, p2, p3, p4, p5, pf⟩ := box_cells hp
  obtain ⟨f0, HF00⟩ : ∃ f0, Hid (fs.getD 0 Fd.none = f0) := ⟨_, Lib.hid rfl⟩
  obtain ⟨n, HNN⟩ : ∃ n, Hid (fs.length = n) := ⟨_, Lib.hid rfl⟩
  obtain ⟨b1, H1⟩ : ∃ r, Hid (setOk s fs.length b = r) := ⟨_, Lib.hid rfl⟩
  obtain ⟨b2, H2⟩ : ∃ r, Hid (fvalid f0 = r) := ⟨_, Lib.hid rfl⟩
  obtain ⟨b3, H3⟩ : ∃ r, Hid (wholeB f0.hv = r) := ⟨_, Lib.hid rfl⟩
  obtain ⟨b4, H4⟩ : ∃ r, Hid (linksOk fs.length ls = r) := ⟨_, Lib.hid rfl⟩
  have HV : Hid (wvalid ⟨s, b, fs, ls, ks, ps⟩ = (b1 && b2 && b3 && b4 && ks.length == fs.length && decide (ps.length ≤ 12) && allB fs.length (peerAt ⟨s, b, fs, ls, ks, ps⟩) && allB ps.length (netAt ⟨s, b, fs, ls, ks, ps⟩))) := Lib.hid (by
    unfold wvalid Wd.f0; simp only [HF00.out]; rw [H1.out, H2.out, H3.out, H4.out])
  clear hF hL hK hN ht hp
  cases b1
  · go_enter Tryz.func15, Tryz.ntmps15
    go_wp2_with fail
    rw [HW0.out]
    refine (settingValid_b H1 W0).mono ?_
    rintro e w1 ⟨rfl, rfl⟩
    go_wp2_with fail
    go_ret
    exact ⟨retb (by rw [HV.out]; rfl), HB0.out⟩
  obtain ⟨-, hn1, hn6, -, -⟩ := setOk_true H1.out
  have h0 : 0 < fs.length := hn1
  have h0i : (0 : Int) < (fs.length : Int) := by omega
  obtain ⟨b0, o, z0x, z1x, rfl, hbs, c0, c1, c2, c3, c4, c5, c6⟩ := HF.out.at0 h0
  rw [HF00.out] at c0 c1 c2 c3 c6
  have C6 := Lib.hid (show _ ∧ _ ∧ _ ∧ _ ∧ _ ∧ _ from ⟨c0, c1, c2, c3, c4, c5⟩)
  have HR0 := Lib.hid c6
  clear c6
  go_enter Tryz.func15, Tryz.ntmps15
  go_wp2_with fail
  rw [HW0.out]
  refine (settingValid_b H1 W0).mono ?_
  rintro e w1 ⟨rfl, rfl⟩
  go_wp2_with fail
  refine (FeedValid_ib H2 _ _ W0 HR0.out).mono ?_
  rintro e w2 ⟨rfl, hb4⟩
  clear p0 p1 p2 p3 p4 p5 pf c0 c1 c2 c3 c4 c5
  obtain ⟨p0, p1, p2, p3, p4, p5, pf⟩ := box_cells ((hb4.block _ lp).trans HP.out)
  cases b2
  · go_wp2_with fail
    go_ret
    exact ⟨retb (by rw [HV.out]; rfl), HB0.out.trans (hb4.mono HB0.out.size)⟩
  obtain ⟨c0, c1, c2, c3, c4, c5⟩ := lift6 hb4 hbs C6.out
  obtain ⟨g1, g2, g3, g4⟩ := fv_lens H2.out
  have G1 := Lib.hid g1
  clear g1 g2 g3 g4
  go_wp2_with fail
  refine (whole_b H3 _ f0.hd _ _ w2 (HR0.out.below hb4).hv).mono ?_
  rintro e w3 ⟨rfl, hb5⟩
  have hb6 := hb4.trans (hb5.mono hb4.size)
  clear p0 p1 p2 p3 p4 p5 pf c0 c1 c2 c3 c4 c5 hb5 hb4
  obtain ⟨p0, p1, p2, p3, p4, p5, pf⟩ := box_cells ((hb6.block _ lp).trans HP.out)
  cases b3
  · go_wp2_with fail
    go_ret
    exact ⟨retb (by rw [HV.out]; rfl), HB0.out.trans (hb6.mono HB0.out.size)⟩
  have lp6 := Nat.lt_of_lt_of_le lp hb6.size
  go_wp2_with fail
  refine (linksRight_b H4 _ vc _ _ w3 p2 p3 (HL.out.below hb6) HM.out lp6).mono ?_
  rintro e w4 ⟨rfl, hb7⟩
  have hb8 := hb6.trans (hb7.mono hb6.size)
  clear p0 p1 p2 p3 p4 p5 pf hb6 hb7
  obtain ⟨p0, p1, p2, p3, p4, p5, pf⟩ := box_cells ((hb8.block _ lp).trans HP.out)
  cases b4
  · go_wp2_with fail
    go_ret
    exact ⟨retb (by rw [HV.out]; rfl), HB0.out.trans (hb8.mono HB0.out.size)⟩
  by_cases hkf : ks.length = fs.length
  case neg =>
    have hkf' : ((ks.length : Int) != (fs.length : Int)) = true := by simp; omega
    have HX : Hid ((ks.length == fs.length) = false) := Lib.hid (by simp [hkf])
    clear hkf
    go_wp2_with fail
    go_ret
    exact ⟨retb (by rw [HV.out, HX.out]; rfl), HB0.out.trans (hb8.mono HB0.out.size)⟩
  have hkf' : ((ks.length : Int) != (fs.length : Int)) = false := by simp; omega
  have HX : Hid ((ks.length == fs.length) = true) := Lib.hid (by simp [hkf])
  have HKF := Lib.hid hkf
  clear hkf
  by_cases h12 : ps.length ≤ 12
  case neg =>
    have h12' : (12 : Int) < (ps.length : Int) := by omega
    have HY : Hid (decide (ps.length ≤ 12) = false) := Lib.hid (by simp; omega)
    go_wp2_with fail
    go_ret
    exact ⟨retb (by rw [HV.out, HX.out, HY.out]; rfl), HB0.out.trans (hb8.mono HB0.out.size)⟩
  have h12' : ¬ (12 : Int) < (ps.length : Int) := by omega
  have HY : Hid (decide (ps.length ≤ 12) = true) := Lib.hid (by simp; omega)
  have HB8 := Lib.hid hb8
  clear hb8
  have HVF : Hid (wvalid ⟨s, b, fs, ls, ks, ps⟩ = (allB fs.length (peerAt ⟨s, b, fs, ls, ks, ps⟩) && allB ps.length (netAt ⟨s, b, fs, ls, ks, ps⟩))) := Lib.hid (by rw [HV.out, HX.out, HY.out]; rfl)
  go_wp2_with fail
  go_loopw [52] (fun i wr => ∃ k : Nat, k ≤ fs.length ∧ i = .int .i64 k ∧ allB k (peerAt ⟨s, b, fs, ls, ks, ps⟩) = true ∧ Below W0.heap.size W0 wr) (fun i _ => fs.length - (intOf i).toNat)
  case atStart => exact ⟨0, Nat.zero_le _, rfl, allB_zero, HB8.out⟩
  case round =>
    obtain ⟨k, hk, rfl, hno, hbw⟩ := hrel
    have HNO := Lib.hid hno
    have HBW := Lib.hid hbw
    clear p0 p1 p2 p3 p4 p5 pf hno
    obtain ⟨p0, p1, p2, p3, p4, p5, pf⟩ := box_cells ((HBW.out.block _ lp).trans HP.out)
    have lpr := Nat.lt_of_lt_of_le lp hbw.size
    clear hbw
    by_cases hlt : k < fs.length
    case neg =>
      obtain rfl : k = fs.length := by omega
      have HA1 : Hid (wvalid ⟨s, b, fs, ls, ks, ps⟩ = allB ps.length (netAt ⟨s, b, fs, ls, ks, ps⟩)) := Lib.hid (by rw [HVF.out, HNO.out, Bool.true_and])
      clear HNO
      go_wp2_with fail
      go_loopw [73] (fun i wq => ∃ k : Nat, k ≤ ps.length ∧ i = .int .i64 k ∧ allB k (netAt ⟨s, b, fs, ls, ks, ps⟩) = true ∧ Below W0.heap.size W0 wq) (fun i _ => ps.length - (intOf i).toNat)
      case atStart => exact ⟨0, Nat.zero_le _, rfl, allB_zero, HBW.out⟩
      case round =>
        obtain ⟨k, hk, rfl, hno, hbw⟩ := hrel
        have HNO := Lib.hid hno
        have HBQ := Lib.hid hbw
        clear p0 p1 p2 p3 p4 p5 pf hno
        obtain ⟨p0, p1, p2, p3, p4, p5, pf⟩ := box_cells ((HBQ.out.block _ lp).trans HP.out)
        have lpr := Nat.lt_of_lt_of_le lp hbw.size
        clear hbw
        by_cases hlt : k < ps.length
        case neg =>
          obtain rfl : k = ps.length := by omega
          go_wp2_with fail
          go_ret
          exact ⟨retb (by rw [HA1.out, HNO.out]), HB0.out.trans (HBQ.out.mono HB0.out.size)⟩
        obtain ⟨t1, i1, xk, rfl, s1, e0, e1, e2, e3, e4, e5, e6⟩ := (HN.out.below HBQ.out).at_ hlt
        have hki : (k : Int) < (ps.length : Int) := by omega
        have hk0 : (0 : Int) ≤ (k : Int) := by omega
        have HTK := Lib.hid (HT.out k hlt)
        obtain ⟨r1, R1⟩ : ∃ r, Hid (pieceOk n f0 ps[k] = r) := ⟨_, Lib.hid rfl⟩
        have HBA : Hid (netAt ⟨s, b, fs, ls, ks, ps⟩ k = r1) := Lib.hid (by unfold netAt Wd.f0; simp only; rw [getD_lt hlt, HF00.out, HNN.out, R1.out])
        have HE := Lib.hid e6
        obtain ⟨eA, ec, rfl⟩ := e6.sl'
        clear e6
        generalize ps[k] = f at *
        obtain ⟨W1, HW1⟩ : ∃ W1, Hid (wr.alloc (.cells #[.int .i64 f.fr, .int .i64 f.to_, .int .i64 f.len, .int .i64 f.idx, .string f.txt, .slice eA f.prf.length ec] 72) = W1) := ⟨_, Lib.hid rfl⟩
        have HBR : Hid (Below wr.heap.size wr W1) := Lib.hid (by rw [← HW1.out]; exact (Below.refl _ _).alloc (Nat.le_refl _) _)
        have HBU : Hid (Below W0.heap.size W0 W1) := Lib.hid (HBQ.out.trans (HBR.out.mono HBQ.out.size))
        go_wp2_with fail
        rw [HW1.out]
        refine (pieceRight_b HF00 HNN R1 _ s b _ _ _ _ _ W1 ((HBU.out.block _ lp).trans HP.out) (HF.out.below HBU.out) (HE.out.below HBR.out) h0 H2 HTK.out).mono ?_
        rintro e w1 ⟨rfl, hb1⟩
        have HB1 : Hid (Below W0.heap.size W0 w1) := Lib.hid (HBU.out.trans (hb1.mono HBU.out.size))
        clear hb1 p0 p1 p2 p3 p4 p5 pf e0 e1 e2 e3 e4 e5
        cases r1
        · go_wp2_with fail
          go_ret
          exact ⟨retb (by rw [HA1.out, allB_no hlt HBA.out]), HB0.out.trans (HB1.out.mono HB0.out.size)⟩
        go_wp2_with fail
        go_roundw
        case rel => exact ⟨k + 1, by omega, by go_num, allB_snoc HNO.out HBA.out, HB1.out⟩
        case measure => simp [intOf]; omega
    have hlt2 : k < ks.length := by have := HKF.out; omega
    obtain ⟨_, _, xa, xb, hAe, s1, e0, e1, e2, e3, e4, e5, e6⟩ := (HF.out.below HBW.out).at_ hlt
    cases hAe
    obtain ⟨t2, i2, xk, rfl, s2, d2, d3⟩ := (HK.out.below HBW.out).at_ hlt2
    have hki : (k : Int) < (fs.length : Int) := by omega
    have hki2 : (k : Int) < (ks.length : Int) := by omega
    have hk0 : (0 : Int) ≤ (k : Int) := by omega
    obtain ⟨r1, R1⟩ : ∃ r, Hid (feedOk s f0 fs[k] = r) := ⟨_, Lib.hid rfl⟩
    obtain ⟨r2, R2⟩ : ∃ r, Hid (windowOk ks[k] = r) := ⟨_, Lib.hid rfl⟩
    have HBA : Hid (peerAt ⟨s, b, fs, ls, ks, ps⟩ k = (r1 && r2)) := Lib.hid (by unfold peerAt Wd.f0; simp only; rw [getD_lt hlt, getD_lt hlt2, HF00.out, R1.out, R2.out])
    have HE := Lib.hid e6
    have HD := Lib.hid d3
    obtain ⟨eA, ec, rfl⟩ := e6.bl.sl'
    obtain ⟨fA, fc, rfl⟩ := e6.hv.sl'
    clear e6 d3
    generalize fs[k] = f at *
    generalize ks[k] = q at *
    obtain ⟨W1, HW1⟩ : ∃ W1, Hid (wr.alloc (.cells #[.int .i64 f.pub, .int .i64 f.hd.len, .int .i64 f.hd.dg, .int .i64 f.hd.sg, .slice eA f.bl.length ec, .slice fA f.hv.length fc] 59) = W1) := ⟨_, Lib.hid rfl⟩
    have HBR : Hid (Below wr.heap.size wr W1) := Lib.hid (by rw [← HW1.out]; exact (Below.refl _ _).alloc (Nat.le_refl _) _)
    have HBU : Hid (Below W0.heap.size W0 W1) := Lib.hid (HBW.out.trans (HBR.out.mono HBW.out.size))
    go_wp2_with fail
    rw [HW1.out]
    refine (feedRight_b HF00 R1 _ b _ _ _ _ _ _ W1 ((HBU.out.block _ lp).trans HP.out) (HF.out.below HBU.out) (HE.out.below HBR.out) h0 H2).mono ?_
    rintro e w1 ⟨rfl, hb1⟩
    have HB1 : Hid (Below W0.heap.size W0 w1) := Lib.hid (HBU.out.trans (hb1.mono HBU.out.size))
    have HR1 : Hid (Below wr.heap.size wr w1) := Lib.hid (HBR.out.trans (hb1.mono HBR.out.size))
    clear p0 p1 p2 p3 p4 p5 pf e0 e1 e2 e3 e4 e5 hb1
    have d2' := (HR1.out.cell (p := ⟨t2, i2 + k, none⟩) s2).trans d2
    clear d2
    have lp1 := Nat.lt_of_lt_of_le lp HB1.out.size
    obtain ⟨p0, p1, p2, p3, p4, p5, pf⟩ := box_cells ((HB1.out.block _ lp).trans HP.out)
    cases r1
    · go_wp2_with fail
      go_ret
      exact ⟨retb (by rw [HVF.out, allB_no hlt HBA.out]; rfl), HB0.out.trans (HB1.out.mono HB0.out.size)⟩
    go_wp2_with fail
    refine (WindowValid_ib R2 _ w1 (HD.out.below HR1.out)).mono ?_
    rintro e w2 ⟨rfl, hb2⟩
    have HB2 : Hid (Below W0.heap.size W0 w2) := Lib.hid (HB1.out.trans (hb2.mono HB1.out.size))
    clear hb2
    cases r2
    · go_wp2_with fail
      go_ret
      exact ⟨retb (by rw [HVF.out, allB_no hlt HBA.out]; rfl), HB0.out.trans (HB2.out.mono HB0.out.size)⟩
    go_wp2_with fail
    go_roundw
    case rel => exact ⟨k + 1, by omega, by go_num, allB_snoc HNO.out HBA.out, HB2.out⟩
    case measure => simp [intOf]; omega
end Go.Proofs.YtcplnfmcefkehaaGreat
