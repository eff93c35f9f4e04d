/- Walk: the law FnReachReason. No condition. -/
import Derived.Test.YtcplnfmcefkehaaGreatCF
namespace Go.Proofs.YtcplnfmcefkehaaGreat
open Go.RowKit
attribute [local go_sem ↓] Go.wp_at_zero Go.wp_at_succ

/-- Is there a reason for y among these? -/
def rsn (x : Wd) (y : Int) (l : List Int) : Bool := l.any fun d => d != x.bad && linked x y d
theorem rsn_snoc {x : Wd} {y : Int} {l : List Int} {j : Nat} (h : j < l.length) : rsn x y (l.take (j + 1)) = (rsn x y (l.take j) || (l[j] != x.bad && linked x y l[j])) := by
  unfold rsn; rw [take_snoc_ h, List.any_append]; simp
set_option maxHeartbeats 6400000 in
set_option maxRecDepth 100000 in
theorem FnReachReason_any (bs : List UInt8) (v : Value) (w : World) (hv : RU w v bs) : Calls Tryz.prog 5 #[v] w fun e w' => e = .returned (.bool true) ∧ Below w.heap.size w w' := by
  have HV := Lib.hid hv
  obtain ⟨A, c, rfl, n1, n2, n3⟩ := hv
  unfold maxLen at n2
  have hbm : bs.length ≤ 9223372036854775807 := by have := n1.1; omega
  clear n1 n2 n3
  by_cases hl : 1048576 < bs.length
  · have hl' : (1048576 : Int) < (bs.length : Int) := by omega
    go_enter Tryz.func5, Tryz.ntmps5
    go_wp2
    go_ret
    exact ⟨rfl, Below.refl _ _⟩
  have hl' : ¬ (1048576 : Int) < (bs.length : Int) := by omega
  clear hl
  go_enter Tryz.func5, Tryz.ntmps5
  go_wp2_with fail
  refine (DrawWorldReach_any bs _ w HV.out).mono ?_
  rintro e w1 ⟨x, uF, uL, uA, uN, rfl, hd, hs, hb1⟩
  obtain ⟨⟨A1, c1, rfl⟩, ⟨A2, c2, rfl⟩, ⟨A3, c3, rfl⟩, ⟨A4, c4, rfl⟩⟩ := hs.sl
  obtain ⟨q, HQ⟩ : ∃ q, Hid (w1.heap.size = q) := ⟨_, Lib.hid rfl⟩
  obtain ⟨W1, HW1⟩ : ∃ W, Hid (w1.alloc (.cells #[.int .i64 x.sec, .int .i64 x.bad, .slice A1 x.feeds.length c1, .slice A2 x.links.length c2, .slice A3 x.asked.length c3, .slice A4 x.net.length c4] 35) = W) := ⟨_, Lib.hid rfl⟩
  have HB1 : Hid (Below w.heap.size w W1) := Lib.hid (by rw [← HW1.out]; exact below_alloc hb1 _)
  have HS1 : Hid (WdS W1 x (.slice A1 x.feeds.length c1) (.slice A2 x.links.length c2) (.slice A3 x.asked.length c3) (.slice A4 x.net.length c4)) := Lib.hid (by rw [← HW1.out]; exact hs.below (below_alloc (Below.refl _ _) _))
  have HX1 : Hid (W1.heap[q]? = some (.cells #[.int .i64 x.sec, .int .i64 x.bad, .slice A1 x.feeds.length c1, .slice A2 x.links.length c2, .slice A3 x.asked.length c3, .slice A4 x.net.length c4] 35 (0, 0))) := Lib.hid (by rw [← HW1.out, ← HQ.out]; exact heap_alloc_new _ _)
  have HT := Lib.hid hd.t
  have hfm : x.feeds.length ≤ maxLen := hs.r.feeds.len
  unfold maxLen at hfm
  clear hd hs hb1 hbm hl'
  obtain ⟨t0, t1, t2, t3, t4, t5, tf⟩ := box_cells HX1.out
  go_wp2_with fail
  rw [HW1.out, HQ.out]
  go_wp2_with fail
  refine (WorldReach_i x _ _ _ _ W1 HS1.out.r HT.out).mono ?_
  rintro e w2 ⟨vo, rfl, ho2, hb2⟩
  obtain ⟨l, HL⟩ : ∃ l, Hid (wreach x = l) := ⟨_, Lib.hid rfl⟩
  rw [HL.out] at ho2
  have HX2 := Lib.hid ((hb2.block _ (lt_heap HX1.out)).trans HX1.out)
  have HS2 := Lib.hid (HS1.out.below hb2)
  have HB2 := Lib.hid (HB1.out.trans (hb2.mono HB1.out.size))
  have HO2 := Lib.hid ho2
  obtain ⟨oA, oc, rfl⟩ := ho2.sl
  have hlm := ho2.len
  unfold maxLen at hlm
  clear ho2 hb2 t0 t1 t2 t3 t4 t5 tf
  obtain ⟨t0, t1, t2, t3, t4, t5, tf⟩ := box_cells HX2.out
  go_wp2_with fail
  refine (WorldReach_s x _ _ _ _ w2 HS2.out.r HT.out).mono ?_
  rintro e w3 ⟨vw, rfl, ho3, hb3⟩
  rw [HL.out] at ho3
  have HR3 : Hid (RchW w q x l (.slice A1 x.feeds.length c1) (.slice A2 x.links.length c2) (.slice A3 x.asked.length c3) (.slice A4 x.net.length c4) (.slice oA l.length oc) w3) := Lib.hid (RchW.below ⟨HX2.out, HO2.out.r1, HS2.out.r.links, HB2.out⟩ hb3)
  have HO3 := Lib.hid ho3
  obtain ⟨sA, sc, rfl⟩ := ho3.sl
  clear ho3 hb3 t0 t1 t2 t3 t4 t5 tf
  go_wp2_with fail
  refine (sameInts_same l _ _ w3 HR3.out.l HO3.out.r1).mono ?_
  rintro e w4 ⟨rfl, hb4⟩
  have HR4 := Lib.hid (HR3.out.below hb4)
  have HO4 := Lib.hid (HO3.out.below hb4)
  clear hb4
  clear HO4
  have HVAL : Hid (l ≠ [] → wvalid x = true) := Lib.hid (fun h => wreach_valid (by rw [HL.out]; exact h))
  go_wp2_with fail
  go_loopw [6] (fun i wr => ∃ k : Nat, 1 ≤ k ∧ i = .int .i64 k ∧ (k ≤ l.length ∨ k = 1) ∧ RchW w q x l (.slice A1 x.feeds.length c1) (.slice A2 x.links.length c2) (.slice A3 x.asked.length c3) (.slice A4 x.net.length c4) (.slice oA l.length oc) wr) (fun i _ => l.length - (intOf i).toNat)
  case atStart => exact ⟨1, Nat.le_refl _, rfl, .inr rfl, HR4.out⟩
  case round =>
    obtain ⟨i, hi1, rfl, hi, hR⟩ := hrel
    have HR := Lib.hid hR
    have HI := Lib.hid hi
    clear hi
    by_cases hlt : i < l.length
    · have hki : (i : Int) < (l.length : Int) := by omega
      have hk0 : (0 : Int) ≤ (i : Int) := by omega
      obtain ⟨y, HY⟩ : ∃ y, Hid (l[i] = y) := ⟨_, Lib.hid rfl⟩
      have HRS : Hid (rsn x y l = true) := Lib.hid (by
        have hv := HVAL.out (by intro e; subst e; simp at hlt)
        have hm : y ∈ wreach x := by rw [HL.out, ← HY.out]; exact List.getElem_mem _
        have hy0 : y ≠ 0 := by
          obtain ⟨r, hr, hr0⟩ := wreach_first hv
          rw [HL.out] at hr
          subst hr
          rw [← HY.out]
          obtain ⟨j, rfl⟩ : ∃ j, i = j + 1 := ⟨i - 1, by omega⟩
          exact hr0 _ (by rw [List.getElem_cons_succ]; exact List.getElem_mem _)
        obtain ⟨d, hd1, hd2, hd3⟩ := reason_law hv hm hy0
        rw [HL.out] at hd1
        unfold rsn
        rw [List.any_eq_true]
        exact ⟨d, hd1, by rw [hd3]; simpa using hd2⟩)
      clear hR
      go_wp2_with fail
      go_loopw [7, 8] (fun f u wr => ∃ (k : Nat) (b : Bool), k ≤ l.length ∧ u = .int .i64 k ∧ f = .bool b ∧ rsn x y (l.take k) = b ∧ RchW w q x l (.slice A1 x.feeds.length c1) (.slice A2 x.links.length c2) (.slice A3 x.asked.length c3) (.slice A4 x.net.length c4) (.slice oA l.length oc) wr) (fun _ u _ => l.length - (intOf u).toNat)
      case atStart => exact ⟨0, false, Nat.zero_le _, rfl, rfl, rfl, HR.out⟩
      case round =>
        obtain ⟨k, b, hk, rfl, rfl, hb, hRI⟩ := hrel
        obtain ⟨wi, rfl⟩ : ∃ W, W = wr := ⟨_, rfl⟩
        have HRI := Lib.hid hRI
        have HBB := Lib.hid hb
        clear hb
        obtain ⟨t0, t1, t2, t3, t4, t5, tf⟩ := box_cells hRI.b
        have hyl := lt_heap hRI.b
        by_cases hlk : k < l.length
        · have hlk' : (k : Int) < (l.length : Int) := by omega
          have hkk0 : (0 : Int) ≤ (k : Int) := by omega
          obtain ⟨oB, o, hA, hbs, e0⟩ := R1.at_ hRI.l hlt
          subst hA
          obtain ⟨_, _, hA, _, e1⟩ := R1.at_ hRI.l hlk
          cases hA
          have HSN := Lib.hid (rsn_snoc (x := x) (y := y) hlk)
          obtain ⟨d, HD⟩ : ∃ y, Hid (l[k] = y) := ⟨_, Lib.hid rfl⟩
          rw [HY.out] at e0
          rw [HD.out] at e1
          clear hRI
          obtain ⟨b1, HB_⟩ : ∃ b, Hid ((d == x.bad) = b) := ⟨_, Lib.hid rfl⟩
          obtain ⟨b2, HLK⟩ : ∃ b, Hid (linked x y d = b) := ⟨_, Lib.hid rfl⟩
          have hup := up_cell wi
          cases b
          · cases b1
            · have hbb := HB_.out
              have hbn : (d != x.bad) = true := by unfold bne; rw [hbb]; rfl
              have HREL : Hid (rsn x y (l.take (k + 1)) = b2) := Lib.hid (by rw [HSN.out, HBB.out, HD.out, hbn, HLK.out]; rfl)
              go_wp2_with fail
              refine wp_region_up (by kernel_rfl) (by kernel_rfl) ?_
              repeat (go_big_quiet_step (
                (go_at_call 25; exact up_call (linked_lb HLK _ _ _ _ _ (HRI.out.lk.below (up_below wi _))))))
              refine wpQuiet_nil ?_
              intro w6 hw6
              have hb6 := of_up hw6
              clear hw6 hup t0 t1 t2 t3 t4 t5 tf e0 e1
              have HR6 := Lib.hid (HRI.out.below hb6)
              clear hb6
              go_wp2_with fail
              go_roundw
              case rel => exact ⟨k + 1, _, by omega, by go_num, rfl, HREL.out, HR6.out⟩
              case measure => simp [intOf]; omega
            · have hbb := HB_.out
              have hbn : (d != x.bad) = false := by unfold bne; rw [hbb]; rfl
              have HREL : Hid (rsn x y (l.take (k + 1)) = false) := Lib.hid (by rw [HSN.out, HBB.out, HD.out, hbn]; rfl)
              go_wp2_with fail
              refine wp_region_up (by kernel_rfl) (by kernel_rfl) ?_
              repeat (go_big_quiet_step (
                (go_at_call 25; exact up_call (linked_lb HLK _ _ _ _ _ (HRI.out.lk.below (up_below wi _))))))
              refine wpQuiet_nil ?_
              intro w6 hw6
              have hb6 := of_up hw6
              clear hw6 hup t0 t1 t2 t3 t4 t5 tf e0 e1
              have HR6 := Lib.hid (HRI.out.below hb6)
              clear hb6
              go_wp2_with fail
              go_roundw
              case rel => exact ⟨k + 1, _, by omega, by go_num, rfl, HREL.out, HR6.out⟩
              case measure => simp [intOf]; omega
          · have HREL : Hid (rsn x y (l.take (k + 1)) = true) := Lib.hid (by rw [HSN.out, HBB.out]; rfl)
            go_wp2_with fail
            refine wp_region_up (by kernel_rfl) (by kernel_rfl) ?_
            repeat (go_big_quiet_step (
              (go_at_call 25; exact up_call (linked_lb HLK _ _ _ _ _ (HRI.out.lk.below (up_below wi _))))))
            refine wpQuiet_nil ?_
            intro w6 hw6
            have hb6 := of_up hw6
            clear hw6 hup t0 t1 t2 t3 t4 t5 tf e0 e1
            have HR6 := Lib.hid (HRI.out.below hb6)
            clear hb6
            go_wp2_with fail
            go_roundw
            case rel => exact ⟨k + 1, _, by omega, by go_num, rfl, HREL.out, HR6.out⟩
            case measure => simp [intOf]; omega
        · have hlk' : ¬ (k : Int) < (l.length : Int) := by omega
          have hbt : b = true := by
            have := HBB.out
            rw [List.take_of_length_le (by omega), HRS.out] at this
            exact this.symm
          subst hbt
          clear hRI
          go_wp2_with fail
          go_roundw
          case rel => exact ⟨i + 1, by omega, by go_num, .inl (by omega), HRI.out⟩
          case measure => simp [intOf]; omega
    · have hln : ¬ (i : Int) < (l.length : Int) := by omega
      clear hR
      go_wp2_with fail
      go_ret
      exact ⟨rfl, HR.out.o⟩
end Go.Proofs.YtcplnfmcefkehaaGreat
