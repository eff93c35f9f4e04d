/- Walks: a run is drawn for the laws; whether peers are connected, whether a number is in a list, whether two lists are the same. No condition. | Walks: whether peers are connected, whether a number is in a list, whether two lists of numbers are the same (the laws' own). No condition. | Walk: the law FnReach. No condition. -/
import Derived.Test.YtcplnfmcefkehaaGreatDg
import Derived.Test.YtcplnfmcefkehaaGreatBZ
import Derived.Test.YtcplnfmcefkehaaGreatBU
import Derived.Test.YtcplnfmcefkehaaGreatBW
import Derived.Test.YtcplnfmcefkehaaGreatBF
namespace Go.Proofs.YtcplnfmcefkehaaGreat
open Go.RowKit
attribute [local go_sem ↓] Go.wp_at_zero Go.wp_at_succ

/-- What a draw of a run for a law leaves. -/
def WorldDraw (w : World) (e : Ending) (w' : World) : Prop := ∃ x uF uL uA uN, e = .returned (.agg #[.int .i64 x.sec, .int .i64 x.bad, uF, uL, uA, uN]) ∧ DrawnW x ∧ WdS w' x uF uL uA uN ∧ Below w.heap.size w w'
set_option maxHeartbeats 1600000 in
set_option maxRecDepth 100000 in
theorem DrawWorldReach_any (bs : List UInt8) (v : Value) (w : World) (hv : RU w v bs) : Calls Tryz.prog 23 #[v] w (WorldDraw w) := by
  obtain ⟨W0, HW0⟩ : ∃ W0, Hid (w.alloc (.cells #[.int .i64 0, .int .i64 0, .slice none 0 0, .slice none 0 0, .slice none 0 0, .slice none 0 0] 35) = W0) := ⟨_, Lib.hid rfl⟩
  have HB0 : Hid (Below w.heap.size w W0) := Lib.hid (by rw [← HW0.out]; exact (Below.refl _ _).alloc (Nat.le_refl _) _)
  have HZ0 : Hid (W0.heap[w.heap.size]? = some (.cells #[.int .i64 0, .int .i64 0, .slice none 0 0, .slice none 0 0, .slice none 0 0, .slice none 0 0] 35 (0, 0))) := Lib.hid (by rw [← HW0.out]; exact heap_alloc_new w _)
  have hl0 : w.heap.size < W0.heap.size := by rw [← HW0.out]; simp
  have HV : Hid (RU W0 v bs) := Lib.hid (hv.below HB0.out)
  obtain ⟨A, c, rfl, _, _, _⟩ := hv
  go_enter Tryz.func23, Tryz.ntmps23
  go_wp2_with fail
  rw [HW0.out]
  refine (l6Open_any bs _ W0 HV.out).mono ?_
  rintro e w1 ⟨g, rfl, hg, r1, hb1⟩
  go_wp2_with fail
  refine (pick_any g 0 10 w1 r1 (by omega) (by omega) (by omega)).mono ?_
  rintro e w2 ⟨y, rfl, y1, y2, r2, o2⟩
  have hg1 := r1.lt
  have HB2 := Lib.hid (hb1.trans (o2.below hg hg1))
  have hg2 := r2.lt
  have HRET : Hid (∀ (x : Wd) (w3 : World) (uF uL uA uN : Value), DrawnW x → WdS w3 x uF uL uA uN → Only g w2 w3 → WorldDraw w (.returned (.agg #[.int .i64 x.sec, .int .i64 x.bad, uF, uL, uA, uN])) ((((((w3.setCell ⟨w.heap.size, 0, none⟩ (.int .i64 x.sec)).setCell ⟨w.heap.size, 1, none⟩ (.int .i64 x.bad)).setCell ⟨w.heap.size, 2, none⟩ uF).setCell ⟨w.heap.size, 3, none⟩ uL).setCell ⟨w.heap.size, 4, none⟩ uA).setCell ⟨w.heap.size, 5, none⟩ uN)) := Lib.hid (fun x w3 uF uL uA uN h1 h2 h3 => by
    have h4 := HB2.out.trans (h3.below hg hg2)
    exact ⟨x, _, _, _, _, rfl, h1, h2.set6 ((h4.block _ hl0).trans HZ0.out) _ _ _ _ _ _, below_set6 (HB0.out.trans (h4.mono (Nat.le_of_lt hl0))) (Nat.le_refl _) _ _ _ _ _ _⟩)
  have HBX : Hid (∀ w3 : World, Only g w2 w3 → w3.heap[w.heap.size]? = some (.cells #[.int .i64 0, .int .i64 0, .slice none 0 0, .slice none 0 0, .slice none 0 0, .slice none 0 0] 35 (0, 0))) := Lib.hid (fun w3 h3 => ((HB2.out.trans (h3.below hg hg2)).block _ hl0).trans HZ0.out)
  clear hb1 o2 r1
  by_cases hy : y = 0
  · subst hy
    go_wp2_with fail
    refine (l92Wrong_any g 1 w2 r2 (by omega)).mono ?_
    rintro e w3 ⟨x, uF, uL, uA, uN, rfl, hd, hs, r3, o3⟩
    obtain ⟨⟨A1, c1, rfl⟩, ⟨A2, c2, rfl⟩, ⟨A3, c3, rfl⟩, ⟨A4, c4, rfl⟩⟩ := hs.sl
    have HR := Lib.hid (HRET.out x w3 _ _ _ _ hd hs o3)
    obtain ⟨z0, z1, z2, z3, z4, z5, zf⟩ := box_cells (HBX.out w3 o3)
    clear hd hs r3 o3
    go_wp2_with fail
    refine bodyPost_ret (v := .agg #[.int .i64 x.sec, .int .i64 x.bad, .slice A1 x.feeds.length c1, .slice A2 x.links.length c2, .slice A3 x.asked.length c3, .slice A4 x.net.length c4]) (by simp [results, Tryz.results23, go_sem, z0, z1, z2, z3, z4, z5]) rfl HR.out
  · have hy' : (y == 0) = false := by rw [beq_eq_false_iff_ne]; exact hy
    go_wp2_with fail
    refine (l92World_any g 1 w2 r2 (by omega)).mono ?_
    rintro e w3 ⟨x, uF, uL, uA, uN, rfl, hd, hs, r3, o3⟩
    obtain ⟨⟨A1, c1, rfl⟩, ⟨A2, c2, rfl⟩, ⟨A3, c3, rfl⟩, ⟨A4, c4, rfl⟩⟩ := hs.sl
    have HR := Lib.hid (HRET.out x w3 _ _ _ _ hd.drawn hs o3)
    obtain ⟨z0, z1, z2, z3, z4, z5, zf⟩ := box_cells (HBX.out w3 o3)
    clear hd hs r3 o3
    go_wp2_with fail
    refine bodyPost_ret (v := .agg #[.int .i64 x.sec, .int .i64 x.bad, .slice A1 x.feeds.length c1, .slice A2 x.links.length c2, .slice A3 x.asked.length c3, .slice A4 x.net.length c4]) (by simp [results, Tryz.results23, go_sem, z0, z1, z2, z3, z4, z5]) rfl HR.out
end Go.Proofs.YtcplnfmcefkehaaGreat
namespace Go.Proofs.YtcplnfmcefkehaaGreat
open Go.RowKit
attribute [local go_sem ↓] Go.wp_at_zero Go.wp_at_succ

set_option maxHeartbeats 800000 in
theorem linked_law (x : Wd) (a b : Int) (vF vL vA vN : Value) (w : World) (hL : RP w vL x.links) :
    Calls Tryz.prog 25 #[.agg #[.int .i64 x.sec, .int .i64 x.bad, vF, vL, vA, vN], .int .i64 a, .int .i64 b] w fun e w' => e = .returned (.bool (linked x a b)) ∧ Below w.heap.size w w' := by
  obtain ⟨s, bd, fs, l, ks, ps⟩ := x
  unfold linked
  simp only at hL ⊢
  obtain ⟨W0, HW0⟩ : ∃ W0, Hid (w.alloc (.cells #[.int .i64 s, .int .i64 bd, vF, vL, vA, vN] 35) = W0) := ⟨_, Lib.hid rfl⟩
  have HB0 : Hid (Below w.heap.size w W0) := Lib.hid (by rw [← HW0.out]; exact (Below.refl _ _).alloc (Nat.le_refl _) _)
  obtain ⟨A, c, rfl⟩ := hL.sl
  have hp : W0.heap[w.heap.size]? = some (.cells #[.int .i64 s, .int .i64 bd, vF, .slice A l.length c, vA, vN] 35 (0, 0)) := by rw [← HW0.out]; exact heap_alloc_new w _
  obtain ⟨p0, p1, p2, p3, p4, p5, pf⟩ := box_cells hp
  have HV := Lib.hid (hL.below HB0.out)
  have hm := hL.len
  unfold maxLen at hm
  clear hL hp p0 p1 p2 p4 p5 pf
  obtain ⟨z, HK⟩ : ∃ z, Hid (linkKey a b = z) := ⟨_, Lib.hid rfl⟩
  have hz1 : z.1 = min a b := by rw [← HK.out]; rfl
  have hz2 : z.2 = max a b := by rw [← HK.out]; rfl
  rw [HK.out]
  have hcase : (a < b ∧ ¬ b < a ∧ Hid (z.1 = a) ∧ Hid (z.2 = b)) ∨ (a = b ∧ Hid (z.1 = a) ∧ Hid (z.2 = a)) ∨ (b < a ∧ ¬ a < b ∧ Hid (z.1 = b) ∧ Hid (z.2 = a)) := by
    rcases Int.lt_trichotomy a b with h | h | h
    · exact .inl ⟨h, by omega, Lib.hid (by omega), Lib.hid (by omega)⟩
    · exact .inr (.inl ⟨h, Lib.hid (by omega), Lib.hid (by omega)⟩)
    · exact .inr (.inr ⟨h, by omega, Lib.hid (by omega), Lib.hid (by omega)⟩)
  clear hz1 hz2
  rcases hcase with ⟨hab, hba, HZ1, HZ2⟩ | ⟨rfl, HZ1, HZ2⟩ | ⟨hab, hba, HZ1, HZ2⟩
  all_goals
    go_enter Tryz.func25, Tryz.ntmps25
    go_wp2
    rw [HW0.out]
    go_loop [7] (fun i => ∃ k : Nat, k ≤ l.length ∧ i = .int .i64 k ∧ hasA (l.take k) z = false) (fun i => l.length - (intOf i).toNat)
    case atStart => exact ⟨0, Nat.zero_le _, rfl, rfl⟩
    case round =>
      obtain ⟨k, hk, rfl, hno⟩ := hrel
      have HNO := Lib.hid hno
      clear hno
      by_cases hlt : k < l.length
      case neg =>
        go_wp2
        go_ret
        exact ⟨retb (hasA_none HNO.out (by omega)).symm, HB0.out⟩
      obtain ⟨b', o, rfl, hbs, e0, e1⟩ := HV.out.at_ hlt
      have hki : (k : Int) < (l.length : Int) := by omega
      have hk0 : (0 : Int) ≤ (k : Int) := by omega
      have HSN := Lib.hid (hasA_snoc hlt z)
      have HAT := Lib.hid (fun h => hasA_at (a := z) hlt h)
      generalize l[k] = y at *
      cases h1 : (y.1 == z.1)
      · have h1' := Lib.hid h1
        rw [HZ1.out] at h1
        go_wp2
        go_round
        case rel => exact ⟨k + 1, by omega, by go_num, by rw [HSN.out, HNO.out, h1'.out]; rfl⟩
        case measure => simp [intOf]; omega
      cases h2 : (y.2 == z.2)
      · have h1' := Lib.hid h1
        have h2' := Lib.hid h2
        rw [HZ1.out, beq_iff_eq] at h1
        rw [HZ2.out] at h2
        go_wp2
        go_round
        case rel => exact ⟨k + 1, by omega, by go_num, by rw [HSN.out, HNO.out, h1'.out, h2'.out]; rfl⟩
        case measure => simp [intOf]; omega
      · have h1' := Lib.hid h1
        have h2' := Lib.hid h2
        rw [HZ1.out, beq_iff_eq] at h1
        rw [HZ2.out, beq_iff_eq] at h2
        go_wp2
        go_ret
        exact ⟨retb (HAT.out (by rw [h1'.out, h2'.out]; rfl)).symm, HB0.out⟩
def hasI (l : List Int) (n : Int) : Bool := l.any fun y => y == n
theorem hasI_snoc {l : List Int} {j : Nat} (h : j < l.length) (n : Int) : hasI (l.take (j + 1)) n = (hasI (l.take j) n || l[j] == n) := by
  unfold hasI; rw [take_snoc_ h, List.any_append]; simp
theorem hasI_at {l : List Int} {j : Nat} (h : j < l.length) {n : Int} (h1 : (l[j] == n) = true) : hasI l n = true := by
  unfold hasI; rw [List.any_eq_true]; exact ⟨_, List.getElem_mem h, h1⟩
theorem hasI_iff {l : List Int} {n : Int} : hasI l n = true ↔ n ∈ l := by unfold hasI; simp
set_option maxHeartbeats 800000 in
theorem hasInt_any (l : List Int) (n : Int) (v : Value) (w : World) (hv : RI w v l) : Calls Tryz.prog 26 #[v, .int .i64 n] w fun e w' => e = .returned (.bool (hasI l n)) ∧ w = w' := by
  have hm := hv.len
  unfold maxLen at hm
  obtain ⟨A, c, rfl⟩ := R1.sl' hv
  have HV := Lib.hid hv
  clear hv
  go_enter Tryz.func26, Tryz.ntmps26
  go_wp2
  go_loop [5] (fun i => ∃ k : Nat, k ≤ l.length ∧ i = .int .i64 k ∧ hasI (l.take k) n = false) (fun i => l.length - (intOf i).toNat)
  case atStart => exact ⟨0, Nat.zero_le _, rfl, rfl⟩
  case round =>
    obtain ⟨k, hk, rfl, hno⟩ := hrel
    have HNO := Lib.hid hno
    clear hno
    by_cases hlt : k < l.length
    case neg =>
      have HE : Hid (hasI l n = false) := Lib.hid (by have := HNO.out; rwa [List.take_of_length_le (by omega)] at this)
      go_wp2
      go_ret
      exact ⟨retb HE.out.symm, rfl⟩
    obtain ⟨b', o, rfl, hbs, e0⟩ := HV.out.at_ hlt
    have hki : (k : Int) < (l.length : Int) := by omega
    have hk0 : (0 : Int) ≤ (k : Int) := by omega
    have HSN := Lib.hid (hasI_snoc hlt n)
    have HAT := Lib.hid (fun h => hasI_at (n := n) hlt h)
    generalize l[k] = y at *
    cases h1 : (y == n)
    · have h1' := Lib.hid h1
      go_wp2
      go_round
      case rel => exact ⟨k + 1, by omega, by go_num, by rw [HSN.out, HNO.out, h1'.out]; rfl⟩
      case measure => simp [intOf]; omega
    · have HR := Lib.hid (HAT.out h1)
      go_wp2
      go_ret
      exact ⟨retb HR.out.symm, rfl⟩
end Go.Proofs.YtcplnfmcefkehaaGreat
namespace Go.Proofs.YtcplnfmcefkehaaGreat
open Go.RowKit
attribute [local go_sem ↓] Go.wp_at_zero Go.wp_at_succ

/-- What both laws on reach walk over: the run in a box, the list in a row. -/
structure RchW (w : World) (q : Nat) (x : Wd) (l : List Int) (vF vL vA vN vo : Value) (wr : World) : Prop where
  b : wr.heap[q]? = some (.cells #[.int .i64 x.sec, .int .i64 x.bad, vF, vL, vA, vN] 35 (0, 0))
  l : RI wr vo l
  lk : RP wr vL x.links
  o : Below w.heap.size w wr
theorem RchW.below {w wr w2 : World} {q : Nat} {x : Wd} {l : List Int} {vF vL vA vN vo : Value} (h : RchW w q x l vF vL vA vN vo wr) (hb : Below wr.heap.size wr w2) : RchW w q x l vF vL vA vN vo w2 :=
  ⟨(hb.block _ (lt_heap h.b)).trans h.b, h.l.below hb, h.lk.below hb, h.o.trans (hb.mono h.o.size)⟩
theorem linked_lb {x : Wd} {a b : Int} {r : Bool} (h : Hid (linked x a b = r)) (vF vL vA vN : Value) (w : World) (hL : RP w vL x.links) :
    Calls Tryz.prog 25 #[.agg #[.int .i64 x.sec, .int .i64 x.bad, vF, vL, vA, vN], .int .i64 a, .int .i64 b] w fun e w' => e = .returned (.bool r) ∧ Below w.heap.size w w' := by
  rw [← h.out]; exact linked_law x a b vF vL vA vN w hL
theorem hasInt_b {l : List Int} {n : Int} {r : Bool} (h : Hid (hasI l n = r)) (v : Value) (w : World) (hv : RI w v l) : Calls Tryz.prog 26 #[v, .int .i64 n] w fun e w' => e = .returned (.bool r) ∧ w = w' := by
  rw [← h.out]; exact hasInt_any l n v w hv
theorem wreach_valid {x : Wd} (h : wreach x ≠ []) : wvalid x = true := by
  cases hv : wvalid x
  · exact absurd (by unfold wreach; rw [hv]; rfl) h
  · rfl
set_option maxHeartbeats 6400000 in
set_option maxRecDepth 100000 in
theorem FnReach_any (bs : List UInt8) (v : Value) (w : World) (hv : RU w v bs) : Calls Tryz.prog 6 #[v] w fun e w' => e = .returned (.bool true) ∧ Below w.heap.size w w' := by
  have HV := Lib.hid hv
  obtain ⟨A, c, rfl, n1, n2, n3⟩ := hv
  unfold maxLen at n2
  have hbm : bs.length ≤ 9223372036854775807 := by have := n1.1; omega
  clear n1 n2 n3
  by_cases hl : 1048576 < bs.length
  · have hl' : (1048576 : Int) < (bs.length : Int) := by omega
    go_enter Tryz.func6, Tryz.ntmps6
    go_wp2
    go_ret
    exact ⟨rfl, Below.refl _ _⟩
  have hl' : ¬ (1048576 : Int) < (bs.length : Int) := by omega
  clear hl
  go_enter Tryz.func6, Tryz.ntmps6
  go_wp2_with fail
  refine (DrawWorldReach_any bs _ w HV.out).mono ?_
  rintro e w1 ⟨x, uF, uL, uA, uN, rfl, hd, hs, hb1⟩
  obtain ⟨⟨A1, c1, rfl⟩, ⟨A2, c2, rfl⟩, ⟨A3, c3, rfl⟩, ⟨A4, c4, rfl⟩⟩ := hs.sl
  obtain ⟨q, HQ⟩ : ∃ q, Hid (w1.heap.size = q) := ⟨_, Lib.hid rfl⟩
  obtain ⟨W1, HW1⟩ : ∃ W, Hid (w1.alloc (.cells #[.int .i64 x.sec, .int .i64 x.bad, .slice A1 x.feeds.length c1, .slice A2 x.links.length c2, .slice A3 x.asked.length c3, .slice A4 x.net.length c4] 35) = W) := ⟨_, Lib.hid rfl⟩
  have HB1 : Hid (Below w.heap.size w W1) := Lib.hid (by rw [← HW1.out]; exact below_alloc hb1 _)
  have HS1 : Hid (WdS W1 x (.slice A1 x.feeds.length c1) (.slice A2 x.links.length c2) (.slice A3 x.asked.length c3) (.slice A4 x.net.length c4)) := Lib.hid (by rw [← HW1.out]; exact hs.below (below_alloc (Below.refl _ _) _))
  have HX1 : Hid (W1.heap[q]? = some (.cells #[.int .i64 x.sec, .int .i64 x.bad, .slice A1 x.feeds.length c1, .slice A2 x.links.length c2, .slice A3 x.asked.length c3, .slice A4 x.net.length c4] 35 (0, 0))) := Lib.hid (by rw [← HW1.out, ← HQ.out]; exact heap_alloc_new _ _)
  have HT := Lib.hid hd.t
  have hfm : x.feeds.length ≤ maxLen := hs.r.feeds.len
  unfold maxLen at hfm
  clear hd hs hb1 hbm hl'
  obtain ⟨t0, t1, t2, t3, t4, t5, tf⟩ := box_cells HX1.out
  go_wp2_with fail
  rw [HW1.out, HQ.out]
  go_wp2_with fail
  refine (WorldReach_i x _ _ _ _ W1 HS1.out.r HT.out).mono ?_
  rintro e w2 ⟨vo, rfl, ho2, hb2⟩
  obtain ⟨l, HL⟩ : ∃ l, Hid (wreach x = l) := ⟨_, Lib.hid rfl⟩
  rw [HL.out] at ho2
  have HX2 := Lib.hid ((hb2.block _ (lt_heap HX1.out)).trans HX1.out)
  have HS2 := Lib.hid (HS1.out.below hb2)
  have HB2 := Lib.hid (HB1.out.trans (hb2.mono HB1.out.size))
  have HO2 := Lib.hid ho2
  obtain ⟨oA, oc, rfl⟩ := ho2.sl
  have hlm := ho2.len
  unfold maxLen at hlm
  clear ho2 hb2 t0 t1 t2 t3 t4 t5 tf
  obtain ⟨t0, t1, t2, t3, t4, t5, tf⟩ := box_cells HX2.out
  go_wp2_with fail
  refine (WorldReach_s x _ _ _ _ w2 HS2.out.r HT.out).mono ?_
  rintro e w3 ⟨vw, rfl, ho3, hb3⟩
  rw [HL.out] at ho3
  have HR3 : Hid (RchW w q x l (.slice A1 x.feeds.length c1) (.slice A2 x.links.length c2) (.slice A3 x.asked.length c3) (.slice A4 x.net.length c4) (.slice oA l.length oc) w3) := Lib.hid (RchW.below ⟨HX2.out, HO2.out.r1, HS2.out.r.links, HB2.out⟩ hb3)
  have HO3 := Lib.hid ho3
  obtain ⟨sA, sc, rfl⟩ := ho3.sl
  clear ho3 hb3 t0 t1 t2 t3 t4 t5 tf
  go_wp2_with fail
  refine (sameInts_same l _ _ w3 HR3.out.l HO3.out.r1).mono ?_
  rintro e w4 ⟨rfl, hb4⟩
  have HR4 := Lib.hid (HR3.out.below hb4)
  have HO4 := Lib.hid (HO3.out.below hb4)
  clear hb4
  by_cases h0 : l.length = 0
  · have h0' : ((l.length : Int) == 0) = true := by rw [beq_iff_eq]; omega
    clear h0
    go_wp2_with fail
    refine (sameInts_same l _ _ w4 HR4.out.l HO4.out.r1).mono ?_
    rintro e w5 ⟨rfl, hb5⟩
    have HR5 := Lib.hid (HR4.out.below hb5)
    clear hb5
    go_wp2_with fail
    go_ret
    exact ⟨rfl, HR5.out.o⟩
  have h0' : ((l.length : Int) == 0) = false := by rw [beq_eq_false_iff_ne]; omega
  have HVAL : Hid (wvalid x = true) := Lib.hid (wreach_valid (by rw [HL.out]; intro e; subst e; exact h0 rfl))
  have hl0 : 0 < l.length := by omega
  clear h0
  have HSRT : Hid (l.Pairwise (· < ·)) := Lib.hid (by rw [← HL.out]; exact wreach_sorted x)
  go_wp2_with fail
  clear h0'
  go_loopw [6] (fun i wr => ∃ k : Nat, k ≤ l.length ∧ i = .int .i64 k ∧ RchW w q x l (.slice A1 x.feeds.length c1) (.slice A2 x.links.length c2) (.slice A3 x.asked.length c3) (.slice A4 x.net.length c4) (.slice oA l.length oc) wr) (fun i _ => l.length - (intOf i).toNat)
  case atStart => exact ⟨0, Nat.zero_le _, rfl, HR4.out⟩
  case round =>
    obtain ⟨i, hi, rfl, hR⟩ := hrel
    have HR := Lib.hid hR
    by_cases hlt : i < l.length
    · have hki : (i : Int) < (l.length : Int) := by omega
      have hk0 : (0 : Int) ≤ (i : Int) := by omega
      clear hR
      go_wp2_with fail
      go_loopw [7] (fun u wr => ∃ k : Nat, k ≤ x.feeds.length ∧ u = .int .i64 k ∧ RchW w q x l (.slice A1 x.feeds.length c1) (.slice A2 x.links.length c2) (.slice A3 x.asked.length c3) (.slice A4 x.net.length c4) (.slice oA l.length oc) wr) (fun u _ => x.feeds.length - (intOf u).toNat)
      case atStart => exact ⟨0, Nat.zero_le _, rfl, HR.out⟩
      case round =>
        obtain ⟨k, hk, rfl, hRI⟩ := hrel
        obtain ⟨wi, rfl⟩ : ∃ W, W = wr := ⟨_, rfl⟩
        have HRI := Lib.hid hRI
        obtain ⟨t0, t1, t2, t3, t4, t5, tf⟩ := box_cells hRI.b
        have hyl := lt_heap hRI.b
        by_cases hlk : k < x.feeds.length
        · have hlk' : (k : Int) < (x.feeds.length : Int) := by omega
          have hkk0 : (0 : Int) ≤ (k : Int) := by omega
          obtain ⟨oB, o, hA, hbs, e0⟩ := R1.at_ hRI.l hlt
          subst hA
          obtain ⟨y, HY⟩ : ∃ y, Hid (l[i] = y) := ⟨_, Lib.hid rfl⟩
          rw [HY.out] at e0
          have HMY : Hid (y ∈ wreach x) := Lib.hid (by rw [HL.out, ← HY.out]; exact List.getElem_mem _)
          clear hRI
          obtain ⟨b1, HB_⟩ : ∃ b, Hid ((y == x.bad) = b) := ⟨_, Lib.hid rfl⟩
          obtain ⟨b2, HLK⟩ : ∃ b, Hid (linked x y k = b) := ⟨_, Lib.hid rfl⟩
          obtain ⟨b3, HHI⟩ : ∃ b, Hid (hasI l k = b) := ⟨_, Lib.hid rfl⟩
          have hlaw : b1 = true ∨ (b1 = false ∧ b2 = false) ∨ (b1 = false ∧ b2 = true ∧ b3 = true) := by
            cases b1
            · cases b2
              · exact .inr (.inl ⟨rfl, rfl⟩)
              · refine .inr (.inr ⟨rfl, rfl, ?_⟩)
                rw [← HHI.out, hasI_iff, ← HL.out]
                exact reach_law HVAL.out HMY.out (by have := HB_.out; rwa [beq_eq_false_iff_ne] at this) HLK.out
            · exact .inl rfl
          have hup := up_cell wi
          rcases hlaw with rfl | ⟨rfl, rfl⟩ | ⟨rfl, rfl, rfl⟩
          · have hbb := HB_.out
            have hbn : (y != x.bad) = false := by unfold bne; rw [hbb]; rfl
            go_wp2_with fail
            refine wp_region_up (by kernel_rfl) (by kernel_rfl) ?_
            repeat (go_big_quiet_step (first
              | (go_at_call 25; exact up_call (linked_lb HLK _ _ _ _ _ (HRI.out.lk.below (up_below wi _))))
              | (go_at_call 26; exact up_same (hasInt_b HHI _ _ (HRI.out.l.below (up_below wi _))))))
            refine wpQuiet_nil ?_
            intro w6 hw6
            have hb6 := of_up hw6
            clear hw6 hup t0 t1 t2 t3 t4 t5 tf e0
            have HR6 := Lib.hid (HRI.out.below hb6)
            clear hb6
            go_wp2_with fail
            go_roundw
            case rel => exact ⟨k + 1, by omega, by go_num, HR6.out⟩
            case measure => simp [intOf]; omega
          · have hbb := HB_.out
            have hbn : (y != x.bad) = true := by unfold bne; rw [hbb]; rfl
            go_wp2_with fail
            refine wp_region_up (by kernel_rfl) (by kernel_rfl) ?_
            repeat (go_big_quiet_step (first
              | (go_at_call 25; exact up_call (linked_lb HLK _ _ _ _ _ (HRI.out.lk.below (up_below wi _))))
              | (go_at_call 26; exact up_same (hasInt_b HHI _ _ (HRI.out.l.below (up_below wi _))))))
            refine wpQuiet_nil ?_
            intro w6 hw6
            have hb6 := of_up hw6
            clear hw6 hup t0 t1 t2 t3 t4 t5 tf e0
            have HR6 := Lib.hid (HRI.out.below hb6)
            clear hb6
            go_wp2_with fail
            go_roundw
            case rel => exact ⟨k + 1, by omega, by go_num, HR6.out⟩
            case measure => simp [intOf]; omega
          · have hbb := HB_.out
            have hbn : (y != x.bad) = true := by unfold bne; rw [hbb]; rfl
            go_wp2_with fail
            refine wp_region_up (by kernel_rfl) (by kernel_rfl) ?_
            repeat (go_big_quiet_step (first
              | (go_at_call 25; exact up_call (linked_lb HLK _ _ _ _ _ (HRI.out.lk.below (up_below wi _))))
              | (go_at_call 26; exact up_same (hasInt_b HHI _ _ (HRI.out.l.below (up_below wi _))))))
            refine wpQuiet_nil ?_
            intro w6 hw6
            have hb6 := of_up hw6
            clear hw6 hup t0 t1 t2 t3 t4 t5 tf e0
            have HR6 := Lib.hid (HRI.out.below hb6)
            clear hb6
            go_wp2_with fail
            go_roundw
            case rel => exact ⟨k + 1, by omega, by go_num, HR6.out⟩
            case measure => simp [intOf]; omega
        · have hlk' : ¬ (k : Int) < (x.feeds.length : Int) := by omega
          by_cases hi0 : i = 0
          · have hi0' : ¬ (0 : Int) < (i : Int) := by omega
            have hi0'' : ¬ 0 < i := by omega
            clear hi0 hRI
            have hup := up_cell wi
            go_wp2_with fail
            refine wp_region_up (by kernel_rfl) (by kernel_rfl) ?_
            repeat (go_big_quiet_step (fail))
            refine wpQuiet_nil ?_
            intro w6 hw6
            have hb6 := of_up hw6
            clear hw6 hup t0 t1 t2 t3 t4 t5 tf
            have HR6 := Lib.hid (HRI.out.below hb6)
            clear hb6
            go_wp2_with fail
            go_roundw
            case rel => exact ⟨i + 1, by omega, by go_num, HR6.out⟩
            case measure => simp [intOf]; omega
          · obtain ⟨m, HM⟩ : ∃ m : Nat, Hid (i = m + 1) := ⟨i - 1, Lib.hid (by omega)⟩
            have hw1 : IntKind.i64.wrap ((i : Int) - 1) = (m : Int) := by rw [IntWalk.i64_in _ (by omega)]; have := HM.out; omega
            have hmm : m < l.length := by have := HM.out; omega
            have hmi : (m : Int) < (l.length : Int) := by omega
            have hi0' : (0 : Int) < (i : Int) := by omega
            have hi0'' : 0 < i := by omega
            obtain ⟨oB, o, hA, hbs, e0⟩ := R1.at_ hRI.l hlt
            subst hA
            obtain ⟨_, _, hA, _, e1⟩ := R1.at_ hRI.l hmm
            cases hA
            have hlt' : l[m] < l[i] := List.pairwise_iff_getElem.1 HSRT.out m i hmm hlt (by have := HM.out; omega)
            obtain ⟨y, HY⟩ : ∃ y, Hid (l[i] = y) := ⟨_, Lib.hid rfl⟩
            obtain ⟨z, HZ⟩ : ∃ y, Hid (l[m] = y) := ⟨_, Lib.hid rfl⟩
            rw [HY.out] at e0 hlt'
            rw [HZ.out] at e1 hlt'
            have hge : decide (y ≤ z) = false := decide_eq_false (by omega)
            have hge' : ¬ y ≤ z := by omega
            clear hi0 hRI
            have hup := up_cell wi
            go_wp2_with fail
            refine wp_region_up (by kernel_rfl) (by kernel_rfl) ?_
            repeat (go_big_quiet_step (fail))
            refine wpQuiet_nil ?_
            intro w6 hw6
            have hb6 := of_up hw6
            clear hw6 hup t0 t1 t2 t3 t4 t5 tf e0 e1 hw1
            have HR6 := Lib.hid (HRI.out.below hb6)
            clear hb6
            go_wp2_with fail
            go_roundw
            case rel => exact ⟨i + 1, by omega, by go_num, HR6.out⟩
            case measure => simp [intOf]; omega
    · obtain ⟨oB, o, hA, hbs, e0⟩ := R1.at_ hR.l hl0
      subst hA
      have HF : Hid (l[0] = 0) := Lib.hid (by
        obtain ⟨r, hr, _⟩ := wreach_first HVAL.out
        rw [HL.out] at hr; subst hr; rfl)
      rw [HF.out, Nat.add_zero] at e0
      clear hR
      have hln : ¬ (i : Int) < (l.length : Int) := by omega
      have hl0' : (0 : Int) < (l.length : Int) := by omega
      go_wp2_with fail
      go_ret
      exact ⟨rfl, HR.out.o⟩
end Go.Proofs.YtcplnfmcefkehaaGreat
