/- Walk: the law FnFeedHeadSelf. -/
import Derived.Test.YtlhiabnablbkpaaVd
import Derived.Test.YtlhiabnablbkpaaUg
import Derived.Test.YtlhiabnablbkpaaLawr
namespace Go.Proofs.Ytlhiabnablbkpaa
open Go.RowKit

theorem leavesOf_any (bl : List ByteArray) (v : Value) (w : World) (hv : RS w v bl) (hl : bl.length ≤ 10000000000) (hs : ∀ s ∈ bl, s.size ≤ 8) :
    Calls Try.prog 36 #[v] w fun e w' => ∃ v', e = .returned v' ∧ O1 (Value.int .i64) w.heap.size 3 w' v' (lvs bl) ∧ Below w.heap.size w w' := by
  have HS := Lib.hid hs; clear hs
  have HV := Lib.hid hv
  obtain ⟨A, c, rfl, h1, h2, h3⟩ := hv
  clear h3
  go_enter Try.func36, Try.ntmps36
  go_wp2
  go_loopw [3, 4] (fun out i wr => ∃ k : Nat, k ≤ bl.length ∧ i = .int .i64 k ∧ O1 (Value.int .i64) w.heap.size 3 wr out (lvs (bl.take k)) ∧ Below w.heap.size w wr) (fun _ i _ => bl.length - (intOf i).toNat)
  case atStart => exact ⟨0, Nat.zero_le _, rfl, O1.made _ _ _, (Below.refl _ _).alloc (Nat.le_refl _) _⟩
  case round =>
    obtain ⟨k, hk, rfl, hown, hb⟩ := hrel
    by_cases hlt : k < bl.length
    · obtain ⟨A', c', hA, _, _, hc⟩ := HV.out.below hb
      cases hA
      obtain ⟨b, o, rfl, hbs, hc⟩ := hc (by omega)
      have hcell := hc k hlt
      have hsz := HS.out _ (List.getElem_mem hlt)
      have HT : Hid (lvs (bl.take (k + 1)) = lvs (bl.take k) ++ [textD bl[k].data.toList]) := Lib.hid (by rw [take_snocI hlt]; unfold lvs; rw [List.map_append]; rfl)
      have hlk : (lvs (bl.take k)).length = k := by simp [lvs]; omega
      have HLK := Lib.hid hlk
      clear hc hlk
      generalize bl[k] = s at *
      go_wp2_with (first
        | (go_at_call 35; refine (DigestText_ok s _ hsz).mono ?_; rintro e w' ⟨rfl, rfl⟩)
        | (at_builtin; refine app_int hown (by rw [HLK.out]; omega) hb.size rfl rfl rfl rfl ?_; intro v3 w3 hown3 hb3))
      go_roundw
      case rel => exact ⟨k + 1, by omega, by go_num, by rw [HT.out]; exact hown3, hb.trans hb3⟩
      case measure => simp [intOf]; omega
    · go_wp2
      go_ret
      exact ⟨_, rfl, by rw [List.take_of_length_le (by omega)] at hown; exact hown, hb⟩
theorem TreeDigest_ib {l : List Int} {d : Int} (h : Hid (treeD l = d)) (v : Value) (w : World) (hv : RI w v l) : Calls Try.prog 39 #[v] w fun e w' => e = .returned (.int .i64 d) ∧ Below w.heap.size w w' := by
  rw [← h.out]; exact TreeDigest_i l v w hv
theorem TreeGrowthCheck_ib {m old n dg : Int} {l : List Int} {b : Bool} (h : Hid (growCheck m old n dg l = b)) (v : Value) (w : World) (hv : RI w v l) :
    Calls Try.prog 38 #[.int .i64 m, .int .i64 old, .int .i64 n, .int .i64 dg, v] w fun e w' => e = .returned (.bool b) ∧ Below w.heap.size w w' := by
  rw [← h.out]; exact TreeGrowthCheck_i m old n dg l v w hv
theorem TreeGrowth_ib {l g : List Int} {m : Int} (h : Hid (growOf l m = g)) (v : Value) (w : World) (hv : RI w v l) :
    Calls Try.prog 37 #[v, .int .i64 m] w fun e w' => ∃ v', e = .returned v' ∧ O1 (Value.int .i64) w.heap.size 3 w' v' g ∧ Below w.heap.size w w' := by
  rw [← h.out]; exact TreeGrowth_i l m v w hv
theorem self_law {f : Fd} {i : Int} (h : fproveOk f i = true) : 0 < f.bl.length ∧ f.bl.length ≤ 16 ∧ (∀ s ∈ f.bl, s.size ≤ 8) ∧ ∀ m, m ≤ f.bl.length → growCheck m (treeD ((lvs f.bl).take m)) f.bl.length f.hd.dg (growOf (lvs f.bl) m) = true := by
  simp only [fproveOk, Bool.and_eq_true] at h
  obtain ⟨⟨hv, hw⟩, hi⟩ := h
  have h2 := inB_true.1 hi
  obtain ⟨l1, l2, l3⟩ := fvalid_len hv
  have h0 : 0 < f.bl.length := by omega
  refine ⟨h0, l2, fvalid_size hv, fun m hm => ?_⟩
  have hl := lvs_len f.bl
  have := grow_law (fvalid_leaves hv) (m := m) (by omega) (by omega)
  rw [hl, fvalid_tree hv hw (by omega)] at this
  exact this
set_option maxHeartbeats 1600000 in
set_option maxRecDepth 100000 in
theorem FnFeedHeadSelf_any (bs : List UInt8) (v : Value) (v2 : Value) (bs2 : List UInt8) (w : World) (hv : RU w v bs) (hv2 : RU w v2 bs2) : Calls Try.prog 5 #[v, v2] w fun e w' => e = .returned (.bool true) ∧ Below w.heap.size w w' := by
  have HV := Lib.hid hv
  obtain ⟨A, c, rfl, n1, n2, _⟩ := hv
  unfold maxLen at n2
  have hbm : bs.length ≤ 9223372036854775807 := by have := n1.1; omega
  clear n1 n2
  obtain ⟨A2, c2, rfl, m1, m2, _⟩ := hv2
  unfold maxLen at m2
  have hbm2 : bs2.length ≤ 9223372036854775807 := by have := m1.1; omega
  clear m1 m2
  by_cases hl : 1048576 < bs.length
  · have hl' : (1048576 : Int) < (bs.length : Int) := by omega
    go_enter Try.func5, Try.ntmps5
    go_wp2
    go_ret
    exact ⟨rfl, Below.refl _ _⟩
  have hl' : ¬ (1048576 : Int) < (bs.length : Int) := by omega
  by_cases hlm : 1048576 < bs2.length
  · have hlm' : (1048576 : Int) < (bs2.length : Int) := by omega
    go_enter Try.func5, Try.ntmps5
    go_wp2
    go_ret
    exact ⟨rfl, Below.refl _ _⟩
  have hlm' : ¬ (1048576 : Int) < (bs2.length : Int) := by omega
  go_enter Try.func5, Try.ntmps5
  go_wp2_with fail
  refine (DrawFeedProve_any bs _ w HV.out).mono ?_
  rintro e w1 ⟨f, ub, uh, i, rfl, hf1, -, -, hz, i1, i2, hb1⟩
  have HZ := Lib.hid hz
  clear hz
  obtain ⟨uA, uc, rfl⟩ := hf1.bl.sl
  obtain ⟨tA, tc, rfl⟩ := hf1.hv.sl
  have hf2 := FB.made hf1
  have hb2 := hb1.alloc hb1.size (.cells #[.int .i64 f.pub, .int .i64 f.hd.len, .int .i64 f.hd.dg, .int .i64 f.hd.sg, .slice uA f.bl.length uc, .slice tA f.hv.length tc] 34)
  go_wp2_with fail
  obtain ⟨W2, HW2⟩ : ∃ W2, Hid (w1.alloc (.cells #[.int .i64 f.pub, .int .i64 f.hd.len, .int .i64 f.hd.dg, .int .i64 f.hd.sg, .slice uA f.bl.length uc, .slice tA f.hv.length tc] 34) = W2) := ⟨_, Lib.hid rfl⟩
  rw [HW2.out] at hf2 hb2 ⊢
  clear hf1 hb1
  refine (FeedProve_i f i _ _ W2 hf2.fo.r).mono ?_
  rintro e w3 ⟨v3, rfl, ho3, hb3⟩
  have hf3 := hf2.below hb3
  have R3 := Lib.hid ho3.r1
  have hb03 := hb2.trans (hb3.mono hb2.size)
  clear hb2 hf2 ho3
  have k0 := hf3.c0; have k1 := hf3.c1; have k2 := hf3.c2; have k3 := hf3.c3; have k4 := hf3.c4; have k5 := hf3.c5
  go_wp2_with fail
  refine (FeedProve_s f i _ _ w3 hf3.fo.r).mono ?_
  rintro e w4 ⟨v4, rfl, ho4, hb4⟩
  have hf4 := hf3.below hb4
  have R4 := Lib.hid ho4.r1
  have R34 : Hid (RI w4 v3 (fprove f i)) := Lib.hid (R3.out.below hb4)
  have hb04 := hb03.trans (hb4.mono hb03.size)
  clear hb03 hf3 ho4 k0 k1 k2 k3 k4 k5 R3
  obtain ⟨b, HOK⟩ : ∃ b, Hid (fproveOk f i = b) := ⟨_, Lib.hid rfl⟩
  obtain ⟨l, HL⟩ : ∃ l, Hid (fprove f i = l) := ⟨_, Lib.hid rfl⟩
  rw [HOK.out]
  rw [HL.out] at R4 R34
  cases b
  · go_wp2_with fail
    refine (sameInts_same l _ _ _ R34.out R4.out).mono ?_
    rintro e w5 ⟨rfl, hb5⟩
    have hb05 := hb04.trans (hb5.mono hb04.size)
    go_wp2_with fail
    refine (sameInts_same l _ _ _ (R34.out.below hb5) (R4.out.below hb5)).mono ?_
    rintro e w6 ⟨rfl, hb6⟩
    go_wp2
    go_ret
    exact ⟨rfl, hb05.trans (hb6.mono hb05.size)⟩
  · obtain ⟨h0, h16, hs8, hlaw⟩ := self_law HOK.out
    have HS8 := Lib.hid hs8
    have e1 : (bs2.length : Int) % ((f.bl.length : Int) + 1) = ((bs2.length % (f.bl.length + 1) : Nat) : Int) := by simp
    have hk : bs2.length % (f.bl.length + 1) ≤ f.bl.length := by have := Nat.mod_lt bs2.length (show 0 < f.bl.length + 1 by omega); omega
    generalize bs2.length % (f.bl.length + 1) = k at *
    have HCK0 := Lib.hid (hlaw k hk)
    have HLL := Lib.hid (lvs_len f.bl)
    clear hs8 hlaw
    go_wp2_with fail
    refine (sameInts_same l _ _ _ R34.out R4.out).mono ?_
    rintro e w5 ⟨rfl, hb5⟩
    have hb05 := hb04.trans (hb5.mono hb04.size)
    have hf5 := hf4.below hb5
    have k0 := hf5.c0; have k1 := hf5.c1; have k2 := hf5.c2; have k3 := hf5.c3; have k4 := hf5.c4; have k5 := hf5.c5
    have hql5 := hf5.lt
    clear hf4 hb04
    go_wp2_with fail
    refine (leavesOf_any f.bl _ w5 hf5.fo.bl.r1 (by omega) HS8.out).mono ?_
    rintro e w6 ⟨v6, rfl, ho6, hb6⟩
    have hf6 := hf5.below hb6
    have hb06 := hb05.trans (hb6.mono hb05.size)
    obtain ⟨ga, ca, hA, hga, hga2⟩ := ho6.form (by rw [HLL.out]; exact h0)
    rw [HLL.out] at hA
    subst hA
    obtain ⟨lv, HLV⟩ : ∃ lv, Hid (lvs f.bl = lv) := ⟨_, Lib.hid rfl⟩
    rw [HLV.out] at ho6 HLL HCK0
    have R6 := Lib.hid ho6.r1
    clear hb5 hf5 hb6 k0 k1 k2 k3 k4 k5 ho6 hb05
    obtain ⟨gr, HGR⟩ : ∃ gr, Hid (growOf lv k = gr) := ⟨_, Lib.hid rfl⟩
    rw [HGR.out] at HCK0
    go_wp2_with fail
    simp only [e1]
    refine (TreeGrowth_ib HGR _ w6 R6.out).mono ?_
    rintro e w7 ⟨v7, rfl, ho7, hb7⟩
    have hf7 := hf6.below hb7
    have hb07 := hb06.trans (hb7.mono hb06.size)
    have R7 := Lib.hid ho7.r1
    obtain ⟨A7, c7, rfl⟩ := ho7.sl
    have RT := Lib.hid (R1.take (R6.out.below hb7) (m := k) (by rw [HLL.out]; exact hk))
    obtain ⟨dd, HTD⟩ : ∃ dd, Hid (treeD (lv.take k) = dd) := ⟨_, Lib.hid rfl⟩
    rw [HTD.out] at HCK0
    have k1 := hf7.c1; have k2 := hf7.c2
    have hq7 := hf7.lt
    have hca : (k : Int) ≤ (ca : Int) := by
      obtain ⟨_, _, hA, hc, _⟩ := R6.out
      injection hA with _ e2 e3
      have := hc.1
      omega
    clear hf6 hf7 hb06 hb7 ho7 e1
    go_wp2_with fail
    have hup := up_cell w7
    refine wp_region_up (by kernel_rfl) (by kernel_rfl) ?_
    repeat (go_big_quiet_step (first
      | (go_at_call 39; exact up_call (TreeDigest_ib HTD _ _ (RT.out.up _)))
      | (go_at_call 38; exact up_call (TreeGrowthCheck_ib HCK0 _ _ (R7.out.up _)))))
    refine wpQuiet_nil ?_
    intro w8 hw8
    have hb8 := of_up hw8
    clear hw8 hup
    go_wp2
    go_ret
    exact ⟨rfl, hb07.trans (hb8.mono hb07.size)⟩
end Go.Proofs.Ytlhiabnablbkpaa
