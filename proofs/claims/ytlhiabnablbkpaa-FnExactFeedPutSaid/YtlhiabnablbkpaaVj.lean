/- Walk: the draw of FeedPut. -/
import Derived.Test.YtlhiabnablbkpaaVi
import Derived.Deep.CutBlock
import Derived.Deep.DeepCutAuto
namespace Go.Proofs.Ytlhiabnablbkpaa
open Go.RowKit

theorem O1.set6 {α : Type} {enc : α → Value} {B q : Nat} {e : TypeId} {w : World} {v : Value} {l : List α} (h : O1 enc B e w v l) (hq : q < B) (x0 x1 x2 x3 x4 x5 : Value) : O1 enc B e ((((((w.setCell ⟨q, 0, none⟩ x0).setCell ⟨q, 1, none⟩ x1).setCell ⟨q, 2, none⟩ x2).setCell ⟨q, 3, none⟩ x3).setCell ⟨q, 4, none⟩ x4).setCell ⟨q, 5, none⟩ x5) v l :=
  (((((h.setb hq _).setb hq _).setb hq _).setb hq _).setb hq _).setb hq _
theorem proofOf_len (l : List Int) (i : Int) : (proofOf l i).length ≤ 40 := by
  unfold proofOf; split
  · rename_i h
    simp only [Bool.and_eq_true, leavesOk_true, inB, decide_eq_true_eq] at h
    obtain ⟨⟨h1, _⟩, h2, h3⟩ := h
    have h4 := (pk_ok l.length (by omega) i.toNat (by omega)).2.2.1
    have h5 := trees_len 0 l.length
    have h6 : (others l i.toNat).length ≤ 17 := by
      unfold others; rw [List.length_map]; exact Nat.le_trans (List.length_eraseIdx_le _ _) h5
    unfold proofAt sibs; rw [List.length_append, List.length_map, List.length_range]; omega
  · simp
theorem R1.empty {α : Type} {enc : α → Value} {w : World} {k : Nat} : R1 enc w (.slice (some ⟨k, 0, none⟩) 0 0) [] := ⟨_, 0, rfl, ⟨Nat.le_refl _, fun h => by cases h⟩, by unfold maxLen; omega, fun h => by simp at h⟩
/-- What DrawFeedPut leaves. -/
def DrawPutPost (w : World) (e : Ending) (w' : World) : Prop :=
  ∃ f ub uh i t pv l, e = .returned (.tuple #[.agg #[.int .i64 f.pub, .int .i64 f.hd.len, .int .i64 f.hd.dg, .int .i64 f.hd.sg, ub, uh], .int .i64 i, .string t, pv]) ∧ FeedO w.heap.size w' f ub uh ∧ f.bl.length ≤ 17 ∧ f.hv.length ≤ 17 ∧ (∀ x ∈ f.bl, x.size ≤ 10) ∧ -100 ≤ i ∧ i ≤ 100 ∧ t.size ≤ 10 ∧ RI w' pv l ∧ l.length ≤ 100 ∧ Below w.heap.size w w'
set_option maxHeartbeats 800000 in
set_option maxRecDepth 100000 in
theorem DrawFeedPut_any (bs : List UInt8) (v : Value) (w : World) (hv : RU w v bs) : Calls Try.prog 50 #[v] w (DrawPutPost w) := by
  obtain ⟨W0, HW0⟩ : ∃ W0, Hid (w.alloc (.cells #[.int .i64 0, .int .i64 0, .int .i64 0, .int .i64 0, .slice none 0 0, .slice none 0 0] 34) = W0) := ⟨_, Lib.hid rfl⟩
  have HB0 : Hid (Below w.heap.size w W0) := Lib.hid (by rw [← HW0.out]; exact (Below.refl _ _).alloc (Nat.le_refl _) _)
  have hs0 : w.heap.size + 1 = W0.heap.size := by rw [← HW0.out]; simp
  have hbox : W0.heap[w.heap.size]? = some (.cells #[.int .i64 0, .int .i64 0, .int .i64 0, .int .i64 0, .slice none 0 0, .slice none 0 0] 34 (0, 0)) := by rw [← HW0.out]; exact heap_alloc_new w _
  have HBOX := Lib.hid hbox
  have HV : Hid (RU W0 v bs) := Lib.hid (hv.below HB0.out)
  obtain ⟨A, c, rfl, _, _, _⟩ := hv
  obtain ⟨z0', z1', z2', z3', z4', z5', zf'⟩ := box_cells hbox
  clear z0' z1' z2' z3' z4' z5' zf'
  have hl0 : w.heap.size < W0.heap.size := by omega
  clear hbox
  go_enter Try.func50, Try.ntmps50
  go_wp2_with fail
  rw [HW0.out]
  refine (l6Open_any bs _ W0 HV.out).mono ?_
  rintro e w1 ⟨g, rfl, hg, r1, hb1⟩
  go_wp2_with fail
  refine (l91Good_any g 0 w1 r1 (by omega)).mono ?_
  rintro e w2 ⟨s, rfl, s1, s2, r2, o2⟩
  have hg1 := r1.lt
  have hb2 := hb1.trans (o2.below hg hg1)
  go_wp2_with fail
  refine (l91Blocks_any g 2 w2 r2 (by omega)).mono ?_
  rintro e w3 ⟨bv, bl, rfl, ho3, hl3, hz3, r3, o3⟩
  have hg2 := r2.lt
  have hb3 := hb2.trans (o3.below hg hg2)
  obtain ⟨bA, bc, rfl⟩ := ho3.sl
  have HBZ := Lib.hid hz3
  have hg3 := r3.lt
  go_wp2_with fail
  refine (l91Reader_any g 302 w2.heap.size s bl _ w3 r3 (by omega) ho3 hg2 (by omega) (fun x hx => by have := hz3 x hx; omega)).mono ?_
  rintro e w4 ⟨f4, ub4, uh4, rfl, hf4, l41, l42, z4, r4, o4⟩
  have hb4 := hb3.trans (o4.below hg hg3)
  have m41 : f4.bl.length ≤ 16 := by omega
  have m42 : f4.hv.length ≤ 16 := by omega
  have HZ4 := Lib.hid z4
  clear l41 l42 z4 hz3
  have ho4 := ho3.only o4 hg2
  have hg4 := r4.lt
  obtain ⟨uA, uc, rfl⟩ := hf4.bl.sl
  obtain ⟨tA, tc, rfl⟩ := hf4.hv.sl
  go_wp2_with fail
  refine (l91Spoilt_any g 318 f4 _ _ w4 r4 (by omega) hf4.r (by omega) (by omega) HZ4.out).mono ?_
  rintro e w5 ⟨f, ub, uh, rfl, hf5, l51, l52, z5, r5, o5⟩
  have hb5 := hb4.trans (o5.below hg hg4)
  have ho5 := ho4.only o5 hg2
  have hg5 := r5.lt
  obtain ⟨vA, vc, rfl⟩ := hf5.bl.sl
  obtain ⟨yA, yc, rfl⟩ := hf5.hv.sl
  have hfm := hf5.mono (B' := g + 1) hg4
  have hf6 := FB.made hfm
  have r6 := r5.below ((Below.refl _ _).alloc (Nat.le_refl _) (.cells #[.int .i64 f.pub, .int .i64 f.hd.len, .int .i64 f.hd.dg, .int .i64 f.hd.sg, .slice vA f.bl.length vc, .slice yA f.hv.length yc] 34))
  have ho6 := ho5.alloc (.cells #[.int .i64 f.pub, .int .i64 f.hd.len, .int .i64 f.hd.dg, .int .i64 f.hd.sg, .slice vA f.bl.length vc, .slice yA f.hv.length yc] 34)
  have hb6 := hb5.alloc hb5.size (.cells #[.int .i64 f.pub, .int .i64 f.hd.len, .int .i64 f.hd.dg, .int .i64 f.hd.sg, .slice vA f.bl.length vc, .slice yA f.hv.length yc] 34)
  have HZ5 := Lib.hid z5
  have l51' : f.bl.length ≤ 17 := by have := Nat.max_le.2 ⟨m41, m42⟩; omega
  have l52' : f.hv.length ≤ 17 := by have := Nat.max_le.2 ⟨m41, m42⟩; omega
  clear z5 l51 l52 hf5 hfm hf4 o4 o5 r4 r5 r3 ho3 ho4 ho5 hb3 hb4 hb1 hb2 r1 r2 o2 o3
  have hgB : g < g + 1 := Nat.lt_succ_self g
  have hgq : g ≠ w5.heap.size := by omega
  by_cases h0 : bl.length = 0
  · have h0' : ((bl.length : Int) == 0) = true := by simp [h0]
    clear h0
    go_wp2_with fail
    obtain ⟨W6, HW6⟩ : ∃ W6, Hid (w5.alloc (.cells #[.int .i64 f.pub, .int .i64 f.hd.len, .int .i64 f.hd.dg, .int .i64 f.hd.sg, .slice vA f.bl.length vc, .slice yA f.hv.length yc] 34) = W6) := ⟨_, Lib.hid rfl⟩
    rw [HW6.out] at hf6 r6 hb6 ⊢
    obtain ⟨q, HQ⟩ : ∃ q, Hid (w5.heap.size = q) := ⟨_, Lib.hid rfl⟩
    have hq0 : W0.heap.size ≤ w5.heap.size := Nat.le_trans hg (Nat.le_of_lt hg5)
    rw [HQ.out] at hf6 hgq hq0 ⊢
    have hpq : ¬ w.heap.size = q := by omega
    have k0 := hf6.c0; have k1 := hf6.c1; have k2 := hf6.c2; have k3 := hf6.c3; have k4 := hf6.c4; have k5 := hf6.c5
    have d0 : W6.drew.cell? ⟨q, 0, none⟩ = _ := k0
    have d1 : W6.drew.cell? ⟨q, 1, none⟩ = _ := k1
    have d2 : W6.drew.cell? ⟨q, 2, none⟩ = _ := k2
    have d3 : W6.drew.cell? ⟨q, 3, none⟩ = _ := k3
    have d4 : W6.drew.cell? ⟨q, 4, none⟩ = _ := k4
    have d5 : W6.drew.cell? ⟨q, 5, none⟩ = _ := k5
    go_region_held3 (fun w' => w'.cell? ⟨q, 0, none⟩ = some (.int .i64 f.pub) ∧ w'.cell? ⟨q, 1, none⟩ = some (.int .i64 f.hd.len) ∧ w'.cell? ⟨q, 2, none⟩ = some (.int .i64 f.hd.dg) ∧ w'.cell? ⟨q, 3, none⟩ = some (.int .i64 f.hd.sg) ∧ w'.cell? ⟨q, 4, none⟩ = some (.slice vA f.bl.length vc) ∧ w'.cell? ⟨q, 5, none⟩ = some (.slice yA f.hv.length yc))
      (first | with_reducible exact ⟨d0, d1, d2, d3, d4, d5⟩ | with_reducible exact ⟨n0, n1, n2, n3, n4, n5⟩ | with_reducible exact ⟨m0, m1, m2, m3, m4, m5⟩ | (simp (maxDischargeDepth := 9) [*, World.cell?_alloc_some, World.cell?_setCell_far]; done))
      (first
        | (go_at_call 84; (first | (refine (pick_any g 333 3 _ (r6.below (below_drew (Below.refl W6.heap.size W6))) (by omega) (by omega) (by omega)).mono ?_; rintro e w7 ⟨i, rfl, i1, i2, r7, o7⟩; have o67 : Only g W6 w7 := (Only.of_below (below_drew (Below.refl W6.heap.size W6))).trans o7) | (refine (pick_any g 333 3 _ (r6.below (below_drew (below_alloc (Below.refl W6.heap.size W6) (.cells #[] 3)))) (by omega) (by omega) (by omega)).mono ?_; rintro e w7 ⟨i, rfl, i1, i2, r7, o7⟩; have o67 : Only g W6 w7 := (Only.of_below (below_drew (below_alloc (Below.refl W6.heap.size W6) (.cells #[] 3)))).trans o7)); have hf7 := hf6.only o67 hgB hgq; have n0 := hf7.c0; have n1 := hf7.c1; have n2 := hf7.c2; have n3 := hf7.c3; have n4 := hf7.c4; have n5 := hf7.c5)
        | (go_at_call 122; (first | (refine (l91Text_any g 334 _ (r7.below (Below.refl w7.heap.size w7)) (by omega)).mono ?_; rintro e w8 ⟨tt, rfl, ht, r8, o8⟩; have o68 : Only g W6 w8 := o67.trans ((Only.of_below (Below.refl w7.heap.size w7)).trans o8)) | (refine (l91Text_any g 334 _ (r7.below (below_alloc (Below.refl w7.heap.size w7) (.cells #[] 3))) (by omega)).mono ?_; rintro e w8 ⟨tt, rfl, ht, r8, o8⟩; have o68 : Only g W6 w8 := o67.trans ((Only.of_below (below_alloc (Below.refl w7.heap.size w7) (.cells #[] 3))).trans o8))); have hf8 := hf6.only o68 hgB hgq; have m0 := hf8.c0; have m1 := hf8.c1; have m2 := hf8.c2; have m3 := hf8.c3; have m4 := hf8.c4; have m5 := hf8.c5
           have hb08 := hb6.trans (o68.below hg r6.lt); obtain ⟨z0, z1, z2, z3, z4, z5, zf⟩ := box_cells ((hb08.block _ hl0).trans HBOX.out); have lp8 : w.heap.size < w8.heap.size := Nat.lt_of_lt_of_le hl0 hb08.size; have lq8 := hf8.lt))
    · go_wp2
      refine bodyPost_ret (v := .tuple #[.agg #[.int .i64 f.pub, .int .i64 f.hd.len, .int .i64 f.hd.dg, .int .i64 f.hd.sg, .slice vA f.bl.length vc, .slice yA f.hv.length yc], .int .i64 i, .string tt, .slice (some ⟨w8.heap.size, 0, none⟩) 0 0]) (by simp [results, Try.results50, go_sem, z0, z1, z2, z3, z4, z5, lp8]) rfl ⟨f, _, _, _, _, _, [], rfl, ?_, l51', l52', HZ5.out, by omega, by omega, ht, R1.empty, by simp, ?_⟩
      · exact ((hf8.fo.set6 (by omega) _ _ _ _ _ _).below ((Below.refl _ _).alloc (Nat.le_refl _) _)).mono (by omega)
      · exact (below_set6 (HB0.out.trans (hb08.mono (Nat.le_of_lt hl0))) (Nat.le_refl _) _ _ _ _ _ _).alloc (by simp; omega) _
    · go_wp2
      refine bodyPost_ret (v := .tuple #[.agg #[.int .i64 f.pub, .int .i64 f.hd.len, .int .i64 f.hd.dg, .int .i64 f.hd.sg, .slice vA f.bl.length vc, .slice yA f.hv.length yc], .int .i64 i, .string tt, .slice (some ⟨w8.heap.size, 0, none⟩) 0 0]) (by simp [results, Try.results50, go_sem, z0, z1, z2, z3, z4, z5, lp8]) rfl ⟨f, _, _, _, _, _, [], rfl, ?_, l51', l52', HZ5.out, by omega, by omega, ht, R1.empty, by simp, ?_⟩
      · exact ((hf8.fo.set6 (by omega) _ _ _ _ _ _).below ((Below.refl _ _).alloc (Nat.le_refl _) _)).mono (by omega)
      · exact (below_set6 (HB0.out.trans (hb08.mono (Nat.le_of_lt hl0))) (Nat.le_refl _) _ _ _ _ _ _).alloc (by simp; omega) _
    · go_wp2
      refine bodyPost_ret (v := .tuple #[.agg #[.int .i64 f.pub, .int .i64 f.hd.len, .int .i64 f.hd.dg, .int .i64 f.hd.sg, .slice vA f.bl.length vc, .slice yA f.hv.length yc], .int .i64 i, .string tt, .slice (some ⟨w7.heap.size, 0, none⟩) 0 0]) (by simp [results, Try.results50, go_sem, z0, z1, z2, z3, z4, z5, lp8]) rfl ⟨f, _, _, _, _, _, [], rfl, ?_, l51', l52', HZ5.out, by omega, by omega, ht, R1.empty, by simp, ?_⟩
      · exact (hf8.fo.set6 (by omega) _ _ _ _ _ _).mono (by omega)
      · exact below_set6 (HB0.out.trans (hb08.mono (Nat.le_of_lt hl0))) (Nat.le_refl _) _ _ _ _ _ _
    · go_wp2
      refine bodyPost_ret (v := .tuple #[.agg #[.int .i64 f.pub, .int .i64 f.hd.len, .int .i64 f.hd.dg, .int .i64 f.hd.sg, .slice vA f.bl.length vc, .slice yA f.hv.length yc], .int .i64 i, .string tt, .slice (some ⟨W6.heap.size, 0, none⟩) 0 0]) (by simp [results, Try.results50, go_sem, z0, z1, z2, z3, z4, z5, lp8]) rfl ⟨f, _, _, _, _, _, [], rfl, ?_, l51', l52', HZ5.out, by omega, by omega, ht, R1.empty, by simp, ?_⟩
      · exact (hf8.fo.set6 (by omega) _ _ _ _ _ _).mono (by omega)
      · exact below_set6 (HB0.out.trans (hb08.mono (Nat.le_of_lt hl0))) (Nat.le_refl _) _ _ _ _ _ _
  · have h0' : ((bl.length : Int) == 0) = false := by rw [beq_eq_false_iff_ne]; omega
    go_wp2_with fail
    obtain ⟨W6, HW6⟩ : ∃ W6, Hid (w5.alloc (.cells #[.int .i64 f.pub, .int .i64 f.hd.len, .int .i64 f.hd.dg, .int .i64 f.hd.sg, .slice vA f.bl.length vc, .slice yA f.hv.length yc] 34) = W6) := ⟨_, Lib.hid rfl⟩
    obtain ⟨q, HQ⟩ : ∃ q, Hid (w5.heap.size = q) := ⟨_, Lib.hid rfl⟩
    rw [HW6.out] at hf6 r6 hb6 ho6 ⊢
    rw [HQ.out] at hf6 hgq ⊢
    refine (pick_any g 333 bl.length W6 r6 (by omega) (by omega) (by omega)).mono ?_
    rintro e w7 ⟨i, rfl, i1, i2, r7, o7⟩
    obtain ⟨n, rfl⟩ : ∃ n : Nat, i = n := ⟨i.toNat, by omega⟩
    have hf7 := hf6.only o7 hgB hgq
    have ho7 := ho6.only o7 hg2
    have hb7 := hb6.trans (o7.below hg r6.lt)
    go_upto_block 0 with fail
    have hnb : n < bl.length := by omega
    have hf60 := hf7
    clear hf6 ho6 hb6 r6 o7 i1 i2 h0
    go_cut [10] (fun s10 wx => ∃ i : Nat, s10 = .int .i64 i ∧ i < bl.length ∧ FB (g + 1) q wx f (.slice vA f.bl.length vc) (.slice yA f.hv.length yc) ∧ O1 Value.string w2.heap.size 9 wx (.slice bA bl.length bc) bl ∧ Rdr wx g 341 ∧ Below W0.heap.size W0 wx)
    case first =>
      go_wp2_with fail
      go_loopw [10, 11] (fun iv kv wr => ∃ i k : Nat, iv = .int .i64 i ∧ kv = .int .i64 k ∧ k ≤ 6 ∧ i < bl.length ∧ FB (g + 1) q wr f (.slice vA f.bl.length vc) (.slice yA f.hv.length yc) ∧ O1 Value.string w2.heap.size 9 wr (.slice bA bl.length bc) bl ∧ Rdr wr g (334 + k) ∧ Below W0.heap.size W0 wr) (fun _ kv _ => 6 - (intOf kv).toNat)
      case atStart => exact ⟨n, 0, rfl, rfl, by omega, hnb, hf7, ho7, r7, hb7⟩
      case round =>
        clear hf7 ho7 r7 hb7 hf60
        obtain ⟨i, k, rfl, rfl, hk, hib, hf, ho, hrr, hb⟩ := hrel
        have k5 := hf.c5
        by_cases hk6 : k < 6
        · have hk6' : (k : Int) < 6 := by omega
          by_cases hih : i < f.hv.length
          · have hih' : (i : Int) < (f.hv.length : Int) := by omega
            obtain ⟨_, _, hA, _, _, hc⟩ := hf.fo.hv.r1
            cases hA
            obtain ⟨b, o, rfl, hbs, hc⟩ := hc (by omega)
            have hcell := hc i hih
            clear hc
            generalize f.hv[i] = bb at *
            cases bb
            · go_wp2
              go_meet
              exact ⟨i, rfl, hib, hf, ho, hrr.mono (by omega), hb⟩
            · go_wp2_with fail
              refine (pick_any g (334 + k) bl.length wr hrr (by omega) (by omega) (by omega)).mono ?_
              rintro e w8 ⟨i2, rfl, j1, j2, r8, o8⟩
              obtain ⟨n2, rfl⟩ : ∃ n2 : Nat, i2 = n2 := ⟨i2.toNat, by omega⟩
              go_wp2
              go_roundw
              case rel => exact ⟨n2, k + 1, rfl, by go_num, by omega, by omega, hf.only o8 hgB hgq, ho.only o8 hg2, r8, hb.trans (o8.below hg hrr.lt)⟩
              case measure => simp [intOf]; omega
          · have hih' : ¬ (i : Int) < (f.hv.length : Int) := by omega
            go_wp2
            go_meet
            exact ⟨i, rfl, hib, hf, ho, hrr.mono (by omega), hb⟩
        · have hk6' : ¬ (k : Int) < 6 := by omega
          go_wp2
          go_meet
          exact ⟨i, rfl, hib, hf, ho, hrr.mono (by omega), hb⟩
    case rest =>
      obtain ⟨i, rfl, hib, hf, ho, hrr, hb⟩ := hcut
      clear hf7 ho7 r7 hb7 hf60
      obtain ⟨b, o, rfl, hbs, hcell⟩ : ∃ b o, bA = some ⟨b, o, none⟩ ∧ b < wc.heap.size ∧ wc.cell? ⟨b, o + i, none⟩ = some (.string bl[i]) := by
        obtain ⟨_, _, hA, _, _, hc⟩ := ho.r1
        cases hA
        obtain ⟨b, o, hA, hb, hc⟩ := hc (by omega)
        exact ⟨b, o, hA, hb, hc i hib⟩
      have hx8 : (bl[i]).size ≤ 8 := HBZ.out _ (List.getElem_mem hib)
      have hii : (i : Int) < (bl.length : Int) := by omega
      generalize bl[i] = x at *
      go_wp2_with fail
      refine (l11Leaves_any bl _ wc ho.r1 (by omega) (fun y hy => by have := HBZ.out y hy; unfold maxLen; omega)).mono ?_
      rintro e w8 ⟨v8, rfl, ho8, hb8⟩
      have hf8 := hf.below hb8
      have r8 := hrr.below hb8
      have hb08 := hb.trans (hb8.mono hb.size)
      have hgc := hrr.lt
      clear hcell hf hrr ho hb8
      go_wp2_with fail
      refine (TreeProof_s _ _ _ _ ho8.r1).mono ?_
      rintro e w9 ⟨v9, rfl, ho9, hb9⟩
      have hf9 := hf8.below hb9
      have r9 := r8.below hb9
      have hb09 := hb08.trans (hb9.mono hb08.size)
      have HPL := Lib.hid (proofOf_len (lvs bl) i)
      obtain ⟨pl, HPE⟩ : ∃ pl, Hid (proofOf (lvs bl) i = pl) := ⟨_, Lib.hid rfl⟩
      rw [HPE.out] at ho9 HPL
      have hpl : pl.length ≤ 40 := HPL.out
      have hg8 := r8.lt
      obtain ⟨pA, pc, rfl⟩ := ho9.sl
      clear hf8 r8 hb08 ho8 hb9
      go_wp2_with fail
      refine (pick_any g 341 10 w9 r9 (by omega) (by omega) (by omega)).mono ?_
      rintro e w10 ⟨y, rfl, y1, y2, ra, oa⟩
      have hfa := hf9.only oa hgB hgq
      have hba := hb09.trans (oa.below hg r9.lt)
      have hoa := ho9.only oa hg8
      have hga := ra.lt
      have hp8 : w.heap.size < w8.heap.size := by omega
      clear hf9 hb09 ho9 oa
      have hy : y = 0 ∨ y = 1 ∨ y = 2 ∨ 3 ≤ y := by omega
      rcases hy with rfl | rfl | rfl | hy
      · go_wp2_with fail
        refine (l91Text_any g 342 w10 ra (by omega)).mono ?_
        rintro e w11 ⟨tt, rfl, ht, rb, ob⟩
        have hfb := hfa.only ob hgB hgq
        have hbb := hba.trans (ob.below hg hga)
        have hob := hoa.only ob hg8
        obtain ⟨z0, z1, z2, z3, z4, z5, zf⟩ := box_cells ((hbb.block _ hl0).trans HBOX.out)
        have k0 := hfb.c0; have k1 := hfb.c1; have k2 := hfb.c2; have k3 := hfb.c3; have k4 := hfb.c4; have k5 := hfb.c5
        go_wp2
        refine bodyPost_ret (v := .tuple #[.agg #[.int .i64 f.pub, .int .i64 f.hd.len, .int .i64 f.hd.dg, .int .i64 f.hd.sg, .slice vA f.bl.length vc, .slice yA f.hv.length yc], .int .i64 i, .string tt, .slice pA pl.length pc]) (by simp [results, Try.results50, go_sem, z0, z1, z2, z3, z4, z5]) rfl ⟨f, _, _, _, _, _, pl, rfl, ?_, l51', l52', HZ5.out, by omega, by omega, ht, ?_, by omega, ?_⟩
        · exact (hfb.fo.set6 (by omega) _ _ _ _ _ _).mono (by omega)
        · exact (O1.set6 hob (by omega) _ _ _ _ _ _).r1
        · exact below_set6 (HB0.out.trans (hbb.mono (Nat.le_of_lt hl0))) (Nat.le_refl _) _ _ _ _ _ _
      · go_wp2_with fail
        refine (pick_any g 342 18 w10 ra (by omega) (by omega) (by omega)).mono ?_
        rintro e w11 ⟨u, rfl, m1, m2, rb, ob⟩
        have hfb := hfa.only ob hgB hgq
        have hbb := hba.trans (ob.below hg hga)
        have hob := hoa.only ob hg8
        obtain ⟨z0, z1, z2, z3, z4, z5, zf⟩ := box_cells ((hbb.block _ hl0).trans HBOX.out)
        have k0 := hfb.c0; have k1 := hfb.c1; have k2 := hfb.c2; have k3 := hfb.c3; have k4 := hfb.c4; have k5 := hfb.c5
        go_wp2
        refine bodyPost_ret (v := .tuple #[.agg #[.int .i64 f.pub, .int .i64 f.hd.len, .int .i64 f.hd.dg, .int .i64 f.hd.sg, .slice vA f.bl.length vc, .slice yA f.hv.length yc], .int .i64 (u - 1), .string x, .slice pA pl.length pc]) (by simp [results, Try.results50, go_sem, z0, z1, z2, z3, z4, z5]) rfl ⟨f, _, _, _, _, _, pl, rfl, ?_, l51', l52', HZ5.out, by omega, by omega, by omega, ?_, by omega, ?_⟩
        · exact (hfb.fo.set6 (by omega) _ _ _ _ _ _).mono (by omega)
        · exact (O1.set6 hob (by omega) _ _ _ _ _ _).r1
        · exact below_set6 (HB0.out.trans (hbb.mono (Nat.le_of_lt hl0))) (Nat.le_refl _) _ _ _ _ _ _
      · go_wp2_with fail
        refine (l91Bend_any g 342 w8.heap.size pl _ w10 ra (by omega) hoa (by omega)).mono ?_
        rintro e w11 ⟨v11, l11, rfl, ho11, hl11, rb, ob⟩
        have hfb := hfa.only ob hgB hgq
        have hbb := hba.trans (ob.below hg hga)
        obtain ⟨bA11, bc11, rfl⟩ := ho11.sl
        have hl11' : l11.length ≤ 100 := by omega
        have hpw : w.heap.size < w10.heap.size := by omega
        obtain ⟨z0, z1, z2, z3, z4, z5, zf⟩ := box_cells ((hbb.block _ hl0).trans HBOX.out)
        have k0 := hfb.c0; have k1 := hfb.c1; have k2 := hfb.c2; have k3 := hfb.c3; have k4 := hfb.c4; have k5 := hfb.c5
        go_wp2
        refine bodyPost_ret (v := .tuple #[.agg #[.int .i64 f.pub, .int .i64 f.hd.len, .int .i64 f.hd.dg, .int .i64 f.hd.sg, .slice vA f.bl.length vc, .slice yA f.hv.length yc], .int .i64 i, .string x, .slice bA11 l11.length bc11]) (by simp [results, Try.results50, go_sem, z0, z1, z2, z3, z4, z5]) rfl ⟨f, _, _, _, _, _, l11, rfl, ?_, l51', l52', HZ5.out, by omega, by omega, by omega, ?_, hl11', ?_⟩
        · exact (hfb.fo.set6 (by omega) _ _ _ _ _ _).mono (by omega)
        · exact (O1.set6 ho11 (by omega) _ _ _ _ _ _).r1
        · exact below_set6 (HB0.out.trans (hbb.mono (Nat.le_of_lt hl0))) (Nat.le_refl _) _ _ _ _ _ _
      · have n0 : (y == 0) = false := by rw [beq_eq_false_iff_ne]; omega
        have n1 : (y == 1) = false := by rw [beq_eq_false_iff_ne]; omega
        have n2 : (y == 2) = false := by rw [beq_eq_false_iff_ne]; omega
        obtain ⟨z0, z1, z2, z3, z4, z5, zf⟩ := box_cells ((hba.block _ hl0).trans HBOX.out)
        have k0 := hfa.c0; have k1 := hfa.c1; have k2 := hfa.c2; have k3 := hfa.c3; have k4 := hfa.c4; have k5 := hfa.c5
        go_wp2
        refine bodyPost_ret (v := .tuple #[.agg #[.int .i64 f.pub, .int .i64 f.hd.len, .int .i64 f.hd.dg, .int .i64 f.hd.sg, .slice vA f.bl.length vc, .slice yA f.hv.length yc], .int .i64 i, .string x, .slice pA pl.length pc]) (by simp [results, Try.results50, go_sem, z0, z1, z2, z3, z4, z5]) rfl ⟨f, _, _, _, _, _, pl, rfl, ?_, l51', l52', HZ5.out, by omega, by omega, by omega, ?_, by omega, ?_⟩
        · exact (hfa.fo.set6 (by omega) _ _ _ _ _ _).mono (by omega)
        · exact (O1.set6 hoa (by omega) _ _ _ _ _ _).r1
        · exact below_set6 (HB0.out.trans (hba.mono (Nat.le_of_lt hl0))) (Nat.le_refl _) _ _ _ _ _ _

end Go.Proofs.Ytlhiabnablbkpaa
