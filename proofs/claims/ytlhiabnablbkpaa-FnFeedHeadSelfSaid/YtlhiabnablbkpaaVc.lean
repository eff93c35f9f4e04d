/- Walk: the draw of FeedProve. -/
import Derived.Test.YtlhiabnablbkpaaVb
namespace Go.Proofs.Ytlhiabnablbkpaa
open Go.RowKit

/-- What DrawFeedProve leaves. -/
def DrawProvePost (w : World) (e : Ending) (w' : World) : Prop :=
  ∃ f ub uh i, e = .returned (.tuple #[.agg #[.int .i64 f.pub, .int .i64 f.hd.len, .int .i64 f.hd.dg, .int .i64 f.hd.sg, ub, uh], .int .i64 i]) ∧ FeedO w.heap.size w' f ub uh ∧ f.bl.length ≤ 17 ∧ f.hv.length ≤ 17 ∧ (∀ x ∈ f.bl, x.size ≤ 10) ∧ -100 ≤ i ∧ i ≤ 100 ∧ Below w.heap.size w w'
theorem FeedO.onlyg {B g : Nat} {w w' : World} {f : Fd} {vb vh : Value} (h : FeedO B w f vb vh) (hb : Only g w w') (hg : g < B) : FeedO B w' f vb vh := ⟨h.bl.only hb hg, h.hv.only hb hg⟩
set_option maxHeartbeats 3200000 in
set_option maxRecDepth 100000 in
theorem DrawFeedProve_any (bs : List UInt8) (v : Value) (w : World) (hv : RU w v bs) : Calls Try.prog 32 #[v] w (DrawProvePost w) := by
  obtain ⟨W0, HW0⟩ : ∃ W0, Hid (w.alloc (.cells #[.int .i64 0, .int .i64 0, .int .i64 0, .int .i64 0, .slice none 0 0, .slice none 0 0] 34) = W0) := ⟨_, Lib.hid rfl⟩
  have HB0 : Hid (Below w.heap.size w W0) := Lib.hid (by rw [← HW0.out]; exact (Below.refl _ _).alloc (Nat.le_refl _) _)
  have hs0 : w.heap.size + 1 = W0.heap.size := by rw [← HW0.out]; simp
  have hbox : W0.heap[w.heap.size]? = some (.cells #[.int .i64 0, .int .i64 0, .int .i64 0, .int .i64 0, .slice none 0 0, .slice none 0 0] 34 (0, 0)) := by rw [← HW0.out]; exact heap_alloc_new w _
  have HBOX := Lib.hid hbox
  have HV : Hid (RU W0 v bs) := Lib.hid (hv.below HB0.out)
  obtain ⟨A, c, rfl, _, _, _⟩ := hv
  have hl0 : w.heap.size < W0.heap.size := by omega
  clear hbox
  go_enter Try.func32, Try.ntmps32
  go_wp2_with fail
  rw [HW0.out]
  refine (l6Open_any bs _ W0 HV.out).mono ?_
  rintro e w1 ⟨g, rfl, hg, r1, hb1⟩
  go_wp2_with fail
  refine (l91Good_any g 0 w1 r1 (by omega)).mono ?_
  rintro e w2 ⟨s, rfl, s1, s2, r2, o2⟩
  have hg1 := r1.lt
  have hb2 := hb1.trans (o2.below hg hg1)
  go_wp2_with fail
  refine (l91Blocks_any g 2 w2 r2 (by omega)).mono ?_
  rintro e w3 ⟨bv, bl, rfl, ho3, hl3, hz3, r3, o3⟩
  have hg2 := r2.lt
  have hb3 := hb2.trans (o3.below hg hg2)
  obtain ⟨bA, bc, rfl⟩ := ho3.sl
  go_wp2_with fail
  refine (l91Whole_any s bl _ w3 ho3.r1 (by omega) (fun x hx => by have := hz3 x hx; unfold maxLen; omega)).mono ?_
  rintro e w4 ⟨f, ub, uh, rfl, hf4, hfl, hfh, hb34⟩
  have hg3 := r3.lt
  have hb4 := hb3.trans (hb34.mono hb3.size)
  have r4 := r3.below hb34
  have ho4 := ho3.below hb34
  obtain ⟨uA, uc, rfl⟩ := hf4.bl.sl
  obtain ⟨tA, tc, rfl⟩ := hf4.hv.sl
  have hf5 := FB.made hf4
  have r5 := r4.below ((Below.refl _ _).alloc (Nat.le_refl _) (.cells #[.int .i64 f.pub, .int .i64 f.hd.len, .int .i64 f.hd.dg, .int .i64 f.hd.sg, .slice uA f.bl.length uc, .slice tA f.hv.length tc] 34))
  have ho5 := ho4.alloc (.cells #[.int .i64 f.pub, .int .i64 f.hd.len, .int .i64 f.hd.dg, .int .i64 f.hd.sg, .slice uA f.bl.length uc, .slice tA f.hv.length tc] 34)
  have hb5 := hb4.alloc hb4.size (.cells #[.int .i64 f.pub, .int .i64 f.hd.len, .int .i64 f.hd.dg, .int .i64 f.hd.sg, .slice uA f.bl.length uc, .slice tA f.hv.length tc] 34)
  have hq : W0.heap.size ≤ w4.heap.size := hb4.size
  have hgq : g < w4.heap.size := r4.lt
  have hsz : ∀ x ∈ f.bl, x.size ≤ 10 := fun x hx => by rw [hfl] at hx; have := hz3 x hx; omega
  have HSZ := Lib.hid hsz
  have HBZ := Lib.hid (fun x hx => Nat.le_trans (hz3 x hx) (by omega : 8 ≤ 10))
  have hfl' : f.bl.length ≤ 16 := by rw [hfl]; omega
  have hfh' : f.hv.length ≤ 16 := by rw [hfh]; omega
  have fL1 := hfl'
  have fL2 := hfh'
  clear hsz hz3 hfl hfh hb1 hb2 hb3 hb34 o2 o3 ho3 r1 r2 r3 r4 hb4 ho4 hf4
  go_wp2_with fail
  obtain ⟨W5, HW5⟩ : ∃ W5, Hid (w4.alloc (.cells #[.int .i64 f.pub, .int .i64 f.hd.len, .int .i64 f.hd.dg, .int .i64 f.hd.sg, .slice uA f.bl.length uc, .slice tA f.hv.length tc] 34) = W5) := ⟨_, Lib.hid rfl⟩
  rw [HW5.out] at hf5 r5 ho5 hb5 ⊢
  refine (pick_any g 302 4 W5 r5 (by omega) (by omega) (by omega)).mono ?_
  rintro e w6 ⟨x, rfl, x1, x2, r6, o6⟩
  have hf6 := hf5.only o6 hg3 (by omega)
  have ho6 := ho5.only o6 hg2
  have hb6 := hb5.trans (o6.below hg r5.lt)
  clear hf5 ho5 hb5 r5 o6
  by_cases hx : x = 0
  · subst hx
    go_wp2_with fail
    refine (l91Reader_any g 303 w2.heap.size s bl _ w6 r6 (by omega) ho6 hg2 (by omega) HBZ.out).mono ?_
    rintro e w7 ⟨f7, ub7, uh7, rfl, hf7, l7, l72, z7, r7, o7⟩
    have hq7 := (o7.box hf6.lt (by omega)).trans hf6.box
    have hb7 := hb6.trans (o7.below hg r6.lt)
    obtain ⟨k0, k1, k2, k3, k4, k5, kf⟩ := box_cells hq7
    obtain ⟨vA7, vc7, rfl⟩ := hf7.bl.sl
    obtain ⟨yA7, yc7, rfl⟩ := hf7.hv.sl
    have hf8 := FB.fill hq7 hf7
    have r8 := rdr_set6 r7 hgq (.int .i64 f7.pub) (.int .i64 f7.hd.len) (.int .i64 f7.hd.dg) (.int .i64 f7.hd.sg) (.slice vA7 f7.bl.length vc7) (.slice yA7 f7.hv.length yc7)
    have hb8 := below_set6 hb7 hq (.int .i64 f7.pub) (.int .i64 f7.hd.len) (.int .i64 f7.hd.dg) (.int .i64 f7.hd.sg) (.slice vA7 f7.bl.length vc7) (.slice yA7 f7.hv.length yc7)
    have Z7 := Lib.hid z7
    have f7L1 : f7.bl.length ≤ 16 := by omega
    have f7L2 : f7.hv.length ≤ 16 := by omega
    clear z7 l7 l72 hf7 hq7 hb7 o7 hf6 hb6 r6 r7
    go_wp2_with fail
    obtain ⟨W8, HW8⟩ : ∃ W8, Hid (((((((w7.setCell ⟨w4.heap.size, 0, none⟩ (.int .i64 f7.pub)).setCell ⟨w4.heap.size, 1, none⟩ (.int .i64 f7.hd.len)).setCell ⟨w4.heap.size, 2, none⟩ (.int .i64 f7.hd.dg)).setCell ⟨w4.heap.size, 3, none⟩ (.int .i64 f7.hd.sg)).setCell ⟨w4.heap.size, 4, none⟩ (.slice vA7 f7.bl.length vc7)).setCell ⟨w4.heap.size, 5, none⟩ (.slice yA7 f7.hv.length yc7)) = W8) := ⟨_, Lib.hid rfl⟩
    rw [HW8.out] at hf8 r8 hb8 ⊢
    refine (l91Spoilt_any g 400 f7 _ _ _ (r8.mono (by omega)) (by omega) hf8.fo.r (by omega) (by omega) Z7.out).mono ?_
    rintro e w9 ⟨f9, ub9, uh9, rfl, hf9, l91, l92, z9, r9, o9⟩
    have hb9 := hb8.trans (o9.below hg r8.lt)
    have hf9 := hf9.mono (B' := g + 1) r8.lt
    have hgB : g < g + 1 := Nat.lt_succ_self g
    obtain ⟨vA, vc, rfl⟩ := hf9.bl.sl
    obtain ⟨yA, yc, rfl⟩ := hf9.hv.sl
    have HZ9 := Lib.hid z9
    have l91' : f9.bl.length ≤ 17 := by have := Nat.max_le.2 ⟨f7L1, f7L2⟩; omega
    have l92' : f9.hv.length ≤ 17 := by have := Nat.max_le.2 ⟨f7L1, f7L2⟩; omega
    clear z9 l91 l92 o9
    rcases Nat.lt_or_ge bl.length 1 with hm | hm
    · have hm1 : (bl.length : Int) < 1 := by omega
      have hm2 : ¬ (1 ≤ (bl.length : Int)) := by omega
      go_wp2_with fail
      refine (pick_any g 415 1 w9 r9 (by omega) (by omega) (by omega)).mono ?_
      rintro e wa ⟨ia, rfl, ia1, ia2, ra, oa⟩
      have hba := hb9.trans (oa.below hg r9.lt)
      have hfa := FeedO.onlyg hf9 oa hgB
      go_wp2_with fail
      refine (pick_any g 416 14 wa ra (by omega) (by omega) (by omega)).mono ?_
      rintro e wb ⟨ib, rfl, ib1, ib2, rb, ob⟩
      have hbb := hba.trans (ob.below hg ra.lt)
      have hfb := FeedO.onlyg hfa ob hgB
      go_wp2_with fail
      refine (pick_any g 417 5 wb rb (by omega) (by omega) (by omega)).mono ?_
      rintro e wc ⟨ic, rfl, ic1, ic2, rc, oc⟩
      have hbc := hbb.trans (oc.below hg rb.lt)
      have hfc := FeedO.onlyg hfb oc hgB
      obtain ⟨z0, z1, z2, z3, z4, z5, zf⟩ := box_cells ((hbc.block _ hl0).trans HBOX.out)
      have hd : ib / 13 = 0 ∨ ib / 13 = 1 := by omega
      rcases hd with hd | hd
      · go_wp2
        refine bodyPost_ret (v := .tuple #[.agg #[.int .i64 f9.pub, .int .i64 f9.hd.len, .int .i64 f9.hd.dg, .int .i64 f9.hd.sg, .slice vA f9.bl.length vc, .slice yA f9.hv.length yc], .int .i64 (ia)]) (by simp [results, Try.results32, go_sem, z0, z1, z2, z3, z4, z5]) rfl ⟨f9, _, _, _, rfl, ?_, l91', l92', HZ9.out, by omega, by omega, ?_⟩
        · exact (hfc.set6 (by omega) _ _ _ _ _ _).mono (by omega)
        · exact below_set6 (HB0.out.trans (hbc.mono (Nat.le_of_lt hl0))) (Nat.le_refl _) _ _ _ _ _ _
      · go_wp2
        refine bodyPost_ret (v := .tuple #[.agg #[.int .i64 f9.pub, .int .i64 f9.hd.len, .int .i64 f9.hd.dg, .int .i64 f9.hd.sg, .slice vA f9.bl.length vc, .slice yA f9.hv.length yc], .int .i64 (ia + (ic - 2))]) (by simp [results, Try.results32, go_sem, z0, z1, z2, z3, z4, z5]) rfl ⟨f9, _, _, _, rfl, ?_, l91', l92', HZ9.out, by omega, by omega, ?_⟩
        · exact (hfc.set6 (by omega) _ _ _ _ _ _).mono (by omega)
        · exact below_set6 (HB0.out.trans (hbc.mono (Nat.le_of_lt hl0))) (Nat.le_refl _) _ _ _ _ _ _
    · have hm1 : ¬ (bl.length : Int) < 1 := by omega
      have hm2 : (1 ≤ (bl.length : Int)) := by omega
      go_wp2_with fail
      refine (pick_any g 415 bl.length w9 r9 (by omega) (by omega) (by omega)).mono ?_
      rintro e wa ⟨ia, rfl, ia1, ia2, ra, oa⟩
      have hba := hb9.trans (oa.below hg r9.lt)
      have hfa := FeedO.onlyg hf9 oa hgB
      go_wp2_with fail
      refine (pick_any g 416 14 wa ra (by omega) (by omega) (by omega)).mono ?_
      rintro e wb ⟨ib, rfl, ib1, ib2, rb, ob⟩
      have hbb := hba.trans (ob.below hg ra.lt)
      have hfb := FeedO.onlyg hfa ob hgB
      go_wp2_with fail
      refine (pick_any g 417 5 wb rb (by omega) (by omega) (by omega)).mono ?_
      rintro e wc ⟨ic, rfl, ic1, ic2, rc, oc⟩
      have hbc := hbb.trans (oc.below hg rb.lt)
      have hfc := FeedO.onlyg hfb oc hgB
      obtain ⟨z0, z1, z2, z3, z4, z5, zf⟩ := box_cells ((hbc.block _ hl0).trans HBOX.out)
      have hd : ib / 13 = 0 ∨ ib / 13 = 1 := by omega
      rcases hd with hd | hd
      · go_wp2
        refine bodyPost_ret (v := .tuple #[.agg #[.int .i64 f9.pub, .int .i64 f9.hd.len, .int .i64 f9.hd.dg, .int .i64 f9.hd.sg, .slice vA f9.bl.length vc, .slice yA f9.hv.length yc], .int .i64 (ia)]) (by simp [results, Try.results32, go_sem, z0, z1, z2, z3, z4, z5]) rfl ⟨f9, _, _, _, rfl, ?_, l91', l92', HZ9.out, by omega, by omega, ?_⟩
        · exact (hfc.set6 (by omega) _ _ _ _ _ _).mono (by omega)
        · exact below_set6 (HB0.out.trans (hbc.mono (Nat.le_of_lt hl0))) (Nat.le_refl _) _ _ _ _ _ _
      · go_wp2
        refine bodyPost_ret (v := .tuple #[.agg #[.int .i64 f9.pub, .int .i64 f9.hd.len, .int .i64 f9.hd.dg, .int .i64 f9.hd.sg, .slice vA f9.bl.length vc, .slice yA f9.hv.length yc], .int .i64 (ia + (ic - 2))]) (by simp [results, Try.results32, go_sem, z0, z1, z2, z3, z4, z5]) rfl ⟨f9, _, _, _, rfl, ?_, l91', l92', HZ9.out, by omega, by omega, ?_⟩
        · exact (hfc.set6 (by omega) _ _ _ _ _ _).mono (by omega)
        · exact below_set6 (HB0.out.trans (hbc.mono (Nat.le_of_lt hl0))) (Nat.le_refl _) _ _ _ _ _ _
  · have hx' : (x == 0) = false := by rw [beq_eq_false_iff_ne]; exact hx
    have k0 := hf6.c0; have k1 := hf6.c1; have k2 := hf6.c2; have k3 := hf6.c3; have k4 := hf6.c4; have k5 := hf6.c5
    go_wp2_with fail
    refine (l91Spoilt_any g 400 f _ _ _ (r6.mono (by omega)) (by omega) hf6.fo.r (by omega) (by omega) HSZ.out).mono ?_
    rintro e w9 ⟨f9, ub9, uh9, rfl, hf9, l91, l92, z9, r9, o9⟩
    have hb9 := hb6.trans (o9.below hg r6.lt)
    have hf9 := hf9.mono (B' := g + 1) r6.lt
    have hgB : g < g + 1 := Nat.lt_succ_self g
    obtain ⟨vA, vc, rfl⟩ := hf9.bl.sl
    obtain ⟨yA, yc, rfl⟩ := hf9.hv.sl
    have HZ9 := Lib.hid z9
    have l91' : f9.bl.length ≤ 17 := by have := Nat.max_le.2 ⟨fL1, fL2⟩; omega
    have l92' : f9.hv.length ≤ 17 := by have := Nat.max_le.2 ⟨fL1, fL2⟩; omega
    clear z9 l91 l92 o9
    rcases Nat.lt_or_ge bl.length 1 with hm | hm
    · have hm1 : (bl.length : Int) < 1 := by omega
      have hm2 : ¬ (1 ≤ (bl.length : Int)) := by omega
      go_wp2_with fail
      refine (pick_any g 415 1 w9 r9 (by omega) (by omega) (by omega)).mono ?_
      rintro e wa ⟨ia, rfl, ia1, ia2, ra, oa⟩
      have hba := hb9.trans (oa.below hg r9.lt)
      have hfa := FeedO.onlyg hf9 oa hgB
      go_wp2_with fail
      refine (pick_any g 416 14 wa ra (by omega) (by omega) (by omega)).mono ?_
      rintro e wb ⟨ib, rfl, ib1, ib2, rb, ob⟩
      have hbb := hba.trans (ob.below hg ra.lt)
      have hfb := FeedO.onlyg hfa ob hgB
      go_wp2_with fail
      refine (pick_any g 417 5 wb rb (by omega) (by omega) (by omega)).mono ?_
      rintro e wc ⟨ic, rfl, ic1, ic2, rc, oc⟩
      have hbc := hbb.trans (oc.below hg rb.lt)
      have hfc := FeedO.onlyg hfb oc hgB
      obtain ⟨z0, z1, z2, z3, z4, z5, zf⟩ := box_cells ((hbc.block _ hl0).trans HBOX.out)
      have hd : ib / 13 = 0 ∨ ib / 13 = 1 := by omega
      rcases hd with hd | hd
      · go_wp2
        refine bodyPost_ret (v := .tuple #[.agg #[.int .i64 f9.pub, .int .i64 f9.hd.len, .int .i64 f9.hd.dg, .int .i64 f9.hd.sg, .slice vA f9.bl.length vc, .slice yA f9.hv.length yc], .int .i64 (ia)]) (by simp [results, Try.results32, go_sem, z0, z1, z2, z3, z4, z5]) rfl ⟨f9, _, _, _, rfl, ?_, l91', l92', HZ9.out, by omega, by omega, ?_⟩
        · exact (hfc.set6 (by omega) _ _ _ _ _ _).mono (by omega)
        · exact below_set6 (HB0.out.trans (hbc.mono (Nat.le_of_lt hl0))) (Nat.le_refl _) _ _ _ _ _ _
      · go_wp2
        refine bodyPost_ret (v := .tuple #[.agg #[.int .i64 f9.pub, .int .i64 f9.hd.len, .int .i64 f9.hd.dg, .int .i64 f9.hd.sg, .slice vA f9.bl.length vc, .slice yA f9.hv.length yc], .int .i64 (ia + (ic - 2))]) (by simp [results, Try.results32, go_sem, z0, z1, z2, z3, z4, z5]) rfl ⟨f9, _, _, _, rfl, ?_, l91', l92', HZ9.out, by omega, by omega, ?_⟩
        · exact (hfc.set6 (by omega) _ _ _ _ _ _).mono (by omega)
        · exact below_set6 (HB0.out.trans (hbc.mono (Nat.le_of_lt hl0))) (Nat.le_refl _) _ _ _ _ _ _
    · have hm1 : ¬ (bl.length : Int) < 1 := by omega
      have hm2 : (1 ≤ (bl.length : Int)) := by omega
      go_wp2_with fail
      refine (pick_any g 415 bl.length w9 r9 (by omega) (by omega) (by omega)).mono ?_
      rintro e wa ⟨ia, rfl, ia1, ia2, ra, oa⟩
      have hba := hb9.trans (oa.below hg r9.lt)
      have hfa := FeedO.onlyg hf9 oa hgB
      go_wp2_with fail
      refine (pick_any g 416 14 wa ra (by omega) (by omega) (by omega)).mono ?_
      rintro e wb ⟨ib, rfl, ib1, ib2, rb, ob⟩
      have hbb := hba.trans (ob.below hg ra.lt)
      have hfb := FeedO.onlyg hfa ob hgB
      go_wp2_with fail
      refine (pick_any g 417 5 wb rb (by omega) (by omega) (by omega)).mono ?_
      rintro e wc ⟨ic, rfl, ic1, ic2, rc, oc⟩
      have hbc := hbb.trans (oc.below hg rb.lt)
      have hfc := FeedO.onlyg hfb oc hgB
      obtain ⟨z0, z1, z2, z3, z4, z5, zf⟩ := box_cells ((hbc.block _ hl0).trans HBOX.out)
      have hd : ib / 13 = 0 ∨ ib / 13 = 1 := by omega
      rcases hd with hd | hd
      · go_wp2
        refine bodyPost_ret (v := .tuple #[.agg #[.int .i64 f9.pub, .int .i64 f9.hd.len, .int .i64 f9.hd.dg, .int .i64 f9.hd.sg, .slice vA f9.bl.length vc, .slice yA f9.hv.length yc], .int .i64 (ia)]) (by simp [results, Try.results32, go_sem, z0, z1, z2, z3, z4, z5]) rfl ⟨f9, _, _, _, rfl, ?_, l91', l92', HZ9.out, by omega, by omega, ?_⟩
        · exact (hfc.set6 (by omega) _ _ _ _ _ _).mono (by omega)
        · exact below_set6 (HB0.out.trans (hbc.mono (Nat.le_of_lt hl0))) (Nat.le_refl _) _ _ _ _ _ _
      · go_wp2
        refine bodyPost_ret (v := .tuple #[.agg #[.int .i64 f9.pub, .int .i64 f9.hd.len, .int .i64 f9.hd.dg, .int .i64 f9.hd.sg, .slice vA f9.bl.length vc, .slice yA f9.hv.length yc], .int .i64 (ia + (ic - 2))]) (by simp [results, Try.results32, go_sem, z0, z1, z2, z3, z4, z5]) rfl ⟨f9, _, _, _, rfl, ?_, l91', l92', HZ9.out, by omega, by omega, ?_⟩
        · exact (hfc.set6 (by omega) _ _ _ _ _ _).mono (by omega)
        · exact below_set6 (HB0.out.trans (hbc.mono (Nat.le_of_lt hl0))) (Nat.le_refl _) _ _ _ _ _ _
end Go.Proofs.Ytlhiabnablbkpaa
