/- Walk: the law FnExactWorldReach. -/
import Derived.Test.YtcplnfmcefkehaaGreatBT
import Derived.Test.YtcplnfmcefkehaaGreatBU
namespace Go.Proofs.YtcplnfmcefkehaaGreat
open Go.RowKit

theorem wreach_len (x : Wd) : (wreach x).length ≤ 6 := by
  unfold wreach
  split
  · rename_i h
    have := wvalid_links h
    exact Nat.le_trans (pickB_len _ _) this.2.1
  · simp
theorem O1.belowB {α : Type} {enc : α → Value} {B q : Nat} {e : TypeId} {w w' : World} {v : Value} {l : List α} (h : O1 enc B e w v l) (hb : Below q w w') (hlt : ∀ k, v.ownBlock = some k → k < q) : O1 enc B e w' v l := by
  refine ⟨h.1, ?_⟩
  rcases h.2 with hn | ⟨g, cap, cur, hv, hg, hh, r⟩
  · exact .inl hn
  · exact .inr ⟨g, cap, cur, hv, hg, (hb.block g (hlt g (by rw [hv]; rfl))).trans hh, r⟩
set_option maxHeartbeats 6400000 in
set_option maxRecDepth 100000 in
theorem FnExactWorldReach_any (x : Wd) (vF vL vK vN : Value) (w : World) (hx : WdR w x vF vL vK vN) (ht : WdTx x) :
    Calls Tryz.prog 4 #[.agg #[.int .i64 x.sec, .int .i64 x.bad, vF, vL, vK, vN]] w fun e w' => e = .returned (.bool true) ∧ Below w.heap.size w w' := by
  obtain ⟨l, HLL⟩ : ∃ l, Hid (wreach x = l) := ⟨_, Lib.hid rfl⟩
  have hl6 : l.length ≤ 6 := by rw [← HLL.out]; exact wreach_len x
  have HX0 := Lib.hid hx
  have HT := Lib.hid ht
  obtain ⟨q, HQQ⟩ : ∃ q, Hid (w.heap.size = q) := ⟨_, Lib.hid rfl⟩
  have HSV : Hid (∀ (uF uL uK uN : Value) (W' : World), WdR W' x uF uL uK uN → Calls Tryz.prog 17 #[.agg #[.int .i64 x.sec, .int .i64 x.bad, uF, uL, uK, uN]] W' fun e w' => ∃ v', e = .returned v' ∧ O1 (Value.int .i64) W'.heap.size 3 w' v' l ∧ Below W'.heap.size W' w') := Lib.hid (fun uF uL uK uN W' h => by
    have := WorldReach_s x uF uL uK uN W' h HT.out.n
    unfold ReachPost at this
    rwa [HLL.out] at this)
  have HIV : Hid (∀ (uF uL uK uN : Value) (W' : World), WdR W' x uF uL uK uN → Calls Tryz.prog 18 #[.agg #[.int .i64 x.sec, .int .i64 x.bad, uF, uL, uK, uN]] W' fun e w' => ∃ v', e = .returned v' ∧ O1 (Value.int .i64) W'.heap.size 3 w' v' l ∧ Below W'.heap.size W' w') := Lib.hid (fun uF uL uK uN W' h => by
    have := WorldReach_i x uF uL uK uN W' h HT.out.n
    unfold ReachPost at this
    rwa [HLL.out] at this)
  clear HLL hx ht
  obtain ⟨s, b, fs, ls, ks, ps⟩ := x
  simp only at HSV HIV
  obtain ⟨W0, HW0⟩ : ∃ W0, Hid (w.alloc (.cells #[.int .i64 s, .int .i64 b, vF, vL, vK, vN] 27) = W0) := ⟨_, Lib.hid rfl⟩
  have HB0 : Hid (Below q w W0) := Lib.hid (by rw [← HW0.out, ← HQQ.out]; exact (Below.refl _ _).alloc (Nat.le_refl _) _)
  have hp : W0.heap[q]? = some (.cells #[.int .i64 s, .int .i64 b, vF, vL, vK, vN] 27 (0, 0)) := by rw [← HW0.out, ← HQQ.out]; exact heap_alloc_new w _
  have lq := (Array.getElem?_eq_some_iff.1 hp).1
  have HP := Lib.hid hp
  have HX := Lib.hid (HX0.out.below (by rw [HQQ.out]; exact HB0.out))
  have HQL := Lib.hid (Nat.le_of_lt lq)
  have hw : w.heap.size = q := HQQ.out
  clear hp
  go_enter Tryz.func4, Tryz.ntmps4
  go_wp2_with fail
  clear hw
  rw [HW0.out]
  refine (szWorld_s _ _ _ _ _ W0 HX.out HT.out).mono ?_
  rintro e w1 ⟨r, rfl, hr, hz, hb1⟩
  by_cases hn : r < 0
  · go_wp2
    go_ret
    rw [HQQ.out]
    exact ⟨rfl, HB0.out.trans (hb1.mono HQL.out)⟩
  have HWS := Lib.hid (hz (by omega))
  have HZ := Lib.hid (wsum_sz HWS.out)
  clear hz
  obtain ⟨p0, p1, p2, p3, p4, p5, pf⟩ := box_cells ((hb1.block _ lq).trans HP.out)
  go_wp2_with fail
  refine (toWorld_any _ _ _ _ _ w1 (HX.out.below hb1) HZ.out).mono ?_
  rintro e w2 ⟨A1, c1, A2, c2, A3, c3, A4, c4, rfl, ho2, hb2⟩
  have hb02 := below_bb hb1 hb2
  clear p0 p1 p2 p3 p4 p5 pf
  go_wp2_with fail
  refine (HSV.out _ _ _ _ w2 ho2.r).mono ?_
  rintro e w3 ⟨v3, rfl, hv3, hb3⟩
  obtain ⟨A9, c9, rfl⟩ := hv3.sl
  have hb03 := below_bb hb02 hb3
  have HV3 := Lib.hid hv3
  have HU3 := Lib.hid hv3.up_
  have HB03 := Lib.hid hb03
  have lq3 : q < w3.heap.size := Nat.lt_of_lt_of_le lq hb03.size
  clear ho2 hb1 hb2 hb3 hb02 hv3
  obtain ⟨p0, p1, p2, p3, p4, p5, pf⟩ := box_cells ((hb03.block _ lq).trans HP.out)
  go_wp2_with fail
  refine (toWorld_any _ _ _ _ _ w3 (HX.out.below hb03) HZ.out).mono ?_
  rintro e w4 ⟨A1, c1, A2, c2, A3, c3, A4, c4, rfl, ho4, hb4⟩
  simp only at ho4 ⊢
  clear p0 p1 p2 p3 p4 p5 pf hb03
  obtain ⟨g, HGG⟩ : ∃ g, Hid (w4.heap.size = g) := ⟨_, Lib.hid rfl⟩
  obtain ⟨W4, HW4⟩ : ∃ W, Hid (w4.alloc (.cells #[.int .i64 s, .int .i64 b, .slice A1 fs.length c1, .slice A2 ls.length c2, .slice A3 ks.length c3, .slice A4 ps.length c4] 35) = W) := ⟨_, Lib.hid rfl⟩
  have hbx : Below w4.heap.size w4 W4 := by rw [← HW4.out]; exact (Below.refl _ _).alloc (Nat.le_refl _) _
  have hg : W4.heap[g]? = some (.cells #[.int .i64 s, .int .i64 b, .slice A1 fs.length c1, .slice A2 ls.length c2, .slice A3 ks.length c3, .slice A4 ps.length c4] 35 (0, 0)) := by rw [← HW4.out, ← HGG.out]; exact heap_alloc_new w4 _
  have hb34 : Below w3.heap.size w3 W4 := hb4.trans (hbx.mono hb4.size)
  have HO := Lib.hid (ho4.below hbx)
  have lg := (Array.getElem?_eq_some_iff.1 hg).1
  have HG := Lib.hid hg
  have HP4 := Lib.hid ((hb34.block _ lq3).trans ((HB03.out.block _ lq).trans HP.out))
  have HB34 := Lib.hid hb34
  have H34 := Lib.hid hb4.size
  have hg4 : g ≤ W4.heap.size := Nat.le_of_lt lg
  have hw : w4.heap.size = g := HGG.out
  clear hbx hg ho4 hb4 hb34
  go_wp2_with fail
  clear hw
  rw [HW4.out]
  refine (HIV.out _ _ _ _ W4 HO.out.r).mono ?_
  rintro e w5 ⟨v5, rfl, hv5, hb5⟩
  obtain ⟨A8, c8, rfl⟩ := hv5.sl
  have HV5 := Lib.hid hv5
  have HB45 := Lib.hid hb5
  clear hv5 hb5
  go_wp2_with fail
  refine (eqIntS_same l _ _ w5 HV5.out.r1 ((HV3.out.below HB34.out).below HB45.out).r1).mono ?_
  rintro e w6 ⟨rfl, hb6⟩
  have hb46 := below_bb HB45.out hb6
  have hsz6 := hb46.size
  have HB6 := Lib.hid hb6
  clear hb6
  obtain ⟨p0, p1, p2, p3, p4, p5, pf⟩ := box_cells HP4.out
  obtain ⟨g0, g1, g2, g3, g4, g5, gf⟩ := box_cells HG.out
  have lq4 : q < W4.heap.size := (Array.getElem?_eq_some_iff.1 HP4.out).1
  have lg4 := lg
  go_wp2
  go_region_held3 (fun w' => w'.cell? ⟨q, 0, none⟩ = some (.int .i64 s) ∧ w'.cell? ⟨q, 1, none⟩ = some (.int .i64 b) ∧ w'.cell? ⟨q, 2, none⟩ = some (vF) ∧ w'.cell? ⟨q, 3, none⟩ = some (vL) ∧ w'.cell? ⟨q, 4, none⟩ = some (vK) ∧ w'.cell? ⟨q, 5, none⟩ = some (vN) ∧ w'.cell? ⟨g, 0, none⟩ = some (.int .i64 s) ∧ w'.cell? ⟨g, 1, none⟩ = some (.int .i64 b) ∧ w'.cell? ⟨g, 2, none⟩ = some (.slice A1 fs.length c1) ∧ w'.cell? ⟨g, 3, none⟩ = some (.slice A2 ls.length c2) ∧ w'.cell? ⟨g, 4, none⟩ = some (.slice A3 ks.length c3) ∧ w'.cell? ⟨g, 5, none⟩ = some (.slice A4 ps.length c4))
    (exact ⟨(Below.cell (by repeat (first | with_reducible exact hb46 | with_reducible exact hbm | with_reducible exact hbn | refine below_drew' ?_ | refine below_al ?_ (by repeat (first | exact hsz6 | exact hsz7 | exact hsz8 | refine sz_drew ?_ | refine sz_al ?_ _)) _)) lq4).trans p0, (Below.cell (by repeat (first | with_reducible exact hb46 | with_reducible exact hbm | with_reducible exact hbn | refine below_drew' ?_ | refine below_al ?_ (by repeat (first | exact hsz6 | exact hsz7 | exact hsz8 | refine sz_drew ?_ | refine sz_al ?_ _)) _)) lq4).trans p1, (Below.cell (by repeat (first | with_reducible exact hb46 | with_reducible exact hbm | with_reducible exact hbn | refine below_drew' ?_ | refine below_al ?_ (by repeat (first | exact hsz6 | exact hsz7 | exact hsz8 | refine sz_drew ?_ | refine sz_al ?_ _)) _)) lq4).trans p2, (Below.cell (by repeat (first | with_reducible exact hb46 | with_reducible exact hbm | with_reducible exact hbn | refine below_drew' ?_ | refine below_al ?_ (by repeat (first | exact hsz6 | exact hsz7 | exact hsz8 | refine sz_drew ?_ | refine sz_al ?_ _)) _)) lq4).trans p3, (Below.cell (by repeat (first | with_reducible exact hb46 | with_reducible exact hbm | with_reducible exact hbn | refine below_drew' ?_ | refine below_al ?_ (by repeat (first | exact hsz6 | exact hsz7 | exact hsz8 | refine sz_drew ?_ | refine sz_al ?_ _)) _)) lq4).trans p4, (Below.cell (by repeat (first | with_reducible exact hb46 | with_reducible exact hbm | with_reducible exact hbn | refine below_drew' ?_ | refine below_al ?_ (by repeat (first | exact hsz6 | exact hsz7 | exact hsz8 | refine sz_drew ?_ | refine sz_al ?_ _)) _)) lq4).trans p5, (Below.cell (by repeat (first | with_reducible exact hb46 | with_reducible exact hbm | with_reducible exact hbn | refine below_drew' ?_ | refine below_al ?_ (by repeat (first | exact hsz6 | exact hsz7 | exact hsz8 | refine sz_drew ?_ | refine sz_al ?_ _)) _)) lg4).trans g0, (Below.cell (by repeat (first | with_reducible exact hb46 | with_reducible exact hbm | with_reducible exact hbn | refine below_drew' ?_ | refine below_al ?_ (by repeat (first | exact hsz6 | exact hsz7 | exact hsz8 | refine sz_drew ?_ | refine sz_al ?_ _)) _)) lg4).trans g1, (Below.cell (by repeat (first | with_reducible exact hb46 | with_reducible exact hbm | with_reducible exact hbn | refine below_drew' ?_ | refine below_al ?_ (by repeat (first | exact hsz6 | exact hsz7 | exact hsz8 | refine sz_drew ?_ | refine sz_al ?_ _)) _)) lg4).trans g2, (Below.cell (by repeat (first | with_reducible exact hb46 | with_reducible exact hbm | with_reducible exact hbn | refine below_drew' ?_ | refine below_al ?_ (by repeat (first | exact hsz6 | exact hsz7 | exact hsz8 | refine sz_drew ?_ | refine sz_al ?_ _)) _)) lg4).trans g3, (Below.cell (by repeat (first | with_reducible exact hb46 | with_reducible exact hbm | with_reducible exact hbn | refine below_drew' ?_ | refine below_al ?_ (by repeat (first | exact hsz6 | exact hsz7 | exact hsz8 | refine sz_drew ?_ | refine sz_al ?_ _)) _)) lg4).trans g4, (Below.cell (by repeat (first | with_reducible exact hb46 | with_reducible exact hbm | with_reducible exact hbn | refine below_drew' ?_ | refine below_al ?_ (by repeat (first | exact hsz6 | exact hsz7 | exact hsz8 | refine sz_drew ?_ | refine sz_al ?_ _)) _)) lg4).trans g5⟩)
    (first
      | (go_at_call 14; refine (toWorld_any ⟨s, b, fs, ls, ks, ps⟩ vF vL vK vN _ (((HX.out.below HB03.out).below HB34.out).below (by repeat (first | with_reducible exact hb46 | with_reducible exact hbm | with_reducible exact hbn | refine below_drew' ?_ | refine below_al ?_ (by repeat (first | exact hsz6 | exact hsz7 | exact hsz8 | refine sz_drew ?_ | refine sz_al ?_ _)) _))) HZ.out).mono ?_; rintro e w7 ⟨B1, d1, B2, d2, B3, d3, B4, d4, rfl, ho7, hb7⟩
         have hbm : Below W4.heap.size W4 w7 := below_st (by repeat (first | with_reducible exact hb46 | with_reducible exact hbm | with_reducible exact hbn | refine below_drew' ?_ | refine below_al ?_ (by repeat (first | exact hsz6 | exact hsz7 | exact hsz8 | refine sz_drew ?_ | refine sz_al ?_ _)) _)) (by repeat (first | exact hsz6 | exact hsz7 | exact hsz8 | refine sz_drew ?_ | refine sz_al ?_ _)) hb7
         have hsz7 := hbm.size)
      | (go_at_call 16; refine (eqWorld_same ⟨s, b, fs, ls, ks, ps⟩ _ _ _ _ _ _ _ _ _ (HO.out.r.below (by repeat (first | with_reducible exact hb46 | with_reducible exact hbm | with_reducible exact hbn | refine below_drew' ?_ | refine below_al ?_ (by repeat (first | exact hsz6 | exact hsz7 | exact hsz8 | refine sz_drew ?_ | refine sz_al ?_ _)) _))) ho7.r).mono ?_; rintro e w8 ⟨rfl, hb8⟩
         have hbn : Below W4.heap.size W4 w8 := below_st (by repeat (first | with_reducible exact hb46 | with_reducible exact hbm | with_reducible exact hbn | refine below_drew' ?_ | refine below_al ?_ (by repeat (first | exact hsz6 | exact hsz7 | exact hsz8 | refine sz_drew ?_ | refine sz_al ?_ _)) _)) (by repeat (first | exact hsz6 | exact hsz7 | exact hsz8 | refine sz_drew ?_ | refine sz_al ?_ _)) hb8
         have h68 : Below w6.heap.size w6 w8 := by
           have hy : Below w6.heap.size w6 w7 := by first | exact hb7 | exact below_bb (below_drew (Below.refl _ _)) hb7
           exact below_bb hy hb8
         have hsz8 := hbn.size))
  have hv8 := (HV5.out.below HB6.out).below h68
  have hv38 := (HV3.out.below HB34.out).below hbn
  have HV8 := Lib.hid hv8
  have HV38 := Lib.hid hv38
  have hp8 := (hbn.block _ lq4).trans HP4.out
  have hg8 := (hbn.block _ lg4).trans HG.out
  have HP8 := Lib.hid hp8
  have HG8 := Lib.hid hg8
  have HO8 := Lib.hid (HO.out.below hbn)
  have HB8 := Lib.hid hbn
  have hC : w4.heap.size ≤ w8.heap.size := by rw [HGG.out]; exact Nat.le_trans hg4 hbn.size
  have lq8 := (Array.getElem?_eq_some_iff.1 hp8).1
  have lg8 := (Array.getElem?_eq_some_iff.1 hg8).1
  clear hv8 hv38 hp8 hg8 hbn h68 hbm hb46 hb7 hb8 ho7 p0 p1 p2 p3 p4 p5 pf g0 g1 g2 g3 g4 g5 gf
  obtain ⟨g0, g1, g2, g3, g4, g5, gf⟩ := box_cells HG8.out
  go_wp2_with fail
  refine (markWorld_any ⟨s, b, fs, ls, ks, ps⟩ _ _ _ _ 1 w3.heap.size w4.heap.size w8 HO8.out hC HWS.out (by omega)).mono ?_
  rintro e w9 ⟨rfl, hm9⟩
  obtain ⟨K, HK⟩ : ∃ K : Int, Hid (((woff 1 ⟨s, b, fs, ls, ks, ps⟩ : Nat) : Int) = K) := ⟨_, Lib.hid rfl⟩
  have hK : ¬ K < 0 := by rw [← HK.out]; omega
  rw [HK.out]
  have H3W : w4.heap.size ≤ W4.heap.size := by rw [HGG.out]; exact hg4
  have hv9 := HV8.out.mid hm9 H3W
  have h89 : Below w3.heap.size w8 w9 := hm9.below (Nat.le_refl _) (Nat.le_trans (Nat.le_trans HB34.out.size HB8.out.size) (Nat.le_refl _))
  have hv39 := HV38.out.belowB h89 HU3.out
  have hp9 := (h89.block _ lq3).trans HP8.out
  have hg9 := (hm9.block g lg8 (.inr (by rw [HGG.out]; exact Nat.le_refl _))).trans HG8.out
  have HV9 := Lib.hid hv9
  have HV39 := Lib.hid hv39
  have HP9 := Lib.hid hp9
  have HB9 : Hid (Below w3.heap.size w3 w9) := Lib.hid ((HB34.out.trans (HB8.out.mono HB34.out.size)).trans h89)
  clear hv9 hv39 hp9 hg9 h89 hm9 g0 g1 g2 g3 g4 g5 gf
  go_wp2_with fail
  refine (eqIntS_same l _ _ w9 HV9.out.r1 HV39.out.r1).mono ?_
  rintro e w10 ⟨rfl, hb10⟩
  have HV10 := Lib.hid (HV9.out.below hb10)
  have HB10 := Lib.hid hb10
  clear hb10
  go_wp2_with fail
  refine (markIntS_any l _ 1 W4.heap.size w10 HV10.out (by omega) (by omega)).mono ?_
  rintro e w11 ⟨rfl, hm11, hg11⟩
  obtain ⟨M, HM⟩ : ∃ M : Int, Hid (((1 + l.length : Nat) : Int) = M) := ⟨_, Lib.hid rfl⟩
  have hM : ¬ M < 0 := by rw [← HM.out]; omega
  have hMM : (M != M) = false := by simp
  rw [HM.out]
  have lq9 := (Array.getElem?_eq_some_iff.1 HP9.out).1
  have hlo : ∀ k, (Value.slice A8 l.length c8).ownBlock = some k → W4.heap.size ≤ k := fun k hk => (HV10.out.lt k hk).1
  have hp11 := (hg11.block q (Nat.lt_of_lt_of_le lq9 HB10.out.size) (fun e => by have := hlo q e.symm; omega)).trans ((HB10.out.block q lq9).trans HP9.out)
  have hv311 := (HV39.out.below HB10.out).grown hg11 (by
    cases hb : (Value.slice A9 l.length c9).ownBlock with
    | none => exact .inl rfl
    | some k =>
      refine .inr fun e => ?_
      have h1 := HU3.out k hb
      have h2 := hlo k e.symm
      have h3 := HB34.out.size
      omega)
  have HV311 := Lib.hid hv311
  have HP11 := Lib.hid hp11
  have HM11 := Lib.hid hm11
  have HB11 : Hid (Below w3.heap.size w3 w11) := Lib.hid ((HB9.out.trans (HB10.out.mono HB9.out.size)).grown hg11 (Nat.le_trans HB9.out.size HB10.out.size) (fun k hk => Nat.le_trans HB34.out.size (hlo k hk)))
  clear hm11 hg11 hp11 hv311 hlo
  go_wp2_with fail
  refine (heldIntS_any l.length _ 1 w11 HM11.out.r1 (by omega) (by omega)).mono ?_
  rintro e w12 ⟨rfl, hb12⟩
  rw [HM.out]
  have HB12 := Lib.hid hb12
  have lq11 := (Array.getElem?_eq_some_iff.1 HP11.out).1
  obtain ⟨p0, p1, p2, p3, p4, p5, pf⟩ := box_cells ((hb12.block q lq11).trans HP11.out)
  clear hb12
  go_wp2_with fail
  refine (toWorld_any ⟨s, b, fs, ls, ks, ps⟩ vF vL vK vN w12 (((HX.out.below HB03.out).below HB11.out).below HB12.out) HZ.out).mono ?_
  rintro e w13 ⟨E1, d1, E2, d2, E3, d3, E4, d4, rfl, ho13, hb13⟩
  have HB13 := Lib.hid (below_bb HB12.out hb13)
  clear hb13 p0 p1 p2 p3 p4 p5 pf
  go_wp2_with fail
  refine (HIV.out _ _ _ _ w13 ho13.r).mono ?_
  rintro e w14 ⟨v14, rfl, hv14, hb14⟩
  obtain ⟨A7, c7, rfl⟩ := hv14.sl
  have HB14 := Lib.hid (below_bb HB13.out hb14)
  have HV14 := Lib.hid hv14
  clear hb14 hv14 ho13
  go_wp2_with fail
  refine (eqIntS_same l _ _ w14 HV14.out.r1 (HV311.out.below HB14.out).r1).mono ?_
  rintro e w15 ⟨rfl, hb15⟩
  have HB15 := Lib.hid (below_bb HB14.out hb15)
  clear hb15
  go_wp2_with fail
  refine (heldIntS_any l.length _ 1 w15 (HM11.out.below HB15.out).r1 (by omega) (by omega)).mono ?_
  rintro e w16 ⟨rfl, hb16⟩
  rw [HM.out]
  have HB16 := Lib.hid (below_bb HB15.out hb16)
  clear hb16
  go_wp2
  go_ret
  rw [HQQ.out]
  have hfin : Below w3.heap.size w3 w16 := HB11.out.trans (HB16.out.mono HB11.out.size)
  have hfin0 : Below W0.heap.size W0 w16 := HB03.out.trans (hfin.mono HB03.out.size)
  exact ⟨rfl, HB0.out.trans (hfin0.mono HQL.out)⟩
end Go.Proofs.YtcplnfmcefkehaaGreat
