/- Walk: the law FnExactWorldValid. -/
import Derived.Test.YtcplnfmcefkehaaGreatBQ
namespace Go.Proofs.YtcplnfmcefkehaaGreat
open Go.RowKit

set_option maxHeartbeats 3200000 in
set_option maxRecDepth 100000 in
theorem FnExactWorldValid_any (x : Wd) (vF vL vK vN : Value) (w : World) (hx : WdR w x vF vL vK vN) (ht : WdTx x) :
    Calls Tryz.prog 3 #[.agg #[.int .i64 x.sec, .int .i64 x.bad, vF, vL, vK, vN]] w fun e w' => e = .returned (.bool true) ∧ Below w.heap.size w w' := by
  obtain ⟨V, HVV⟩ : ∃ V, Hid (wvalid x = V) := ⟨_, Lib.hid rfl⟩
  have HX0 := Lib.hid hx
  have HT := Lib.hid ht
  obtain ⟨q, HQQ⟩ : ∃ q, Hid (w.heap.size = q) := ⟨_, Lib.hid rfl⟩
  have hVV : (V != V) = false := by simp
  have HS : ∀ W, Below w.heap.size w W → Hid (∀ (uF uL uK uN : Value) (W' : World), WdR W' x uF uL uK uN → Calls Tryz.prog 13 #[.agg #[.int .i64 x.sec, .int .i64 x.bad, uF, uL, uK, uN]] W' fun e w' => e = .returned (.bool V) ∧ Below W'.heap.size W' w') := fun W _ => Lib.hid (fun uF uL uK uN W' h => by
    have := WorldValid_s x uF uL uK uN W' h HT.out.n
    rwa [HVV.out] at this)
  have HSV := HS w (Below.refl _ _)
  have HIV : Hid (∀ (uF uL uK uN : Value) (W' : World), WdR W' x uF uL uK uN → Calls Tryz.prog 15 #[.agg #[.int .i64 x.sec, .int .i64 x.bad, uF, uL, uK, uN]] W' fun e w' => e = .returned (.bool V) ∧ Below W'.heap.size W' w') := Lib.hid (fun uF uL uK uN W' h => by
    have := WorldValid_i x uF uL uK uN W' h HT.out.n
    rwa [HVV.out] at this)
  clear HS HVV hx ht
  obtain ⟨s, b, fs, ls, ks, ps⟩ := x
  simp only at HSV HIV
  obtain ⟨W0, HW0⟩ : ∃ W0, Hid (w.alloc (.cells #[.int .i64 s, .int .i64 b, vF, vL, vK, vN] 27) = W0) := ⟨_, Lib.hid rfl⟩
  have HB0 : Hid (Below q w W0) := Lib.hid (by rw [← HW0.out, ← HQQ.out]; exact (Below.refl _ _).alloc (Nat.le_refl _) _)
  have hp : W0.heap[q]? = some (.cells #[.int .i64 s, .int .i64 b, vF, vL, vK, vN] 27 (0, 0)) := by rw [← HW0.out, ← HQQ.out]; exact heap_alloc_new w _
  have lq := (Array.getElem?_eq_some_iff.1 hp).1
  have HP := Lib.hid hp
  have HX := Lib.hid (HX0.out.below (by rw [HQQ.out]; exact HB0.out))
  have HQL := Lib.hid (Nat.le_of_lt lq)
  have hw : w.heap.size = q := HQQ.out
  clear hp
  go_enter Tryz.func3, Tryz.ntmps3
  go_wp2_with fail
  clear hw
  rw [HW0.out]
  refine (szWorld_any _ _ _ _ _ 1048576 W0 HX.out HT.out (by omega) (by omega)).mono ?_
  rintro e w1 ⟨r, rfl, hr, hz, hb1⟩
  by_cases hn : r < 0
  · go_wp2
    go_ret
    rw [HQQ.out]
    exact ⟨rfl, HB0.out.trans (hb1.mono HQL.out)⟩
  have HZ := Lib.hid (hz (by omega))
  clear hz
  obtain ⟨p0, p1, p2, p3, p4, p5, pf⟩ := box_cells ((hb1.block _ lq).trans HP.out)
  go_wp2_with fail
  refine (toWorld_any _ _ _ _ _ w1 (HX.out.below hb1) HZ.out).mono ?_
  rintro e w2 ⟨A1, c1, A2, c2, A3, c3, A4, c4, rfl, ho2, hb2⟩
  have hb02 := below_bb hb1 hb2
  clear p0 p1 p2 p3 p4 p5 pf
  go_wp2_with fail
  refine (HSV.out _ _ _ _ w2 ho2.r).mono ?_
  rintro e w3 ⟨rfl, hb3⟩
  have hb03 := below_bb hb02 hb3
  clear ho2 hb1 hb2 hb3 hb02
  obtain ⟨p0, p1, p2, p3, p4, p5, pf⟩ := box_cells ((hb03.block _ lq).trans HP.out)
  go_wp2_with fail
  refine (toWorld_any _ _ _ _ _ w3 (HX.out.below hb03) HZ.out).mono ?_
  rintro e w4 ⟨A1, c1, A2, c2, A3, c3, A4, c4, rfl, ho4, hb4⟩
  simp only at ho4 ⊢
  have hb04 := below_bb hb03 hb4
  clear p0 p1 p2 p3 p4 p5 pf hb03 hb4
  obtain ⟨g, HGG⟩ : ∃ g, Hid (w4.heap.size = g) := ⟨_, Lib.hid rfl⟩
  obtain ⟨W4, HW4⟩ : ∃ W, Hid (w4.alloc (.cells #[.int .i64 s, .int .i64 b, .slice A1 fs.length c1, .slice A2 ls.length c2, .slice A3 ks.length c3, .slice A4 ps.length c4] 35) = W) := ⟨_, Lib.hid rfl⟩
  have hbx : Below w4.heap.size w4 W4 := by rw [← HW4.out]; exact (Below.refl _ _).alloc (Nat.le_refl _) _
  have hg : W4.heap[g]? = some (.cells #[.int .i64 s, .int .i64 b, .slice A1 fs.length c1, .slice A2 ls.length c2, .slice A3 ks.length c3, .slice A4 ps.length c4] 35 (0, 0)) := by rw [← HW4.out, ← HGG.out]; exact heap_alloc_new w4 _
  have hb5 := below_bb hb04 hbx
  have HO := Lib.hid (ho4.r.below hbx)
  have lg := (Array.getElem?_eq_some_iff.1 hg).1
  have lq5 : q < W4.heap.size := Nat.lt_of_lt_of_le lq hb5.size
  have HG := Lib.hid hg
  have HP5 := Lib.hid ((hb5.block _ lq).trans HP.out)
  have HB5 := Lib.hid hb5
  have hw : w4.heap.size = g := HGG.out
  clear hb04 hbx hg ho4 hb5
  go_wp2_with fail
  clear hw
  rw [HW4.out]
  refine (HIV.out _ _ _ _ W4 HO.out).mono ?_
  rintro e w5 ⟨rfl, hb45⟩
  have hsz5 := hb45.size
  obtain ⟨p0, p1, p2, p3, p4, p5, pf⟩ := box_cells HP5.out
  obtain ⟨g0, g1, g2, g3, g4, g5, gf⟩ := box_cells HG.out
  have lq4 := lq5
  have lg4 := lg
  go_wp2
  go_region_held3 (fun w' => w'.cell? ⟨q, 0, none⟩ = some (.int .i64 s) ∧ w'.cell? ⟨q, 1, none⟩ = some (.int .i64 b) ∧ w'.cell? ⟨q, 2, none⟩ = some (vF) ∧ w'.cell? ⟨q, 3, none⟩ = some (vL) ∧ w'.cell? ⟨q, 4, none⟩ = some (vK) ∧ w'.cell? ⟨q, 5, none⟩ = some (vN) ∧ w'.cell? ⟨g, 0, none⟩ = some (.int .i64 s) ∧ w'.cell? ⟨g, 1, none⟩ = some (.int .i64 b) ∧ w'.cell? ⟨g, 2, none⟩ = some (.slice A1 fs.length c1) ∧ w'.cell? ⟨g, 3, none⟩ = some (.slice A2 ls.length c2) ∧ w'.cell? ⟨g, 4, none⟩ = some (.slice A3 ks.length c3) ∧ w'.cell? ⟨g, 5, none⟩ = some (.slice A4 ps.length c4))
    (exact ⟨(Below.cell (by repeat (first | with_reducible exact hb45 | with_reducible exact hbm | with_reducible exact hbn | refine below_drew' ?_ | refine below_al ?_ (by repeat (first | exact hsz5 | exact hsz6 | exact hsz7 | refine sz_drew ?_ | refine sz_al ?_ _)) _)) lq4).trans p0, (Below.cell (by repeat (first | with_reducible exact hb45 | with_reducible exact hbm | with_reducible exact hbn | refine below_drew' ?_ | refine below_al ?_ (by repeat (first | exact hsz5 | exact hsz6 | exact hsz7 | refine sz_drew ?_ | refine sz_al ?_ _)) _)) lq4).trans p1, (Below.cell (by repeat (first | with_reducible exact hb45 | with_reducible exact hbm | with_reducible exact hbn | refine below_drew' ?_ | refine below_al ?_ (by repeat (first | exact hsz5 | exact hsz6 | exact hsz7 | refine sz_drew ?_ | refine sz_al ?_ _)) _)) lq4).trans p2, (Below.cell (by repeat (first | with_reducible exact hb45 | with_reducible exact hbm | with_reducible exact hbn | refine below_drew' ?_ | refine below_al ?_ (by repeat (first | exact hsz5 | exact hsz6 | exact hsz7 | refine sz_drew ?_ | refine sz_al ?_ _)) _)) lq4).trans p3, (Below.cell (by repeat (first | with_reducible exact hb45 | with_reducible exact hbm | with_reducible exact hbn | refine below_drew' ?_ | refine below_al ?_ (by repeat (first | exact hsz5 | exact hsz6 | exact hsz7 | refine sz_drew ?_ | refine sz_al ?_ _)) _)) lq4).trans p4, (Below.cell (by repeat (first | with_reducible exact hb45 | with_reducible exact hbm | with_reducible exact hbn | refine below_drew' ?_ | refine below_al ?_ (by repeat (first | exact hsz5 | exact hsz6 | exact hsz7 | refine sz_drew ?_ | refine sz_al ?_ _)) _)) lq4).trans p5, (Below.cell (by repeat (first | with_reducible exact hb45 | with_reducible exact hbm | with_reducible exact hbn | refine below_drew' ?_ | refine below_al ?_ (by repeat (first | exact hsz5 | exact hsz6 | exact hsz7 | refine sz_drew ?_ | refine sz_al ?_ _)) _)) lg4).trans g0, (Below.cell (by repeat (first | with_reducible exact hb45 | with_reducible exact hbm | with_reducible exact hbn | refine below_drew' ?_ | refine below_al ?_ (by repeat (first | exact hsz5 | exact hsz6 | exact hsz7 | refine sz_drew ?_ | refine sz_al ?_ _)) _)) lg4).trans g1, (Below.cell (by repeat (first | with_reducible exact hb45 | with_reducible exact hbm | with_reducible exact hbn | refine below_drew' ?_ | refine below_al ?_ (by repeat (first | exact hsz5 | exact hsz6 | exact hsz7 | refine sz_drew ?_ | refine sz_al ?_ _)) _)) lg4).trans g2, (Below.cell (by repeat (first | with_reducible exact hb45 | with_reducible exact hbm | with_reducible exact hbn | refine below_drew' ?_ | refine below_al ?_ (by repeat (first | exact hsz5 | exact hsz6 | exact hsz7 | refine sz_drew ?_ | refine sz_al ?_ _)) _)) lg4).trans g3, (Below.cell (by repeat (first | with_reducible exact hb45 | with_reducible exact hbm | with_reducible exact hbn | refine below_drew' ?_ | refine below_al ?_ (by repeat (first | exact hsz5 | exact hsz6 | exact hsz7 | refine sz_drew ?_ | refine sz_al ?_ _)) _)) lg4).trans g4, (Below.cell (by repeat (first | with_reducible exact hb45 | with_reducible exact hbm | with_reducible exact hbn | refine below_drew' ?_ | refine below_al ?_ (by repeat (first | exact hsz5 | exact hsz6 | exact hsz7 | refine sz_drew ?_ | refine sz_al ?_ _)) _)) lg4).trans g5⟩)
    (first
      | (go_at_call 14; refine (toWorld_any ⟨s, b, fs, ls, ks, ps⟩ vF vL vK vN _ ((HX.out.below HB5.out).below (by repeat (first | with_reducible exact hb45 | with_reducible exact hbm | with_reducible exact hbn | refine below_drew' ?_ | refine below_al ?_ (by repeat (first | exact hsz5 | exact hsz6 | exact hsz7 | refine sz_drew ?_ | refine sz_al ?_ _)) _))) HZ.out).mono ?_; rintro e w6 ⟨B1, d1, B2, d2, B3, d3, B4, d4, rfl, ho6, hb6⟩
         have hbm : Below W4.heap.size W4 w6 := below_st (by repeat (first | with_reducible exact hb45 | with_reducible exact hbm | with_reducible exact hbn | refine below_drew' ?_ | refine below_al ?_ (by repeat (first | exact hsz5 | exact hsz6 | exact hsz7 | refine sz_drew ?_ | refine sz_al ?_ _)) _)) (by repeat (first | exact hsz5 | exact hsz6 | exact hsz7 | refine sz_drew ?_ | refine sz_al ?_ _)) hb6
         have hsz6 := hbm.size)
      | (go_at_call 16; refine (eqWorld_same ⟨s, b, fs, ls, ks, ps⟩ _ _ _ _ _ _ _ _ _ (HO.out.below (by repeat (first | with_reducible exact hb45 | with_reducible exact hbm | with_reducible exact hbn | refine below_drew' ?_ | refine below_al ?_ (by repeat (first | exact hsz5 | exact hsz6 | exact hsz7 | refine sz_drew ?_ | refine sz_al ?_ _)) _))) ho6.r).mono ?_; rintro e w7 ⟨rfl, hb7⟩
         have hbn : Below W4.heap.size W4 w7 := below_st (by repeat (first | with_reducible exact hb45 | with_reducible exact hbm | with_reducible exact hbn | refine below_drew' ?_ | refine below_al ?_ (by repeat (first | exact hsz5 | exact hsz6 | exact hsz7 | refine sz_drew ?_ | refine sz_al ?_ _)) _)) (by repeat (first | exact hsz5 | exact hsz6 | exact hsz7 | refine sz_drew ?_ | refine sz_al ?_ _)) hb7
         have hsz7 := hbn.size))
  all_goals (
    go_wp2
    go_ret
    rw [HQQ.out]
    have hbb : Below W0.heap.size W0 _ := below_bb HB5.out hbn
    exact ⟨rfl, HB0.out.trans (hbb.mono HQL.out)⟩)
end Go.Proofs.YtcplnfmcefkehaaGreat
