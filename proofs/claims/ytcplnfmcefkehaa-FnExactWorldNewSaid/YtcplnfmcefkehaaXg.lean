/- Walk: a new world of the program. -/
import Derived.Test.YtcplnfmcefkehaaXf
namespace Go.Proofs.Ytcplnfmcefkehaa
open Go.RowKit

theorem ON.belowB {N B n q : Nat} {e : TypeId} {w w' : World} {v : Value} {F : Nat → Value} (h : ON N B e w v n F) (hb : Below q w w') (hlt : ∀ k, v.ownBlock = some k → k < q) : ON N B e w' v n F := by
  refine ⟨h.1, ?_⟩
  rcases h.2 with hn | ⟨g, cap, cur, hv, hg, hh, r⟩
  · exact .inl hn
  · exact .inr ⟨g, cap, cur, hv, hg, (hb.block g (hlt g (by rw [hv]; rfl))).trans hh, r⟩
theorem ON.setb {N B n : Nat} {e : TypeId} {w : World} {v : Value} {F : Nat → Value} (h : ON N B e w v n F) {p : Addr} (hp : p.block < B) (u : Value) : ON N B e (w.setCell p u) v n F :=
  h.grown (grow_set w p u) (.inr (fun e => by have := (h.lt _ e).1; omega))
theorem ON.made1 {e : TypeId} {w : World} {N : Nat} (z : Value) (hN : N ≤ maxLen) : ON 1 w.heap.size e (w.alloc (.cells (madeCells #[z] N) e)) (.slice (some ⟨w.heap.size, 0, none⟩) N N) N (fun _ => z) := by
  refine ⟨by simp, .inr ⟨w.heap.size, N, madeCells #[z] N, rfl, Nat.le_refl _, heap_alloc_new w _, Nat.le_refl _, hN, by simp [madeCells], ?_⟩⟩
  rw [List.take_of_length_le (by simp [madeCells])]
  apply List.ext_getElem (by simp [madeCells])
  intro s h1 h2
  simp [madeCells, Nat.mod_one]
theorem setOk_true {s b : Int} {N : Nat} (h : setOk s N b = true) : key s = true ∧ 1 ≤ N ∧ N ≤ 6 ∧ inB (N : Int) 1 6 = true ∧ (b = -1 ∨ inB b 1 ((N : Int) - 1) = true) := by
  unfold setOk at h
  simp only [Bool.and_eq_true, Bool.or_eq_true, beq_iff_eq] at h
  obtain ⟨⟨h1, h2⟩, h3⟩ := h
  have := inB_true.1 h2
  exact ⟨h1, by omega, by omega, h2, h3⟩
set_option maxHeartbeats 1600000 in
set_option maxRecDepth 100000 in
theorem WorldNew_i_ok {s b : Int} {N : Nat} (h : Hid (setOk s N b = true)) (w : World) : Calls Try.prog 5 #[.int .i64 s, .int .i64 (N : Int), .int .i64 b] w (WPost true N s b (hpub s) w) := by
  obtain ⟨hks, hN1, hN6, -, -⟩ := setOk_true h.out
  obtain ⟨p, HP⟩ : ∃ p, Hid (hpub s = p) := ⟨_, Lib.hid rfl⟩
  have HK : Hid (key p = true) := Lib.hid (by rw [← HP.out]; exact hpub_key hks)
  rw [HP.out]
  clear hks
  obtain ⟨i0, hi, hz0, hz1, hz2⟩ := info_parts info_asks
  have hmk := fun W => run_make_row (P := Try.prog) 24 43 i0 (.slice none 0 0) Try.underlying24 hi hz0 hz1 rfl .i64 .i64 N (by rw [hz2]; omega) (by omega) W
  obtain ⟨W2, HW2⟩ : ∃ W2, Hid (((w.alloc (.cells #[.int .i64 0, .int .i64 0, .slice none 0 0, .slice none 0 0, .slice none 0 0, .slice none 0 0] 27)).alloc (.cells (madeCells #[.slice none 0 0] N) 43)).alloc (.cells #[.int .i64 s, .int .i64 b, .slice none 0 0, .slice none 0 0, .slice (some ⟨w.heap.size + 1, 0, none⟩) N N, .slice none 0 0] 27) = W2) := ⟨_, Lib.hid rfl⟩
  have hs2 : W2.heap.size = w.heap.size + 1 + 1 + 1 := by rw [← HW2.out]; simp
  have HB2 : Hid (Below w.heap.size w W2) := Lib.hid (by rw [← HW2.out]; exact (((Below.refl _ _).alloc (Nat.le_refl _) _).alloc (by simp) _).alloc (by simp; omega) _)
  have hz : W2.heap[w.heap.size]? = some (.cells #[.int .i64 0, .int .i64 0, .slice none 0 0, .slice none 0 0, .slice none 0 0, .slice none 0 0] 27 (0, 0)) := by
    rw [← HW2.out, heap_alloc_old _ _ (by simp; omega), heap_alloc_old _ _ (by simp)]; exact heap_alloc_new w _
  have hq : W2.heap[w.heap.size + 1 + 1]? = some (.cells #[.int .i64 s, .int .i64 b, .slice none 0 0, .slice none 0 0, .slice (some ⟨w.heap.size + 1, 0, none⟩) N N, .slice none 0 0] 27 (0, 0)) := by
    rw [← HW2.out]
    have := heap_alloc_new ((w.alloc (.cells #[.int .i64 0, .int .i64 0, .slice none 0 0, .slice none 0 0, .slice none 0 0, .slice none 0 0] 27)).alloc (.cells (madeCells #[.slice none 0 0] N) 43)) (.cells #[.int .i64 s, .int .i64 b, .slice none 0 0, .slice none 0 0, .slice (some ⟨w.heap.size + 1, 0, none⟩) N N, .slice none 0 0] 27)
    simpa using this
  have HA : Hid (ON 1 (w.heap.size + 1) 43 W2 (.slice (some ⟨w.heap.size + 1, 0, none⟩) N N) N (fun _ => .slice none 0 0)) := Lib.hid (by
    rw [← HW2.out]
    have := (ON.made1 (e := 43) (w := w.alloc (.cells #[.int .i64 0, .int .i64 0, .slice none 0 0, .slice none 0 0, .slice none 0 0, .slice none 0 0] 27)) (N := N) (.slice none 0 0) (by unfold maxLen; omega)).below ((Below.refl _ _).alloc (Nat.le_refl _) (.cells #[.int .i64 s, .int .i64 b, .slice none 0 0, .slice none 0 0, .slice (some ⟨w.heap.size + 1, 0, none⟩) N N, .slice none 0 0] 27))
    simpa using this)
  obtain ⟨q, HQ⟩ : ∃ q, Hid (w.heap.size + 1 + 1 = q) := ⟨_, Lib.hid rfl⟩
  have hqr : w.heap.size < q := by rw [← HQ.out]; omega
  rw [HQ.out] at hq hs2
  have HZ := Lib.hid hz
  have HQ0 := Lib.hid hq
  clear hz hq
  go_enter Try.func5, Try.ntmps5
  go_wp2_with (go_at_call 13; refine (settingValid_b h _).mono ?_; rintro e w' ⟨rfl, rfl⟩)
  clear hmk
  rw [HW2.out, HQ.out]
  have HN : Hid (N ≤ 6) := Lib.hid hN6
  go_loopw [23] (fun i wr => ∃ (k : Nat) (vF : Value) (F : Nat → Value), k ≤ N ∧ i = .int .i64 k ∧ wr.heap[q]? = some (.cells #[.int .i64 s, .int .i64 b, vF, .slice none 0 0, .slice (some ⟨w.heap.size + 1, 0, none⟩) N N, .slice none 0 0] 27 (0, 0)) ∧ ON 6 (q + 1) 39 wr vF k F ∧ NewF p k F ∧ Below q W2 wr) (fun i _ => N - (intOf i).toNat)
  case atStart => exact ⟨0, _, fun _ => .int .i64 0, Nat.zero_le _, rfl, HQ0.out, ON.nil, NewF.zero, Below.refl _ _⟩
  case round =>
    obtain ⟨k, vF, F, hk, rfl, hbox, hoF, hF, hb⟩ := hrel
    obtain ⟨A, c, rfl⟩ := hoF.rn.sl
    obtain ⟨x0, x1, x2, x3, x4, x5, xf⟩ := box_cells hbox
    have hql : q < wr.heap.size := (Array.getElem?_eq_some_iff.1 hbox).1
    by_cases hlt : k < N
    · go_wp2_with (first
        | (go_at_call 15; refine (HeadPublic_ib HP _).mono ?_; rintro e w' ⟨rfl, rfl⟩)
        | fail)
      clear x0 x1 x2 x3 x4 x5 xf
      refine (FeedNew_ik HK wr).mono ?_
      rintro e w1 ⟨rfl, hb1⟩
      have hb2 := hb1.alloc hb1.size (.cells #[.int .i64 p, .int .i64 0, .int .i64 0, .int .i64 0, .slice none 0 0, .slice none 0 0] 39)
      have hbox2 := (hb2.block q hql).trans hbox
      obtain ⟨x0, x1, x2, x3, x4, x5, xf⟩ := box_cells hbox2
      have hbox1 := (hb1.block q hql).trans hbox
      have hq1 : q < w1.heap.size := Nat.lt_of_lt_of_le hql hb1.size
      have hsz := hb1.size
      have n0 : (w1.alloc (.cells #[.int .i64 p, .int .i64 0, .int .i64 0, .int .i64 0, .slice none 0 0, .slice none 0 0] 39)).cell? ⟨w1.heap.size, 0, none⟩ = some (.int .i64 p) := cell_of_row _ _ 0 _ _ _ (heap_alloc_new w1 _)
      have hoF2 := (hoF.below hb1).below ((Below.refl w1.heap.size w1).alloc (Nat.le_refl _) (.cells #[.int .i64 p, .int .i64 0, .int .i64 0, .int .i64 0, .slice none 0 0, .slice none 0 0] 39))
      have hbs : q + 1 ≤ (w1.alloc (.cells #[.int .i64 p, .int .i64 0, .int .i64 0, .int .i64 0, .slice none 0 0, .slice none 0 0] 39)).heap.size := by simp; omega
      go_wp2_with (at_builtin; refine app_feed hoF2 hF Em.none Em.none (by omega) hbs rfl rfl rfl rfl (by simp) ?_; intro A' c' w3 F' ho3 hF3 hg3 hb3; have hbox3 := (hb3.block q (Nat.lt_succ_self q)).trans hbox2; obtain ⟨y0, y1, y2, y3, y4, y5, yf⟩ := box_cells hbox3)
      go_roundw
      case rel => exact ⟨k + 1, _, F', by omega, by go_num, box_set (i := 2) hbox3 _, ho3.setb (p := ⟨q, 2, none⟩) (Nat.lt_succ_self q) _, hF3, ((hb.trans (hb2.mono (Nat.le_of_lt hql))).trans (hb3.mono (Nat.le_succ q))).setCell (p := ⟨q, 2, none⟩) (Nat.le_refl q) _⟩
      case measure => simp [intOf]; omega
    · obtain rfl : k = N := by omega
      obtain ⟨z0, z1, z2, z3, z4, z5, zf⟩ := box_cells ((hb.block w.heap.size hqr).trans HZ.out)
      go_wp2
      refine bodyPost_ret (v := .tuple #[.agg #[.int .i64 s, .int .i64 b, .slice A k c, .slice none 0 0, .slice (some ⟨w.heap.size + 1, 0, none⟩) k k, .slice none 0 0], .bool true]) (by simp [results, Try.results5, go_sem, z0, z1, z2, z3, z4, z5]) rfl
        ⟨_, _, _, _, F, fun _ => .slice none 0 0, rfl, ?_, hF, ?_, fun _ _ => Em.none, Em.none, Em.none, ?_⟩
      · exact (((((((hoF.setb (p := ⟨w.heap.size, 0, none⟩) (by show w.heap.size < q + 1; omega) _).setb (p := ⟨w.heap.size, 1, none⟩) (by show w.heap.size < q + 1; omega) _).setb (p := ⟨w.heap.size, 2, none⟩) (by show w.heap.size < q + 1; omega) _).setb (p := ⟨w.heap.size, 3, none⟩) (by show w.heap.size < q + 1; omega) _).setb (p := ⟨w.heap.size, 4, none⟩) (by show w.heap.size < q + 1; omega) _).setb (p := ⟨w.heap.size, 5, none⟩) (by show w.heap.size < q + 1; omega) _)).mono (by omega)
      · have hA := HA.out.belowB hb (fun k hk => by cases hk; rw [← HQ.out]; exact Nat.lt_succ_self _)
        exact ((((((hA.setb (p := ⟨w.heap.size, 0, none⟩) (by show w.heap.size < w.heap.size + 1; omega) _).setb (p := ⟨w.heap.size, 1, none⟩) (by show w.heap.size < w.heap.size + 1; omega) _).setb (p := ⟨w.heap.size, 2, none⟩) (by show w.heap.size < w.heap.size + 1; omega) _).setb (p := ⟨w.heap.size, 3, none⟩) (by show w.heap.size < w.heap.size + 1; omega) _).setb (p := ⟨w.heap.size, 4, none⟩) (by show w.heap.size < w.heap.size + 1; omega) _).setb (p := ⟨w.heap.size, 5, none⟩) (by show w.heap.size < w.heap.size + 1; omega) _).mono (by omega)
      · exact below_set6 (HB2.out.trans (hb.mono (Nat.le_of_lt hqr))) (Nat.le_refl _) _ _ _ _ _ _
end Go.Proofs.Ytcplnfmcefkehaa
