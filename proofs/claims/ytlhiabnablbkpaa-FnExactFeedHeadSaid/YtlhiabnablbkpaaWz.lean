/- Walks: blocks are drawn; a feed is copied. -/
import Derived.Test.YtlhiabnablbkpaaWy
namespace Go.Proofs.Ytlhiabnablbkpaa
open Go.RowKit

theorem Rdr.set {w : World} {g P : Nat} (h : Rdr w g P) {p : Addr} (hp : g < p.block) (u : Value) : Rdr (w.setCell p u) g P := h.keep fun k hk => Below.heap_setCell w p u k (by omega)
/-- What l91Blocks leaves. -/
def BlocksPost (g P : Nat) (w : World) (e : Ending) (w' : World) : Prop :=
  ∃ (v : Value) (bl : List ByteArray), e = .returned v ∧ O1 Value.string w.heap.size 9 w' v bl ∧ bl.length ≤ 16 ∧ (∀ s ∈ bl, s.size ≤ 8) ∧ Rdr w' g P ∧ Only g w w'
set_option maxHeartbeats 1000000 in
set_option maxRecDepth 100000 in
theorem l91Blocks_any (g P : Nat) (w : World) (hr : Rdr w g P) (hP : P ≤ 100000) : Calls Try.prog 82 #[.pointer (some ⟨g, 0, none⟩)] w (BlocksPost g (P + 300) w) := by
  have hgl := hr.lt
  have ha : Rdr (w.alloc (.cells #[] 9)) g P := hr.below ((Below.refl _ _).alloc (Nat.le_refl _) _)
  have HO0 : Hid (Only g w (w.alloc (.cells #[] 9))) := Lib.hid (Only.of_below ((Below.refl _ _).alloc (Nat.le_refl _) _))
  have HM0 := Lib.hid (O1.made Value.string w 9)
  go_enter Try.func82, Try.ntmps82
  go_wp2_with fail
  refine (pick_any g P 13 _ ha (by omega) (by omega) (by omega)).mono ?_
  rintro e w1 ⟨x, rfl, x1, x2, r1, o1⟩
  go_wp2_with fail
  refine (pick_any g (P + 1) 8 _ r1 (by omega) (by omega) (by omega)).mono ?_
  rintro e w2 ⟨y, rfl, y1, y2, r2, o2⟩
  have HO2 : Hid (Only g w w2) := Lib.hid (HO0.out.trans (o1.trans o2))
  have HM2 : Hid (O1 Value.string w.heap.size 9 w2 (.slice (some ⟨w.heap.size, 0, none⟩) 0 0) []) := Lib.hid ((HM0.out.only o1 hgl).only o2 hgl)
  clear HO0 HM0 o1 o2 r1 ha
  by_cases hy : y = 0
  · subst hy
    go_wp2
    go_loopw [3, 5] (fun v i wr => ∃ (bl : List ByteArray), (bl.length : Int) ≤ 16 ∧ i = .int .i64 bl.length ∧ O1 Value.string w.heap.size 9 wr v bl ∧ (∀ s ∈ bl, s.size ≤ 8) ∧ Rdr wr g (P + 2 + 13 * bl.length) ∧ Only g w wr) (fun _ i _ => (16 - intOf i).toNat)
    case atStart => exact ⟨[], by simp; try omega, rfl, HM2.out, by simp, r2, HO2.out⟩
    case round =>
      obtain ⟨bl, hk, rfl, ho, hs, hrr, hoo⟩ := hrel
      have HSS := Lib.hid hs
      clear hs
      by_cases hlt : (bl.length : Int) < 16
      · go_wp2_with fail
        refine (l91Text_any g _ _ hrr (by omega)).mono ?_
        rintro e w4 ⟨t, rfl, ht, r4, o4⟩
        have ho4 := ho.only o4 hgl
        obtain ⟨A, c, rfl⟩ := ho4.sl
        by_cases h8 : 8 < t.size
        · have h8' : (t.extract 0 8).size = 8 := by simp; omega
          have HT8 := Lib.hid h8'
          clear h8'
          go_wp2_with (at_builtin; refine app_str ho4 (by omega) (by have := o4.size; have := hoo.size; omega) rfl rfl rfl rfl ?_; intro v5 w5 ho5 hg5)
          go_roundw
          case rel =>
            refine ⟨bl ++ [t.extract 0 8], by simp; omega, by simp, ho5, fun s hs => ?_, by simp; exact (r4.grown hg5 (fun r e => Nat.lt_of_lt_of_le hgl (ho4.lt r e).1)).mono (by omega), (hoo.trans o4).grown hg5 (fun r e => (ho4.lt r e).1)⟩
            rcases List.mem_append.1 hs with hs | hs
            · exact HSS.out s hs
            · obtain rfl : s = _ := by simpa using hs
              rw [HT8.out]; exact Nat.le_refl _
          case measure => simp [intOf]; omega
        · have h8' : ¬ 8 < (t.size : Int) := by omega
          go_wp2_with (at_builtin; refine app_str ho4 (by omega) (by have := o4.size; have := hoo.size; omega) rfl rfl rfl rfl ?_; intro v5 w5 ho5 hg5)
          go_roundw
          case rel =>
            refine ⟨bl ++ [t], by simp; omega, by simp, ho5, fun s hs => ?_, by simp; exact (r4.grown hg5 (fun r e => Nat.lt_of_lt_of_le hgl (ho4.lt r e).1)).mono (by omega), (hoo.trans o4).grown hg5 (fun r e => (ho4.lt r e).1)⟩
            rcases List.mem_append.1 hs with hs | hs
            · exact HSS.out s hs
            · obtain rfl : s = _ := by simpa using hs
              omega
          case measure => simp [intOf]; omega
      · go_wp2
        go_ret
        exact ⟨_, bl, rfl, ho, by omega, HSS.out, hrr.mono (by omega), hoo⟩
  · have hy' : (y == 0) = false := by rw [beq_eq_false_iff_ne]; exact hy
    go_wp2
    go_loopw [3, 5] (fun v i wr => ∃ (bl : List ByteArray), (bl.length : Int) ≤ x ∧ i = .int .i64 bl.length ∧ O1 Value.string w.heap.size 9 wr v bl ∧ (∀ s ∈ bl, s.size ≤ 8) ∧ Rdr wr g (P + 2 + 13 * bl.length) ∧ Only g w wr) (fun _ i _ => (x - intOf i).toNat)
    case atStart => exact ⟨[], by simp; try omega, rfl, HM2.out, by simp, r2, HO2.out⟩
    case round =>
      obtain ⟨bl, hk, rfl, ho, hs, hrr, hoo⟩ := hrel
      have HSS := Lib.hid hs
      clear hs
      by_cases hlt : (bl.length : Int) < x
      · go_wp2_with fail
        refine (l91Text_any g _ _ hrr (by omega)).mono ?_
        rintro e w4 ⟨t, rfl, ht, r4, o4⟩
        have ho4 := ho.only o4 hgl
        obtain ⟨A, c, rfl⟩ := ho4.sl
        by_cases h8 : 8 < t.size
        · have h8' : (t.extract 0 8).size = 8 := by simp; omega
          have HT8 := Lib.hid h8'
          clear h8'
          go_wp2_with (at_builtin; refine app_str ho4 (by omega) (by have := o4.size; have := hoo.size; omega) rfl rfl rfl rfl ?_; intro v5 w5 ho5 hg5)
          go_roundw
          case rel =>
            refine ⟨bl ++ [t.extract 0 8], by simp; omega, by simp, ho5, fun s hs => ?_, by simp; exact (r4.grown hg5 (fun r e => Nat.lt_of_lt_of_le hgl (ho4.lt r e).1)).mono (by omega), (hoo.trans o4).grown hg5 (fun r e => (ho4.lt r e).1)⟩
            rcases List.mem_append.1 hs with hs | hs
            · exact HSS.out s hs
            · obtain rfl : s = _ := by simpa using hs
              rw [HT8.out]; exact Nat.le_refl _
          case measure => simp [intOf]; omega
        · have h8' : ¬ 8 < (t.size : Int) := by omega
          go_wp2_with (at_builtin; refine app_str ho4 (by omega) (by have := o4.size; have := hoo.size; omega) rfl rfl rfl rfl ?_; intro v5 w5 ho5 hg5)
          go_roundw
          case rel =>
            refine ⟨bl ++ [t], by simp; omega, by simp, ho5, fun s hs => ?_, by simp; exact (r4.grown hg5 (fun r e => Nat.lt_of_lt_of_le hgl (ho4.lt r e).1)).mono (by omega), (hoo.trans o4).grown hg5 (fun r e => (ho4.lt r e).1)⟩
            rcases List.mem_append.1 hs with hs | hs
            · exact HSS.out s hs
            · obtain rfl : s = _ := by simpa using hs
              omega
          case measure => simp [intOf]; omega
      · go_wp2
        go_ret
        exact ⟨_, bl, rfl, ho, by omega, HSS.out, hrr.mono (by omega), hoo⟩

theorem box_cells {w : World} {p : Nat} {t : TypeId} {x0 x1 x2 x3 x4 x5 : Value} (h : w.heap[p]? = some (.cells #[x0, x1, x2, x3, x4, x5] t (0, 0))) :
    w.cell? ⟨p, 0, none⟩ = some x0 ∧ w.cell? ⟨p, 1, none⟩ = some x1 ∧ w.cell? ⟨p, 2, none⟩ = some x2 ∧ w.cell? ⟨p, 3, none⟩ = some x3 ∧ w.cell? ⟨p, 4, none⟩ = some x4 ∧ w.cell? ⟨p, 5, none⟩ = some x5 ∧ ∀ i, w.frozen? ⟨p, i, none⟩ = false :=
  ⟨cell_of_row _ _ 0 _ _ _ h, cell_of_row _ _ 1 _ _ _ h, cell_of_row _ _ 2 _ _ _ h, cell_of_row _ _ 3 _ _ _ h, cell_of_row _ _ 4 _ _ _ h, cell_of_row _ _ 5 _ _ _ h, fun i => by simp [World.frozen?, h]⟩
/-- What a copy of a feed leaves. -/
def CopyPost (f : Fd) (w : World) (e : Ending) (w' : World) : Prop :=
  ∃ ub uh, e = .returned (.agg #[.int .i64 f.pub, .int .i64 f.hd.len, .int .i64 f.hd.dg, .int .i64 f.hd.sg, ub, uh]) ∧ FeedO w.heap.size w' f ub uh ∧ Below w.heap.size w w'
set_option maxHeartbeats 1000000 in
set_option maxRecDepth 100000 in
theorem l11Copy_any (f : Fd) (vb vh : Value) (w : World) (hf : FeedR w f vb vh) (h1 : f.bl.length ≤ 1000000) (h2 : f.hv.length ≤ 1000000) :
    Calls Try.prog 117 #[.agg #[.int .i64 f.pub, .int .i64 f.hd.len, .int .i64 f.hd.dg, .int .i64 f.hd.sg, vb, vh]] w (CopyPost f w) := by
  obtain ⟨W0, HW0⟩ : ∃ W0, Hid ((w.alloc (.cells #[.int .i64 f.pub, .int .i64 f.hd.len, .int .i64 f.hd.dg, .int .i64 f.hd.sg, vb, vh] 34)).alloc (.cells #[.int .i64 0, .int .i64 0, .int .i64 0, .int .i64 0, .slice none 0 0, .slice none 0 0] 34) = W0) := ⟨_, Lib.hid rfl⟩
  have HB0 : Hid (Below w.heap.size w W0) := Lib.hid (by rw [← HW0.out]; exact ((Below.refl _ _).alloc (Nat.le_refl _) _).alloc (by simp) _)
  have hs0 : w.heap.size + 2 = W0.heap.size := by rw [← HW0.out]; simp
  have hp0 : W0.heap[w.heap.size]? = some (.cells #[.int .i64 f.pub, .int .i64 f.hd.len, .int .i64 f.hd.dg, .int .i64 f.hd.sg, vb, vh] 34 (0, 0)) := by
    rw [← HW0.out]; exact (((Below.refl (w.heap.size + 1) _).alloc (by simp) _).block w.heap.size (by omega)).trans (heap_alloc_new w _)
  have hz0 : W0.heap[w.heap.size + 1]? = some (.cells #[.int .i64 0, .int .i64 0, .int .i64 0, .int .i64 0, .slice none 0 0, .slice none 0 0] 34 (0, 0)) := by
    rw [← HW0.out]; have := heap_alloc_new (w.alloc (.cells #[.int .i64 f.pub, .int .i64 f.hd.len, .int .i64 f.hd.dg, .int .i64 f.hd.sg, vb, vh] 34)) (.cells #[.int .i64 0, .int .i64 0, .int .i64 0, .int .i64 0, .slice none 0 0, .slice none 0 0] 34); simpa using this
  have HP0 := Lib.hid hp0
  have HZ0 := Lib.hid hz0
  have HBA := Lib.hid ((Below.refl W0.heap.size W0).alloc (Nat.le_refl _) (.cells #[] 9))
  have HRB := Lib.hid ((hf.bl.below HB0.out).below HBA.out)
  have HRV := Lib.hid hf.hv
  have HM0 := Lib.hid (O1.made Value.string W0 9)
  obtain ⟨A, c, rfl, _, _, _⟩ := hf.bl
  obtain ⟨B, d, rfl, _, _, _⟩ := hf.hv
  clear hp0 hz0 hf
  have hl0 : w.heap.size < W0.heap.size := by omega
  have hl1 : w.heap.size + 1 < W0.heap.size := by omega
  go_enter Try.func117, Try.ntmps117
  go_wp2_with (first
    | (at_builtin; rw [HW0.out]; refine app_strs HM0.out HRB.out (by simp; omega) (by simp) rfl rfl rfl rfl ?_; intro v5 w5 ho5 hb5; obtain ⟨tA, tn, tc, rfl, ht5⟩ := ho5.sl2
       have hb05 := HBA.out.trans hb5
       have hp5 := (hb05.block _ hl0).trans HP0.out
       have hz5 := (hb05.block _ hl1).trans HZ0.out
       obtain ⟨p0, p1, p2, p3, p4, p5, pf⟩ := box_cells hp5
       have l5 : w.heap.size < w5.heap.size := Nat.lt_of_lt_of_le hl0 hb05.size
       have l51 : w.heap.size + 1 < w5.heap.size := Nat.lt_of_lt_of_le hl1 hb05.size
       obtain ⟨W1, HW1⟩ : ∃ W1, Hid (w5.setCell ⟨w.heap.size, 4, none⟩ (.slice tA tn tc) = W1) := ⟨_, Lib.hid rfl⟩
       have hb1 := (HB0.out.trans (hb05.mono (Nat.le_of_lt hl0))).setCell (p := ⟨w.heap.size, 4, none⟩) (Nat.le_refl _) (.slice tA tn tc)
       have hp1 : (w5.setCell ⟨w.heap.size, 4, none⟩ (.slice tA tn tc)).heap[w.heap.size]? = some (.cells #[.int .i64 f.pub, .int .i64 f.hd.len, .int .i64 f.hd.dg, .int .i64 f.hd.sg, .slice tA tn tc, .slice B f.hv.length d] 34 (0, 0)) := box_set (i := 4) hp5 _
       have hz1 := (Below.heap_setCell w5 ⟨w.heap.size, 4, none⟩ (.slice tA tn tc) (w.heap.size + 1) (by simp)).trans hz5
       have ho1 := ho5.setb (p := ⟨w.heap.size, 4, none⟩) hl0 (.slice tA tn tc)
       have hl10 : W0.heap.size ≤ w5.heap.size := hb05.size
       rw [HW1.out] at hb1 hp1 hz1 ho1
       have HB1 := Lib.hid hb1; have HP1 := Lib.hid hp1; have HZ1 := Lib.hid hz1; have HO1 := Lib.hid ho1
       have HR1 := Lib.hid ((HRV.out.below hb1).alloc (.cells #[] 4))
       have hs15 : W1.heap.size = w5.heap.size := by rw [← HW1.out]; simp
       have HM1 := Lib.hid (O1.made' (enc := Value.bool) (e := 4) hs15)
       have HS15 := Lib.hid hs15
       clear hs15
       clear hb1 hp1 hz1 ho1
       clear hp5 hz5 hb05 hb5 ho5)
    | (at_builtin; rw [HW1.out]; refine app_bools HM1.out HR1.out (by simp; omega) (by rw [← HS15.out]; simp) rfl rfl rfl rfl ?_; intro v6 w6 ho6 hb6; obtain ⟨sA, sn, sc, rfl, hs6⟩ := ho6.sl2
       have hb16 : Below w5.heap.size W1 w6 := ((Below.refl w5.heap.size W1).alloc (Nat.le_of_eq HS15.out.symm) _).trans hb6
       have hp6 := (hb16.block _ l5).trans HP1.out
       have hz6 := (hb16.block _ l51).trans HZ1.out
       obtain ⟨q0, q1, q2, q3, q4, q5, qf⟩ := box_cells hp6
       have l6 : w.heap.size < w6.heap.size := Nat.lt_of_lt_of_le l5 (Nat.le_trans (Nat.le_of_eq HS15.out.symm) hb16.size)
       have l61 : w.heap.size + 1 < w6.heap.size := Nat.lt_of_lt_of_le l51 (Nat.le_trans (Nat.le_of_eq HS15.out.symm) hb16.size)
       obtain ⟨r0, r1, r2, r3, r4, r5, rf⟩ := box_cells hz6
       have HB6 := Lib.hid hb16; have HO6 := Lib.hid ho6
       clear hp6 hz6 hb6 hb16 ho6))
  refine bodyPost_ret (v := .agg #[.int .i64 f.pub, .int .i64 f.hd.len, .int .i64 f.hd.dg, .int .i64 f.hd.sg, .slice tA tn tc, .slice sA sn sc]) (by simp [results, Try.results117, go_sem, r0, r1, r2, r3, r4, r5]) rfl ⟨_, _, rfl, ?_, ?_⟩
  · have hfo : FeedO W0.heap.size w6 f (.slice tA tn tc) (.slice sA sn sc) := ⟨HO1.out.below (by rw [HS15.out]; exact HB6.out), HO6.out.mono hl10⟩
    exact (FeedO.set6 ⟨hfo.bl.setb hl0 _, hfo.hv.setb hl0 _⟩ hl1 _ _ _ _ _ _).mono (Nat.le_of_lt hl0)
  · exact below_set6 ((HB1.out.trans (HB6.out.mono (Nat.le_of_lt l5))).setCell (Nat.le_refl _) _) (Nat.le_succ _) _ _ _ _ _ _
end Go.Proofs.Ytlhiabnablbkpaa
