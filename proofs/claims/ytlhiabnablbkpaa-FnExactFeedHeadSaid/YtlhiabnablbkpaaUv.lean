/- Walk: the law FnExactFeedHead. -/
import Derived.Test.YtlhiabnablbkpaaTd
import Derived.Test.YtlhiabnablbkpaaVq
import Derived.Test.YtlhiabnablbkpaaWu
import Derived.Deep.CutBlock
import Derived.Deep.DeepCutAuto
namespace Go.Proofs.Ytlhiabnablbkpaa
open Go.RowKit

theorem FB.mid {B q B1 B2 : Nat} {w w' : World} {f : Fd} {vb vh : Value} (h : FB B q w f vb vh) (hm : Mid B1 B2 w w') (hB : B2 ≤ B) (hq : q < B1 ∨ B2 ≤ q) : FB B q w' f vb vh :=
  ⟨(hm.block q h.lt hq).trans h.box, h.fo.mid hm hB⟩
theorem FeedHead_ig {f o : Fd} {h : Hd} {l : List Int} {c : Int} (hh : Hid (fhead f h l = (o, c))) (vb vh lv : Value) (w : World) (hf : FeedR w f vb vh) (hl : RI w lv l) :
    Calls Try.prog 54 #[.agg #[.int .i64 f.pub, .int .i64 f.hd.len, .int .i64 f.hd.dg, .int .i64 f.hd.sg, vb, vh], .agg #[.int .i64 h.len, .int .i64 h.dg, .int .i64 h.sg], lv] w (FHPost o c w) := by
  have := FeedHead_i f h l vb vh lv w hf hl
  rw [hh.out] at this
  exact this
theorem FeedHead_sg {f o : Fd} {h : Hd} {l : List Int} {c : Int} (hh : Hid (fhead f h l = (o, c))) (vb vh lv : Value) (w : World) (hf : FeedR w f vb vh) (hl : RI w lv l) :
    Calls Try.prog 55 #[.agg #[.int .i64 f.pub, .int .i64 f.hd.len, .int .i64 f.hd.dg, .int .i64 f.hd.sg, vb, vh], .agg #[.int .i64 h.len, .int .i64 h.dg, .int .i64 h.sg], lv] w (FHPost o c w) := by
  have := FeedHead_s f h l vb vh lv w hf hl
  rw [hh.out] at this
  exact this
theorem fhead_len {f g : Fd} {h : Hd} {l : List Int} {c : Int} (hh : fhead f h l = (g, c)) {n : Nat} (h16 : 16 ≤ n) (h1 : f.bl.length ≤ n) (h2 : f.hv.length ≤ n) : g.bl.length ≤ n ∧ g.hv.length ≤ n := by
  unfold fhead at hh
  split at hh
  · rename_i hv
    have e1 := congrArg Prod.fst hh
    simp only at e1
    split at e1
    · rename_i h0
      obtain ⟨c1, _, _, _⟩ := hcode_done h0
      obtain ⟨b1, b2⟩ := hcheck_len c1
      obtain ⟨l1, l2, _⟩ := fvalid_len hv
      rw [← e1]
      simp [Fd.grow]
      omega
    · rw [← e1]; exact ⟨h1, h2⟩
  · cases hh; simp [Fd.zero]
/-- What a call of markFeed leaves: only the feed's own rows have turned. -/
def MarkFeedPost2 (B k : Nat) (f : Fd) (vb vh : Value) (w : World) (en : Ending) (w' : World) : Prop :=
  en = .returned (.int .i64 ((k + f.bl.length + f.hv.length : Nat) : Int)) ∧ O1 Value.string B 9 w' vb ((List.range f.bl.length).map fun j => mtx (k + j)) ∧
    O1 Value.bool B 4 w' vh ((List.range f.hv.length).map fun j => ((k + f.bl.length + j) % 3 == 0)) ∧ Below B w w' ∧ ∀ i, i < w.heap.size → vb.ownBlock ≠ some i → vh.ownBlock ≠ some i → w'.heap[i]? = w.heap[i]?
theorem markFeed2_any (f : Fd) (vb vh : Value) (k B : Nat) (w : World) (hf : FeedO B w f vb vh) (h1 : f.bl.length ≤ 1048576) (h2 : f.hv.length ≤ 1048576) (hk : k ≤ 10000000) (hB : B ≤ w.heap.size) :
    Calls Try.prog 29 #[.agg #[.int .i64 f.pub, .int .i64 f.hd.len, .int .i64 f.hd.dg, .int .i64 f.hd.sg, vb, vh], .int .i64 k] w (MarkFeedPost2 B k f vb vh w) := by
  have hfa := hf.below ((Below.refl _ _).alloc (Nat.le_refl _) (.cells #[.int .i64 f.pub, .int .i64 f.hd.len, .int .i64 f.hd.dg, .int .i64 f.hd.sg, vb, vh] 34))
  have hne := Lib.hid (O1.ne_ hfa.bl hfa.hv (by decide))
  have hne2 := Lib.hid (O1.ne_ hfa.hv hfa.bl (by decide))
  have HL1 := Lib.hid (fun g => (hf.bl.lt g))
  have HL2 := Lib.hid (fun g => (hf.hv.lt g))
  have hba := (Below.refl w.heap.size w).alloc (Nat.le_refl _) (.cells #[.int .i64 f.pub, .int .i64 f.hd.len, .int .i64 f.hd.dg, .int .i64 f.hd.sg, vb, vh] 34)
  have c5 : (w.alloc (.cells #[.int .i64 f.pub, .int .i64 f.hd.len, .int .i64 f.hd.dg, .int .i64 f.hd.sg, vb, vh] 34)).cell? ⟨w.heap.size, 5, none⟩ = some vh := cell_of_row _ _ 5 _ _ _ (heap_alloc_new w _)
  go_enter Try.func29, Try.ntmps29
  go_wp2_with fail
  refine (markStringS_any f.bl vb k B _ hfa.bl (by omega) (by omega)).mono ?_
  rintro e w1 ⟨rfl, ho1, hg1⟩
  have c51 : w1.cell? ⟨w.heap.size, 5, none⟩ = some vh := by
    rw [World.cell?_of_block (hg1.block w.heap.size (by simp) (fun e => by have := HL1.out _ e.symm; omega))]; exact c5
  have ho2 := hfa.hv.grown hg1 hne2.out
  go_wp2_with fail
  refine (markBoolS_any f.hv vh (k + f.bl.length) B _ ho2 (by omega) (by omega)).mono ?_
  rintro e w2 ⟨rfl, ho3, hg3⟩
  have ho4 := ho1.grown hg3 hne.out
  go_wp2
  go_ret
  refine ⟨rfl, ho4, ho3, ?_, fun i hi h1 h2 => ?_⟩
  · exact (((hba.mono hB).grown hg1 (Nat.le_trans hB hba.size) (fun g hg => (HL1.out g hg).1)).grown hg3 (Nat.le_trans hB (Nat.le_trans hba.size hg1.size)) (fun g hg => (HL2.out g hg).1))
  · have s1 := Nat.lt_of_lt_of_le hi hba.size
    exact (hg3.block i (Nat.lt_of_lt_of_le s1 hg1.size) (fun e => h2 e.symm)).trans ((hg1.block i s1 (fun e => h1 e.symm)).trans (hba.block i hi))
theorem lt_al (w : World) (o : Obj) : w.heap.size < (w.alloc o).heap.size := by simp
theorem lt_hp {w : World} {k : Nat} {o : Obj} (h : w.heap[k]? = some o) : k < w.heap.size := (Array.getElem?_eq_some_iff.1 h).1
theorem cell_ald {w : World} {k i : Nat} {o : Obj} (hk : k < w.heap.size) : (w.alloc o).drew.cell? ⟨k, i, none⟩ = w.cell? ⟨k, i, none⟩ := ((Below.refl w.heap.size w).alloc (Nat.le_refl _) o).cell (p := ⟨k, i, none⟩) hk
theorem below_st {a b c : World} (h : Below a.heap.size a b) (k : Below b.heap.size b c) : Below a.heap.size a c := h.trans (k.mono h.size)
theorem below_al {a b : World} (h : Below a.heap.size a b) (o : Obj) : Below a.heap.size a (b.alloc o) := h.alloc h.size o
set_option maxHeartbeats 3200000 in
set_option maxRecDepth 100000 in
theorem FnExactFeedHead_any (f : Fd) (va vh : Value) (h : Hd) (pv : Value) (l : List Int) (w : World) (hf : FeedR w f va vh) (hs : ∀ s ∈ f.bl, s.size ≤ maxLen) (hp : RI w pv l) :
    Calls Try.prog 20 #[.agg #[.int .i64 f.pub, .int .i64 f.hd.len, .int .i64 f.hd.dg, .int .i64 f.hd.sg, va, vh], .agg #[.int .i64 h.len, .int .i64 h.dg, .int .i64 h.sg], pv] w fun e w' => e = .returned (.bool true) ∧ Below w.heap.size w w' := by
  have HS := Lib.hid hs
  clear hs
  obtain ⟨W0, HW0⟩ : ∃ W0, Hid ((w.alloc (.cells #[.int .i64 f.pub, .int .i64 f.hd.len, .int .i64 f.hd.dg, .int .i64 f.hd.sg, va, vh] 27)).alloc (.cells #[.int .i64 h.len, .int .i64 h.dg, .int .i64 h.sg] 23) = W0) := ⟨_, Lib.hid rfl⟩
  have HB0 : Hid (Below w.heap.size w W0) := Lib.hid (by rw [← HW0.out]; exact ((Below.refl _ _).alloc (Nat.le_refl _) _).alloc (by simp) _)
  have hs0 : w.heap.size + 2 = W0.heap.size := by rw [← HW0.out]; simp
  have hl0 : w.heap.size < W0.heap.size := by omega
  have hl1 : w.heap.size + 1 < W0.heap.size := by omega
  have HP0 : Hid (W0.heap[w.heap.size]? = some (.cells #[.int .i64 f.pub, .int .i64 f.hd.len, .int .i64 f.hd.dg, .int .i64 f.hd.sg, va, vh] 27 (0, 0))) := Lib.hid (by
    rw [← HW0.out]; exact (((Below.refl (w.heap.size + 1) _).alloc (by simp) _).block w.heap.size (by omega)).trans (heap_alloc_new w _))
  have HY0 : Hid (W0.heap[w.heap.size + 1]? = some (.cells #[.int .i64 h.len, .int .i64 h.dg, .int .i64 h.sg] 23 (0, 0))) := Lib.hid (by
    rw [← HW0.out]; have := heap_alloc_new (w.alloc (.cells #[.int .i64 f.pub, .int .i64 f.hd.len, .int .i64 f.hd.dg, .int .i64 f.hd.sg, va, vh] 27)) (.cells #[.int .i64 h.len, .int .i64 h.dg, .int .i64 h.sg] 23); simpa using this)
  have HF0 : Hid (FeedR W0 f va vh) := Lib.hid (hf.below HB0.out)
  have HL0 : Hid (RI W0 pv l) := Lib.hid (hp.below HB0.out)
  obtain ⟨pA, pc, rfl, q1, q2, _⟩ := hp
  unfold maxLen at q2
  have hlm : l.length ≤ 9223372036854775807 := by have := q1.1; omega
  obtain ⟨fA, fc, rfl, _, _, _⟩ := hf.bl
  obtain ⟨fB, fd, rfl, _, _, _⟩ := hf.hv
  clear q1 q2 hf hs0
  obtain ⟨c0, c1, c2, c3, c4, c5, cf⟩ := box_cells HP0.out
  by_cases hll : 1048576 < l.length
  · have hl1' : (1048576 : Int) < (l.length : Int) := by omega
    go_enter Try.func20, Try.ntmps20
    go_wp2_with fail
    rw [HW0.out]
    go_ret
    exact ⟨rfl, HB0.out⟩
  have hl1' : ¬ (1048576 : Int) < (l.length : Int) := by omega
  have hlk : l.length ≤ 1048576 := by omega
  go_enter Try.func20, Try.ntmps20
  go_wp2_with fail
  rw [HW0.out]
  refine (szFeed_any f _ _ 1048576 W0 HF0.out HS.out (by omega) (by omega)).mono ?_
  rintro e w1 ⟨r, rfl, hr1, hr2, hb1⟩
  by_cases hr : r < 0
  · go_wp2
    go_ret
    exact ⟨rfl, HB0.out.trans (hb1.mono (Nat.le_of_lt hl0))⟩
  obtain ⟨hn1, hn2⟩ := hr2 (by omega)
  clear hr2
  clear c0 c1 c2 c3 c4 c5 cf
  obtain ⟨g, cc, HG⟩ : ∃ g c, Hid (fhead f h l = (g, c)) := ⟨_, _, Lib.hid rfl⟩
  obtain ⟨hgn1, hgn2⟩ := fhead_len HG.out (by omega) hn1 hn2
  have hbd : Below W0.heap.size W0 w1.drew := below_drew' hb1
  obtain ⟨c0, c1, c2, c3, c4, c5, cf⟩ := box_cells ((hbd.block _ hl0).trans HP0.out); obtain ⟨c6, c7, c8, cg⟩ := box3_cells ((hbd.block _ hl1).trans HY0.out)
  obtain ⟨v0, v1, v2, v3, v4, v5, vf⟩ := box_cells ((hb1.block _ hl0).trans HP0.out); obtain ⟨v6, v7, v8, vg⟩ := box3_cells ((hb1.block _ hl1).trans HY0.out)
  have hs1 := hb1.size
  go_upto_region 7 with fail
  go_cut [8, 9] (fun s8 s9 wx => ∃ (y : Nat) (ub uh : Value), s8 = .pointer (some ⟨y, 0, none⟩) ∧ s9 = .int .i64 cc ∧ FB W0.heap.size y wx g ub uh ∧ Below W0.heap.size W0 wx)
  case first =>
    go_region_held3 (fun w' => w'.cell? ⟨w.heap.size, 0, none⟩ = some (.int .i64 f.pub) ∧ w'.cell? ⟨w.heap.size, 1, none⟩ = some (.int .i64 f.hd.len) ∧ w'.cell? ⟨w.heap.size, 2, none⟩ = some (.int .i64 f.hd.dg) ∧ w'.cell? ⟨w.heap.size, 3, none⟩ = some (.int .i64 f.hd.sg) ∧ w'.cell? ⟨w.heap.size, 4, none⟩ = some (.slice fA f.bl.length fc) ∧ w'.cell? ⟨w.heap.size, 5, none⟩ = some (.slice fB f.hv.length fd) ∧ w'.cell? ⟨w.heap.size + 1, 0, none⟩ = some (.int .i64 h.len) ∧ w'.cell? ⟨w.heap.size + 1, 1, none⟩ = some (.int .i64 h.dg) ∧ w'.cell? ⟨w.heap.size + 1, 2, none⟩ = some (.int .i64 h.sg))
      (first | with_reducible exact ⟨c0, c1, c2, c3, c4, c5, c6, c7, c8⟩ | with_reducible exact ⟨m0, m1, m2, m3, m4, m5, m6, m7, m8⟩ | with_reducible exact ⟨n0, n1, n2, n3, n4, n5, n6, n7, n8⟩ | with_reducible exact ⟨s0, s1, s2, s3, s4, s5, s6, s7, s8⟩ | with_reducible exact ⟨t0, t1, t2, t3, t4, t5, t6, t7, t8⟩ | (with_reducible refine ⟨Eq.trans (cell_set6 ?_) t0, Eq.trans (cell_set6 ?_) t1, Eq.trans (cell_set6 ?_) t2, Eq.trans (cell_set6 ?_) t3, Eq.trans (cell_set6 ?_) t4, Eq.trans (cell_set6 ?_) t5, Eq.trans (cell_set6 ?_) t6, Eq.trans (cell_set6 ?_) t7, Eq.trans (cell_set6 ?_) t8⟩ <;> omega) | (with_reducible refine ⟨Eq.trans (cell_ald ?_) v0, Eq.trans (cell_ald ?_) v1, Eq.trans (cell_ald ?_) v2, Eq.trans (cell_ald ?_) v3, Eq.trans (cell_ald ?_) v4, Eq.trans (cell_ald ?_) v5, Eq.trans (cell_ald ?_) v6, Eq.trans (cell_ald ?_) v7, Eq.trans (cell_ald ?_) v8⟩ <;> omega) | (simp (maxDischargeDepth := 12) [*, World.cell?_alloc_some, World.cell?_setCell_far]; done))
      (first
        | (go_at_call 25; refine (toFeed_any f _ _ _ (HF0.out.below (by first | exact hbd | exact below_al hbd _)) hn1 hn2).mono ?_; rintro e w2 ⟨ub2, uh2, rfl, ho2, hb2⟩; have hbm : Below W0.heap.size W0 w2 := by (first | exact below_st hbd hb2 | exact below_st (below_al hbd _) hb2)
           have hsa := hbd.size; have hsm := hbm.size
           obtain ⟨m0, m1, m2, m3, m4, m5, mf⟩ := box_cells ((hbm.block _ hl0).trans HP0.out); obtain ⟨m6, m7, m8, mg⟩ := box3_cells ((hbm.block _ hl1).trans HY0.out)
           try (have hz2 := (hb2.block _ (lt_al _ _)).trans (heap_alloc_new _ _); obtain ⟨a0, a1, a2, a3, a4, a5, af⟩ := box_cells hz2))
        | (go_at_call 60; refine (toHead_any _ _ _ _).mono ?_; rintro e w3 ⟨rfl, hb3⟩; have h23 : Below w2.heap.size w2 w3 := by (first | exact hb3 | exact below_bb (below_alloc (Below.refl _ _) _) hb3)
           have hbn := below_st hbm h23; have hsn := hbn.size; obtain ⟨n0, n1, n2, n3, n4, n5, nf⟩ := box_cells ((hbn.block _ hl0).trans HP0.out); obtain ⟨n6, n7, n8, ng⟩ := box3_cells ((hbn.block _ hl1).trans HY0.out)
           try (have hz3 := (hb3.block _ (lt_al _ _)).trans (heap_alloc_new _ _); obtain ⟨a0, a1, a2, a3, a4, a5, af⟩ := box_cells hz3)
           try (have hz3 := (h23.block _ (lt_hp hz2)).trans hz2; obtain ⟨a0, a1, a2, a3, a4, a5, af⟩ := box_cells hz3))
        | (go_at_call 48; refine (toIntS_any l _ _ (HL0.out.below (by first | exact hbn | exact below_al hbn _)) hlk).mono ?_; rintro e w4 ⟨rfl, ho4, hb4⟩; try (simp only [World.size_alloc] at ho4)
           have h34 : Below w3.heap.size w3 w4 := by (first | exact hb4 | exact below_bb (below_alloc (Below.refl _ _) _) hb4)
           have hbs := below_st hbn h34; have hss := hbs.size; obtain ⟨s0, s1, s2, s3, s4, s5, sf⟩ := box_cells ((hbs.block _ hl0).trans HP0.out); obtain ⟨s6, s7, s8, sg⟩ := box3_cells ((hbs.block _ hl1).trans HY0.out)
           try (have hz4 := (hb4.block _ (lt_al _ _)).trans (heap_alloc_new _ _); obtain ⟨a0, a1, a2, a3, a4, a5, af⟩ := box_cells hz4)
           try (have hz4 := (h34.block _ (lt_hp hz3)).trans hz3; obtain ⟨a0, a1, a2, a3, a4, a5, af⟩ := box_cells hz4))
        | (go_at_call 55; refine (FeedHead_sg HG _ _ _ _ (by first | exact ((ho2.below h23).below h34).r | exact (((ho2.below h23).below h34).r).alloc _) (by first | exact ho4.r1 | exact ho4.r1.alloc _)).mono ?_; rintro e w5 ⟨ub5, uh5, rfl, hg5, hb5⟩; obtain ⟨wA, wc, rfl⟩ := hg5.bl.sl; obtain ⟨wB, wd, rfl⟩ := hg5.hv.sl
           have h45 : Below w4.heap.size w4 w5 := by (first | exact hb5 | exact below_bb (below_alloc (Below.refl _ _) _) hb5)
           have hg45 : FeedO w4.heap.size w5 g (.slice wA g.bl.length wc) (.slice wB g.hv.length wd) := by (first | exact hg5 | exact hg5.mono (Nat.le_of_lt (lt_al _ _)))
           have hbt := below_st hbs h45; have hst := hbt.size; obtain ⟨t0, t1, t2, t3, t4, t5, tf⟩ := box_cells ((hbt.block _ hl0).trans HP0.out); obtain ⟨t6, t7, t8, tg⟩ := box3_cells ((hbt.block _ hl1).trans HY0.out)
           try (have hz5 := (hb5.block _ (lt_al _ _)).trans (heap_alloc_new _ _); obtain ⟨a0, a1, a2, a3, a4, a5, af⟩ := box_cells hz5)
           try (have hz5 := (h45.block _ (lt_hp hz4)).trans hz4; obtain ⟨a0, a1, a2, a3, a4, a5, af⟩ := box_cells hz5)))
    all_goals
      go_wp2
      go_meet
      first
        | with_reducible exact ⟨_, _, _, rfl, rfl, FB.made (hg45.mono hss), below_al hbt _⟩
        | exact ⟨_, _, _, rfl, rfl, FB.fill hz5 (hg45.mono hss), below_set6 hbt (by omega) _ _ _ _ _ _⟩
  case rest =>
    obtain ⟨y1, ub4, uh4, rfl, rfl, hw5, hb05⟩ := hcut
    obtain ⟨wA, wk, rfl⟩ := hw5.fo.bl.sl
    obtain ⟨wB, wd, rfl⟩ := hw5.fo.hv.sl
    obtain ⟨W4, rfl⟩ : ∃ W4, W4 = wc := ⟨_, rfl⟩
    clear c0 c1 c2 c3 c4 c5 c6 c7 c8 cf cg v0 v1 v2 v3 v4 v5 v6 v7 v8 vf vg hbd hb1 hs1 hr1
    have HW5 := Lib.hid hw5
    clear hw5
    obtain ⟨c0, c1, c2, c3, c4, c5, cf⟩ := box_cells ((hb05.block _ hl0).trans HP0.out)
    go_wp2_with fail
    refine (toFeed_any f _ _ W4 (HF0.out.below hb05) hn1 hn2).mono ?_
    rintro e w5 ⟨ub5, uh5, rfl, ho5, hb5⟩
    obtain ⟨xA, xc, rfl⟩ := ho5.bl.sl
    obtain ⟨xB, xd, rfl⟩ := ho5.hv.sl
    have hx6 := FB.made ho5
    have hb45 := hb5.alloc hb5.size (.cells #[.int .i64 f.pub, .int .i64 f.hd.len, .int .i64 f.hd.dg, .int .i64 f.hd.sg, .slice xA f.bl.length xc, .slice xB f.hv.length xd] 34)
    have hlb : ∀ k, (Value.slice xA f.bl.length xc).ownBlock = some k → k < w5.heap.size := fun k hk => (ho5.bl.lt k hk).2
    have hlh : ∀ k, (Value.slice xB f.hv.length xd).ownBlock = some k → k < w5.heap.size := fun k hk => (ho5.hv.lt k hk).2
    have HLB := Lib.hid hlb; have HLH := Lib.hid hlh
    clear hlb hlh ho5 hb5
    go_wp2_with fail
    obtain ⟨W5, HW5b⟩ : ∃ W5, Hid (w5.alloc (.cells #[.int .i64 f.pub, .int .i64 f.hd.len, .int .i64 f.hd.dg, .int .i64 f.hd.sg, .slice xA f.bl.length xc, .slice xB f.hv.length xd] 34) = W5) := ⟨_, Lib.hid rfl⟩
    obtain ⟨y2, HY2⟩ : ∃ y2, Hid (w5.heap.size = y2) := ⟨_, Lib.hid rfl⟩
    rw [HW5b.out, HY2.out] at hx6
    rw [HW5b.out] at hb45 ⊢
    rw [HY2.out] at HLB HLH ⊢
    have hb05' := hb05.trans (hb45.mono hb05.size)
    have hxl : y2 < W5.heap.size := hx6.lt
    refine (toIntS_any l _ W5 (HL0.out.below hb05') hlk).mono ?_
    rintro e w6 ⟨rfl, ho6, hb6⟩
    obtain ⟨z3, HZ3⟩ : ∃ z3, Hid (W5.heap.size = z3) := ⟨_, Lib.hid rfl⟩
    have hyz : y2 < z3 := by rw [← HZ3.out]; exact hxl
    have hW4z : W4.heap.size ≤ z3 := by rw [← HZ3.out]; exact hb45.size
    rw [HZ3.out] at ho6 ⊢
    have hx6b := hx6.below hb6
    have hz36 := (ho6.lt z3 rfl).2
    have hb46 := hb45.trans (hb6.mono hb45.size)
    have hb06 := hb05.trans (hb46.mono hb05.size)
    have HX6 := Lib.hid hx6b
    clear hx6 hb05' hb45
    clear hx6b
    have hd6 : Below w6.heap.size w6 w6.drew := below_drew' (Below.refl _ _)
    obtain ⟨c0, c1, c2, c3, c4, c5, cf⟩ := box_cells (HX6.out.below hd6).box; obtain ⟨c6, c7, c8, cg⟩ := box3_cells (((hb06.trans (hd6.mono hb06.size)).block _ hl1).trans HY0.out)
    obtain ⟨v0, v1, v2, v3, v4, v5, vf⟩ := box_cells (HX6.out.below (Below.refl w6.heap.size w6)).box; obtain ⟨v6, v7, v8, vg⟩ := box3_cells (((hb06.trans ((Below.refl w6.heap.size w6).mono hb06.size)).block _ hl1).trans HY0.out)
    have hy2l : y2 < w6.heap.size := HX6.out.lt
    have hs06 := hb06.size
    go_upto_region 10 with fail
    go_cut [12, 13] (fun s12 s13 wx => ∃ (y : Nat) (ub uh : Value), s12 = .pointer (some ⟨y, 0, none⟩) ∧ s13 = .int .i64 cc ∧ w6.heap.size ≤ y ∧ FB w6.heap.size y wx g ub uh ∧ Below w6.heap.size w6 wx)
    case first =>
      go_region_held3 (fun w' => w'.cell? ⟨y2, 0, none⟩ = some (.int .i64 f.pub) ∧ w'.cell? ⟨y2, 1, none⟩ = some (.int .i64 f.hd.len) ∧ w'.cell? ⟨y2, 2, none⟩ = some (.int .i64 f.hd.dg) ∧ w'.cell? ⟨y2, 3, none⟩ = some (.int .i64 f.hd.sg) ∧ w'.cell? ⟨y2, 4, none⟩ = some (.slice xA f.bl.length xc) ∧ w'.cell? ⟨y2, 5, none⟩ = some (.slice xB f.hv.length xd) ∧ w'.cell? ⟨w.heap.size + 1, 0, none⟩ = some (.int .i64 h.len) ∧ w'.cell? ⟨w.heap.size + 1, 1, none⟩ = some (.int .i64 h.dg) ∧ w'.cell? ⟨w.heap.size + 1, 2, none⟩ = some (.int .i64 h.sg))
        (first | with_reducible exact ⟨c0, c1, c2, c3, c4, c5, c6, c7, c8⟩ | with_reducible exact ⟨n0, n1, n2, n3, n4, n5, n6, n7, n8⟩ | with_reducible exact ⟨t0, t1, t2, t3, t4, t5, t6, t7, t8⟩ | (with_reducible refine ⟨Eq.trans (cell_set6 ?_) t0, Eq.trans (cell_set6 ?_) t1, Eq.trans (cell_set6 ?_) t2, Eq.trans (cell_set6 ?_) t3, Eq.trans (cell_set6 ?_) t4, Eq.trans (cell_set6 ?_) t5, Eq.trans (cell_set6 ?_) t6, Eq.trans (cell_set6 ?_) t7, Eq.trans (cell_set6 ?_) t8⟩ <;> omega) | (with_reducible refine ⟨Eq.trans (cell_ald ?_) v0, Eq.trans (cell_ald ?_) v1, Eq.trans (cell_ald ?_) v2, Eq.trans (cell_ald ?_) v3, Eq.trans (cell_ald ?_) v4, Eq.trans (cell_ald ?_) v5, Eq.trans (cell_ald ?_) v6, Eq.trans (cell_ald ?_) v7, Eq.trans (cell_ald ?_) v8⟩ <;> omega) | (simp (maxDischargeDepth := 12) [*, World.cell?_alloc_some, World.cell?_setCell_far]; done))
        (first
          | (go_at_call 60; refine (toHead_any _ _ _ _).mono ?_; rintro e w7 ⟨rfl, hb7⟩; have h67 : Below w6.heap.size w6 w7 := by (first | exact below_st hd6 hb7 | exact below_st (below_al hd6 _) hb7)
             have hs67 := h67.size; obtain ⟨n0, n1, n2, n3, n4, n5, nf⟩ := box_cells (HX6.out.below h67).box; obtain ⟨n6, n7, n8, ng⟩ := box3_cells (((hb06.trans (h67.mono hb06.size)).block _ hl1).trans HY0.out)
             try (have hz7 := (hb7.block _ (lt_al _ _)).trans (heap_alloc_new _ _); obtain ⟨a0, a1, a2, a3, a4, a5, af⟩ := box_cells hz7))
          | (go_at_call 54; refine (FeedHead_ig HG _ _ _ _ (by first | exact (HX6.out.below h67).fo.r | exact ((HX6.out.below h67).fo.r).alloc _) (by first | exact (ho6.below h67).r1 | exact ((ho6.below h67).r1).alloc _)).mono ?_; rintro e w8 ⟨ub8, uh8, rfl, hg8, hb8⟩; obtain ⟨gA, gc, rfl⟩ := hg8.bl.sl; obtain ⟨gB, gd, rfl⟩ := hg8.hv.sl
             have h78 : Below w7.heap.size w7 w8 := by (first | exact hb8 | exact below_bb (below_alloc (Below.refl _ _) _) hb8)
             have hg78 : FeedO w7.heap.size w8 g (.slice gA g.bl.length gc) (.slice gB g.hv.length gd) := by (first | exact hg8 | exact hg8.mono (Nat.le_of_lt (lt_al _ _)))
             have h68 := below_st h67 h78; have hs68 := h68.size; obtain ⟨t0, t1, t2, t3, t4, t5, tf⟩ := box_cells (HX6.out.below h68).box; obtain ⟨t6, t7, t8, tg⟩ := box3_cells (((hb06.trans (h68.mono hb06.size)).block _ hl1).trans HY0.out)
             try (have hz8 := (hb8.block _ (lt_al _ _)).trans (heap_alloc_new _ _); obtain ⟨a0, a1, a2, a3, a4, a5, af⟩ := box_cells hz8)
             try (have hz8 := (h78.block _ (lt_hp hz7)).trans hz7; obtain ⟨a0, a1, a2, a3, a4, a5, af⟩ := box_cells hz8)))
      all_goals
        go_wp2
        go_meet
        first
          | with_reducible exact ⟨_, _, _, rfl, rfl, hs68, FB.made (hg78.mono hs67), below_al h68 _⟩
          | exact ⟨_, _, _, rfl, rfl, by omega, FB.fill hz8 (hg78.mono hs67), below_set6 h68 (by omega) _ _ _ _ _ _⟩
    case rest =>
      obtain ⟨y3, ub7, uh7, rfl, rfl, hy36, hg8, hb67⟩ := hcut
      obtain ⟨gA, gk, rfl⟩ := hg8.fo.bl.sl
      obtain ⟨gB, gd, rfl⟩ := hg8.fo.hv.sl
      obtain ⟨W7, rfl⟩ : ∃ W7, W7 = wc := ⟨_, rfl⟩
      clear c0 c1 c2 c3 c4 c5 c6 c7 c8 cf cg v0 v1 v2 v3 v4 v5 v6 v7 v8 vf vg hd6
      have HGW := Lib.hid hy36
      have hb47 := hb46.trans (hb67.mono hb46.size)
      have HX7 := Lib.hid (HX6.out.below hb67)
      have ho7 := ho6.below hb67
      obtain ⟨e0, e1, e2, e3, e4, e5, ef⟩ := box_cells hg8.box
      obtain ⟨d0, d1, d2, d3, d4, d5, df⟩ := box_cells (HW5.out.below hb47).box
      go_wp2_with fail
      refine (eqFeed_same g _ _ _ _ W7 hg8.fo.r (HW5.out.below hb47).fo.r).mono ?_
      rintro e w8 ⟨rfl, hb8⟩
      have hkk : (cc != cc) = false := by simp
      have hb48 := hb47.trans (hb8.mono hb47.size)
      have hb08 := hb05.trans (hb48.mono hb05.size)
      have HX8 := Lib.hid (HX7.out.below hb8)
      have HG8 := Lib.hid (hg8.below hb8)
      have HO8 := Lib.hid (ho7.below hb8)
      clear hb47 hb67 hb8 hg8 ho7 ho6 hb46 hb06 hb6 e0 e1 e2 e3 e4 e5 ef d0 d1 d2 d3 d4 d5 df
      have HC8 := Lib.hid ((hb08.block _ hl0).trans HP0.out)
      have hc8 : w8.drew.heap[w.heap.size]? = _ := HC8.out
      have hx8 : w8.drew.heap[y2]? = _ := HX8.out.box
      obtain ⟨c0, c1, c2, c3, c4, c5, cf⟩ := box_cells hc8
      obtain ⟨x0, x1, x2, x3, x4, x5, xf⟩ := box_cells hx8
      have hbd : Below w8.heap.size w8 w8.drew := below_drew (Below.refl _ _)
      have lp8 : w.heap.size < w8.drew.heap.size := Nat.lt_of_lt_of_le hl0 hb08.size
      have lx8 : y2 < w8.drew.heap.size := HX8.out.lt
      clear hc8 hx8
      go_wp2_with fail
      go_region_held3 (fun w' => w'.cell? ⟨w.heap.size, 0, none⟩ = some (.int .i64 f.pub) ∧ w'.cell? ⟨w.heap.size, 1, none⟩ = some (.int .i64 f.hd.len) ∧ w'.cell? ⟨w.heap.size, 2, none⟩ = some (.int .i64 f.hd.dg) ∧ w'.cell? ⟨w.heap.size, 3, none⟩ = some (.int .i64 f.hd.sg) ∧ w'.cell? ⟨w.heap.size, 4, none⟩ = some (.slice fA f.bl.length fc) ∧ w'.cell? ⟨w.heap.size, 5, none⟩ = some (.slice fB f.hv.length fd) ∧ w'.cell? ⟨y2, 0, none⟩ = some (.int .i64 f.pub) ∧ w'.cell? ⟨y2, 1, none⟩ = some (.int .i64 f.hd.len) ∧ w'.cell? ⟨y2, 2, none⟩ = some (.int .i64 f.hd.dg) ∧ w'.cell? ⟨y2, 3, none⟩ = some (.int .i64 f.hd.sg) ∧ w'.cell? ⟨y2, 4, none⟩ = some (.slice xA f.bl.length xc) ∧ w'.cell? ⟨y2, 5, none⟩ = some (.slice xB f.hv.length xd))
        (first | with_reducible exact ⟨c0, c1, c2, c3, c4, c5, x0, x1, x2, x3, x4, x5⟩ | with_reducible exact ⟨m0, m1, m2, m3, m4, m5, n0, n1, n2, n3, n4, n5⟩ | with_reducible exact ⟨s0, s1, s2, s3, s4, s5, r0, r1, r2, r3, r4, r5⟩)
        (first
          | (go_at_call 25; refine (toFeed_any f _ _ _ (HF0.out.below (hb08.trans (hbd.mono hb08.size))) hn1 hn2).mono ?_; rintro e w9 ⟨ub9, uh9, rfl, ho9, hb9⟩; have hm9 := (hb9.block _ lp8).trans HC8.out; have hn9 := (hb9.block _ lx8).trans HX8.out.box; obtain ⟨m0, m1, m2, m3, m4, m5, mf⟩ := box_cells hm9; obtain ⟨n0, n1, n2, n3, n4, n5, nf⟩ := box_cells hn9; clear hm9 hn9)
          | (go_at_call 28; refine (eqFeed_same f _ _ _ _ _ (((HX8.out.below hbd).below hb9).fo.r) ho9.r).mono ?_; rintro e w10 ⟨rfl, hb10⟩; have hb910 := below_bb hb9 hb10; have hs10 := (hb910.block _ lp8).trans HC8.out; have hr10 := (hb910.block _ lx8).trans HX8.out.box; obtain ⟨s0, s1, s2, s3, s4, s5, sf⟩ := box_cells hs10; obtain ⟨r0, r1, r2, r3, r4, r5, rf⟩ := box_cells hr10; clear hs10 hr10))
      have hb810 : Below w8.heap.size w8 w10 := below_bb hbd hb910
      clear c0 c1 c2 c3 c4 c5 cf
      clear x0 x1 x2 x3 x4 x5 xf
      clear m0 m1 m2 m3 m4 m5 mf
      clear n0 n1 n2 n3 n4 n5 nf
      clear s0 s1 s2 s3 s4 s5 sf
      clear r0 r1 r2 r3 r4 r5 rf
      clear hb9 hb10 ho9 hb910 hbd lp8 lx8
      have hb410 := hb48.trans (hb810.mono hb48.size)
      have hb010 := hb05.trans (hb410.mono hb05.size)
      have HX10 := Lib.hid (HX8.out.below hb810)
      have HG10 := Lib.hid (HG8.out.below hb810)
      have HO10 := Lib.hid (HO8.out.below hb810)
      clear hb810 hb48 hb08
      go_wp2_with fail
      refine (toIntS_any l _ w10 (HL0.out.below hb010) hlk).mono ?_
      rintro e w11 ⟨rfl, ho11, hb11⟩
      go_wp2_with fail
      refine (eqIntS_same l _ _ w11 (HO10.out.below hb11).r1 ho11.r1).mono ?_
      rintro e w12 ⟨rfl, hb12⟩
      have hb1012 := below_bb hb11 hb12
      have hb412 := hb410.trans (hb1012.mono hb410.size)
      have hx12 := HX10.out.below hb1012
      have HG12 := Lib.hid (HG10.out.below hb1012)
      have HO12 := Lib.hid (HO10.out.below hb1012)
      clear ho11 hb11 hb12 hb1012 hb410 hb010
      obtain ⟨x0, x1, x2, x3, x4, x5, xf⟩ := box_cells hx12.box
      have hy2l : y2 ≤ w12.heap.size := Nat.le_of_lt hx12.lt
      have HX12 := Lib.hid hx12
      clear hx12
      go_wp2_with fail
      refine (markFeed_any f _ _ 1 W4.heap.size y2 w12 HX12.out.fo hy2l HLB.out HLH.out hn1 hn2 (by decide)).mono ?_
      rintro e w13 ⟨rfl, -, -, hm13⟩
      have hy26 : y2 ≤ w6.heap.size := by omega
      have hy36 : w6.heap.size ≤ y3 := by have := HGW.out; omega
      have hb413 := hb412.trans (hm13.below (Nat.le_refl _) hb412.size)
      have HG13 := Lib.hid (HG12.out.mid hm13 hy26 (.inr (by omega)))
      have ho13 := HO12.out.mid hm13 (by omega)
      clear x0 x1 x2 x3 x4 x5 xf
      clear hm13 hb412 hy2l
      obtain ⟨K1, HK1⟩ : ∃ K1 : Nat, Hid (1 + f.bl.length + f.hv.length = K1) := ⟨_, Lib.hid rfl⟩
      rw [HK1.out]
      have hK1 : K1 ≤ 3000000 := by have := HK1.out; omega
      go_wp2_with fail
      refine (markIntS_any l _ K1 z3 w13 ho13 (by omega) (by omega)).mono ?_
      rintro e w14 ⟨rfl, -, hg14⟩
      have hm14 : Mid z3 (z3 + 1) w13 w14 := Mid.grown hg14 (fun k hk => by (have : z3 = k := Option.some.inj hk); omega)
      have hb414 := hb413.trans (hm14.below (by omega) hb413.size)
      have HG14 := Lib.hid (HG13.out.mid hm14 (by omega) (.inr (by omega)))
      have hge : ¬ ((K1 + l.length : Nat) : Int) < 0 := by omega
      clear hm14 hg14 ho13 hb413
      have hw14 := HW5.out.below hb414
      obtain ⟨e0, e1, e2, e3, e4, e5, ef⟩ := box_cells HG14.out.box
      obtain ⟨d0, d1, d2, d3, d4, d5, df⟩ := box_cells hw14.box
      have HW14 := Lib.hid hw14
      clear hw14
      go_wp2_with fail
      refine (eqFeed_same g _ _ _ _ w14 HG14.out.fo.r HW14.out.fo.r).mono ?_
      rintro e w15 ⟨rfl, hb15⟩
      have hb415 := hb414.trans (hb15.mono hb414.size)
      have HG15 := Lib.hid (HG14.out.below hb15)
      clear e0 e1 e2 e3 e4 e5 ef
      clear d0 d1 d2 d3 d4 d5 df
      clear hb414 hb15 hge
      obtain ⟨e0, e1, e2, e3, e4, e5, ef⟩ := box_cells HG15.out.box
      have hy3l : y3 ≤ w15.heap.size := Nat.le_of_lt HG15.out.lt
      go_wp2_with fail
      refine (markFeed2_any g _ _ 1 w6.heap.size w15 HG15.out.fo hgn1 hgn2 (by decide) (by omega)).mono ?_
      rintro e w16 ⟨rfl, hob, hoh, hbm16, hm16⟩
      have hb416 := hb415.trans (hbm16.mono (by omega))
      have HE16 := Lib.hid ((hm16 y3 HG15.out.lt HG15.out.nb HG15.out.nh).trans HG15.out.box)
      clear hbm16
      have HOB := Lib.hid hob
      have HOH := Lib.hid hoh
      clear e0 e1 e2 e3 e4 e5 ef
      clear hm16 hob hoh hb415
      obtain ⟨e0, e1, e2, e3, e4, e5, ef⟩ := box_cells HE16.out
      have g2 : ¬ ((1 + g.bl.length + g.hv.length : Nat) : Int) < 0 := by omega
      have hqm : (((1 + g.bl.length + g.hv.length : Nat) : Int) != ((1 + g.bl.length + g.hv.length : Nat) : Int)) = false := by simp
      go_wp2_with fail
      refine (heldFeed_any g.pub g.hd.len g.hd.dg g.hd.sg g.bl.length g.hv.length 1 _ _ w16 HOB.out.r1 HOH.out.r1 (by omega) (by omega) (by decide)).mono ?_
      rintro e w17 ⟨rfl, hb17⟩
      have hb417 := hb416.trans (hb17.mono hb416.size)
      have hb017 := hb05.trans (hb417.mono hb05.size)
      have HC17 := Lib.hid ((hb017.block _ hl0).trans HP0.out)
      clear e0 e1 e2 e3 e4 e5 ef hb416
      have HF0x := Lib.hid (HF0.out.below hb017)
      have HL0x := Lib.hid (HL0.out.below hb017)
      have HP0x := Lib.hid ((hb017.block _ hl0).trans HP0.out)
      have HY0x := Lib.hid ((hb017.block _ hl1).trans HY0.out)
      have hl0x := Nat.lt_of_lt_of_le hl0 hb017.size
      have hl1x := Nat.lt_of_lt_of_le hl1 hb017.size
      have hd17 : Below w17.heap.size w17 w17.drew := below_drew' (Below.refl _ _)
      obtain ⟨c0, c1, c2, c3, c4, c5, cf⟩ := box_cells ((hd17.block _ hl0x).trans HP0x.out); obtain ⟨c6, c7, c8, cg⟩ := box3_cells ((hd17.block _ hl1x).trans HY0x.out)
      obtain ⟨v0, v1, v2, v3, v4, v5, vf⟩ := box_cells (((Below.refl w17.heap.size w17).block _ hl0x).trans HP0x.out); obtain ⟨v6, v7, v8, vg⟩ := box3_cells (((Below.refl w17.heap.size w17).block _ hl1x).trans HY0x.out)
      go_upto_region 30 with fail
      go_cut [17, 18] (fun s17 s18 wx => ∃ (y : Nat) (ub uh : Value), s17 = .pointer (some ⟨y, 0, none⟩) ∧ s18 = .int .i64 cc ∧ FB w17.heap.size y wx g ub uh ∧ Below w17.heap.size w17 wx)
      case first =>
        go_region_held3 (fun w' => w'.cell? ⟨w.heap.size, 0, none⟩ = some (.int .i64 f.pub) ∧ w'.cell? ⟨w.heap.size, 1, none⟩ = some (.int .i64 f.hd.len) ∧ w'.cell? ⟨w.heap.size, 2, none⟩ = some (.int .i64 f.hd.dg) ∧ w'.cell? ⟨w.heap.size, 3, none⟩ = some (.int .i64 f.hd.sg) ∧ w'.cell? ⟨w.heap.size, 4, none⟩ = some (.slice fA f.bl.length fc) ∧ w'.cell? ⟨w.heap.size, 5, none⟩ = some (.slice fB f.hv.length fd) ∧ w'.cell? ⟨w.heap.size + 1, 0, none⟩ = some (.int .i64 h.len) ∧ w'.cell? ⟨w.heap.size + 1, 1, none⟩ = some (.int .i64 h.dg) ∧ w'.cell? ⟨w.heap.size + 1, 2, none⟩ = some (.int .i64 h.sg))
          (first | with_reducible exact ⟨c0, c1, c2, c3, c4, c5, c6, c7, c8⟩ | with_reducible exact ⟨m0, m1, m2, m3, m4, m5, m6, m7, m8⟩ | with_reducible exact ⟨n0, n1, n2, n3, n4, n5, n6, n7, n8⟩ | with_reducible exact ⟨s0, s1, s2, s3, s4, s5, s6, s7, s8⟩ | with_reducible exact ⟨t0, t1, t2, t3, t4, t5, t6, t7, t8⟩ | (with_reducible refine ⟨Eq.trans (cell_set6 ?_) t0, Eq.trans (cell_set6 ?_) t1, Eq.trans (cell_set6 ?_) t2, Eq.trans (cell_set6 ?_) t3, Eq.trans (cell_set6 ?_) t4, Eq.trans (cell_set6 ?_) t5, Eq.trans (cell_set6 ?_) t6, Eq.trans (cell_set6 ?_) t7, Eq.trans (cell_set6 ?_) t8⟩ <;> omega) | (with_reducible refine ⟨Eq.trans (cell_ald ?_) v0, Eq.trans (cell_ald ?_) v1, Eq.trans (cell_ald ?_) v2, Eq.trans (cell_ald ?_) v3, Eq.trans (cell_ald ?_) v4, Eq.trans (cell_ald ?_) v5, Eq.trans (cell_ald ?_) v6, Eq.trans (cell_ald ?_) v7, Eq.trans (cell_ald ?_) v8⟩ <;> omega) | (simp (maxDischargeDepth := 12) [*, World.cell?_alloc_some, World.cell?_setCell_far]; done))
          (first
            | (go_at_call 25; refine (toFeed_any f _ _ _ (HF0x.out.below (by first | exact hd17 | exact below_al hd17 _)) hn1 hn2).mono ?_; rintro e w2 ⟨ub2, uh2, rfl, ho2, hb2⟩; have hbm : Below w17.heap.size w17 w2 := by (first | exact below_st hd17 hb2 | exact below_st (below_al hd17 _) hb2)
               have hsa := hd17.size; have hsm := hbm.size
               obtain ⟨m0, m1, m2, m3, m4, m5, mf⟩ := box_cells ((hbm.block _ hl0x).trans HP0x.out); obtain ⟨m6, m7, m8, mg⟩ := box3_cells ((hbm.block _ hl1x).trans HY0x.out)
               try (have hz2 := (hb2.block _ (lt_al _ _)).trans (heap_alloc_new _ _); obtain ⟨a0, a1, a2, a3, a4, a5, af⟩ := box_cells hz2))
            | (go_at_call 60; refine (toHead_any _ _ _ _).mono ?_; rintro e w3 ⟨rfl, hb3⟩; have h23 : Below w2.heap.size w2 w3 := by (first | exact hb3 | exact below_bb (below_alloc (Below.refl _ _) _) hb3)
               have hbn := below_st hbm h23; have hsn := hbn.size; obtain ⟨n0, n1, n2, n3, n4, n5, nf⟩ := box_cells ((hbn.block _ hl0x).trans HP0x.out); obtain ⟨n6, n7, n8, ng⟩ := box3_cells ((hbn.block _ hl1x).trans HY0x.out)
               try (have hz3 := (hb3.block _ (lt_al _ _)).trans (heap_alloc_new _ _); obtain ⟨a0, a1, a2, a3, a4, a5, af⟩ := box_cells hz3)
               try (have hz3 := (h23.block _ (lt_hp hz2)).trans hz2; obtain ⟨a0, a1, a2, a3, a4, a5, af⟩ := box_cells hz3))
            | (go_at_call 48; refine (toIntS_any l _ _ (HL0x.out.below (by first | exact hbn | exact below_al hbn _)) hlk).mono ?_; rintro e w4 ⟨rfl, ho4, hb4⟩; try (simp only [World.size_alloc] at ho4)
               have h34 : Below w3.heap.size w3 w4 := by (first | exact hb4 | exact below_bb (below_alloc (Below.refl _ _) _) hb4)
               have hbs := below_st hbn h34; have hss := hbs.size; obtain ⟨s0, s1, s2, s3, s4, s5, sf⟩ := box_cells ((hbs.block _ hl0x).trans HP0x.out); obtain ⟨s6, s7, s8, sg⟩ := box3_cells ((hbs.block _ hl1x).trans HY0x.out)
               try (have hz4 := (hb4.block _ (lt_al _ _)).trans (heap_alloc_new _ _); obtain ⟨a0, a1, a2, a3, a4, a5, af⟩ := box_cells hz4)
               try (have hz4 := (h34.block _ (lt_hp hz3)).trans hz3; obtain ⟨a0, a1, a2, a3, a4, a5, af⟩ := box_cells hz4))
            | (go_at_call 54; refine (FeedHead_ig HG _ _ _ _ (by first | exact ((ho2.below h23).below h34).r | exact (((ho2.below h23).below h34).r).alloc _) (by first | exact ho4.r1 | exact ho4.r1.alloc _)).mono ?_; rintro e w5 ⟨ub5, uh5, rfl, hg5, hb5⟩; obtain ⟨uA, uc, rfl⟩ := hg5.bl.sl; obtain ⟨uB, ud, rfl⟩ := hg5.hv.sl
               have h45 : Below w4.heap.size w4 w5 := by (first | exact hb5 | exact below_bb (below_alloc (Below.refl _ _) _) hb5)
               have hg45 : FeedO w4.heap.size w5 g (.slice uA g.bl.length uc) (.slice uB g.hv.length ud) := by (first | exact hg5 | exact hg5.mono (Nat.le_of_lt (lt_al _ _)))
               have hbt := below_st hbs h45; have hst := hbt.size; obtain ⟨t0, t1, t2, t3, t4, t5, tf⟩ := box_cells ((hbt.block _ hl0x).trans HP0x.out); obtain ⟨t6, t7, t8, tg⟩ := box3_cells ((hbt.block _ hl1x).trans HY0x.out)
               try (have hz5 := (hb5.block _ (lt_al _ _)).trans (heap_alloc_new _ _); obtain ⟨a0, a1, a2, a3, a4, a5, af⟩ := box_cells hz5)
               try (have hz5 := (h45.block _ (lt_hp hz4)).trans hz4; obtain ⟨a0, a1, a2, a3, a4, a5, af⟩ := box_cells hz5)))
        all_goals
          go_wp2
          go_meet
          first
            | with_reducible exact ⟨_, _, _, rfl, rfl, FB.made (hg45.mono hss), below_al hbt _⟩
            | exact ⟨_, _, _, rfl, rfl, FB.fill hz5 (hg45.mono hss), below_set6 hbt (by omega) _ _ _ _ _ _⟩
      case rest =>
        obtain ⟨y5, ub20, uh20, rfl, rfl, hh21, hb1721⟩ := hcut
        obtain ⟨uA, uk, rfl⟩ := hh21.fo.bl.sl
        obtain ⟨uB, ud, rfl⟩ := hh21.fo.hv.sl
        obtain ⟨W21, rfl⟩ : ∃ W21, W21 = wc := ⟨_, rfl⟩
        clear c0 c1 c2 c3 c4 c5 c6 c7 c8 cf cg v0 v1 v2 v3 v4 v5 v6 v7 v8 vf vg hd17
        have hb421 := hb417.trans (hb1721.mono hb417.size)
        obtain ⟨e0, e1, e2, e3, e4, e5, ef⟩ := box_cells hh21.box
        obtain ⟨d0, d1, d2, d3, d4, d5, df⟩ := box_cells (HW5.out.below hb421).box
        go_wp2_with fail
        clear e0 e1 e2 e3 e4 e5 ef
        refine (eqFeed_same g _ _ _ _ _ hh21.fo.r (HW5.out.below hb421).fo.r).mono ?_
        rintro e w22 ⟨rfl, hb22⟩
        have hb1622 := below_bb (below_bb hb17 hb1721) hb22
        have hb022 := hb05.trans ((hb421.trans (hb22.mono hb421.size)).mono hb05.size)
        have HE22 := Lib.hid ((hb1622.block y3 (by have := (Array.getElem?_eq_some_iff.1 HE16.out).1; exact this)).trans HE16.out)
        clear d0 d1 d2 d3 d4 d5 df
        clear hh21
        obtain ⟨e0, e1, e2, e3, e4, e5, ef⟩ := box_cells HE22.out
        go_wp2_with fail
        refine (heldFeed_any g.pub g.hd.len g.hd.dg g.hd.sg g.bl.length g.hv.length 1 _ _ w22 (HOB.out.below hb1622).r1 (HOH.out.below hb1622).r1 (by omega) (by omega) (by decide)).mono ?_
        rintro e w23 ⟨rfl, hb23⟩
        go_wp2
        go_ret
        exact ⟨rfl, HB0.out.trans ((hb022.trans (hb23.mono hb022.size)).mono (Nat.le_of_lt hl0))⟩
end Go.Proofs.Ytlhiabnablbkpaa
