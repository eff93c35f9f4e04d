/- Walk: the law FnExactFeedProve. -/
import Derived.Test.YtlhiabnablbkpaaWt
import Derived.Test.YtlhiabnablbkpaaWo
namespace Go.Proofs.Ytlhiabnablbkpaa
open Go.RowKit

/-- What a call of markFeed leaves. -/
def MarkFeedPost (B U k : Nat) (f : Fd) (vb vh : Value) (w : World) (en : Ending) (w' : World) : Prop :=
  en = .returned (.int .i64 ((k + f.bl.length + f.hv.length : Nat) : Int)) ∧ O1 Value.string B 9 w' vb ((List.range f.bl.length).map fun j => mtx (k + j)) ∧
    O1 Value.bool B 4 w' vh ((List.range f.hv.length).map fun j => ((k + f.bl.length + j) % 3 == 0)) ∧ Mid B U w w'
theorem markFeed_any (f : Fd) (vb vh : Value) (k B U : Nat) (w : World) (hf : FeedO B w f vb vh) (hU : U ≤ w.heap.size) (hub : ∀ g, vb.ownBlock = some g → g < U) (huh : ∀ g, vh.ownBlock = some g → g < U)
    (h1 : f.bl.length ≤ 1048576) (h2 : f.hv.length ≤ 1048576) (hk : k ≤ 10000000) :
    Calls Try.prog 29 #[.agg #[.int .i64 f.pub, .int .i64 f.hd.len, .int .i64 f.hd.dg, .int .i64 f.hd.sg, vb, vh], .int .i64 k] w (MarkFeedPost B U k f vb vh w) := by
  have hfa := hf.below ((Below.refl _ _).alloc (Nat.le_refl _) (.cells #[.int .i64 f.pub, .int .i64 f.hd.len, .int .i64 f.hd.dg, .int .i64 f.hd.sg, vb, vh] 34))
  have hne := Lib.hid (O1.ne_ hfa.bl hfa.hv (by decide))
  have hne2 := Lib.hid (O1.ne_ hfa.hv hfa.bl (by decide))
  have HU1 := Lib.hid hub
  have HU2 := Lib.hid huh
  have HL1 := Lib.hid (fun g => (hf.bl.lt g))
  have HL2 := Lib.hid (fun g => (hf.hv.lt g))
  clear hub huh
  have c5 : (w.alloc (.cells #[.int .i64 f.pub, .int .i64 f.hd.len, .int .i64 f.hd.dg, .int .i64 f.hd.sg, vb, vh] 34)).cell? ⟨w.heap.size, 5, none⟩ = some vh := cell_of_row _ _ 5 _ _ _ (heap_alloc_new w _)
  go_enter Try.func29, Try.ntmps29
  go_wp2_with fail
  refine (markStringS_any f.bl vb k B _ hfa.bl (by omega) (by omega)).mono ?_
  rintro e w1 ⟨rfl, ho1, hg1⟩
  have c51 : w1.cell? ⟨w.heap.size, 5, none⟩ = some vh := by
    rw [World.cell?_of_block (hg1.block w.heap.size (by simp) (fun e => by have := HL1.out _ e.symm; omega))]; exact c5
  have ho2 := hfa.hv.grown hg1 hne2.out
  go_wp2_with fail
  refine (markBoolS_any f.hv vh (k + f.bl.length) B _ ho2 (by omega) (by omega)).mono ?_
  rintro e w2 ⟨rfl, ho3, hg3⟩
  have ho4 := ho1.grown hg3 hne.out
  go_wp2
  go_ret
  refine ⟨rfl, ho4, ho3, ?_⟩
  refine (Mid.of_below ((Below.refl _ _).alloc (Nat.le_refl _) _)).trans ((Mid.grown hg1 fun g hg => ?_).trans (Mid.grown hg3 fun g hg => ?_))
  · exact ⟨(HL1.out g hg).1, HU1.out g hg⟩
  · exact ⟨(HL2.out g hg).1, HU2.out g hg⟩

theorem fprove_len (f : Fd) (i : Int) : (fprove f i).length ≤ 40 := by
  unfold fprove; split
  · unfold proofOf; split
    · rename_i h
      simp only [Bool.and_eq_true, leavesOk_true, inB, decide_eq_true_eq] at h
      obtain ⟨⟨h1, _⟩, h2, h3⟩ := h
      have h4 := (pk_ok (lvs f.bl).length (by omega) i.toNat (by omega)).2.2.1
      have h5 := trees_len 0 (lvs f.bl).length
      have h6 : (others (lvs f.bl) i.toNat).length ≤ 17 := by
        unfold others; rw [List.length_map]; exact Nat.le_trans (List.length_eraseIdx_le _ _) h5
      unfold proofAt sibs; rw [List.length_append, List.length_map, List.length_range]; omega
    · simp
  · simp
set_option maxHeartbeats 3200000 in
set_option maxRecDepth 100000 in
theorem FnExactFeedProve_any (f : Fd) (va vh : Value) (i : Int) (w : World) (hf : FeedR w f va vh) (hs : ∀ s ∈ f.bl, s.size ≤ maxLen) :
    Calls Try.prog 3 #[.agg #[.int .i64 f.pub, .int .i64 f.hd.len, .int .i64 f.hd.dg, .int .i64 f.hd.sg, va, vh], .int .i64 i] w fun e w' => e = .returned (.bool true) ∧ Below w.heap.size w w' := by
  have HS := Lib.hid hs
  clear hs
  obtain ⟨W0, HW0⟩ : ∃ W0, Hid (w.alloc (.cells #[.int .i64 f.pub, .int .i64 f.hd.len, .int .i64 f.hd.dg, .int .i64 f.hd.sg, va, vh] 27) = W0) := ⟨_, Lib.hid rfl⟩
  have HB0 : Hid (Below w.heap.size w W0) := Lib.hid (by rw [← HW0.out]; exact (Below.refl _ _).alloc (Nat.le_refl _) _)
  have hs0 : w.heap.size + 1 = W0.heap.size := by rw [← HW0.out]; simp
  have HS0 := Lib.hid hs0
  have hl0 : w.heap.size < W0.heap.size := by omega
  clear hs0
  have c0 : W0.cell? ⟨w.heap.size, 0, none⟩ = some (.int .i64 f.pub) := by rw [← HW0.out]; exact cell_of_row _ _ 0 _ _ _ (heap_alloc_new w _)
  have c1 : W0.cell? ⟨w.heap.size, 1, none⟩ = some (.int .i64 f.hd.len) := by rw [← HW0.out]; exact cell_of_row _ _ 1 _ _ _ (heap_alloc_new w _)
  have c2 : W0.cell? ⟨w.heap.size, 2, none⟩ = some (.int .i64 f.hd.dg) := by rw [← HW0.out]; exact cell_of_row _ _ 2 _ _ _ (heap_alloc_new w _)
  have c3 : W0.cell? ⟨w.heap.size, 3, none⟩ = some (.int .i64 f.hd.sg) := by rw [← HW0.out]; exact cell_of_row _ _ 3 _ _ _ (heap_alloc_new w _)
  have c4 : W0.cell? ⟨w.heap.size, 4, none⟩ = some va := by rw [← HW0.out]; exact cell_of_row _ _ 4 _ _ _ (heap_alloc_new w _)
  have c5 : W0.cell? ⟨w.heap.size, 5, none⟩ = some vh := by rw [← HW0.out]; exact cell_of_row _ _ 5 _ _ _ (heap_alloc_new w _)
  have HF0 : Hid (FeedR W0 f va vh) := Lib.hid (hf.below HB0.out)
  go_enter Try.func3, Try.ntmps3
  go_wp2_with fail
  rw [HW0.out]
  refine (szFeed_any f va vh 1048576 W0 HF0.out HS.out (by omega) (by omega)).mono ?_
  rintro e w1 ⟨r, rfl, hr1, hr2, hb1⟩
  by_cases hr : r < 0
  · go_wp2
    go_ret
    exact ⟨rfl, HB0.out.trans (hb1.mono (by omega))⟩
  obtain ⟨hn1, hn2⟩ := hr2 (by omega)
  clear hr2
  have hcc := bcell hb1
  go_wp2_with fail
  refine (toFeed_any f va vh _ (HF0.out.below hb1) hn1 hn2).mono ?_
  rintro e w2 ⟨ub, uh, rfl, ho2, hb2⟩
  clear hcc
  have hb02 := below_bb hb1 hb2
  go_wp2_with fail
  refine (FeedProve_s f i _ _ _ ho2.r).mono ?_
  rintro e w3 ⟨v3, rfl, ho3, hb3⟩
  have hb03 := below_bb hb02 hb3
  have R3 := Lib.hid ho3.r1
  have hcc := bcell hb03
  have z3 := hb03.size
  go_wp2_with fail
  refine (toFeed_any f va vh _ (HF0.out.below hb03) hn1 hn2).mono ?_
  rintro e w4 ⟨xb, xh, rfl, ho4, hb4⟩
  clear hcc
  have hb04 := below_bb hb03 hb4
  have hcc := bcell hb04
  obtain ⟨xA, xc, rfl⟩ := ho4.bl.sl
  obtain ⟨yA, yc, rfl⟩ := ho4.hv.sl
  have z4 := hb04.size
  obtain ⟨W4, HW4⟩ : ∃ W4, Hid (w4.alloc (.cells #[.int .i64 f.pub, .int .i64 f.hd.len, .int .i64 f.hd.dg, .int .i64 f.hd.sg, .slice xA f.bl.length xc, .slice yA f.hv.length yc] 34) = W4) := ⟨_, Lib.hid rfl⟩
  have hb4A : Below w4.heap.size w4 W4 := by rw [← HW4.out]; exact (Below.refl _ _).alloc (Nat.le_refl _) _
  have hs4 : w4.heap.size + 1 = W4.heap.size := by rw [← HW4.out]; simp
  have x0 : W4.cell? ⟨w4.heap.size, 0, none⟩ = some (.int .i64 f.pub) := by rw [← HW4.out]; exact cell_of_row _ _ 0 _ _ _ (heap_alloc_new w4 _)
  have x1 : W4.cell? ⟨w4.heap.size, 1, none⟩ = some (.int .i64 f.hd.len) := by rw [← HW4.out]; exact cell_of_row _ _ 1 _ _ _ (heap_alloc_new w4 _)
  have x2 : W4.cell? ⟨w4.heap.size, 2, none⟩ = some (.int .i64 f.hd.dg) := by rw [← HW4.out]; exact cell_of_row _ _ 2 _ _ _ (heap_alloc_new w4 _)
  have x3 : W4.cell? ⟨w4.heap.size, 3, none⟩ = some (.int .i64 f.hd.sg) := by rw [← HW4.out]; exact cell_of_row _ _ 3 _ _ _ (heap_alloc_new w4 _)
  have x4 : W4.cell? ⟨w4.heap.size, 4, none⟩ = some (.slice xA f.bl.length xc) := by rw [← HW4.out]; exact cell_of_row _ _ 4 _ _ _ (heap_alloc_new w4 _)
  have x5 : W4.cell? ⟨w4.heap.size, 5, none⟩ = some (.slice yA f.hv.length yc) := by rw [← HW4.out]; exact cell_of_row _ _ 5 _ _ _ (heap_alloc_new w4 _)
  have HS4 := Lib.hid hs4
  have hl4 : w4.heap.size < W4.heap.size := by omega
  have hl04 : w.heap.size < w4.heap.size := by omega
  have hl0W : W0.heap.size ≤ w4.heap.size := hb04.size
  clear hs4
  have ho4A := ho4.below hb4A
  have hb0A := hb04.trans (hb4A.mono hl0W)
  have hb3A : Below w3.heap.size w3 W4 := hb4.trans (hb4A.mono hb4.size)
  go_wp2_with fail
  rw [HW4.out]
  refine (FeedProve_i f i _ _ _ ho4A.r).mono ?_
  rintro e w5 ⟨v5, rfl, ho5, hb5⟩
  clear hcc
  have hb05 := below_bb hb0A hb5
  have hb35 : Below w3.heap.size w3 w5 := hb3A.trans (hb5.mono hb3A.size)
  go_wp2_with fail
  refine (eqIntS_same _ _ _ _ ho5.r1 (R3.out.below hb35)).mono ?_
  rintro e w6 ⟨rfl, hb6⟩
  have hbA6 := below_bb hb5 hb6
  have hb06 := below_bb hb05 hb6
  have hb36 : Below w3.heap.size w3 w6 := hb35.trans (hb6.mono hb35.size)
  have hff : (fproveOk f i != fproveOk f i) = false := by simp
  have p0 := (hb06.cell hl0).trans c0
  have p1 := (hb06.cell hl0).trans c1
  have p2 := (hb06.cell hl0).trans c2
  have p3 := (hb06.cell hl0).trans c3
  have p4 := (hb06.cell hl0).trans c4
  have p5 := (hb06.cell hl0).trans c5
  have q0 := (hbA6.cell hl4).trans x0
  have q1 := (hbA6.cell hl4).trans x1
  have q2 := (hbA6.cell hl4).trans x2
  have q3 := (hbA6.cell hl4).trans x3
  have q4 := (hbA6.cell hl4).trans x4
  have q5 := (hbA6.cell hl4).trans x5
  have hl06 : w.heap.size < w6.heap.size := Nat.lt_of_lt_of_le hl0 hb06.size
  have hl46 : w4.heap.size < w6.heap.size := Nat.lt_of_lt_of_le hl4 hbA6.size
  go_wp2_with fail
  go_region_held3 (fun w' => w'.cell? ⟨w.heap.size, 0, none⟩ = some (.int .i64 f.pub) ∧ w'.cell? ⟨w.heap.size, 1, none⟩ = some (.int .i64 f.hd.len) ∧ w'.cell? ⟨w.heap.size, 2, none⟩ = some (.int .i64 f.hd.dg) ∧ w'.cell? ⟨w.heap.size, 3, none⟩ = some (.int .i64 f.hd.sg) ∧ w'.cell? ⟨w.heap.size, 4, none⟩ = some (va) ∧ w'.cell? ⟨w.heap.size, 5, none⟩ = some (vh) ∧ w'.cell? ⟨w4.heap.size, 0, none⟩ = some (.int .i64 f.pub) ∧ w'.cell? ⟨w4.heap.size, 1, none⟩ = some (.int .i64 f.hd.len) ∧ w'.cell? ⟨w4.heap.size, 2, none⟩ = some (.int .i64 f.hd.dg) ∧ w'.cell? ⟨w4.heap.size, 3, none⟩ = some (.int .i64 f.hd.sg) ∧ w'.cell? ⟨w4.heap.size, 4, none⟩ = some (.slice xA f.bl.length xc) ∧ w'.cell? ⟨w4.heap.size, 5, none⟩ = some (.slice yA f.hv.length yc)) (first | exact ⟨p0, p1, p2, p3, p4, p5, q0, q1, q2, q3, q4, q5⟩ | exact ⟨kp0, kp1, kp2, kp3, kp4, kp5, kq0, kq1, kq2, kq3, kq4, kq5⟩ | exact ⟨lp0, lp1, lp2, lp3, lp4, lp5, lq0, lq1, lq2, lq3, lq4, lq5⟩)
    (first
      | (go_at_call 25; refine (toFeed_any f va vh _ ((HF0.out.below hb06).below (below_drew (Below.refl _ _))) hn1 hn2).mono ?_; rintro e w7 ⟨ub2, uh2, rfl, ho7, hb7⟩; have kp0 := (hb7.cell hl06).trans p0; have kp1 := (hb7.cell hl06).trans p1; have kp2 := (hb7.cell hl06).trans p2; have kp3 := (hb7.cell hl06).trans p3; have kp4 := (hb7.cell hl06).trans p4; have kp5 := (hb7.cell hl06).trans p5; have kq0 := (hb7.cell hl46).trans q0; have kq1 := (hb7.cell hl46).trans q1; have kq2 := (hb7.cell hl46).trans q2; have kq3 := (hb7.cell hl46).trans q3; have kq4 := (hb7.cell hl46).trans q4; have kq5 := (hb7.cell hl46).trans q5)
      | (go_at_call 28; refine (eqFeed_same f _ _ _ _ _ ((((ho4A.below hbA6).below (below_drew (Below.refl _ _))).below hb7).r) ho7.r).mono ?_; rintro e w8 ⟨rfl, hb8⟩; have hb78 := below_bb hb7 hb8; have lp0 := (hb78.cell hl06).trans p0; have lp1 := (hb78.cell hl06).trans p1; have lp2 := (hb78.cell hl06).trans p2; have lp3 := (hb78.cell hl06).trans p3; have lp4 := (hb78.cell hl06).trans p4; have lp5 := (hb78.cell hl06).trans p5; have lq0 := (hb78.cell hl46).trans q0; have lq1 := (hb78.cell hl46).trans q1; have lq2 := (hb78.cell hl46).trans q2; have lq3 := (hb78.cell hl46).trans q3; have lq4 := (hb78.cell hl46).trans q4; have lq5 := (hb78.cell hl46).trans q5))
  clear x0 x1 x2 x3 x4 x5 q0 q1 q2 q3 q4 q5 p0 p1 p2 p3 p4 p5 kp0 kp1 kp2 kp3 kp4 kp5 kq0 kq1 kq2 kq3 kq4 kq5
  have hb68 := below_bb (below_drew (Below.refl _ _)) hb78
  have hbA8 := below_bb hbA6 hb68
  have hb08 := below_bb hb06 hb68
  have hb38 : Below w3.heap.size w3 w8 := hb36.trans (hb68.mono hb36.size)
  have ho48 := ho4A.below hbA8
  have ho58 := ho5.below (below_bb hb6 hb68)
  have hU8 : w4.heap.size ≤ w8.heap.size := Nat.le_trans (Nat.le_of_lt hl4) hbA8.size
  have h38 : w3.heap.size ≤ w4.heap.size := hb4.size
  clear hb78 hb68 hbA6 hb06 hb36 hb05 hb35 hb6 hl06 hl46
  go_wp2_with fail
  refine (markFeed_any f _ _ 1 w3.heap.size w4.heap.size w8 ho48 hU8 (fun g hg => (ho4.bl.lt g hg).2) (fun g hg => (ho4.hv.lt g hg).2) hn1 hn2 (by decide)).mono ?_
  rintro e w9 ⟨rfl, -, -, hm9⟩
  have hb09 := hb08.trans (hm9.below (Nat.le_trans z3 (Nat.le_refl _)) hb08.size)
  have hb39 := hb38.trans (hm9.below (Nat.le_refl _) hb38.size)
  have ho59 := ho58.mid hm9 (Nat.le_of_lt hl4)
  clear hm9 hb08 hb38 ho58 ho48 hU8 hbA8 lp0 lp1 lp2 lp3 lp4 lp5 lq0 lq1 lq2 lq3 lq4 lq5 ho5 ho4 ho4A hb5 hb4 hb4A hb3A hb0A ho2 hb2 hb02 ho7 hb7 hb8
  have hge : ¬ ((1 + f.bl.length + f.hv.length : Nat) : Int) < 0 := by omega
  go_wp2_with fail
  refine (eqIntS_same _ _ _ _ ho59.r1 (R3.out.below hb39)).mono ?_
  rintro e w10 ⟨rfl, hb10⟩
  have hb0a := below_bb hb09 hb10
  have hb3a : Below w3.heap.size w3 w10 := hb39.trans (hb10.mono hb39.size)
  have hoa := ho59.below hb10
  clear hb09 hb39 ho59 hb10
  have hfl := fprove_len f i
  go_wp2_with fail
  refine (markIntS_any _ _ 1 _ _ hoa (by omega) (by decide)).mono ?_
  rintro e w11 ⟨rfl, hob, hg⟩
  have hm11 : Mid W4.heap.size w10.heap.size w10 w11 := Mid.grown hg (fun g hg => hoa.lt g hg)
  have hlW4 : W0.heap.size ≤ W4.heap.size := Nat.le_trans hl0W (Nat.le_of_lt hl4)
  have hb0b := hb0a.trans (hm11.below hlW4 hb0a.size)
  have hb3b := hb3a.trans (hm11.below (Nat.le_trans h38 (Nat.le_of_lt hl4)) hb3a.size)
  have hge2 : ¬ ((1 + (fprove f i).length : Nat) : Int) < 0 := by omega
  have hqm : (((1 + (fprove f i).length : Nat) : Int) != ((1 + (fprove f i).length : Nat) : Int)) = false := by simp
  clear hm11 hg hb0a hb3a hoa hge
  generalize hnn : (fprove f i).length = n at *
  have HN := Lib.hid hnn
  clear hnn
  go_wp2_with fail
  refine (heldIntS_any n _ 1 _ hob.r1 (by omega) (by decide)).mono ?_
  rintro e w12 ⟨rfl, hb12⟩
  have hb0c := below_bb hb0b hb12
  have hb3c : Below w3.heap.size w3 w12 := hb3b.trans (hb12.mono hb3b.size)
  have hoc := hob.below hb12
  clear hb0b hb3b hob hb12
  have hcc := bcell hb0c
  go_wp2_with fail
  refine (toFeed_any f va vh _ (HF0.out.below hb0c) hn1 hn2).mono ?_
  rintro e w13 ⟨zb, zh, rfl, ho13, hb13⟩
  clear hcc
  have hb0d := below_bb hb0c hb13
  have hb3d : Below w3.heap.size w3 w13 := hb3c.trans (hb13.mono hb3c.size)
  have hod := hoc.below hb13
  clear hb0c hb3c hoc hb13
  go_wp2_with fail
  refine (FeedProve_i f i _ _ _ ho13.r).mono ?_
  rintro e w14 ⟨v14, rfl, ho14, hb14⟩
  have hb0e := below_bb hb0d hb14
  have hb3e : Below w3.heap.size w3 w14 := hb3d.trans (hb14.mono hb3d.size)
  have hoe := hod.below hb14
  clear hb0d hb3d hod hb14 ho13
  go_wp2_with fail
  refine (eqIntS_same _ _ _ _ ho14.r1 (R3.out.below hb3e)).mono ?_
  rintro e w15 ⟨rfl, hb15⟩
  have hb0f := below_bb hb0e hb15
  have hof := hoe.below hb15
  clear hb0e hb3e hoe hb15 ho14
  go_wp2_with fail
  refine (heldIntS_any n _ 1 _ hof.r1 (by omega) (by decide)).mono ?_
  rintro e w16 ⟨rfl, hb16⟩
  have hb0g := below_bb hb0f hb16
  clear hb0f hof hb16
  go_wp2
  go_ret
  exact ⟨rfl, HB0.out.trans (hb0g.mono (Nat.le_of_lt hl0))⟩
end Go.Proofs.Ytlhiabnablbkpaa
