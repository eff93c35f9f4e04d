/- Walk: the draw of FeedHead; words for the laws on FeedHead. -/
import Derived.Test.YtlhiabnablbkpaaTd
import Derived.Test.YtlhiabnablbkpaaVb
import Derived.Test.YtlhiabnablbkpaaWp
import Derived.Deep.CutBlock
import Derived.Deep.DeepCutAuto
namespace Go.Proofs.Ytlhiabnablbkpaa

open Go.RowKit

theorem O1.set6 {α : Type} {enc : α → Value} {B q : Nat} {e : TypeId} {w : World} {v : Value} {l : List α} (h : O1 enc B e w v l) (hq : q < B) (x0 x1 x2 x3 x4 x5 : Value) : O1 enc B e ((((((w.setCell ⟨q, 0, none⟩ x0).setCell ⟨q, 1, none⟩ x1).setCell ⟨q, 2, none⟩ x2).setCell ⟨q, 3, none⟩ x3).setCell ⟨q, 4, none⟩ x4).setCell ⟨q, 5, none⟩ x5) v l :=
  (((((h.setb hq _).setb hq _).setb hq _).setb hq _).setb hq _).setb hq _
/-- What DrawFeedHead leaves. -/
def DrawHeadPost (w : World) (e : Ending) (w' : World) : Prop :=
  ∃ (f : Fd) (ub uh : Value) (h : Hd) (gv : Value) (gl : List Int), e = .returned (.tuple #[.agg #[.int .i64 f.pub, .int .i64 f.hd.len, .int .i64 f.hd.dg, .int .i64 f.hd.sg, ub, uh], .agg #[.int .i64 h.len, .int .i64 h.dg, .int .i64 h.sg], gv]) ∧ FeedO w.heap.size w' f ub uh ∧ f.bl.length ≤ 17 ∧ f.hv.length ≤ 17 ∧ (∀ x ∈ f.bl, x.size ≤ 10) ∧ RI w' gv gl ∧ gl.length ≤ 100 ∧ Below w.heap.size w w'
def hcells (h : Hd) : Obj := .cells #[.int .i64 h.len, .int .i64 h.dg, .int .i64 h.sg] 32
theorem grow_len (l : List Int) (m : Int) : (growOf l m).length ≤ 34 := by
  unfold growOf; split
  · rw [List.length_map]; exact gtrees_len _ _
  · simp
theorem FB.setz {B q z : Nat} {w : World} {f : Fd} {vb vh : Value} {cur : Array Value} {x : Nat × Nat} (h : FB B q w f vb vh) (hz : w.heap[z]? = some (.cells cur 32 x)) (hne : q ≠ z) (i : Nat) (u : Value) : FB B q (w.setCell ⟨z, i, none⟩ u) f vb vh :=
  ⟨(Below.heap_setCell _ _ _ _ hne).trans h.box, ⟨h.fo.bl.setq hz (by decide) _ _, h.fo.hv.setq hz (by decide) _ _⟩⟩
theorem O1.set3z {α : Type} {enc : α → Value} {B z : Nat} {e : TypeId} {w : World} {v : Value} {l : List α} {h : Hd} (k : O1 enc B e w v l) (hz : w.heap[z]? = some (.cells #[.int .i64 h.len, .int .i64 h.dg, .int .i64 h.sg] 32 (0, 0))) (he : e ≠ 32) (h2 : Hd) :
    O1 enc B e (((w.setCell ⟨z, 0, none⟩ (.int .i64 h2.len)).setCell ⟨z, 1, none⟩ (.int .i64 h2.dg)).setCell ⟨z, 2, none⟩ (.int .i64 h2.sg)) v l := by
  have b0 := box_set (i := 0) hz (.int .i64 h2.len)
  have b1 := box_set (i := 1) b0 (.int .i64 h2.dg)
  exact ((k.setq hz he _ _).setq b0 he _ _).setq b1 he _ _
theorem O1.set3d {α : Type} {enc : α → Value} {B q : Nat} {e : TypeId} {w : World} {v : Value} {l : List α} (h : O1 enc B e w v l) (hq : q < B) (x0 x1 x2 : Value) : O1 enc B e (((w.setCell ⟨q, 0, none⟩ x0).setCell ⟨q, 1, none⟩ x1).setCell ⟨q, 2, none⟩ x2).drew v l :=
  ((h.setb (p := ⟨q, 0, none⟩) hq x0).setb (p := ⟨q, 1, none⟩) hq x1).setb (p := ⟨q, 2, none⟩) hq x2
theorem FeedO.set3d {B q : Nat} {w : World} {f : Fd} {vb vh : Value} (h : FeedO B w f vb vh) (hq : q < B) (x0 x1 x2 : Value) : FeedO B (((w.setCell ⟨q, 0, none⟩ x0).setCell ⟨q, 1, none⟩ x1).setCell ⟨q, 2, none⟩ x2).drew f vb vh := ⟨h.bl.set3d hq x0 x1 x2, h.hv.set3d hq x0 x1 x2⟩
theorem below_set3d {B q : Nat} {a w : World} (h : Below B a w) (hq : B ≤ q) (x0 x1 x2 : Value) : Below B a (((w.setCell ⟨q, 0, none⟩ x0).setCell ⟨q, 1, none⟩ x1).setCell ⟨q, 2, none⟩ x2).drew :=
  below_drew' (((h.setCell (p := ⟨q, 0, none⟩) hq x0).setCell (p := ⟨q, 1, none⟩) hq x1).setCell (p := ⟨q, 2, none⟩) hq x2)
def forkT : ByteArray := ⟨#[102, 111, 114, 107]⟩
/-- The cut's words. -/
structure HW (g q z : Nat) (W0 w : World) (f : Fd) (vb vh : Value) (h : Hd) (gv : Value) (gl : List Int) : Prop where
  fb : FB (g + 1) q w f vb vh
  hd : w.heap[z]? = some (.cells #[.int .i64 h.len, .int .i64 h.dg, .int .i64 h.sg] 32 (0, 0))
  gr : O1 (Value.int .i64) (g + 1) 3 w gv gl
  bel : Below W0.heap.size W0 w
theorem HW.below {g q z : Nat} {W0 w w' : World} {f : Fd} {vb vh : Value} {h : Hd} {gv : Value} {gl : List Int} (k : HW g q z W0 w f vb vh h gv gl) (hb : Below w.heap.size w w') : HW g q z W0 w' f vb vh h gv gl :=
  ⟨k.fb.below hb, (hb.block z (Array.getElem?_eq_some_iff.1 k.hd).1).trans k.hd, k.gr.below hb, k.bel.trans (hb.mono k.bel.size)⟩
theorem HW.only {g q z : Nat} {W0 w w' : World} {f : Fd} {vb vh : Value} {h : Hd} {gv : Value} {gl : List Int} (k : HW g q z W0 w f vb vh h gv gl) (ho : Only g w w') (hg : W0.heap.size ≤ g) (hgl : g < w.heap.size) (hq : g ≠ q) (hz : g ≠ z) : HW g q z W0 w' f vb vh h gv gl :=
  ⟨k.fb.only ho (Nat.lt_succ_self g) hq, (ho.block z (Array.getElem?_eq_some_iff.1 k.hd).1 (fun e => hz (Option.some.inj e).symm)).trans k.hd, k.gr.only ho (Nat.lt_succ_self g), k.bel.trans (ho.below hg hgl)⟩
theorem HW.set1 {g q z : Nat} {W0 w : World} {f : Fd} {vb vh : Value} {h : Hd} {gv : Value} {gl : List Int} (k : HW g q z W0 w f vb vh h gv gl) (hq : q ≠ z) (hz : W0.heap.size ≤ z) (d : Int) : HW g q z W0 (w.setCell ⟨z, 1, none⟩ (.int .i64 d)) f vb vh ⟨h.len, d, h.sg⟩ gv gl :=
  ⟨k.fb.setz k.hd hq _ _, box_set k.hd _, k.gr.setq k.hd (by decide) _ _, k.bel.setCell hz _⟩
theorem HW.set3 {g q z : Nat} {W0 w : World} {f : Fd} {vb vh : Value} {h : Hd} {gv : Value} {gl : List Int} (k : HW g q z W0 w f vb vh h gv gl) (hq : q ≠ z) (hz : W0.heap.size ≤ z) (h2 : Hd) :
    HW g q z W0 (((w.setCell ⟨z, 0, none⟩ (.int .i64 h2.len)).setCell ⟨z, 1, none⟩ (.int .i64 h2.dg)).setCell ⟨z, 2, none⟩ (.int .i64 h2.sg)) f vb vh h2 gv gl := by
  have b0 := box_set (i := 0) k.hd (.int .i64 h2.len)
  have b1 := box_set (i := 1) b0 (.int .i64 h2.dg)
  have b2 := box_set (i := 2) b1 (.int .i64 h2.sg)
  exact ⟨((k.fb.setz k.hd hq _ _).setz b0 hq _ _).setz b1 hq _ _, b2, ((k.gr.setq k.hd (by decide) _ _).setq b0 (by decide) _ _).setq b1 (by decide) _ _, ((k.bel.setCell hz _).setCell hz _).setCell hz _⟩
set_option maxHeartbeats 2000000 in
set_option maxRecDepth 100000 in
theorem DrawFeedHead_any (bs : List UInt8) (v : Value) (w : World) (hv : RU w v bs) : Calls Try.prog 53 #[v] w (DrawHeadPost w) := by
  obtain ⟨W0, HW0⟩ : ∃ W0, Hid ((w.alloc (.cells #[.int .i64 0, .int .i64 0, .int .i64 0, .int .i64 0, .slice none 0 0, .slice none 0 0] 34)).alloc (.cells #[.int .i64 0, .int .i64 0, .int .i64 0] 32) = W0) := ⟨_, Lib.hid rfl⟩
  have HB0 : Hid (Below w.heap.size w W0) := Lib.hid (by rw [← HW0.out]; exact ((Below.refl _ _).alloc (Nat.le_refl _) _).alloc (by simp) _)
  have hs0 : w.heap.size + 2 = W0.heap.size := by rw [← HW0.out]; simp
  have HBOX : Hid (W0.heap[w.heap.size]? = some (.cells #[.int .i64 0, .int .i64 0, .int .i64 0, .int .i64 0, .slice none 0 0, .slice none 0 0] 34 (0, 0))) := Lib.hid (by
    rw [← HW0.out]; exact (((Below.refl (w.heap.size + 1) _).alloc (by simp) _).block w.heap.size (by omega)).trans (heap_alloc_new w _))
  have HBOY : Hid (W0.heap[w.heap.size + 1]? = some (.cells #[.int .i64 0, .int .i64 0, .int .i64 0] 32 (0, 0))) := Lib.hid (by
    rw [← HW0.out]; have := heap_alloc_new (w.alloc (.cells #[.int .i64 0, .int .i64 0, .int .i64 0, .int .i64 0, .slice none 0 0, .slice none 0 0] 34)) (.cells #[.int .i64 0, .int .i64 0, .int .i64 0] 32); simpa using this)
  have HV : Hid (RU W0 v bs) := Lib.hid (hv.below HB0.out)
  obtain ⟨A, c, rfl, _, _, _⟩ := hv
  have hl0 : w.heap.size < W0.heap.size := by omega
  have hl1 : w.heap.size + 1 < W0.heap.size := by omega
  go_enter Try.func53, Try.ntmps53
  go_wp2_with fail
  rw [HW0.out]
  refine (l6Open_any bs _ W0 HV.out).mono ?_
  rintro e w1 ⟨g, rfl, hg, r1, hb1⟩
  go_wp2_with fail
  refine (l91Good_any g 0 w1 r1 (by omega)).mono ?_
  rintro e w2 ⟨s, rfl, s1, s2, r2, o2⟩
  have hg1 := r1.lt
  have hb2 := hb1.trans (o2.below hg hg1)
  go_wp2_with fail
  refine (l91Blocks_any g 2 w2 r2 (by omega)).mono ?_
  rintro e w3 ⟨bv, bl, rfl, ho3, hl3, hz3, r3, o3⟩
  have hg2 := r2.lt
  have hb3 := hb2.trans (o3.below hg hg2)
  obtain ⟨bA, bc, rfl⟩ := ho3.sl
  have HBZ := Lib.hid hz3
  have hg3 := r3.lt
  go_wp2_with fail
  refine (pick_any g 302 (bl.length + 1) w3 r3 (by omega) (by omega) (by omega)).mono ?_
  rintro e w4 ⟨mi, rfl, m1, m2, r4, o4⟩
  obtain ⟨m, rfl⟩ : ∃ m : Nat, mi = m := ⟨mi.toNat, by omega⟩
  have hm : m ≤ bl.length := by omega
  have hb4 := hb3.trans (o4.below hg hg3)
  have ho4 := ho3.only o4 hg2
  have hg4 := r4.lt
  have hot := ho4.takeN hm
  have hbc : (m : Int) ≤ (bc : Int) := by
    obtain ⟨_, _, hA, hc, _⟩ := ho4.r1
    injection hA with _ e2 e3
    have := hc.1
    omega
  have hbc2 : (bc : Int) ≤ 9223372036854775807 := by
    obtain ⟨_, _, hA, _, hc, _⟩ := ho4.r1
    injection hA with _ e2 e3
    unfold maxLen at hc
    omega
  have htl : (bl.take m).length ≤ 16 := by rw [List.length_take]; omega
  have HTM : Hid ((bl.take m).length = m) := Lib.hid (by rw [List.length_take]; omega)
  clear m1 m2 hz3
  go_wp2_with fail
  refine (l91Reader_any g 303 w2.heap.size s (bl.take m) _ w4 r4 (by omega) hot hg2 htl (fun x hx => by have := HBZ.out x (List.mem_of_mem_take hx); omega)).mono ?_
  rintro e w5 ⟨f4, ub4, uh4, rfl, hf4, l41, l42, z4, r5, o5⟩
  have hb5 := hb4.trans (o5.below hg hg4)
  have m41 : f4.bl.length ≤ 16 := by omega
  have m42 : f4.hv.length ≤ 16 := by omega
  have HZ4 := Lib.hid z4
  clear l41 l42 z4 htl hot
  have ho5 := ho4.only o5 hg2
  have hg5 := r5.lt
  obtain ⟨uA, uc, rfl⟩ := hf4.bl.sl
  obtain ⟨tA, tc, rfl⟩ := hf4.hv.sl
  go_wp2_with fail
  refine (l91Spoilt_any g 319 f4 _ _ w5 r5 (by omega) hf4.r (by omega) (by omega) HZ4.out).mono ?_
  rintro e w6 ⟨f, ub, uh, rfl, hf5, l51, l52, z5, r6, o6⟩
  have hb6 := hb5.trans (o6.below hg hg5)
  have ho6 := ho5.only o6 hg2
  have hg6 := r6.lt
  obtain ⟨vA, vc, rfl⟩ := hf5.bl.sl
  obtain ⟨yA, yc, rfl⟩ := hf5.hv.sl
  have hfm := hf5.mono (B' := g + 1) hg5
  have hf6 := FB.made hfm
  have r6 := r6.below ((Below.refl _ _).alloc (Nat.le_refl _) (.cells #[.int .i64 f.pub, .int .i64 f.hd.len, .int .i64 f.hd.dg, .int .i64 f.hd.sg, .slice vA f.bl.length vc, .slice yA f.hv.length yc] 34))
  have ho6 := ho6.alloc (.cells #[.int .i64 f.pub, .int .i64 f.hd.len, .int .i64 f.hd.dg, .int .i64 f.hd.sg, .slice vA f.bl.length vc, .slice yA f.hv.length yc] 34)
  have hb6 := hb6.alloc hb6.size (.cells #[.int .i64 f.pub, .int .i64 f.hd.len, .int .i64 f.hd.dg, .int .i64 f.hd.sg, .slice vA f.bl.length vc, .slice yA f.hv.length yc] 34)
  have HZ5 := Lib.hid z5
  have l51' : f.bl.length ≤ 17 := by have := Nat.max_le.2 ⟨m41, m42⟩; omega
  have l52' : f.hv.length ≤ 17 := by have := Nat.max_le.2 ⟨m41, m42⟩; omega
  clear z5 l51 l52 hf5 hfm hf4 o4 o5 o6 r4 r5 r3 ho3 ho4 ho5 hb3 hb4 hb5 hb1 hb2 r1 r2 o2 o3
  go_wp2_with fail
  obtain ⟨W6, HW6⟩ : ∃ W6, Hid (w6.alloc (.cells #[.int .i64 f.pub, .int .i64 f.hd.len, .int .i64 f.hd.dg, .int .i64 f.hd.sg, .slice vA f.bl.length vc, .slice yA f.hv.length yc] 34) = W6) := ⟨_, Lib.hid rfl⟩
  obtain ⟨q, HQ⟩ : ∃ q, Hid (w6.heap.size = q) := ⟨_, Lib.hid rfl⟩
  rw [HW6.out] at hf6 r6 hb6 ho6 ⊢
  rw [HQ.out] at hf6 hg6 ⊢
  have hgB : g < g + 1 := Nat.lt_succ_self g
  have hgq : g ≠ q := by omega
  refine (l11Leaves_any bl _ W6 ho6.r1 (by omega) (fun x hx => by have := HBZ.out x hx; unfold maxLen; omega)).mono ?_
  rintro e w7 ⟨v7, rfl, ho7, hb7⟩
  obtain ⟨h0, ok0, HH0⟩ : ∃ h ok, Hid (hmake s (lvs bl) = (h, ok)) := ⟨_, _, Lib.hid rfl⟩
  go_wp2_with fail
  refine (HeadMake_sb HH0 _ _ ho7.r1).mono ?_
  rintro e w8 ⟨rfl, hb8⟩
  have hb78 := hb7.trans (hb8.mono hb7.size)
  have hf8 := hf6.below hb78
  have r8 := r6.below hb78
  have ho8 := ho6.below hb78
  have hb08 := hb6.trans (hb78.mono hb6.size)
  have hq8 := hf8.lt
  clear ho7 hb7 hb8 hb78 hf6 r6 ho6 hb6
  go_wp2_with fail
  have hba := (Below.refl w8.heap.size w8).alloc (Nat.le_refl _) (hcells h0)
  have hH9 : (w8.alloc (hcells h0)).heap[w8.heap.size]? = some (.cells #[.int .i64 h0.len, .int .i64 h0.dg, .int .i64 h0.sg] 32 (0, 0)) := heap_alloc_new w8 _
  have hf9 := hf8.below hba
  have r9 := r8.below hba
  have ho9 := ho8.below hba
  have hb9 := hb08.alloc hb08.size (hcells h0)
  have hqh : W0.heap.size ≤ w8.heap.size := hb08.size
  have hgh : g < w8.heap.size := by omega
  obtain ⟨W9, HW9⟩ : ∃ W9, Hid (w8.alloc (hcells h0) = W9) := ⟨_, Lib.hid rfl⟩
  have HW9' : Hid (w8.alloc (.cells #[.int .i64 h0.len, .int .i64 h0.dg, .int .i64 h0.sg] 32) = W9) := HW9
  obtain ⟨z, HZQ⟩ : ∃ z, Hid (w8.heap.size = z) := ⟨_, Lib.hid rfl⟩
  rw [HW9'.out]
  rw [HW9.out] at hH9 hf9 r9 ho9 hb9
  rw [HZQ.out] at hH9 hqh hgh hq8 ⊢
  clear hf8 r8 ho8 hb08 hba
  have hzl : z < W9.heap.size := (Array.getElem?_eq_some_iff.1 hH9).1
  refine (l11Leaves_any bl _ W9 ho9.r1 (by omega) (fun x hx => by have := HBZ.out x hx; unfold maxLen; omega)).mono ?_
  rintro e w10 ⟨v10, rfl, hoa, hba⟩
  obtain ⟨gl0, HGL0⟩ : ∃ gl, Hid (growOf (lvs bl) m = gl) := ⟨_, Lib.hid rfl⟩
  go_wp2_with fail
  refine (TreeGrowth_s _ _ _ _ hoa.r1).mono ?_
  rintro e w11 ⟨v11, rfl, hob, hbb⟩
  rw [HGL0.out] at hob
  have hgl0 : gl0.length ≤ 34 := by rw [← HGL0.out]; exact grow_len _ _
  have hbab := hba.trans (hbb.mono hba.size)
  have hfb := hf9.below hbab
  have rb := r9.below hbab
  have hot := ho9.below hbab
  have hb11 := hb9.trans (hbab.mono hb9.size)
  have hHb := (hbab.block z hzl).trans hH9
  have hobm := hob.mono (B' := z + 1) (Nat.le_trans hzl hba.size)
  have hz11 := Nat.lt_of_lt_of_le hzl hbab.size
  obtain ⟨gA, gc, rfl⟩ := hob.sl
  clear hoa hba hbb hbab hf9 r9 ho9 hb9 hH9 hob
  go_wp2_with fail
  refine (pick_any g 334 12 w11 rb (by omega) (by omega) (by omega)).mono ?_
  rintro e w12 ⟨y, rfl, y1, y2, rc, oc⟩
  have hfc := hfb.only oc hgB hgq
  have hbc12 := hb11.trans (oc.below hg rb.lt)
  have hoc := hot.only oc hg2
  have hgc := hobm.only oc (by omega)
  have hHc := (oc.block z hz11 (fun e => by have := Option.some.inj e; omega)).trans hHb
  clear hfb rb hot hb11 hHb hobm oc
  go_upto_block 0 with fail
  have hgz : g ≠ z := by omega
  have hqz : q ≠ z := by omega
  have hK : HW g q z W0 w12 f (.slice vA f.bl.length vc) (.slice yA f.hv.length yc) h0 (.slice gA gl0.length gc) gl0 := ⟨hfc, hHc, hgc.mono (by omega), hbc12⟩
  have hgl12 := rc.lt
  have hz12 := (Array.getElem?_eq_some_iff.1 hHc).1
  have HGM := Lib.hid hgl0
  clear hfc hHc hgc hbc12 hgl0
  go_cut [12] (fun gvv wx => ∃ (h : Hd) (gl : List Int), HW g q z W0 wx f (.slice vA f.bl.length vc) (.slice yA f.hv.length yc) h gvv gl ∧ gl.length ≤ 100)
  case first =>
    have hy : y = 0 ∨ y = 1 ∨ y = 2 ∨ y = 3 ∨ (y = 4 ∨ y = 5) ∨ 6 ≤ y := by omega
    rcases hy with rfl | rfl | rfl | rfl | hy | hy
    · go_wp2_with fail
      refine (l11Leaves_any (bl.take m) _ w12 (hoc.takeN hm).r1 (by rw [HTM.out]; omega) (fun x hx => by have := HBZ.out x (List.mem_of_mem_take hx); unfold maxLen; omega)).mono ?_
      rintro e w13 ⟨v13, rfl, hod, hbd⟩
      obtain ⟨h1, ok1, HH1⟩ : ∃ h ok, Hid (hmake s (lvs (bl.take m)) = (h, ok)) := ⟨_, _, Lib.hid rfl⟩
      go_wp2_with fail
      refine (HeadMake_sb HH1 _ _ hod.r1).mono ?_
      rintro e w14 ⟨rfl, hbe⟩
      have hKe := (hK.below hbd).below hbe
      obtain ⟨p0, p1, p2, pf⟩ := box3_cells hKe.hd
      clear hod hbd hbe hK
      go_wp2
      go_meet
      exact ⟨h1, gl0, hKe.set3 hqz hqh h1, by have := HGM.out; omega⟩
    · go_wp2_with fail
      refine (pick_any g 335 (m + 1) w12 rc (by omega) (by omega) (by omega)).mono ?_
      rintro e w13 ⟨ui, rfl, u1, u2, rd, od⟩
      obtain ⟨u, rfl⟩ : ∃ u : Nat, ui = u := ⟨ui.toNat, by omega⟩
      have hum : u ≤ bl.length := by omega
      have hub : (u : Int) ≤ (bc : Int) := by omega
      have hK2 := hK.only od hg hgl12 hgq hgz
      have hod := hoc.only od hg2
      clear hK hoc u1 u2
      go_wp2_with fail
      refine (l11Leaves_any (bl.take u) _ w13 (hod.takeN hum).r1 (by rw [List.length_take]; omega) (fun x hx => by have := HBZ.out x (List.mem_of_mem_take hx); unfold maxLen; omega)).mono ?_
      rintro e w14 ⟨v14, rfl, hoe, hbe⟩
      obtain ⟨h1, ok1, HH1⟩ : ∃ h ok, Hid (hmake s (lvs (bl.take u)) = (h, ok)) := ⟨_, _, Lib.hid rfl⟩
      go_wp2_with fail
      refine (HeadMake_sb HH1 _ _ hoe.r1).mono ?_
      rintro e w15 ⟨rfl, hbf⟩
      have hKe := (hK2.below hbe).below hbf
      obtain ⟨p0, p1, p2, pf⟩ := box3_cells hKe.hd
      clear hoe hbe hbf hK2 hod
      go_wp2
      go_meet
      exact ⟨h1, gl0, hKe.set3 hqz hqh h1, by have := HGM.out; omega⟩
    · go_wp2_with fail
      refine (l91Digest_any g 335 w12 rc (by omega)).mono ?_
      rintro e w13 ⟨dd, rfl, d1, d2, rd, od⟩
      have hK2 := hK.only od hg hgl12 hgq hgz
      obtain ⟨p0, p1, p2, pf⟩ := box3_cells hK2.hd
      clear hK
      go_wp2
      go_meet
      exact ⟨⟨h0.len, dd, h0.sg⟩, gl0, hK2.set1 hqz hqh dd, by have := HGM.out; omega⟩
    · go_wp2_with fail
      refine (l91Bend_any g 335 (g + 1) gl0 _ w12 rc (by omega) hK.gr (by have := HGM.out; omega)).mono ?_
      rintro e w13 ⟨v13, l13, rfl, hod, hl13, rd, od⟩
      have hK2 := hK.only od hg hgl12 hgq hgz
      clear hK
      go_wp2
      go_meet
      exact ⟨h0, l13, ⟨hK2.fb, hK2.hd, hod.mono (by omega), hK2.bel⟩, by have := HGM.out; omega⟩
    · have n0 : (y == 0) = false := by rw [beq_eq_false_iff_ne]; omega
      have n1 : (y == 1) = false := by rw [beq_eq_false_iff_ne]; omega
      have n2 : (y == 2) = false := by rw [beq_eq_false_iff_ne]; omega
      have n3 : (y == 3) = false := by rw [beq_eq_false_iff_ne]; omega
      have n45 : (y == 4) = true ∨ ((y == 4) = false ∧ (y == 5) = true) := by
        rcases hy with rfl | rfl
        · exact .inl rfl
        · exact .inr ⟨rfl, rfl⟩
      have hba := (Below.refl w12.heap.size w12).alloc (Nat.le_refl _) (.cells #[] 9)
      have HM0 := O1.made Value.string w12 9
      have HVb := hoc.r1.below hba
      have HBA := Lib.hid hba
      clear hba
      by_cases hb0 : bl.length = 0
      · have hb0' : ¬ (0 : Int) < (bl.length : Int) := by omega
        clear hb0
        rcases n45 with n4 | ⟨n4, n5⟩
        · go_wp2_with (at_builtin; refine app_strs HM0 HVb (by simp; omega) (by simp) rfl rfl rfl rfl ?_; intro v13 w13 ho13 hb13; rw [List.nil_append] at ho13; obtain ⟨xA, xc, rfl⟩ := ho13.sl)
          have hbx := HBA.out.trans hb13
          have o13 : Only g w12 w13 := Only.of_below hbx
          have r13 := rc.below hbx
          have hcap : (m : Int) ≤ (xc : Int) ∧ (xc : Int) ≤ 9223372036854775807 := by
            obtain ⟨_, _, hA, hc, hc2, _⟩ := ho13.r1
            injection hA with _ e2 e3
            unfold maxLen at hc2
            have := hc.1
            omega
          obtain ⟨hcap1, hcap2⟩ := hcap
          clear hb13 hbx
          have HLS0 : Hid (∀ x ∈ bl, x.size ≤ maxLen) := Lib.hid (fun x hx => by have := HBZ.out x hx; unfold maxLen; omega)
          refine (pick_any g 335 2 w13 r13 (by omega) (by omega) (by omega)).mono ?_
          rintro e wx ⟨t2, rfl, t21, t22, rx, ox⟩
          have oox := o13.trans ox
          have hKx := hK.only oox hg hgl12 hgq hgz
          have hLx := ho13.only ox hgl12
          clear hK
          by_cases ht : t2 = 0
          · subst ht
            have hLo := hLx.takeN (m := m) (by exact hm)
            obtain ⟨L, HLE⟩ : ∃ L, Hid ((bl).take m = L) := ⟨_, Lib.hid rfl⟩
            have HLS : Hid (∀ x ∈ L, x.size ≤ maxLen) := Lib.hid (fun x hx => HLS0.out x (by rw [← HLE.out] at hx; exact List.mem_of_mem_take hx))
            have hL16 : L.length ≤ 16 := by rw [← HLE.out, List.length_take]; omega
            rw [HLE.out] at hLo
            clear hLx
            go_wp2_with fail
            refine (l11Leaves_any L _ wx hLo.r1 (by omega) (fun x hx => HLS.out x hx)).mono ?_
            rintro e wp ⟨vp, rfl, hop, hbp⟩
            obtain ⟨h1, ok1, HH1⟩ : ∃ h ok, Hid (hmake s (lvs L) = (h, ok)) := ⟨_, _, Lib.hid rfl⟩
            go_wp2_with fail
            refine (HeadMake_sb HH1 _ _ hop.r1).mono ?_
            rintro e wr ⟨rfl, hbr⟩
            have hKr := (hKx.below hbp).below hbr
            have hxr := (hLo.below hbp).below (hbr.mono (Nat.le_refl _))
            obtain ⟨p0, p1, p2, pf⟩ := box3_cells hKr.hd
            have hKs := hKr.set3 hqz hqh h1
            have hxs := hxr.set3z hKr.hd (by decide) h1
            clear hop hbp hbr hKr hxr hLo hKx
            go_wp2_with fail
            refine (l11Leaves_any L _ _ hxs.r1 (by omega) (fun x hx => HLS.out x hx)).mono ?_
            rintro e wt ⟨vt, rfl, hot, hbt⟩
            have hKt := hKs.below hbt
            clear p0 p1 p2 pf hKs hxs hbt
            go_wp2_with fail
            refine (TreeGrowth_s _ _ _ _ hot.r1).mono ?_
            rintro e wu ⟨vu, rfl, hou, hbu⟩
            have hKu := hKt.below hbu
            have hgwt : g + 1 ≤ wt.heap.size := by have := (Array.getElem?_eq_some_iff.1 hKt.fb.box).1; omega
            go_wp2
            go_meet
            exact ⟨h1, _, ⟨hKu.fb, hKu.hd, hou.mono hgwt, hKu.bel⟩, Nat.le_trans (grow_len _ _) (by omega)⟩
          · have ht' : (t2 == 0) = false := by rw [beq_eq_false_iff_ne]; exact ht
            obtain ⟨L, HLE⟩ : ∃ L, Hid ((bl) = L) := ⟨_, Lib.hid rfl⟩
            have HLS : Hid (∀ x ∈ L, x.size ≤ maxLen) := Lib.hid (fun x hx => HLS0.out x (by rw [← HLE.out] at hx; exact hx))
            have hL16 : L.length ≤ 16 := by rw [← HLE.out]; exact hl3
            have hLo : O1 Value.string w12.heap.size 9 wx (.slice xA bl.length xc) L := by rw [← HLE.out]; exact hLx
            clear hLx ht
            go_wp2_with fail
            refine (l11Leaves_any L _ wx hLo.r1 (by omega) (fun x hx => HLS.out x hx)).mono ?_
            rintro e wp ⟨vp, rfl, hop, hbp⟩
            obtain ⟨h1, ok1, HH1⟩ : ∃ h ok, Hid (hmake s (lvs L) = (h, ok)) := ⟨_, _, Lib.hid rfl⟩
            go_wp2_with fail
            refine (HeadMake_sb HH1 _ _ hop.r1).mono ?_
            rintro e wr ⟨rfl, hbr⟩
            have hKr := (hKx.below hbp).below hbr
            have hxr := (hLo.below hbp).below (hbr.mono (Nat.le_refl _))
            obtain ⟨p0, p1, p2, pf⟩ := box3_cells hKr.hd
            have hKs := hKr.set3 hqz hqh h1
            have hxs := hxr.set3z hKr.hd (by decide) h1
            clear hop hbp hbr hKr hxr hLo hKx
            go_wp2_with fail
            refine (l11Leaves_any L _ _ hxs.r1 (by omega) (fun x hx => HLS.out x hx)).mono ?_
            rintro e wt ⟨vt, rfl, hot, hbt⟩
            have hKt := hKs.below hbt
            clear p0 p1 p2 pf hKs hxs hbt
            go_wp2_with fail
            refine (TreeGrowth_s _ _ _ _ hot.r1).mono ?_
            rintro e wu ⟨vu, rfl, hou, hbu⟩
            have hKu := hKt.below hbu
            have hgwt : g + 1 ≤ wt.heap.size := by have := (Array.getElem?_eq_some_iff.1 hKt.fb.box).1; omega
            go_wp2
            go_meet
            exact ⟨h1, _, ⟨hKu.fb, hKu.hd, hou.mono hgwt, hKu.bel⟩, Nat.le_trans (grow_len _ _) (by omega)⟩
        · go_wp2_with (at_builtin; refine app_strs HM0 HVb (by simp; omega) (by simp) rfl rfl rfl rfl ?_; intro v13 w13 ho13 hb13; rw [List.nil_append] at ho13; obtain ⟨xA, xc, rfl⟩ := ho13.sl)
          have hbx := HBA.out.trans hb13
          have o13 : Only g w12 w13 := Only.of_below hbx
          have r13 := rc.below hbx
          have hcap : (m : Int) ≤ (xc : Int) ∧ (xc : Int) ≤ 9223372036854775807 := by
            obtain ⟨_, _, hA, hc, hc2, _⟩ := ho13.r1
            injection hA with _ e2 e3
            unfold maxLen at hc2
            have := hc.1
            omega
          obtain ⟨hcap1, hcap2⟩ := hcap
          clear hb13 hbx
          have HLS0 : Hid (∀ x ∈ bl, x.size ≤ maxLen) := Lib.hid (fun x hx => by have := HBZ.out x hx; unfold maxLen; omega)
          refine (pick_any g 335 2 w13 r13 (by omega) (by omega) (by omega)).mono ?_
          rintro e wx ⟨t2, rfl, t21, t22, rx, ox⟩
          have oox := o13.trans ox
          have hKx := hK.only oox hg hgl12 hgq hgz
          have hLx := ho13.only ox hgl12
          clear hK
          by_cases ht : t2 = 0
          · subst ht
            have hLo := hLx.takeN (m := m) (by exact hm)
            obtain ⟨L, HLE⟩ : ∃ L, Hid ((bl).take m = L) := ⟨_, Lib.hid rfl⟩
            have HLS : Hid (∀ x ∈ L, x.size ≤ maxLen) := Lib.hid (fun x hx => HLS0.out x (by rw [← HLE.out] at hx; exact List.mem_of_mem_take hx))
            have hL16 : L.length ≤ 16 := by rw [← HLE.out, List.length_take]; omega
            rw [HLE.out] at hLo
            clear hLx
            go_wp2_with fail
            refine (l11Leaves_any L _ wx hLo.r1 (by omega) (fun x hx => HLS.out x hx)).mono ?_
            rintro e wp ⟨vp, rfl, hop, hbp⟩
            obtain ⟨h1, ok1, HH1⟩ : ∃ h ok, Hid (hmake s (lvs L) = (h, ok)) := ⟨_, _, Lib.hid rfl⟩
            go_wp2_with fail
            refine (HeadMake_sb HH1 _ _ hop.r1).mono ?_
            rintro e wr ⟨rfl, hbr⟩
            have hKr := (hKx.below hbp).below hbr
            have hxr := (hLo.below hbp).below (hbr.mono (Nat.le_refl _))
            obtain ⟨p0, p1, p2, pf⟩ := box3_cells hKr.hd
            have hKs := hKr.set3 hqz hqh h1
            have hxs := hxr.set3z hKr.hd (by decide) h1
            clear hop hbp hbr hKr hxr hLo hKx
            go_wp2_with fail
            refine (l11Leaves_any L _ _ hxs.r1 (by omega) (fun x hx => HLS.out x hx)).mono ?_
            rintro e wt ⟨vt, rfl, hot, hbt⟩
            have hKt := hKs.below hbt
            clear p0 p1 p2 pf hKs hxs hbt
            go_wp2_with fail
            refine (TreeGrowth_s _ _ _ _ hot.r1).mono ?_
            rintro e wu ⟨vu, rfl, hou, hbu⟩
            have hKu := hKt.below hbu
            have hgwt : g + 1 ≤ wt.heap.size := by have := (Array.getElem?_eq_some_iff.1 hKt.fb.box).1; omega
            go_wp2
            go_meet
            exact ⟨h1, _, ⟨hKu.fb, hKu.hd, hou.mono hgwt, hKu.bel⟩, Nat.le_trans (grow_len _ _) (by omega)⟩
          · have ht' : (t2 == 0) = false := by rw [beq_eq_false_iff_ne]; exact ht
            obtain ⟨L, HLE⟩ : ∃ L, Hid ((bl) = L) := ⟨_, Lib.hid rfl⟩
            have HLS : Hid (∀ x ∈ L, x.size ≤ maxLen) := Lib.hid (fun x hx => HLS0.out x (by rw [← HLE.out] at hx; exact hx))
            have hL16 : L.length ≤ 16 := by rw [← HLE.out]; exact hl3
            have hLo : O1 Value.string w12.heap.size 9 wx (.slice xA bl.length xc) L := by rw [← HLE.out]; exact hLx
            clear hLx ht
            go_wp2_with fail
            refine (l11Leaves_any L _ wx hLo.r1 (by omega) (fun x hx => HLS.out x hx)).mono ?_
            rintro e wp ⟨vp, rfl, hop, hbp⟩
            obtain ⟨h1, ok1, HH1⟩ : ∃ h ok, Hid (hmake s (lvs L) = (h, ok)) := ⟨_, _, Lib.hid rfl⟩
            go_wp2_with fail
            refine (HeadMake_sb HH1 _ _ hop.r1).mono ?_
            rintro e wr ⟨rfl, hbr⟩
            have hKr := (hKx.below hbp).below hbr
            have hxr := (hLo.below hbp).below (hbr.mono (Nat.le_refl _))
            obtain ⟨p0, p1, p2, pf⟩ := box3_cells hKr.hd
            have hKs := hKr.set3 hqz hqh h1
            have hxs := hxr.set3z hKr.hd (by decide) h1
            clear hop hbp hbr hKr hxr hLo hKx
            go_wp2_with fail
            refine (l11Leaves_any L _ _ hxs.r1 (by omega) (fun x hx => HLS.out x hx)).mono ?_
            rintro e wt ⟨vt, rfl, hot, hbt⟩
            have hKt := hKs.below hbt
            clear p0 p1 p2 pf hKs hxs hbt
            go_wp2_with fail
            refine (TreeGrowth_s _ _ _ _ hot.r1).mono ?_
            rintro e wu ⟨vu, rfl, hou, hbu⟩
            have hKu := hKt.below hbu
            have hgwt : g + 1 ≤ wt.heap.size := by have := (Array.getElem?_eq_some_iff.1 hKt.fb.box).1; omega
            go_wp2
            go_meet
            exact ⟨h1, _, ⟨hKu.fb, hKu.hd, hou.mono hgwt, hKu.bel⟩, Nat.le_trans (grow_len _ _) (by omega)⟩
      · have hb0' : (0 : Int) < (bl.length : Int) := by omega
        rcases n45 with n4 | ⟨n4, n5⟩
        · go_wp2_with (at_builtin; refine app_strs HM0 HVb (by simp; omega) (by simp) rfl rfl rfl rfl ?_; intro v13 w13 ho13 hb13; rw [List.nil_append] at ho13; obtain ⟨xA, xc, rfl⟩ := ho13.sl)
          have hbx := HBA.out.trans hb13
          have o13 : Only g w12 w13 := Only.of_below hbx
          have r13 := rc.below hbx
          have hcap : (m : Int) ≤ (xc : Int) ∧ (xc : Int) ≤ 9223372036854775807 := by
            obtain ⟨_, _, hA, hc, hc2, _⟩ := ho13.r1
            injection hA with _ e2 e3
            unfold maxLen at hc2
            have := hc.1
            omega
          obtain ⟨hcap1, hcap2⟩ := hcap
          clear hb13 hbx
          refine (pick_any g 335 bl.length w13 r13 (by omega) (by omega) (by omega)).mono ?_
          rintro e w14 ⟨ui, rfl, u1, u2, r14, od⟩
          obtain ⟨u, rfl⟩ : ∃ u : Nat, ui = u := ⟨ui.toNat, by omega⟩
          have hub : u < bl.length := by omega
          have hui : (u : Int) < (bl.length : Int) := by omega
          have o14 := o13.trans od
          have ho14 := ho13.only od hgl12
          obtain ⟨gb, cb, hA, hgb1, hgb2⟩ := ho14.form (by omega)
          cases hA
          obtain ⟨e1, e2⟩ := ho14.at_ hub
          have e1' : ∃ v, w14.cell? ⟨gb, u, none⟩ = some v := ⟨_, e1⟩
          have hset := ho14.setAt hub forkT
          have ho15 := hset.1
          have o15 := o14.set (p := ⟨gb, u, none⟩) hgb1 (.string forkT)
          have r15 := r14.set (p := ⟨gb, u, none⟩) (by show g < gb; omega) (.string forkT)
          have HLS0 : Hid (∀ x ∈ bl.set u forkT, x.size ≤ maxLen) := Lib.hid (fun x hx => by
            rcases List.mem_or_eq_of_mem_set hx with hx | rfl
            · have := HBZ.out x hx; unfold maxLen; omega
            · show (4 : Nat) ≤ maxLen; unfold maxLen; omega)
          clear e1 hset ho13 o13 r13 od o14 ho14 r14 u1 u2
          obtain ⟨ue, e1⟩ := e1'
          go_wp2_with fail
          refine (pick_any g 336 2 _ r15 (by omega) (by omega) (by omega)).mono ?_
          rintro e wx ⟨t2, rfl, t21, t22, rx, ox⟩
          have oox := o15.trans ox
          have hKx := hK.only oox hg hgl12 hgq hgz
          have hLx := ho15.only ox hgl12
          clear hK
          by_cases ht : t2 = 0
          · subst ht
            have hLo := hLx.takeN (m := m) (by rw [List.length_set]; exact hm)
            obtain ⟨L, HLE⟩ : ∃ L, Hid ((bl.set u forkT).take m = L) := ⟨_, Lib.hid rfl⟩
            have HLS : Hid (∀ x ∈ L, x.size ≤ maxLen) := Lib.hid (fun x hx => HLS0.out x (by rw [← HLE.out] at hx; exact List.mem_of_mem_take hx))
            have hL16 : L.length ≤ 16 := by rw [← HLE.out, List.length_take]; omega
            rw [HLE.out] at hLo
            clear hLx
            go_wp2_with fail
            refine (l11Leaves_any L _ wx hLo.r1 (by omega) (fun x hx => HLS.out x hx)).mono ?_
            rintro e wp ⟨vp, rfl, hop, hbp⟩
            obtain ⟨h1, ok1, HH1⟩ : ∃ h ok, Hid (hmake s (lvs L) = (h, ok)) := ⟨_, _, Lib.hid rfl⟩
            go_wp2_with fail
            refine (HeadMake_sb HH1 _ _ hop.r1).mono ?_
            rintro e wr ⟨rfl, hbr⟩
            have hKr := (hKx.below hbp).below hbr
            have hxr := (hLo.below hbp).below (hbr.mono (Nat.le_refl _))
            obtain ⟨p0, p1, p2, pf⟩ := box3_cells hKr.hd
            have hKs := hKr.set3 hqz hqh h1
            have hxs := hxr.set3z hKr.hd (by decide) h1
            clear hop hbp hbr hKr hxr hLo hKx
            go_wp2_with fail
            refine (l11Leaves_any L _ _ hxs.r1 (by omega) (fun x hx => HLS.out x hx)).mono ?_
            rintro e wt ⟨vt, rfl, hot, hbt⟩
            have hKt := hKs.below hbt
            clear p0 p1 p2 pf hKs hxs hbt
            go_wp2_with fail
            refine (TreeGrowth_s _ _ _ _ hot.r1).mono ?_
            rintro e wu ⟨vu, rfl, hou, hbu⟩
            have hKu := hKt.below hbu
            have hgwt : g + 1 ≤ wt.heap.size := by have := (Array.getElem?_eq_some_iff.1 hKt.fb.box).1; omega
            go_wp2
            go_meet
            exact ⟨h1, _, ⟨hKu.fb, hKu.hd, hou.mono hgwt, hKu.bel⟩, Nat.le_trans (grow_len _ _) (by omega)⟩
          · have ht' : (t2 == 0) = false := by rw [beq_eq_false_iff_ne]; exact ht
            have hLo := hLx
            obtain ⟨L, HLE⟩ : ∃ L, Hid ((bl.set u forkT) = L) := ⟨_, Lib.hid rfl⟩
            have HLS : Hid (∀ x ∈ L, x.size ≤ maxLen) := Lib.hid (fun x hx => HLS0.out x (by rw [← HLE.out] at hx; exact hx))
            have hL16 : L.length ≤ 16 := by rw [← HLE.out]; rw [List.length_set]; exact hl3
            rw [HLE.out] at hLo
            clear hLx ht
            go_wp2_with fail
            refine (l11Leaves_any L _ wx hLo.r1 (by omega) (fun x hx => HLS.out x hx)).mono ?_
            rintro e wp ⟨vp, rfl, hop, hbp⟩
            obtain ⟨h1, ok1, HH1⟩ : ∃ h ok, Hid (hmake s (lvs L) = (h, ok)) := ⟨_, _, Lib.hid rfl⟩
            go_wp2_with fail
            refine (HeadMake_sb HH1 _ _ hop.r1).mono ?_
            rintro e wr ⟨rfl, hbr⟩
            have hKr := (hKx.below hbp).below hbr
            have hxr := (hLo.below hbp).below (hbr.mono (Nat.le_refl _))
            obtain ⟨p0, p1, p2, pf⟩ := box3_cells hKr.hd
            have hKs := hKr.set3 hqz hqh h1
            have hxs := hxr.set3z hKr.hd (by decide) h1
            clear hop hbp hbr hKr hxr hLo hKx
            go_wp2_with fail
            refine (l11Leaves_any L _ _ hxs.r1 (by omega) (fun x hx => HLS.out x hx)).mono ?_
            rintro e wt ⟨vt, rfl, hot, hbt⟩
            have hKt := hKs.below hbt
            clear p0 p1 p2 pf hKs hxs hbt
            go_wp2_with fail
            refine (TreeGrowth_s _ _ _ _ hot.r1).mono ?_
            rintro e wu ⟨vu, rfl, hou, hbu⟩
            have hKu := hKt.below hbu
            have hgwt : g + 1 ≤ wt.heap.size := by have := (Array.getElem?_eq_some_iff.1 hKt.fb.box).1; omega
            go_wp2
            go_meet
            exact ⟨h1, _, ⟨hKu.fb, hKu.hd, hou.mono hgwt, hKu.bel⟩, Nat.le_trans (grow_len _ _) (by omega)⟩
        · go_wp2_with (at_builtin; refine app_strs HM0 HVb (by simp; omega) (by simp) rfl rfl rfl rfl ?_; intro v13 w13 ho13 hb13; rw [List.nil_append] at ho13; obtain ⟨xA, xc, rfl⟩ := ho13.sl)
          have hbx := HBA.out.trans hb13
          have o13 : Only g w12 w13 := Only.of_below hbx
          have r13 := rc.below hbx
          have hcap : (m : Int) ≤ (xc : Int) ∧ (xc : Int) ≤ 9223372036854775807 := by
            obtain ⟨_, _, hA, hc, hc2, _⟩ := ho13.r1
            injection hA with _ e2 e3
            unfold maxLen at hc2
            have := hc.1
            omega
          obtain ⟨hcap1, hcap2⟩ := hcap
          clear hb13 hbx
          refine (pick_any g 335 bl.length w13 r13 (by omega) (by omega) (by omega)).mono ?_
          rintro e w14 ⟨ui, rfl, u1, u2, r14, od⟩
          obtain ⟨u, rfl⟩ : ∃ u : Nat, ui = u := ⟨ui.toNat, by omega⟩
          have hub : u < bl.length := by omega
          have hui : (u : Int) < (bl.length : Int) := by omega
          have o14 := o13.trans od
          have ho14 := ho13.only od hgl12
          obtain ⟨gb, cb, hA, hgb1, hgb2⟩ := ho14.form (by omega)
          cases hA
          obtain ⟨e1, e2⟩ := ho14.at_ hub
          have e1' : ∃ v, w14.cell? ⟨gb, u, none⟩ = some v := ⟨_, e1⟩
          have hset := ho14.setAt hub forkT
          have ho15 := hset.1
          have o15 := o14.set (p := ⟨gb, u, none⟩) hgb1 (.string forkT)
          have r15 := r14.set (p := ⟨gb, u, none⟩) (by show g < gb; omega) (.string forkT)
          have HLS0 : Hid (∀ x ∈ bl.set u forkT, x.size ≤ maxLen) := Lib.hid (fun x hx => by
            rcases List.mem_or_eq_of_mem_set hx with hx | rfl
            · have := HBZ.out x hx; unfold maxLen; omega
            · show (4 : Nat) ≤ maxLen; unfold maxLen; omega)
          clear e1 hset ho13 o13 r13 od o14 ho14 r14 u1 u2
          obtain ⟨ue, e1⟩ := e1'
          go_wp2_with fail
          refine (pick_any g 336 2 _ r15 (by omega) (by omega) (by omega)).mono ?_
          rintro e wx ⟨t2, rfl, t21, t22, rx, ox⟩
          have oox := o15.trans ox
          have hKx := hK.only oox hg hgl12 hgq hgz
          have hLx := ho15.only ox hgl12
          clear hK
          by_cases ht : t2 = 0
          · subst ht
            have hLo := hLx.takeN (m := m) (by rw [List.length_set]; exact hm)
            obtain ⟨L, HLE⟩ : ∃ L, Hid ((bl.set u forkT).take m = L) := ⟨_, Lib.hid rfl⟩
            have HLS : Hid (∀ x ∈ L, x.size ≤ maxLen) := Lib.hid (fun x hx => HLS0.out x (by rw [← HLE.out] at hx; exact List.mem_of_mem_take hx))
            have hL16 : L.length ≤ 16 := by rw [← HLE.out, List.length_take]; omega
            rw [HLE.out] at hLo
            clear hLx
            go_wp2_with fail
            refine (l11Leaves_any L _ wx hLo.r1 (by omega) (fun x hx => HLS.out x hx)).mono ?_
            rintro e wp ⟨vp, rfl, hop, hbp⟩
            obtain ⟨h1, ok1, HH1⟩ : ∃ h ok, Hid (hmake s (lvs L) = (h, ok)) := ⟨_, _, Lib.hid rfl⟩
            go_wp2_with fail
            refine (HeadMake_sb HH1 _ _ hop.r1).mono ?_
            rintro e wr ⟨rfl, hbr⟩
            have hKr := (hKx.below hbp).below hbr
            have hxr := (hLo.below hbp).below (hbr.mono (Nat.le_refl _))
            obtain ⟨p0, p1, p2, pf⟩ := box3_cells hKr.hd
            have hKs := hKr.set3 hqz hqh h1
            have hxs := hxr.set3z hKr.hd (by decide) h1
            clear hop hbp hbr hKr hxr hLo hKx
            go_wp2_with fail
            refine (l11Leaves_any L _ _ hxs.r1 (by omega) (fun x hx => HLS.out x hx)).mono ?_
            rintro e wt ⟨vt, rfl, hot, hbt⟩
            have hKt := hKs.below hbt
            clear p0 p1 p2 pf hKs hxs hbt
            go_wp2_with fail
            refine (TreeGrowth_s _ _ _ _ hot.r1).mono ?_
            rintro e wu ⟨vu, rfl, hou, hbu⟩
            have hKu := hKt.below hbu
            have hgwt : g + 1 ≤ wt.heap.size := by have := (Array.getElem?_eq_some_iff.1 hKt.fb.box).1; omega
            go_wp2
            go_meet
            exact ⟨h1, _, ⟨hKu.fb, hKu.hd, hou.mono hgwt, hKu.bel⟩, Nat.le_trans (grow_len _ _) (by omega)⟩
          · have ht' : (t2 == 0) = false := by rw [beq_eq_false_iff_ne]; exact ht
            have hLo := hLx
            obtain ⟨L, HLE⟩ : ∃ L, Hid ((bl.set u forkT) = L) := ⟨_, Lib.hid rfl⟩
            have HLS : Hid (∀ x ∈ L, x.size ≤ maxLen) := Lib.hid (fun x hx => HLS0.out x (by rw [← HLE.out] at hx; exact hx))
            have hL16 : L.length ≤ 16 := by rw [← HLE.out]; rw [List.length_set]; exact hl3
            rw [HLE.out] at hLo
            clear hLx ht
            go_wp2_with fail
            refine (l11Leaves_any L _ wx hLo.r1 (by omega) (fun x hx => HLS.out x hx)).mono ?_
            rintro e wp ⟨vp, rfl, hop, hbp⟩
            obtain ⟨h1, ok1, HH1⟩ : ∃ h ok, Hid (hmake s (lvs L) = (h, ok)) := ⟨_, _, Lib.hid rfl⟩
            go_wp2_with fail
            refine (HeadMake_sb HH1 _ _ hop.r1).mono ?_
            rintro e wr ⟨rfl, hbr⟩
            have hKr := (hKx.below hbp).below hbr
            have hxr := (hLo.below hbp).below (hbr.mono (Nat.le_refl _))
            obtain ⟨p0, p1, p2, pf⟩ := box3_cells hKr.hd
            have hKs := hKr.set3 hqz hqh h1
            have hxs := hxr.set3z hKr.hd (by decide) h1
            clear hop hbp hbr hKr hxr hLo hKx
            go_wp2_with fail
            refine (l11Leaves_any L _ _ hxs.r1 (by omega) (fun x hx => HLS.out x hx)).mono ?_
            rintro e wt ⟨vt, rfl, hot, hbt⟩
            have hKt := hKs.below hbt
            clear p0 p1 p2 pf hKs hxs hbt
            go_wp2_with fail
            refine (TreeGrowth_s _ _ _ _ hot.r1).mono ?_
            rintro e wu ⟨vu, rfl, hou, hbu⟩
            have hKu := hKt.below hbu
            have hgwt : g + 1 ≤ wt.heap.size := by have := (Array.getElem?_eq_some_iff.1 hKt.fb.box).1; omega
            go_wp2
            go_meet
            exact ⟨h1, _, ⟨hKu.fb, hKu.hd, hou.mono hgwt, hKu.bel⟩, Nat.le_trans (grow_len _ _) (by omega)⟩
    · have n0 : (y == 0) = false := by rw [beq_eq_false_iff_ne]; omega
      have n1 : (y == 1) = false := by rw [beq_eq_false_iff_ne]; omega
      have n2 : (y == 2) = false := by rw [beq_eq_false_iff_ne]; omega
      have n3 : (y == 3) = false := by rw [beq_eq_false_iff_ne]; omega
      have n4 : (y == 4) = false := by rw [beq_eq_false_iff_ne]; omega
      have n5 : (y == 5) = false := by rw [beq_eq_false_iff_ne]; omega
      go_wp2
      go_meet
      exact ⟨h0, gl0, hK, by have := HGM.out; omega⟩
  case rest =>
    obtain ⟨h, gl, hK, hgl⟩ := hcut
    clear rc hoc hgl12 hz12 HGM
    obtain ⟨gA2, gc2, rfl⟩ := hK.gr.sl
    obtain ⟨p0, p1, p2, pf⟩ := box3_cells hK.hd
    have k0 := hK.fb.c0; have k1 := hK.fb.c1; have k2 := hK.fb.c2; have k3 := hK.fb.c3; have k4 := hK.fb.c4; have k5 := hK.fb.c5
    obtain ⟨z0, z1, z2, z3, z4, z5, zf⟩ := box_cells ((hK.bel.block _ hl0).trans HBOX.out)
    obtain ⟨y0, y1, y2, yf⟩ := box3_cells ((hK.bel.block _ hl1).trans HBOY.out)
    have HK := Lib.hid hK
    have HGL := Lib.hid hgl
    clear hK hgl
    go_wp2
    go_region
    go_wp2
    have hfo := HK.out.fb.fo.set6 (show w.heap.size < g + 1 by omega) (.int .i64 f.pub) (.int .i64 f.hd.len) (.int .i64 f.hd.dg) (.int .i64 f.hd.sg) (.slice vA f.bl.length vc) (.slice yA f.hv.length yc)
    have hgo := O1.set6 HK.out.gr (show w.heap.size < g + 1 by omega) (.int .i64 f.pub) (.int .i64 f.hd.len) (.int .i64 f.hd.dg) (.int .i64 f.hd.sg) (.slice vA f.bl.length vc) (.slice yA f.hv.length yc)
    have hlq : w.heap.size + 1 < g + 1 := by omega
    have hbe := below_set6 (HB0.out.trans (HK.out.bel.mono (Nat.le_of_lt hl0))) (Nat.le_refl _) (.int .i64 f.pub) (.int .i64 f.hd.len) (.int .i64 f.hd.dg) (.int .i64 f.hd.sg) (.slice vA f.bl.length vc) (.slice yA f.hv.length yc)
    refine bodyPost_ret (v := .tuple #[.agg #[.int .i64 f.pub, .int .i64 f.hd.len, .int .i64 f.hd.dg, .int .i64 f.hd.sg, .slice vA f.bl.length vc, .slice yA f.hv.length yc], .agg #[.int .i64 h.len, .int .i64 h.dg, .int .i64 h.sg], .slice gA2 gl.length gc2]) (by simp [results, Try.results53, go_sem, z0, z1, z2, z3, z4, z5, y0, y1, y2]) rfl ⟨f, _, _, h, _, gl, rfl, ?_, l51', l52', HZ5.out, ?_, HGL.out, ?_⟩
    · exact (hfo.set3d hlq _ _ _).mono (by omega)
    · exact (hgo.set3d hlq _ _ _).r1
    · exact below_set3d hbe (Nat.le_succ _) _ _ _


theorem FeedHead_ig {f o : Fd} {h : Hd} {l : List Int} {c : Int} (hh : Hid (fhead f h l = (o, c))) (vb vh lv : Value) (w : World) (hf : FeedR w f vb vh) (hl : RI w lv l) :
    Calls Try.prog 54 #[.agg #[.int .i64 f.pub, .int .i64 f.hd.len, .int .i64 f.hd.dg, .int .i64 f.hd.sg, vb, vh], .agg #[.int .i64 h.len, .int .i64 h.dg, .int .i64 h.sg], lv] w (FHPost o c w) := by
  have := FeedHead_i f h l vb vh lv w hf hl
  rw [hh.out] at this
  exact this
theorem FeedHead_sg {f o : Fd} {h : Hd} {l : List Int} {c : Int} (hh : Hid (fhead f h l = (o, c))) (vb vh lv : Value) (w : World) (hf : FeedR w f vb vh) (hl : RI w lv l) :
    Calls Try.prog 55 #[.agg #[.int .i64 f.pub, .int .i64 f.hd.len, .int .i64 f.hd.dg, .int .i64 f.hd.sg, vb, vh], .agg #[.int .i64 h.len, .int .i64 h.dg, .int .i64 h.sg], lv] w (FHPost o c w) := by
  have := FeedHead_s f h l vb vh lv w hf hl
  rw [hh.out] at this
  exact this
/-- The law's own words: the feed's box, the head's box, the growth. -/
structure LW (B q z : Nat) (w : World) (f : Fd) (vb vh : Value) (h : Hd) (gv : Value) (gl : List Int) : Prop where
  fb : FB B q w f vb vh
  hd : w.heap[z]? = some (.cells #[.int .i64 h.len, .int .i64 h.dg, .int .i64 h.sg] 32 (0, 0))
  gr : RI w gv gl
section
variable {B q z : Nat} {w w' : World} {f : Fd} {vb vh : Value} {h : Hd} {gv : Value} {gl : List Int}
theorem LW.below (k : LW B q z w f vb vh h gv gl) (hb : Below w.heap.size w w') : LW B q z w' f vb vh h gv gl :=
  ⟨k.fb.below hb, (hb.block z (Array.getElem?_eq_some_iff.1 k.hd).1).trans k.hd, k.gr.below hb⟩
theorem LW.lz (k : LW B q z w f vb vh h gv gl) : z < w.heap.size := (Array.getElem?_eq_some_iff.1 k.hd).1
theorem LW.made {w1 : World} (hf : FeedO B w1 f vb vh) (hg : RI w1 gv gl) :
    LW B w1.heap.size (w1.heap.size + 1) ((w1.alloc (.cells #[.int .i64 f.pub, .int .i64 f.hd.len, .int .i64 f.hd.dg, .int .i64 f.hd.sg, vb, vh] 34)).alloc (.cells #[.int .i64 h.len, .int .i64 h.dg, .int .i64 h.sg] 32)) f vb vh h gv gl := by
  have h1 := heap_alloc_new (w1.alloc (.cells #[.int .i64 f.pub, .int .i64 f.hd.len, .int .i64 f.hd.dg, .int .i64 f.hd.sg, vb, vh] 34)) (.cells #[.int .i64 h.len, .int .i64 h.dg, .int .i64 h.sg] 32)
  simp only [World.size_alloc] at h1
  exact ⟨(FB.made hf).below ((Below.refl _ _).alloc (Nat.le_refl _) _), h1, (hg.alloc _).alloc _⟩
end
theorem fhead_not5 {f g : Fd} {h : Hd} {l : List Int} {c : Int} (hh : fhead f h l = (g, c)) (h5 : c ≠ 5) : fvalid f = true ∧ hcode f h l = c ∧ (c = 0 → g = f.grow h) ∧ (c ≠ 0 → g = f) := by
  have hv : fvalid f = true := fhead_valid (h := h) (l := l) (by rw [hh]; exact h5)
  refine ⟨hv, ?_⟩
  unfold fhead at hh
  rw [hv, if_pos rfl] at hh
  have h1 := congrArg Prod.fst hh
  have h2 := congrArg Prod.snd hh
  simp only at h1 h2
  refine ⟨h2, fun h0 => ?_, fun h0 => ?_⟩
  · rw [h2, if_pos h0] at h1; exact h1.symm
  · rw [h2, if_neg h0] at h1; exact h1.symm
theorem fhead_5 {f g : Fd} {h : Hd} {l : List Int} (hv : fvalid f = true) {c : Int} (hh : fhead f h l = (g, c)) : c ≠ 5 := by
  unfold fhead at hh
  rw [hv, if_pos rfl] at hh
  have h2 := congrArg Prod.snd hh
  simp only at h2
  rw [← h2]
  rcases hcode_cases f h l with e | e | e | e | e <;> rw [e] <;> decide
end Go.Proofs.Ytlhiabnablbkpaa
