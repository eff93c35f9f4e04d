/- Walk: the program's copy of a world. No condition but small sizes. | Walk: a quiet period of the program's. No condition but small texts. -/
import Derived.Test.YtcplnfmcefkehaaGreatCH
set_option linter.unusedVariables false
set_option linter.unusedSimpArgs false
namespace Go.Proofs.YtcplnfmcefkehaaGreat
open Go.RowKit
attribute [local go_sem ↓] Go.wp_at_zero Go.wp_at_succ

theorem qa7.nil {B C : Nat} {w : World} : qa7 B C w (.slice none 0 0) [] := ⟨fun k hk => (by cases hk), fun _ => .slice none 0 0, ON.nil, fun j hj => (by simp at hj), fun _ j _ hj => absurd hj (Nat.not_lt_zero _), fun _ j _ hj => absurd hj (Nat.not_lt_zero _)⟩
theorem qcA.nil {B C : Nat} {w : World} : qcA B C w (.slice none 0 0) [] := ⟨fun k hk => (by cases hk), fun _ => .slice none 0 0, ON.nil, fun j hj => (by simp at hj), fun _ j _ hj => absurd hj (Nat.not_lt_zero _)⟩
theorem qbd.nil {B C : Nat} {w : World} : qbd B C w (.slice none 0 0) [] := ⟨fun k hk => (by cases hk), fun _ => .slice none 0 0, ON.nil, fun j hj => (by simp at hj), fun _ j _ hj => absurd hj (Nat.not_lt_zero _)⟩
theorem qa7.row {B C : Nat} {w : World} {v : Value} {fs : List Fd} (h : qa7 B C w v fs) : ∀ r, v.ownBlock = some r → B ≤ r ∧ r < w.heap.size := by obtain ⟨_, F, h1, _⟩ := h; exact h1.lt
structure qbT (q C : Nat) (s b : Int) (x : Wd) (W0 w : World) (g : Nat) (vF vL vA vN : Value) : Prop where
 box : w.heap[g]? = some (.cells #[.int .i64 s, .int .i64 b, vF, vL, vA, vN] 35 (0, 0))
 gq : q ≤ g
 c : WdP q C w x vF vL vA vN
 cs : C ≤ w.heap.size
 b : Below q W0 w
section
variable {q g C : Nat} {s b : Int} {x : Wd} {W0 w w' : World} {vF vL vA vN v : Value}
theorem qbT.lt (h : qbT q C s b x W0 w g vF vL vA vN) : g < w.heap.size := qai h.box
theorem qbT.qs (h : qbT q C s b x W0 w g vF vL vA vN) : q ≤ w.heap.size := Nat.le_of_lt (Nat.lt_of_le_of_lt h.gq h.lt)
theorem qbT.below (h : qbT q C s b x W0 w g vF vL vA vN) {B : Nat} (hb : Below B w w') (hB : B = w.heap.size) : qbT q C s b x W0 w' g vF vL vA vN := by
 subst hB
 exact ⟨(hb.block _ h.lt).trans h.box, h.gq, h.c.below hb, Nat.le_trans h.cs hb.size, h.b.trans (hb.mono h.qs)⟩
theorem qnz {ls : List (Int × Int)} (ho : qav q 52 w vL ls) (hb : Below q W0 w) (hs : q ≤ w.heap.size) :
 ∃ g v C, Value.pointer (some ⟨w.heap.size, 0, none⟩) = .pointer (some ⟨g, 0, none⟩) ∧ qbT q C s b ⟨s, b, [], ls, [], []⟩ W0 (w.alloc (.cells #[.int .i64 s, .int .i64 b, .slice none 0 0, vL, .slice none 0 0, .slice none 0 0] 35)) g (.slice none 0 0) v (.slice none 0 0) (.slice none 0 0) :=
 ⟨_, vL, w.heap.size, rfl, heap_alloc_new _ _, hs, ⟨qa7.nil, ho.o.keepT (qaA.alloc (T := LT2) _) (by decide), qcA.nil, qbd.nil⟩, Nat.le_of_lt (qaB _ _), hb.alloc hs _⟩
theorem qnA {ls : List (Int × Int)} {y0 y1 y2 y3 y4 y5 : Value} (ho : qav q 52 w vL ls) (hb : Below q W0 w) (hg : q ≤ g) (hq : w.heap[g]? = some (.cells #[y0, y1, y2, y3, y4, y5] 35 (0, 0))) :
 ∃ g' v C, Value.pointer (some ⟨g, 0, none⟩) = .pointer (some ⟨g', 0, none⟩) ∧ qbT q C s b ⟨s, b, [], ls, [], []⟩ W0 ((((((w.setCell ⟨g, 0, none⟩ (.int .i64 s)).setCell ⟨g, 1, none⟩ (.int .i64 b)).setCell ⟨g, 2, none⟩ (.slice none 0 0)).setCell ⟨g, 3, none⟩ vL).setCell ⟨g, 4, none⟩ (.slice none 0 0)).setCell ⟨g, 5, none⟩ (.slice none 0 0)) g' (.slice none 0 0) v (.slice none 0 0) (.slice none 0 0) :=
 ⟨g, vL, w.heap.size, rfl, qcU hq _ _ _ _ _ _, hg, ⟨qa7.nil, ho.o.keepT (qaA.set6 (T := LT2) hq (by decide) _ _ _ _ _ _) (by decide), qcA.nil, qbd.nil⟩, (qaA.set6 (T := LT2) hq (by decide) _ _ _ _ _ _).1, qae hb hg _ _ _ _ _ _⟩
theorem qbT.boxR {N n : Nat} {e : TypeId} {F : Nat → Value} (h : qbT q C s b x W0 w g vF vL vA vN) (h1 : ON N q e w v n F) (he : e ≠ 35) (hg : w.grownBy w' v.ownBlock) : w'.heap[g]? = some (.cells #[.int .i64 s, .int .i64 b, vF, vL, vA, vN] 35 (0, 0)) :=
 (hg.block g h.lt (fun e0 => h1.nbox h.box he e0.symm)).trans h.box
theorem qbT.boxF (h : qbT q C s b x W0 w g vF vL vA vN) (hg : w.grownBy w' vF.ownBlock) : w'.heap[g]? = some (.cells #[.int .i64 s, .int .i64 b, vF, vL, vA, vN] 35 (0, 0)) := by
 obtain ⟨_, F, h1, _⟩ := h.c.F; exact h.boxR h1 (by decide) hg
theorem qbT.boxA (h : qbT q C s b x W0 w g vF vL vA vN) (hg : w.grownBy w' vA.ownBlock) : w'.heap[g]? = some (.cells #[.int .i64 s, .int .i64 b, vF, vL, vA, vN] 35 (0, 0)) := by
 obtain ⟨_, F, h1, _⟩ := h.c.A; exact h.boxR h1 (by decide) hg
theorem qbT.boxN (h : qbT q C s b x W0 w g vF vL vA vN) (hg : w.grownBy w' vN.ownBlock) : w'.heap[g]? = some (.cells #[.int .i64 s, .int .i64 b, vF, vL, vA, vN] 35 (0, 0)) := by
 obtain ⟨_, F, h1, _⟩ := h.c.N; exact h.boxR h1 (by decide) hg
theorem qbT.setF {fs : List Fd} (h : qbT q C s b x W0 w g vF vL vA vN) (hg : w.grownBy w' vF.ownBlock) (hf : qa7 q w'.heap.size w' v fs) : qbT q w'.heap.size s b { x with feeds := fs } W0 (w'.setCell ⟨g, 2, none⟩ v) g v vL vA vN := by
 have hbx := h.boxF hg
 obtain ⟨_, F, h1, _⟩ := h.c.F
 have hk : qaA LT2 w' (w'.setCell ⟨g, 2, none⟩ v) := qaA.set1 hbx (by decide) v
 have hc : C ≤ w'.heap.size := Nat.le_trans h.cs hg.size
 exact ⟨qas hbx v, h.gq, ⟨hf.next (hk.mono qi1), ((h.c.L.keepT (h1.grew (T := LTA) hg (by decide)) (by decide)).keepT hk (by decide)).mono (nr_ _) hc, ((h.c.A.next (h1.grew hg (by decide))).next (hk.mono qkm)).mono (nr_ _) hc, ((h.c.N.next (h1.grew hg (by decide))).next (hk.mono qk1)).mono (nr_ _) hc⟩, hk.1, (h.b.grown hg h.qs (fun k hk => (h1.lt k hk).1)).setCell (p := ⟨g, 2, none⟩) h.gq v⟩
theorem qbT.setA {ks : List (List (Int × Int))} (h : qbT q C s b x W0 w g vF vL vA vN) (hg : w.grownBy w' vA.ownBlock) (hf : qcA q w'.heap.size w' v ks) : qbT q w'.heap.size s b { x with asked := ks } W0 (w'.setCell ⟨g, 4, none⟩ v) g vF vL v vN := by
 have hbx := h.boxA hg
 obtain ⟨_, F, h1, _⟩ := h.c.A
 have hk : qaA LT2 w' (w'.setCell ⟨g, 4, none⟩ v) := qaA.set1 hbx (by decide) v
 have hc : C ≤ w'.heap.size := Nat.le_trans h.cs hg.size
 exact ⟨qas hbx v, h.gq, ⟨((h.c.F.next (h1.grew hg (by decide))).next (hk.mono qi1)).mono (nr_ _) hc, ((h.c.L.keepT (h1.grew (T := [52]) hg (by decide)) (by decide)).keepT hk (by decide)).mono (nr_ _) hc, hf.next (hk.mono qkm), ((h.c.N.next (h1.grew hg (by decide))).next (hk.mono qk1)).mono (nr_ _) hc⟩, hk.1, (h.b.grown hg h.qs (fun k hk => (h1.lt k hk).1)).setCell (p := ⟨g, 4, none⟩) h.gq v⟩
theorem qbT.setN {ps : List Pc} (h : qbT q C s b x W0 w g vF vL vA vN) (hg : w.grownBy w' vN.ownBlock) (hf : qbd q w'.heap.size w' v ps) : qbT q w'.heap.size s b { x with net := ps } W0 (w'.setCell ⟨g, 5, none⟩ v) g vF vL vA v := by
 have hbx := h.boxN hg
 obtain ⟨_, F, h1, _⟩ := h.c.N
 have hk : qaA LT2 w' (w'.setCell ⟨g, 5, none⟩ v) := qaA.set1 hbx (by decide) v
 have hc : C ≤ w'.heap.size := Nat.le_trans h.cs hg.size
 exact ⟨qas hbx v, h.gq, ⟨((h.c.F.next (h1.grew hg (by decide))).next (hk.mono qi1)).mono (nr_ _) hc, ((h.c.L.keepT (h1.grew (T := [52]) hg (by decide)) (by decide)).keepT hk (by decide)).mono (nr_ _) hc, ((h.c.A.next (h1.grew hg (by decide))).next (hk.mono qkm)).mono (nr_ _) hc, hf.next (hk.mono qk1)⟩, hk.1, (h.b.grown hg h.qs (fun k hk => (h1.lt k hk).1)).setCell (p := ⟨g, 5, none⟩) h.gq v⟩
theorem qbT.setZ {z i : Nat} {cur : Array Value} (h : qbT q C s b x W0 w g vF vL vA vN) (hz : w.heap[z]? = some (.cells cur 72 (0, 0))) (hq : q ≤ z) (hN : vN.ownBlock ≠ some z) : qbT q C s b x W0 (w.setCell ⟨z, i, none⟩ v) g vF vL vA vN := by
 have hne : g ≠ z := fun e => by subst e; have := h.box.symm.trans hz; simp at this
 have hk1 : qaA LTF w (w.setCell ⟨z, i, none⟩ v) := qaA.set1 hz (by decide) v
 have hk2 : qaA LTA w (w.setCell ⟨z, i, none⟩ v) := qaA.set1 hz (by decide) v
 have hk3 : qaA LP w (w.setCell ⟨z, i, none⟩ v) := qaA.set1 hz (by decide) v
 obtain ⟨h0, F, h1, h2, h3⟩ := h.c.N
 exact ⟨(Below.heap_setCell _ _ _ _ hne).trans h.box, h.gq, ⟨h.c.F.next hk1, h.c.L.keepT hk1 (by decide), h.c.A.next hk2, h0, F, h1.grown (qaR _ _ _) (.inr hN), fun j hj => ⟨(h2 j hj).1, (h2 j hj).2.1, (h2 j hj).2.2.1, (h2 j hj).2.2.2.1, (h2 j hj).2.2.2.2.1, (h2 j hj).2.2.2.2.2.1.keepT hk3 (by decide), (h2 j hj).2.2.2.2.2.2⟩, h3⟩, Nat.le_trans h.cs hk1.1, h.b.setCell (p := ⟨z, i, none⟩) hq v⟩
end
def qk3 (w : World) (x : Wd) (e : Ending) (w' : World) : Prop :=
 ∃ uF uL uA uN, e = .returned (.agg #[.int .i64 x.sec, .int .i64 x.bad, uF, uL, uA, uN]) ∧ WdP w.heap.size w'.heap.size w' x uF uL uA uN ∧ Below w.heap.size w w'
set_option maxHeartbeats 12800000 in
set_option maxRecDepth 100000 in
theorem qjf (x : Wd) (vF vL vA vN : Value) (w : World) (hx : WdR w x vF vL vA vN) (hm : Sml x) :
 Calls Tryz.prog 69 #[.agg #[.int .i64 x.sec, .int .i64 x.bad, vF, vL, vA, vN]] w (qk3 w x) := by
 obtain ⟨s, b, fs, ls, ks, ps⟩ := x
 have HM := hI_ hm
 obtain ⟨hm1, hm2, hm3, hna, _, _, _⟩ := hm
 have HNA := hI_ hna
 simp only at hm1 hm2 hm3 hna
 have hkm : ks.length ≤ 1000000 := by omega
 clear hna
 obtain ⟨W0, HW0⟩ : ∃ W0, Hid ((w.alloc (.cells #[.int .i64 s, .int .i64 b, vF, vL, vA, vN] 35)).alloc (.cells #[.int .i64 0, .int .i64 0, .slice none 0 0, .slice none 0 0, .slice none 0 0, .slice none 0 0] 35) = W0) := ⟨_, hI_ rfl⟩
 have HB0 : Hid (Below w.heap.size w W0) := hI_ (by rw [← HW0.out]; exact ((bR_ _ _).alloc (nr_ _) _).alloc (by simp) _)
 have hs0 : w.heap.size + 2 = W0.heap.size := by rw [← HW0.out]; simp
 have HP0 : Hid (W0.heap[w.heap.size]? = some (.cells #[.int .i64 s, .int .i64 b, vF, vL, vA, vN] 35 (0, 0))) := hI_ (by rw [← HW0.out]; exact qau (heap_alloc_new _ _))
 have HZ0 : Hid (W0.heap[w.heap.size + 1]? = some (.cells #[.int .i64 0, .int .i64 0, .slice none 0 0, .slice none 0 0, .slice none 0 0, .slice none 0 0] 35 (0, 0))) := hI_ (by rw [← HW0.out]; exact qbu (by simp))
 have HX0 : Hid (WdR W0 ⟨s, b, fs, ls, ks, ps⟩ vF vL vA vN) := hI_ (hx.below HB0.out)
 have hl0 : w.heap.size < W0.heap.size := by omega
 have hl1 : w.heap.size + 1 < W0.heap.size := by omega
 clear hx hs0
 obtain ⟨fA, fc, rfl⟩ := HX0.out.feeds.sl
 obtain ⟨aA, ac, rfl⟩ := HX0.out.asked.sl
 obtain ⟨nA, nc, rfl⟩ := HX0.out.net.sl
 have HL0 : Hid (RP W0 vL ls) := hI_ HX0.out.links
 obtain ⟨p0, p1, p2, p3, p4, p5, pf⟩ := qaa HP0.out
 go_enter Tryz.func69, Tryz.ntmps69
 go_wp2_with fail
 rw [HW0.out]
 go_upto_region 1 with fail
 go_cut [3] (fun s3 wx => ∃ g v C, s3 = .pointer (some ⟨g, 0, none⟩) ∧ qbT W0.heap.size C s b ⟨s, b, [], ls, [], []⟩ W0 wx g (.slice none 0 0) v (.slice none 0 0) (.slice none 0 0))
 case first =>
  have d0 : W0.drew.cell? ⟨w.heap.size, 0, none⟩ = _ := p0
  have d1 : W0.drew.cell? ⟨w.heap.size, 1, none⟩ = _ := p1
  have d3 : W0.drew.cell? ⟨w.heap.size, 3, none⟩ = _ := p3
  clear p2 p4 p5 pf
  go_region_held3 (fun w' => w'.cell? ⟨w.heap.size, 0, none⟩ = some (.int .i64 s) ∧ w'.cell? ⟨w.heap.size, 1, none⟩ = some (.int .i64 b) ∧ w'.cell? ⟨w.heap.size, 3, none⟩ = some vL)
   (first | with_reducible exact ⟨d0, d1, d3⟩ | (with_reducible refine ⟨Eq.trans (Below.cell (B := W0.heap.size) ?_ hl0) p0, Eq.trans (Below.cell (B := W0.heap.size) ?_ hl0) p1, Eq.trans (Below.cell (B := W0.heap.size) ?_ hl0) p3⟩ <;> (repeat (first | with_reducible exact bR_ _ _ | with_reducible exact hb05 | with_reducible refine qab ?_ _ | with_reducible refine qac ?_ | with_reducible refine qae ?_ ?_ _ _ _ _ _ _ | omega)); done))
   (first
     | (go_at_call 137; refine (qku ls _ _ (HL0.out.below (by with_reducible repeat (first | exact bR_ _ _ | refine qab ?_ _ | refine qac ?_))) (by omega)).mono ?_; rintro e w5 ⟨A5, c5, rfl, ho5, hb5⟩
        have hb05 : Below W0.heap.size W0 w5 := qb6 (by with_reducible repeat (first | exact bR_ _ _ | refine qab ?_ _ | refine qac ?_)) hb5
        have hs5 := hb05.size
        have ho6 : qav W0.heap.size 52 w5 (.slice A5 ls.length c5) ls := ho5.mono (by first | exact nr_ _ | (simp; done) | (simp; omega))
        try (have hz5 := (hb5.block _ (qaB _ _)).trans (heap_alloc_new _ _); obtain ⟨k0, k1, k2, k3, k4, k5, kf⟩ := qaa hz5)))
  all_goals
   go_wp2
   go_meet
  · exact qnz ho6 hb05 hs5
  · exact qnA ho6 hb05 (by simp) hz5
 case rest =>
  obtain ⟨g, vl, C0, rfl, hL1⟩ := hcut
  obtain ⟨W1, rfl⟩ : ∃ W1, W1 = wc := ⟨_, rfl⟩
  have HL1 := hI_ hL1
  clear p0 p1 p2 p3 p4 p5 pf
  obtain ⟨p0, p1, p2, p3, p4, p5, pf⟩ := qaa ((hL1.b.block _ hl0).trans HP0.out)
  clear hL1
  go_wp2_with fail
  clear p0 p1 p2 p3 p4 p5 pf
  go_loopw [21] (fun i wr => ∃ (k : Nat) (uF : Value) (C : Nat), k ≤ fs.length ∧ i = .int .i64 k ∧ qbT W0.heap.size C s b ⟨s, b, fs.take k, ls, [], []⟩ W0 wr g uF vl (.slice none 0 0) (.slice none 0 0)) (fun i _ => fs.length - (intOf i).toNat)
  case atStart => exact ⟨0, _, _, Nat.zero_le _, rfl, HL1.out⟩
  case round =>
   obtain ⟨k, uF, C, hk, rfl, hc⟩ := hrel
   obtain ⟨wr1, rfl⟩ : ∃ W, W = wr := ⟨_, rfl⟩
   have HC := hI_ hc
   have hb := hc.b
   clear hc
   by_cases hlt : k < fs.length
   · have hki : (k : Int) < (fs.length : Int) := by omega
     have hk0 : (0 : Int) ≤ (k : Int) := by omega
     obtain ⟨b0, o0, xb, xh, hA, hbs, f0, f1, f2, f3, f4, f5, hF⟩ := (HX0.out.feeds.below hb).at_ hlt
     subst hA
     have HBB := hI_ (HM.out.b k hlt)
     have HSN := hI_ (qaZ hlt)
     obtain ⟨fk, HFK⟩ : ∃ f, Hid (fs[k] = f) := ⟨_, hI_ rfl⟩
     simp only at HBB
     rw [HFK.out] at f0 f1 f2 f3 hF HSN HBB
     have HF := hI_ hF
     obtain ⟨xbA, xbc, rfl⟩ := hF.bl.sl'
     obtain ⟨xhA, xhc, rfl⟩ := hF.hv.sl'
     clear hF hb
     go_upto_region 5 with fail
     obtain ⟨W5, HW5⟩ : ∃ W5, Hid (wr1.alloc (.cells #[.int .i64 fk.pub, .int .i64 fk.hd.len, .int .i64 fk.hd.dg, .int .i64 fk.hd.sg, .slice xbA fk.bl.length xbc, .slice xhA fk.hv.length xhc] 59) = W5) := ⟨_, hI_ rfl⟩
     rw [HW5.out]
     have hb5 : Below wr1.heap.size wr1 W5 := by rw [← HW5.out]; exact qab (bR_ _ _) _
     have hz5 : W5.heap[wr1.heap.size]? = some (.cells #[.int .i64 fk.pub, .int .i64 fk.hd.len, .int .i64 fk.hd.dg, .int .i64 fk.hd.sg, .slice xbA fk.bl.length xbc, .slice xhA fk.hv.length xhc] 59 (0, 0)) := by rw [← HW5.out]; exact heap_alloc_new _ _
     have hc5 := HC.out.below hb5 rfl
     have HC5 := hI_ hc5
     have HF5 := hI_ (HF.out.below' hb5)
     obtain ⟨m0, m1, m2, m3, m4, m5, mf⟩ := qaa (show W5.drew.heap[wr1.heap.size]? = _ from hz5)
     have hgd : W5.drew.cell? ⟨g, 2, none⟩ = some uF := (qaa hc5.box).2.2.1
     clear f0 f1 f2 f3 f4 f5 hb5 hz5 hc5 mf
     go_region_law
      (first
        | ((refine qa9 (by rfl) (qnc (base := W0.heap.size) (f := fk) hc6.c.F ho6 hCD (Nat.le_trans HC5.out.qs hD) (by simp; omega) hc6.qs hc6.cs rfl rfl rfl rfl ?_))
           intro A7 c7 w7 ho7 hg7
           obtain ⟨n7, hn7⟩ : ∃ n, (fs.take k).length + 1 = n := ⟨_, rfl⟩
           simp only [hn7] at ho7 ⊢
           clear hn7
           obtain ⟨j0, j1, j2, j3, j4, j5, jf⟩ := qaa (hc6.boxF hg7))
        | (go_simp; go_wp2_with (first
        | (go_at_call 138; refine (qbV fk _ _ _ (HF5.out.below' (qac (bR_ _ _))) HBB.out.1 HBB.out.2).mono ?_; rintro e w6 ⟨ub, uh, rfl, ho6, hb6⟩; obtain ⟨uB, ubc, rfl⟩ := ho6.bl.sl; obtain ⟨uH, uhc, rfl⟩ := ho6.hv.sl; have hc6 := HC5.out.below ((qac (bR_ _ W5)).trans hb6) rfl; have hCD := HC5.out.cs; have hD : W5.heap.size ≤ W5.drew.heap.size := nr_ _
           have hg6 := (qaa hc6.box).2.2.1; have hg6a : ∀ o, (w6.alloc o).cell? ⟨g, 2, none⟩ = some uF := fun o => (qaa (qau hc6.box)).2.2.1))))
     all_goals
      go_wp2
      go_roundw
      case rel => exact ⟨k + 1, _, _, by omega, by go_num, by rw [HSN.out]; exact hc6.setF hg7 ho7⟩
      case measure => simp [intOf]; omega
   · obtain rfl : k = fs.length := by omega
     have hki : ¬ (fs.length : Int) < (fs.length : Int) := by omega
     have HN : Hid (qbT W0.heap.size C s b ⟨s, b, fs, ls, [], []⟩ W0 wr1 g uF vl (.slice none 0 0) (.slice none 0 0)) := hI_ (by have h := HC.out; rwa [List.take_length] at h)
     obtain ⟨p0, p1, p2, p3, p4, p5, pf⟩ := qaa ((hb.block _ hl0).trans HP0.out)
     clear hb
     go_wp2_with fail
     clear p0 p1 p2 p3 p4 p5 pf
     go_loopw [36] (fun i wr => ∃ (k : Nat) (uA : Value) (C : Nat), k ≤ ks.length ∧ i = .int .i64 k ∧ qbT W0.heap.size C s b ⟨s, b, fs, ls, ks.take k, []⟩ W0 wr g uF vl uA (.slice none 0 0)) (fun i _ => ks.length - (intOf i).toNat)
     case atStart => exact ⟨0, _, _, Nat.zero_le _, rfl, HN.out⟩
     case round =>
      obtain ⟨k, uA, C, hk, rfl, hc⟩ := hrel
      obtain ⟨wr2, rfl⟩ : ∃ W, W = wr := ⟨_, rfl⟩
      have HC2 := hI_ hc
      have hb := hc.b
      by_cases hlt : k < ks.length
      · have hki : (k : Int) < (ks.length : Int) := by omega
        have hk0 : (0 : Int) ≤ (k : Int) := by omega
        obtain ⟨b1, o1, x1, hA1, hbs1, f0, hR⟩ := (HX0.out.asked.below hb).at_ hlt
        subst hA1
        have hkl := HM.out.a k hlt
        simp only at hkl
        have HSK := hI_ (qaZ hlt)
        obtain ⟨kk, HKK⟩ : ∃ f, Hid (ks[k] = f) := ⟨_, hI_ rfl⟩
        rw [HKK.out] at hR hkl HSK
        have HR := hI_ hR
        obtain ⟨yA, yc, rfl⟩ := hR.sl
        have hgd : wr2.drew.cell? ⟨g, 4, none⟩ = some uA := (qaa hc.box).2.2.2.2.1
        clear hR hb hc
        go_upto_region 10 with fail
        go_region_law
         (first
           | ((refine qa9 (by rfl) (qnY (base := W0.heap.size) (l := kk) hc6.c.A ho6 hCD (Nat.le_trans HC2.out.qs hD) (by simp; omega) hc6.qs hc6.cs rfl rfl rfl rfl ?_))
              intro A7 c7 w7 ho7 hg7
              obtain ⟨n7, hn7⟩ : ∃ n, (ks.take k).length + 1 = n := ⟨_, rfl⟩
              simp only [hn7] at ho7 ⊢
              clear hn7
              obtain ⟨j0, j1, j2, j3, j4, j5, jf⟩ := qaa (hc6.boxA hg7))
           | (go_simp; go_wp2_with (first
           | (go_at_call 139; refine (qll kk _ _ (HR.out.below (qac (bR_ _ _))) (by omega)).mono ?_; rintro e w6 ⟨A6, c6, rfl, ho6, hb6⟩; have hc6 := HC2.out.below ((qac (bR_ _ wr2)).trans hb6) rfl; have hCD := HC2.out.cs; have hD : wr2.heap.size ≤ wr2.drew.heap.size := nr_ _
              have hg6 := (qaa hc6.box).2.2.2.2.1; have hg6a : ∀ o, (w6.alloc o).cell? ⟨g, 4, none⟩ = some uA := fun o => (qaa (qau hc6.box)).2.2.2.2.1))))
        all_goals
         go_wp2
         go_roundw
         case rel => exact ⟨k + 1, _, _, by omega, by go_num, by rw [HSK.out]; exact hc6.setA hg7 ho7⟩
         case measure => simp [intOf]; omega
      · obtain rfl : k = ks.length := by omega
        have hki : ¬ (ks.length : Int) < (ks.length : Int) := by omega
        have HN2 : Hid (qbT W0.heap.size C s b ⟨s, b, fs, ls, ks, []⟩ W0 wr2 g uF vl uA (.slice none 0 0)) := hI_ (by have h := HC2.out; rwa [List.take_length] at h)
        obtain ⟨p0, p1, p2, p3, p4, p5, pf⟩ := qaa ((hb.block _ hl0).trans HP0.out)
        clear hb hc
        go_wp2_with fail
        clear p0 p1 p2 p3 p4 p5 pf
        go_loopw [51] (fun i wz => ∃ (j : Nat) (uN : Value) (C : Nat), j ≤ ps.length ∧ i = .int .i64 j ∧ qbT W0.heap.size C s b ⟨s, b, fs, ls, ks, ps.take j⟩ W0 wz g uF vl uA uN) (fun i _ => ps.length - (intOf i).toNat)
        case atStart => exact ⟨0, _, _, Nat.zero_le _, rfl, HN2.out⟩
        case round =>
         obtain ⟨j, uN, C3, hj, rfl, hc⟩ := hrel
         obtain ⟨wz, rfl⟩ : ∃ W, W = wr := ⟨_, rfl⟩
         have HCZ := hI_ hc
         have hb := hc.b
         obtain ⟨g0, g1, g2, g3, g4, g5, gf⟩ := qaa hc.box
         by_cases hltj : j < ps.length
         case neg =>
          obtain rfl : j = ps.length := by omega
          have hE : qbT W0.heap.size C3 s b ⟨s, b, fs, ls, ks, ps⟩ W0 wz g uF vl uA uN := by
           have h := HCZ.out
           rwa [List.take_length] at h
          have hz := (hb.block _ hl1).trans HZ0.out
          obtain ⟨y0, y1, y2, y3, y4, y5, yf⟩ := qaa hz
          have HZ := hI_ hz
          have HE := hI_ hE
          obtain ⟨A1, c1, rfl⟩ := hE.c.F.r.sl
          obtain ⟨A2, c2, rfl⟩ := hE.c.L.r.sl
          obtain ⟨A3, c3, rfl⟩ := hE.c.A.r.sl
          obtain ⟨A4, c4, rfl⟩ := hE.c.N.r.sl
          have hki : ¬ (ps.length : Int) < (ps.length : Int) := by omega
          clear hE hz hc hb
          go_wp2_with fail
          refine bodyPost_ret (v := .agg #[.int .i64 s, .int .i64 b, .slice A1 fs.length c1, .slice A2 ls.length c2, .slice A3 ks.length c3, .slice A4 ps.length c4]) (by simp [results, Tryz.results69, go_sem, y0, y1, y2, y3, y4, y5]) rfl ⟨_, _, _, _, rfl, ?_, ?_⟩
          · have hk6 := qaA.set6 (T := LT2) HZ.out (by decide) (.int .i64 s) (.int .i64 b) (.slice A1 fs.length c1) (.slice A2 ls.length c2) (.slice A3 ks.length c3) (.slice A4 ps.length c4)
            exact (HE.out.c.keep hk6).mono (Nat.le_of_lt hl0) (Nat.le_trans HE.out.cs hk6.1)
          · exact qae (HB0.out.trans (HE.out.b.mono (Nat.le_of_lt hl0))) (Nat.le_succ _) _ _ _ _ _ _
         have hji : (j : Int) < (ps.length : Int) := by omega
         have hj0 : (0 : Int) ≤ (j : Int) := by omega
         obtain ⟨b2, o2, xp, hA2, hbs2, h0, h1, h2, h3, h4, h5, hRp⟩ := (HX0.out.net.below hb).at_ hltj
         subst hA2
         have hpl := HM.out.q j hltj
         simp only at hpl
         have HSP := hI_ (qaZ hltj)
         obtain ⟨pj, HPJ⟩ : ∃ f, Hid (ps[j] = f) := ⟨_, hI_ rfl⟩
         rw [HPJ.out] at h0 h1 h2 h3 h4 hRp hpl HSP
         have HRP := hI_ hRp
         have HPL := hI_ hpl
         obtain ⟨xA, xc, rfl⟩ := R1.sl' hRp
         clear hb hpl hc hRp
         obtain ⟨fr, to_, ln, ix, tx, pf⟩ := pj
         simp only at h0 h1 h2 h3 h4 h5 HRP HPL
         have hbz : Below wz.heap.size wz (wz.alloc (.cells #[.int .i64 fr, .int .i64 to_, .int .i64 ln, .int .i64 ix, .string tx, .slice xA pf.length xc] 72)) := qab (bR_ _ _) _
         have HBZ := hI_ hbz
         clear hbz
         go_wp2_with (first
          | (go_at_call 140; refine (qdS pf _ _ (HRP.out.below HBZ.out) (by have := HPL.out; omega)).mono ?_; rintro e w7 ⟨v7, rfl, ho7, hb7⟩; obtain ⟨A7, c7, rfl⟩ := ho7.sl
             have hb7' := HBZ.out.trans (hb7.mono (Nat.le_of_lt (qaB _ _)))
             have hz7 := (hb7.block _ (qaB _ _)).trans (at0 wz (.cells #[.int .i64 fr, .int .i64 to_, .int .i64 ln, .int .i64 ix, .string tx, .slice xA pf.length xc] 72))
             obtain ⟨z0, z1, z2, z3, z4, z5, zf⟩ := qaa hz7
             have hc7 := HCZ.out.below hb7' rfl
             have hc9 := hc7.setZ (i := 5) (v := .slice A7 pf.length c7) hz7 HCZ.out.qs (fun e => by obtain ⟨_, _, q1, _⟩ := HCZ.out.c.N; exact Nat.lt_irrefl _ (q1.lt _ e).2)
             have hz9 : (w7.setCell ⟨wz.heap.size, 5, none⟩ (.slice A7 pf.length c7)).heap[wz.heap.size]? = some (.cells #[.int .i64 fr, .int .i64 to_, .int .i64 ln, .int .i64 ix, .string tx, .slice A7 pf.length c7] 72 (0, 0)) := qas hz7 _
             obtain ⟨t0, t1, t2, t3, t4, t5, tf⟩ := qaa hz9
             obtain ⟨s0, s1, s2, s3, s4, s5, sf⟩ := qaa hc9.box
             have hst : O1 (Value.int .i64) (wz.alloc (.cells #[.int .i64 fr, .int .i64 to_, .int .i64 ln, .int .i64 ix, .string tx, .slice xA pf.length xc] 72)).heap.size 3 (w7.setCell ⟨wz.heap.size, 5, none⟩ (.slice A7 pf.length c7)) (.slice A7 pf.length c7) pf := ho7.keepT (qaA.set1 (T := LP) hz7 (by decide) _) (by decide)
             have hCD : C3 ≤ (wz.alloc (.cells #[.int .i64 fr, .int .i64 to_, .int .i64 ln, .int .i64 ix, .string tx, .slice xA pf.length xc] 72)).heap.size := Nat.le_trans HCZ.out.cs (Nat.le_of_lt (qaB _ _))
             have hBD : W0.heap.size ≤ (wz.alloc (.cells #[.int .i64 fr, .int .i64 to_, .int .i64 ln, .int .i64 ix, .string tx, .slice xA pf.length xc] 72)).heap.size := Nat.le_trans HCZ.out.qs (Nat.le_of_lt (qaB _ _)))
          | (at_builtin; refine qaF rfl fun K hK => qmn (base := W0.heap.size) (p := ⟨fr, to_, ln, ix, tx, pf⟩) hc9.c.N hst hCD hBD (by simp; omega) hc9.qs hc9.cs rfl rfl rfl (by simp) (fun A10 c10 w10 ho10 hg10 => hK _ _ ?_)
             obtain ⟨n10, hn10⟩ : ∃ n, (ps.take j).length + 1 = n := ⟨_, rfl⟩
             simp only [hn10] at ho10 ⊢
             clear hn10
             obtain ⟨j0, j1, j2, j3, j4, j5, jf⟩ := qaa (hc9.boxN hg10)))
         go_roundw
         case rel => exact ⟨j + 1, _, _, by omega, by go_num, by rw [HSP.out]; exact hc9.setN hg10 ho10⟩
         case measure => simp [intOf]; omega
def Wd.zero : Wd := ⟨0, 0, [], [], [], []⟩
def qcL (x : Wd) : Wd := if qcc x = true then qgl x else Wd.zero
theorem WdP.zero {B C : Nat} {w : World} : WdP B C w Wd.zero (.slice none 0 0) (.slice none 0 0) (.slice none 0 0) (.slice none 0 0) :=
 ⟨qa7.nil, ⟨fun k hk => (by cases hk), fun _ => .slice none 0 0, ON.nil, fun j hj => (by simp [Wd.zero] at hj)⟩, qcA.nil, qbd.nil⟩
theorem qcA.made {w : World} {n : Nat} (hn : n ≤ maxLen) : qcA w.heap.size (w.heap.size + 1) (w.alloc (.cells (madeCells #[.slice none 0 0] (n * 1)) 50)) (.slice (some ⟨w.heap.size, 0, none⟩) n n) (List.replicate n []) := by
 refine ⟨fun k hk => (by cases hk; exact Nat.lt_succ_self _), fun t => (#[Value.slice none 0 0] : Array Value)[t % (#[Value.slice none 0 0] : Array Value).size]!, by rw [List.length_replicate]; exact ON.madeN _ hn, fun j hj => ?_, fun i j _ _ k hk => ?_⟩
 · rw [List.getElem_replicate]
   refine ⟨fun k hk => ?_, fun _ => .slice none 0 0, ?_, fun j hj => by simp at hj⟩
   · simp [Nat.mod_one] at hk; cases hk
   · simp [Nat.mod_one]; exact ON.nil
 · simp [Nat.mod_one] at hk; cases hk
theorem WdP.turn {B C g n cap : Nat} {w w' : World} {x y : Wd} {vL vA vN : Value} (h : WdP B C w x (.slice (some ⟨g, 0, none⟩) n cap) vL vA vN) (hC : C ≤ w.heap.size) (hF : qa7 B w'.heap.size w' (.slice (some ⟨g, 0, none⟩) n cap) y.feeds) (hg : w.grownBy w' (some g))
 (e1 : y.links = x.links) (e2 : y.asked = x.asked) (e3 : y.net = x.net) : WdP B w'.heap.size w' y (.slice (some ⟨g, 0, none⟩) n cap) vL vA vN := by
 obtain ⟨_, F, h1, _⟩ := h.F
 have hc := Nat.le_trans hC hg.size
 refine ⟨hF, ?_, ?_, ?_⟩
 · rw [e1]; exact (h.L.keepT (h1.grew (T := [52]) hg (by decide)) (by decide)).mono (nr_ _) hc
 · rw [e2]; exact (h.A.next (h1.grew hg (by decide))).mono (nr_ _) hc
 · rw [e3]; exact (h.N.next (h1.grew hg (by decide))).mono (nr_ _) hc
structure qel (B g gF cF : Nat) (y : Wd) (w0 w : World) (vL vA : Value) : Prop where
 box : w.heap[g]? = some (.cells #[.int .i64 y.sec, .int .i64 y.bad, .slice (some ⟨gF, 0, none⟩) y.feeds.length cF, vL, vA, .slice none 0 0] 35 (0, 0))
 p : WdP B w.heap.size w y (.slice (some ⟨gF, 0, none⟩) y.feeds.length cF) vL vA (.slice none 0 0)
 b : Below B w0 w
 gB : B ≤ g
section
variable {B g gF cF : Nat} {y : Wd} {w0 w w' : World} {vL vA : Value}
theorem qel.bs (h : qel B g gF cF y w0 w vL vA) : B ≤ w.heap.size := Nat.le_of_lt (Nat.lt_of_le_of_lt h.gB (qai h.box))
theorem qel.nk {k : Nat} {cur : Array Value} {t : TypeId} {fr : Nat × Nat} (h : qel B g gF cF y w0 w vL vA) (hk : w.heap[k]? = some (.cells cur t fr)) (ht : 59 ≠ t) : k ≠ gF := by
 obtain ⟨_, F, h1, _⟩ := h.p.F
 exact fun e => h1.nbox hk ht (by rw [e]; rfl)
theorem qel.below (h : qel B g gF cF y w0 w vL vA) (hb : Below w.heap.size w w') : qel B g gF cF y w0 w' vL vA :=
 ⟨(hb.block _ (qai h.box)).trans h.box, (h.p.below hb).mono (nr_ _) hb.size, h.b.trans (hb.mono h.bs), h.gB⟩
theorem qel.ne (h : qel B g gF cF y w0 w vL vA) : g ≠ gF := by
 obtain ⟨_, F, h1, _⟩ := h.p.F
 exact fun e => h1.nbox h.box (by decide) (by rw [e]; rfl)
theorem qel.gl (h : qel B g gF cF y w0 w vL vA) : B ≤ gF ∧ gF < w.heap.size := by
 obtain ⟨_, F, h1, _⟩ := h.p.F
 exact h1.lt gF rfl
theorem qel.give (h : qel B g gF cF y w0 w vL vA) (hw : WV y) {i j : Nat} (hij : i ≠ j) (hi : i < y.feeds.length) (hj : j < y.feeds.length) (hL : qbk y i j = true) :
 Calls Tryz.prog 70 #[.pointer (some ⟨g, 0, none⟩), .int .i64 (i : Int), .int .i64 (j : Int)] w fun e w' => e = .returned (.tuple #[]) ∧ qel B g gF cF (qa5 y i j) w0 w' vL vA ∧ w.grownBy w' (some gF) := by
 obtain ⟨t0, t1, t2, t3, t4, t5, tf⟩ := qaa h.box
 refine (qn6 y i j g 0 B w.heap.size gF cF w hw hij hi hj hL (by simpa using t1) (by simpa using t2) (qai h.box) h.ne h.p.F (nr_ _)).mono ?_
 rintro e w' ⟨rfl, hF, hg⟩
 have gv := qlD hw hij hi hj hL
 refine ⟨rfl, ⟨?_, ?_, h.b.grown hg h.bs (fun r hr => by cases hr; exact h.gl.1), h.gB⟩, hg⟩
 · rw [gv.sec, gv.bad, gv.n]
   exact (hg.block g (qai h.box) (fun e => by cases e; exact h.ne rfl)).trans h.box
 · rw [gv.n] at hF ⊢
   exact h.p.turn (nr_ _) hF hg gv.links gv.asked gv.net
end
structure qgn (P Z : Array Value) (g gF cF : Nat) (y : Wd) (w wr : World) (vL vA : Value) : Prop where
 i : qel w.heap.size g gF cF y w wr vL vA
 p : wr.heap[w.heap.size]? = some (.cells P 35 (0, 0))
 z : wr.heap[w.heap.size + 1]? = some (.cells Z 35 (0, 0))
theorem qgn.below {P Z : Array Value} {g gF cF : Nat} {y : Wd} {w wr w' : World} {vL vA : Value} (h : qgn P Z g gF cF y w wr vL vA) (hb : Below wr.heap.size wr w') : qgn P Z g gF cF y w w' vL vA :=
 ⟨h.i.below hb, (hb.block _ (qai h.p)).trans h.p, (hb.block _ (qai h.z)).trans h.z⟩
theorem qgn.give {P Z : Array Value} {g gF cF : Nat} {y : Wd} {w wr : World} {vL vA : Value} (h : qgn P Z g gF cF y w wr vL vA) (hw : WV y) {i j : Nat} (hij : i ≠ j) (hi : i < y.feeds.length) (hj : j < y.feeds.length) (hL : qbk y i j = true) :
 Calls Tryz.prog 70 #[.pointer (some ⟨g, 0, none⟩), .int .i64 (i : Int), .int .i64 (j : Int)] wr fun e w' => e = .returned (.tuple #[]) ∧ qgn P Z g gF cF (qa5 y i j) w w' vL vA ∧ wr.grownBy w' (some gF) := by
 refine (h.i.give hw hij hi hj hL).mono ?_
 rintro e w' ⟨rfl, h1, hg⟩
 exact ⟨rfl, ⟨h1, (hg.block _ (qai h.p) (fun e => by cases e; exact h.i.nk h.p (by decide) rfl)).trans h.p, (hg.block _ (qai h.z) (fun e => by cases e; exact h.i.nk h.z (by decide) rfl)).trans h.z⟩, hg⟩
set_option maxHeartbeats 12800000 in
set_option maxRecDepth 100000 in
theorem qfG (x : Wd) (vF vL vA vN : Value) (w : World) (hx : WdR w x vF vL vA vN) (ht : ∀ j (hj : j < x.net.length), x.net[j].txt.size ≤ maxLen) :
 Calls Tryz.prog 28 #[.agg #[.int .i64 x.sec, .int .i64 x.bad, vF, vL, vA, vN]] w (qk3 w (qcL x)) := by
 obtain ⟨W0, HW0⟩ : ∃ W0, Hid ((w.alloc (.cells #[.int .i64 x.sec, .int .i64 x.bad, vF, vL, vA, vN] 35)).alloc (.cells #[.int .i64 0, .int .i64 0, .slice none 0 0, .slice none 0 0, .slice none 0 0, .slice none 0 0] 35) = W0) := ⟨_, hI_ rfl⟩
 have HB0 : Hid (Below w.heap.size w W0) := hI_ (by rw [← HW0.out]; exact qab (qab (bR_ _ _) _) _)
 have hs0 : w.heap.size + 2 = W0.heap.size := by rw [← HW0.out]; simp
 have HP0 : Hid (W0.heap[w.heap.size]? = some (.cells #[.int .i64 x.sec, .int .i64 x.bad, vF, vL, vA, vN] 35 (0, 0))) := hI_ (by rw [← HW0.out]; exact qau (heap_alloc_new _ _))
 have HZ0 : Hid (W0.heap[w.heap.size + 1]? = some (.cells #[.int .i64 0, .int .i64 0, .slice none 0 0, .slice none 0 0, .slice none 0 0, .slice none 0 0] 35 (0, 0))) := hI_ (by rw [← HW0.out]; exact qbu (by simp))
 have hl0 : w.heap.size < W0.heap.size := by omega
 have hl1 : w.heap.size + 1 < W0.heap.size := by omega
 have HX0 : Hid (WdR W0 x vF vL vA vN) := hI_ (hx.below HB0.out)
 have HT := hI_ ht
 obtain ⟨FA, Fc, rfl⟩ := hx.feeds.sl
 obtain ⟨LA, Lc, rfl⟩ := hx.links.sl
 have HLW := hI_ hx.links
 clear hs0 hx ht
 obtain ⟨p0, p1, p2, p3, p4, p5, pf⟩ := qaa HP0.out
 go_enter Tryz.func28, Tryz.ntmps28
 go_wp2_with fail
 rw [HW0.out]
 go_wp2_with fail
 refine (qfi x _ _ _ _ W0 HX0.out HT.out).mono ?_
 rintro e w1 ⟨rfl, hb1⟩
 clear p0 p1 p2 p3 p4 p5 pf
 have HP1 := hI_ ((hb1.block _ hl0).trans HP0.out)
 have HZ1 := hI_ ((hb1.block _ hl1).trans HZ0.out)
 have hm0 := nL_ hl0 hb1.size
 have hm1 := nL_ hl1 hb1.size
 have HB1 := hI_ (HB0.out.trans (hb1.mono HB0.out.size))
 have HX1 := hI_ (HX0.out.below hb1)
 clear hb1
 obtain ⟨bv, HBV⟩ : ∃ b, Hid (qcc x = b) := ⟨_, hI_ rfl⟩
 rw [HBV.out]
 cases bv
 · obtain ⟨y0, y1, y2, y3, y4, y5, yf⟩ := qaa HZ1.out
   have HR : Hid (qcL x = Wd.zero) := hI_ (by unfold qcL; rw [HBV.out]; rfl)
   go_wp2_with fail
   refine bodyPost_ret (v := .agg #[.int .i64 0, .int .i64 0, .slice none 0 0, .slice none 0 0, .slice none 0 0, .slice none 0 0]) (by simp [results, Tryz.results28, go_sem, y0, y1, y2, y3, y4, y5]) rfl ?_
   rw [HR.out]
   exact ⟨_, _, _, _, rfl, WdP.zero, qae HB1.out (Nat.le_succ _) _ _ _ _ _ _⟩
 have hwv : WV x := qcq.1 HBV.out
 have HQ := hI_ hwv.quiet
 have HNA : Hid (x.asked.length = x.feeds.length) := hI_ hwv.na
 have HWV := hI_ hwv
 have hn6 : x.feeds.length ≤ 6 := hwv.wi.n6
 have hn1 : 0 < x.feeds.length := by have := hwv.wi.n1; omega
 have hl40 : x.links.length ≤ 40 := hwv.wi.nl
 have HR : Hid (qcL x = qgl x) := hI_ (by unfold qcL; rw [HBV.out]; rfl)
 clear hwv
 obtain ⟨p0, p1, p2, p3, p4, p5, pf⟩ := qaa HP1.out
 go_wp2_with fail
 refine (qjf x _ _ _ _ w1 HX1.out (HWV.out.wi.sml (by omega))).mono ?_
 rintro e w2 ⟨uF, uL, uA, uN, rfl, hp2, hb2⟩
 obtain ⟨gF, cF, rfl⟩ : ∃ g c, uF = .slice (some ⟨g, 0, none⟩) x.feeds.length c := by
  obtain ⟨_, F, h1, _⟩ := hp2.F
  obtain ⟨g, c, h, _⟩ := h1.form hn1
  exact ⟨g, c, h⟩
 obtain ⟨LB_, Ld, rfl⟩ := hp2.L.r.sl
 obtain ⟨AB, Ad, rfl⟩ := hp2.A.r.sl
 obtain ⟨NB, Nd, rfl⟩ := hp2.N.r.sl
 clear p0 p1 p2 p3 p4 p5 pf
 have HP2 := hI_ ((hb2.block _ hm0).trans HP1.out)
 have HZ2 := hI_ ((hb2.block _ hm1).trans HZ1.out)
 have HB2 := hI_ (HB1.out.trans (hb2.mono HB1.out.size))
 have HC2 := hI_ (hp2.mono HB1.out.size (nr_ _))
 have hm2 := nL_ hm0 hb2.size
 have hm3 := nL_ hm1 hb2.size
 clear hp2 hb2
 go_upto_region 4 with fail
 obtain ⟨W3, HW3⟩ : ∃ W, Hid (w2.alloc (.cells #[.int .i64 x.sec, .int .i64 x.bad, .slice (some ⟨gF, 0, none⟩) x.feeds.length cF, .slice LB_ x.links.length Ld, .slice AB x.asked.length Ad, .slice NB x.net.length Nd] 35) = W) := ⟨_, hI_ rfl⟩
 rw [HW3.out]
 obtain ⟨g, HG⟩ : ∃ g, Hid (w2.heap.size = g) := ⟨_, hI_ rfl⟩
 rw [HG.out]
 have hg3 : W3.heap[g]? = some (.cells #[.int .i64 x.sec, .int .i64 x.bad, .slice (some ⟨gF, 0, none⟩) x.feeds.length cF, .slice LB_ x.links.length Ld, .slice AB x.asked.length Ad, .slice NB x.net.length Nd] 35 (0, 0)) := by rw [← HW3.out, ← HG.out]; exact heap_alloc_new _ _
 have hb3 : Below w2.heap.size w2 W3 := by rw [← HW3.out]; exact qab (bR_ _ _) _
 have hsg : g < W3.heap.size := qai hg3
 have hs3 : W3.heap.size = g + 1 := by rw [← HW3.out, ← HG.out]; simp
 obtain ⟨k0, k1, k2, k3, k4, k5, kf⟩ := qaa hg3
 have HP3 := hI_ ((hb3.block _ hm2).trans HP2.out)
 have HZ3 := hI_ ((hb3.block _ hm3).trans HZ2.out)
 have HC3 := hI_ (HC2.out.below hb3)
 have HB3 := hI_ (HB2.out.trans (hb3.mono HB2.out.size))
 rw [HG.out] at hm2 hm3
 go_upto_region 5 with fail
 obtain ⟨W4, HW4⟩ : ∃ W, Hid (W3.setCell ⟨g, 5, none⟩ (.slice none 0 0) = W) := ⟨_, hI_ rfl⟩
 rw [HW4.out]
 have hg4 : W4.heap[g]? = some (.cells #[.int .i64 x.sec, .int .i64 x.bad, .slice (some ⟨gF, 0, none⟩) x.feeds.length cF, .slice LB_ x.links.length Ld, .slice AB x.asked.length Ad, .slice none 0 0] 35 (0, 0)) := by rw [← HW4.out]; exact qas (i := 5) hg3 _
 have hs4 : W4.heap.size = W3.heap.size := by rw [← HW4.out]; simp
 have hk4 : qaA LT2 W3 W4 := by rw [← HW4.out]; exact qaA.set1 hg3 (by decide) _
 have hf4 : ∀ k, k ≠ g → W4.heap[k]? = W3.heap[k]? := fun k hk => by rw [← HW4.out]; exact Below.heap_setCell _ _ _ _ hk
 have HP4 := hI_ ((hf4 _ (by omega)).trans HP3.out)
 have HZ4 := hI_ ((hf4 _ (by omega)).trans HZ3.out)
 have HC4 := hI_ (HC3.out.keep hk4)
 have HB4 : Hid (Below w.heap.size w W4) := hI_ (by rw [← HW4.out]; exact qaN HB3.out (by omega))
 clear k0 k1 k2 k3 k4 k5 kf hk4 hf4 hg3 hb3
 obtain ⟨p0, p1, p2, p3, p4, p5, pf⟩ := qaa HP4.out
 obtain ⟨k0, k1, k2, k3, k4, k5, kf⟩ := qaa hg4
 obtain ⟨i0, hi, hz0, hz1, hz2⟩ := info_parts qeL
 have hmk := fun W => qhD (P := Tryz.prog) 32 50 i0 _ Tryz.underlying32 hi hz0 (N := 1) (zc := #[.slice none 0 0]) hz1 rfl .i64 .i64 x.feeds.length (by rw [hz2]; omega) (by omega) W
 go_upto_region 6 with fail
 obtain ⟨WB, HWB⟩ : ∃ W, Hid (W4.setCell ⟨g, 4, none⟩ (.slice (some ⟨g + 1, 0, none⟩) x.feeds.length x.feeds.length) = W) := ⟨_, hI_ rfl⟩
 rw [HWB.out]
 obtain ⟨W6, HW6⟩ : ∃ W, Hid (WB.alloc (.cells (madeCells #[.slice none 0 0] x.feeds.length) 50) = W) := ⟨_, hI_ rfl⟩
 rw [HW6.out]
 have hkB : qaA LT2 W4 WB := by rw [← HWB.out]; exact qaA.set1 hg4 (by decide) _
 have hfB : ∀ k, k ≠ g → WB.heap[k]? = W4.heap[k]? := fun k hk => by rw [← HWB.out]; exact Below.heap_setCell _ _ _ _ hk
 have hsB : WB.heap.size = g + 1 := by rw [← HWB.out]; simp; omega
 have hgB : WB.heap[g]? = some (.cells #[.int .i64 x.sec, .int .i64 x.bad, .slice (some ⟨gF, 0, none⟩) x.feeds.length cF, .slice LB_ x.links.length Ld, .slice (some ⟨g + 1, 0, none⟩) x.feeds.length x.feeds.length, .slice none 0 0] 35 (0, 0)) := by rw [← HWB.out]; exact qas (i := 4) hg4 _
 have hb6 : Below WB.heap.size WB W6 := by rw [← HW6.out]; exact qab (bR_ _ _) _
 have hs6 : W6.heap.size = g + 1 + 1 := by rw [← HW6.out]; simp; omega
 have hA6 : qcA WB.heap.size (WB.heap.size + 1) W6 (.slice (some ⟨WB.heap.size, 0, none⟩) x.feeds.length x.feeds.length) (List.replicate x.feeds.length []) := by
  have := qcA.made (w := WB) (n := x.feeds.length) (by unfold maxLen; omega)
  rw [Nat.mul_one, HW6.out] at this
  exact this
 rw [hsB] at hA6
 have hgw : w.heap.size ≤ g := by omega
 have hS0 : qgn #[.int .i64 x.sec, .int .i64 x.bad, .slice FA x.feeds.length Fc, .slice LA x.links.length Lc, vA, vN] #[.int .i64 0, .int .i64 0, .slice none 0 0, .slice none 0 0, .slice none 0 0, .slice none 0 0] g gF cF x.quiet w W6 (.slice LB_ x.links.length Ld) (.slice (some ⟨g + 1, 0, none⟩) x.feeds.length x.feeds.length) := by
  have hcB := (HC4.out.keep hkB).below hb6
  have hc6 : w2.heap.size ≤ W6.heap.size := by have := HG.out; omega
  have hqA : x.quiet.asked = List.replicate x.feeds.length [] := by show List.replicate x.asked.length [] = _; rw [HNA.out]
  refine ⟨⟨(hb6.block g (by omega)).trans hgB, ⟨hcB.F.mono (nr_ _) hc6, hcB.L.mono (nr_ _) hc6, ?_, qbd.nil⟩, ?_, hgw⟩, (hb6.block _ (by omega)).trans ((hfB _ (by omega)).trans HP4.out), (hb6.block _ (by omega)).trans ((hfB _ (by omega)).trans HZ4.out)⟩
  · rw [hqA]; exact hA6.mono (by omega) (by omega)
  · have h1 : Below w.heap.size w WB := by rw [← HWB.out]; exact qaN HB4.out hgw
    exact h1.trans (hb6.mono (by omega))
 have HS0 := hI_ hS0
 clear p0 p1 p2 p3 p4 p5 pf k0 k1 k2 k3 k4 k5 kf hkB hfB hgB hb6 hA6 hS0 hmk hg4 hi hz0 hz1 hz2
 obtain ⟨p0, p1, p2, p3, p4, p5, pf⟩ := qaa HS0.out.p
 go_wp2_with fail
 clear p0 p1 p2 p3 p4 p5 pf
 go_loopw [21] (fun i wr => ∃ r : Nat, r ≤ x.feeds.length ∧ i = .int .i64 r ∧ qgn #[.int .i64 x.sec, .int .i64 x.bad, .slice FA x.feeds.length Fc, .slice LA x.links.length Lc, vA, vN] #[.int .i64 0, .int .i64 0, .slice none 0 0, .slice none 0 0, .slice none 0 0, .slice none 0 0] g gF cF (qdH x.links x.quiet r) w wr (.slice LB_ x.links.length Ld) (.slice (some ⟨g + 1, 0, none⟩) x.feeds.length x.feeds.length)) (fun i _ => x.feeds.length - (intOf i).toNat)
 case atStart => exact ⟨0, Nat.zero_le _, rfl, HS0.out⟩
 case round =>
  obtain ⟨r, hr, rfl, hS⟩ := hrel
  obtain ⟨wr1, rfl⟩ : ∃ W, W = wr := ⟨_, rfl⟩
  have HS := hI_ hS
  have HCM := hI_ (qfu HQ.out r)
  obtain ⟨z, HZN⟩ : ∃ z, Hid (qdH x.links x.quiet r = z) := ⟨_, hI_ rfl⟩
  by_cases hlt : r < x.feeds.length
  case neg =>
   obtain rfl : r = x.feeds.length := by omega
   have hki : ¬ (x.feeds.length : Int) < (x.feeds.length : Int) := by omega
   obtain ⟨y0, y1, y2, y3, y4, y5, yf⟩ := qaa hS.z
   obtain ⟨k0, k1, k2, k3, k4, k5, kf⟩ := qaa hS.i.box
   have HE : Hid ((qdH x.links x.quiet x.feeds.length).sec = x.sec ∧ (qdH x.links x.quiet x.feeds.length).bad = x.bad) := hI_ ⟨HCM.out.sec, HCM.out.bad⟩
   clear hS
   go_wp2_with fail
   refine bodyPost_ret (v := .agg #[.int .i64 (qdH x.links x.quiet x.feeds.length).sec, .int .i64 (qdH x.links x.quiet x.feeds.length).bad, .slice (some ⟨gF, 0, none⟩) (qdH x.links x.quiet x.feeds.length).feeds.length cF, .slice LB_ x.links.length Ld, .slice (some ⟨g + 1, 0, none⟩) x.feeds.length x.feeds.length, .slice none 0 0]) (by simp [results, Tryz.results28, go_sem, y0, y1, y2, y3, y4, y5]) rfl ?_
   rw [HR.out]
   show qk3 w (qdH x.links x.quiet x.feeds.length) _ _
   have hk6 := qaA.set6 (T := LT2) HS.out.z (by decide) (.int .i64 (qdH x.links x.quiet x.feeds.length).sec) (.int .i64 (qdH x.links x.quiet x.feeds.length).bad) (.slice (some ⟨gF, 0, none⟩) (qdH x.links x.quiet x.feeds.length).feeds.length cF) (.slice LB_ x.links.length Ld) (.slice (some ⟨g + 1, 0, none⟩) x.feeds.length x.feeds.length) (.slice none 0 0)
   exact ⟨_, _, _, _, rfl, (HS.out.i.p.keep hk6).mono (nr_ _) hk6.1, qae HS.out.i.b (Nat.le_succ _) _ _ _ _ _ _⟩
  have hki : (r : Int) < (x.feeds.length : Int) := by omega
  obtain ⟨p0, p1, p2, p3, p4, p5, pf⟩ := qaa hS.p
  clear hS
  go_wp2_with fail
  clear p0 p1 p2 p3 p4 p5 pf
  go_loopw [26] (fun i wr => ∃ k : Nat, k ≤ x.links.length ∧ i = .int .i64 k ∧ qgn #[.int .i64 x.sec, .int .i64 x.bad, .slice FA x.feeds.length Fc, .slice LA x.links.length Lc, vA, vN] #[.int .i64 0, .int .i64 0, .slice none 0 0, .slice none 0 0, .slice none 0 0, .slice none 0 0] g gF cF (qdb x.links z k) w wr (.slice LB_ x.links.length Ld) (.slice (some ⟨g + 1, 0, none⟩) x.feeds.length x.feeds.length)) (fun i _ => x.links.length - (intOf i).toNat)
  case atStart => exact ⟨0, Nat.zero_le _, rfl, by rw [← HZN.out]; exact HS.out⟩
  case round =>
   obtain ⟨k, hk, rfl, hT⟩ := hrel
   obtain ⟨wr2, rfl⟩ : ∃ W, W = wr := ⟨_, rfl⟩
   have HT_ := hI_ hT
   by_cases hlk : k < x.links.length
   case neg =>
    obtain rfl : k = x.links.length := by omega
    have hki2 : ¬ (x.links.length : Int) < (x.links.length : Int) := by omega
    clear hT
    go_wp2_with fail
    go_roundw
    case rel => exact ⟨r + 1, by omega, by go_num, by show qgn _ _ _ _ _ (qdb x.links (qdH x.links x.quiet r) x.links.length) _ _ _ _; rw [HZN.out]; exact HT_.out⟩
    case measure => simp [intOf]; omega
   have hki2 : (k : Int) < (x.links.length : Int) := by omega
   have hk0 : (0 : Int) ≤ (k : Int) := by omega
   have HWZ : Hid (WV z ∧ z.links = x.links ∧ z.feeds.length = x.feeds.length) := hI_ (by rw [← HZN.out]; exact ⟨HCM.out.wv, HCM.out.links, HCM.out.n⟩)
   have HCT := hI_ (qmZ HWZ.out.1 k (by rw [HWZ.out.2.1]; exact hk))
   rw [HWZ.out.2.1] at HCT
   have HSN : Hid (qdb x.links z (k + 1) = qft (qdb x.links z k) x.links[k]) := hI_ (qer hlk)
   obtain ⟨y, HY⟩ : ∃ y, Hid (qdb x.links z k = y) := ⟨_, hI_ rfl⟩
   rw [HY.out] at HCT HSN HT_
   have HLK : Hid (y.links = x.links) := hI_ (HCT.out.links.trans HWZ.out.2.1)
   obtain ⟨i, j, hl, hij, hjn, L1, L2⟩ := qhy HCT.out.wv (l := x.links[k]) (by rw [HLK.out]; exact List.getElem_mem hlk)
   have c1 := qho HCT.out.wv (i := i) (j := j) (by omega) (by omega) hjn L1
   have HC1 := hI_ c1
   obtain ⟨bL, oL, hAL, hbsL, e0, e1⟩ := (HLW.out.below hT.i.b).at_ hlk
   subst hAL
   rw [hl] at HSN e0 e1
   simp only at e0 e1
   have HL1 := hI_ (And.intro L1 L2)
   have HIJ := hI_ (And.intro hij hjn)
   clear hT L1 L2 hij hjn c1 hl
   go_upto_region 11 with fail
   obtain ⟨W7, HW7⟩ : ∃ W, Hid (wr2.alloc (.cells #[.int .i64 (i : Int), .int .i64 (j : Int)] 52) = W) := ⟨_, hI_ rfl⟩
   rw [HW7.out]
   have hb7 : Below wr2.heap.size wr2 W7 := by rw [← HW7.out]; exact qab (bR_ _ _) _
   have hl7 : W7.heap[wr2.heap.size]? = some (.cells #[.int .i64 (i : Int), .int .i64 (j : Int)] 52 (0, 0)) := by rw [← HW7.out]; exact heap_alloc_new _ _
   have HS7 := hI_ (HT_.out.below hb7)
   have HL7 := hI_ hl7
   have l0 : W7.cell? ⟨wr2.heap.size, 0, none⟩ = some (.int .i64 (i : Int)) := cell_of_row _ _ 0 _ _ _ hl7
   have l1 : W7.cell? ⟨wr2.heap.size, 1, none⟩ = some (.int .i64 (j : Int)) := cell_of_row _ _ 1 _ _ _ hl7
   clear hb7 hl7 e0 e1
   go_wp2_with fail
   refine (HS7.out.give HCT.out.wv (i := i) (j := j) (by have := HIJ.out.1; omega) (by have := HIJ.out; omega) HIJ.out.2 HL1.out.1).mono ?_
   rintro e w8 ⟨rfl, hS8, hg8⟩
   have hl8 := (hg8.block _ (qai HL7.out) (fun e => by cases e; exact HS7.out.i.nk HL7.out (by decide) rfl)).trans HL7.out
   have HS8 := hI_ hS8
   clear l0 l1 hS8 hg8
   have l0 : w8.cell? ⟨wr2.heap.size, 0, none⟩ = some (.int .i64 (i : Int)) := cell_of_row _ _ 0 _ _ _ hl8
   have l1 : w8.cell? ⟨wr2.heap.size, 1, none⟩ = some (.int .i64 (j : Int)) := cell_of_row _ _ 1 _ _ _ hl8
   clear hl8
   go_wp2_with fail
   refine (HS8.out.give HC1.out.wv (i := j) (j := i) (by have := HIJ.out.1; omega) (by rw [HC1.out.n]; exact HIJ.out.2) (by rw [HC1.out.n]; have := HIJ.out; omega) (by rw [qf3 HC1.out.links]; exact HL1.out.2)).mono ?_
   rintro e w9 ⟨rfl, hS9, hg9⟩
   have HS9 := hI_ hS9
   clear l0 l1 hS9 hg9
   go_wp2_with fail
   go_roundw
   case rel => exact ⟨k + 1, by omega, by go_num, by rw [HSN.out]; exact HS9.out⟩
   case measure => simp [intOf]; omega
end Go.Proofs.YtcplnfmcefkehaaGreat
