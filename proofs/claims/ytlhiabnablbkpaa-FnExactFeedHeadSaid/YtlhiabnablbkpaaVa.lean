/- Walks: what a reader has is drawn. -/
import Derived.Test.YtlhiabnablbkpaaWz
namespace Go.Proofs.Ytlhiabnablbkpaa
open Go.RowKit

/-- What l91Reader leaves. -/
def ReaderPost (n g P : Nat) (w : World) (e : Ending) (w' : World) : Prop :=
  ∃ f ub uh, e = .returned (.agg #[.int .i64 f.pub, .int .i64 f.hd.len, .int .i64 f.hd.dg, .int .i64 f.hd.sg, ub, uh]) ∧ FeedO w.heap.size w' f ub uh ∧ f.bl.length = n ∧ f.hv.length = n ∧ (∀ x ∈ f.bl, x.size ≤ 10) ∧ Rdr w' g P ∧ Only g w w'
theorem Only.box {g p : Nat} {a b : World} (h : Only g a b) (hp : p < a.heap.size) (hne : p ≠ g) : b.heap[p]? = a.heap[p]? := h.block p hp (fun e => hne (Option.some.inj e))
theorem only_set6 {g q : Nat} {a w : World} (h : Only g a w) (hq : a.heap.size ≤ q) (x0 x1 x2 x3 x4 x5 : Value) : Only g a ((((((w.setCell ⟨q, 0, none⟩ x0).setCell ⟨q, 1, none⟩ x1).setCell ⟨q, 2, none⟩ x2).setCell ⟨q, 3, none⟩ x3).setCell ⟨q, 4, none⟩ x4).setCell ⟨q, 5, none⟩ x5) :=
  (((((h.set hq _).set hq _).set hq _).set hq _).set hq _).set hq _
theorem rdr_set6 {g q P : Nat} {w : World} (h : Rdr w g P) (hq : g < q) (x0 x1 x2 x3 x4 x5 : Value) : Rdr ((((((w.setCell ⟨q, 0, none⟩ x0).setCell ⟨q, 1, none⟩ x1).setCell ⟨q, 2, none⟩ x2).setCell ⟨q, 3, none⟩ x3).setCell ⟨q, 4, none⟩ x4).setCell ⟨q, 5, none⟩ x5) g P :=
  (((((h.set hq _).set hq _).set hq _).set hq _).set hq _).set hq _
theorem app_strN {ops : Array Oper} {rest : List Oper} {o : Oper} {a : Act} {Q : Exit → Act → World → Prop} {w : World} {base : Nat} {v : Value} {l : List ByteArray} {n : Nat} (hn0 : w.heap.size = n) (hown : O1 Value.string base 9 w v l) (hn : l.length ≤ 100000000000) (hbase : base ≤ w.heap.size) {y : ByteArray} (hgd : o.guard = none) {s x : Operand}
    (ho : o.op = .call { callee := .builtin .append, args := #[s, x], argTypes := #[24, 24] }) (hs : a.eval s = v) (hx : a.eval x = .slice (some ⟨n, 0, none⟩) 1 1)
    (h : ∀ v' w', O1 Value.string base 9 w' v' (l ++ [y]) → w.grownBy w' v.ownBlock → wpList Try.prog ops Q rest (a.put o.dst v') w') : wpList Try.prog ops Q (o :: rest) a (w.alloc (.cells #[.string y] 9)) := by
  subst hn0; exact app_str hown hn hbase hgd ho hs hx h
set_option maxHeartbeats 1600000 in
set_option maxRecDepth 100000 in
theorem l91Reader_any (g P B' : Nat) (s : Int) (bl : List ByteArray) (v : Value) (w : World) (hr : Rdr w g P) (hP : P ≤ 100000) (hv : O1 Value.string B' 9 w v bl) (hgB : g < B') (hl : bl.length ≤ 16) (hs : ∀ x ∈ bl, x.size ≤ 10) :
    Calls Try.prog 85 #[.pointer (some ⟨g, 0, none⟩), .int .i64 s, v] w (ReaderPost bl.length g (P + 16) w) := by
  have hgl := hr.lt
  have HS := Lib.hid hs
  clear hs
  obtain ⟨W0, HW0⟩ : ∃ W0, Hid (w.alloc (.cells #[.int .i64 0, .int .i64 0, .int .i64 0, .int .i64 0, .slice none 0 0, .slice none 0 0] 34) = W0) := ⟨_, Lib.hid rfl⟩
  have HB0 : Hid (Below w.heap.size w W0) := Lib.hid (by rw [← HW0.out]; exact (Below.refl _ _).alloc (Nat.le_refl _) _)
  have hs0 : w.heap.size + 1 = W0.heap.size := by rw [← HW0.out]; simp
  have hbox : W0.heap[w.heap.size]? = some (.cells #[.int .i64 0, .int .i64 0, .int .i64 0, .int .i64 0, .slice none 0 0, .slice none 0 0] 34 (0, 0)) := by rw [← HW0.out]; exact heap_alloc_new w _
  have HBOX := Lib.hid hbox
  have HV : Hid (O1 Value.string B' 9 W0 v bl) := Lib.hid (hv.below HB0.out)
  have HR0 : Hid (Rdr W0 g P) := Lib.hid (hr.below HB0.out)
  obtain ⟨A, c, rfl⟩ := hv.sl
  have hl0 : w.heap.size < W0.heap.size := by omega
  have hgW : g < W0.heap.size := by omega
  have hgp : w.heap.size ≠ g := by omega
  clear hbox hr hv
  obtain ⟨p, HP⟩ : ∃ p, Hid (hpub s = p) := ⟨_, Lib.hid rfl⟩
  by_cases h0 : bl.length = 0
  · have h0' : ((bl.length : Int) == 0) = true := by simp [h0]
    obtain ⟨z0, z1, z2, z3, z4, z5, zf⟩ := box_cells HBOX.out
    go_enter Try.func85, Try.ntmps85
    go_wp2_with fail
    rw [HW0.out]
    go_wp2_with (first
      | (go_at_call 101; refine (HeadPublic_sb HP _).mono ?_; rintro e w' ⟨rfl, rfl⟩)
      | (go_at_call 100; refine (FeedNew_s _ _).mono ?_; rintro e w1 ⟨ub, uh, rfl, ho1, hb1⟩; obtain ⟨xA, xc, rfl⟩ := ho1.bl.sl; obtain ⟨yA, yc, rfl⟩ := ho1.hv.sl; have hcc := bcell hb1; have hs1 := hb1.size; have hs2 : w.heap.size < w1.heap.size := by omega))
    refine bodyPost_ret (v := .agg #[.int .i64 (fnew p).pub, .int .i64 0, .int .i64 0, .int .i64 0, .slice xA (fnew p).bl.length xc, .slice yA (fnew p).hv.length yc]) (by simp [results, Try.results85, go_sem, hs2, hcc, hl0, z0, z1, z2, z3, z4, z5]) rfl ⟨fnew p, _, _, rfl, ?_, h0.symm, h0.symm, fun x hx => (by cases hx), ?_, ?_⟩
    · exact ((ho1.set6 hl0 _ _ _ _ _ _).below ((Below.refl _ _).alloc (Nat.le_refl _) _)).mono (Nat.le_of_lt hl0)
    · exact ((rdr_set6 (HR0.out.below hb1) hgl _ _ _ _ _ _).below ((Below.refl _ _).alloc (Nat.le_refl _) _)).mono (by omega)
    · exact Only.thenB (only_set6 (Only.of_below (HB0.out.trans (hb1.mono (Nat.le_of_lt hl0)))) (Nat.le_refl _) _ _ _ _ _ _) ((Below.refl _ _).alloc (Nat.le_refl _) _)
  · have h0' : ((bl.length : Int) == 0) = false := by rw [beq_eq_false_iff_ne]; omega
    go_enter Try.func85, Try.ntmps85
    go_wp2_with fail
    rw [HW0.out]
    go_wp2_with (first
      | (go_at_call 101; refine (HeadPublic_sb HP _).mono ?_; rintro e w' ⟨rfl, rfl⟩)
      | (go_at_call 100; refine (FeedNew_s _ _).mono ?_; rintro e w1 ⟨ub, uh, rfl, ho1, hb1⟩; obtain ⟨xA, xc, rfl⟩ := ho1.bl.sl; obtain ⟨yA, yc, rfl⟩ := ho1.hv.sl; have hs1 := hb1.size; have hs2 : w.heap.size < w1.heap.size := by omega))
    have hfb : FB W0.heap.size w1.heap.size (w1.alloc (.cells #[.int .i64 (fnew p).pub, .int .i64 0, .int .i64 0, .int .i64 0, .slice xA (fnew p).bl.length xc, .slice yA (fnew p).hv.length yc] 34)) (fnew p) _ _ := FB.made ho1
    have hb2 : Below W0.heap.size W0 (w1.alloc (.cells #[.int .i64 (fnew p).pub, .int .i64 0, .int .i64 0, .int .i64 0, .slice xA (fnew p).bl.length xc, .slice yA (fnew p).hv.length yc] 34)) := hb1.alloc hs1 _
    obtain ⟨W2, HW2⟩ : ∃ W2, Hid (w1.alloc (.cells #[.int .i64 (fnew p).pub, .int .i64 0, .int .i64 0, .int .i64 0, .slice xA (fnew p).bl.length xc, .slice yA (fnew p).hv.length yc] 34) = W2) := ⟨_, Lib.hid rfl⟩
    rw [HW2.out] at hfb hb2 ⊢
    have hq : W0.heap.size ≤ w1.heap.size := hs1
    obtain ⟨q, HQ⟩ : ∃ q, Hid (w1.heap.size = q) := ⟨_, Lib.hid rfl⟩
    rw [HQ.out] at hfb hq ⊢
    have hgq : g < q := by omega
    have hgq' : g ≠ q := by omega
    obtain ⟨h, ok, HH⟩ : ∃ h ok, Hid (hmake s (lvs bl) = (h, ok)) := ⟨_, _, Lib.hid rfl⟩
    clear hs1 hs2 ho1 hb1
    have hrv := (HV.out.below hb2).r1
    refine (l11Leaves_any bl _ _ hrv (by omega) (fun x hx => by have := HS.out x hx; unfold maxLen; omega)).mono ?_
    rintro e w3 ⟨v3, rfl, ho3, hb3⟩
    go_wp2_with fail
    refine (HeadMake_sb HH _ _ ho3.r1).mono ?_
    rintro e w4 ⟨rfl, hb4⟩
    have hfb4 := (hfb.below hb3).below hb4
    have hb04 := hb2.trans ((hb3.mono hb2.size).trans (hb4.mono (Nat.le_trans hb2.size hb3.size)))
    clear hb2 hb3 hb4 ho3 hfb
    have k1 := hfb4.c1
    have k2 := hfb4.c2
    have k3 := hfb4.c3
    have kf := hfb4.fz
    have hfb5 := ((hfb4.set1 h.len).set2 h.dg).set3 h.sg
    have hb05 := ((hb04.setCell (p := ⟨q, 1, none⟩) hq (.int .i64 h.len)).setCell (p := ⟨q, 2, none⟩) hq (.int .i64 h.dg)).setCell (p := ⟨q, 3, none⟩) hq (.int .i64 h.sg)
    clear hfb4 hb04
    go_wp2
    clear k1 k2 k3 kf
    go_loopw [9] (fun i wr => ∃ (k : Nat) (f : Fd) (ub uh : Value), k ≤ bl.length ∧ i = .int .i64 k ∧ FB W0.heap.size q wr f ub uh ∧ f.bl.length = k ∧ f.hv.length = k ∧ (∀ x ∈ f.bl, x.size ≤ 10) ∧ Rdr wr g (P + k) ∧ Only g W0 wr) (fun i _ => bl.length - (intOf i).toNat)
    case atStart => exact ⟨0, _, _, _, Nat.zero_le _, rfl, hfb5, rfl, rfl, (by intro x hx; cases hx), HR0.out.below hb05, Only.of_below hb05⟩
    case round =>
      clear hfb5 hb05
      obtain ⟨k, f, ub, uh, hk, rfl, hfb, hbl, hhv, hsz, hrr, hoo⟩ := hrel
      have HHV := Lib.hid hhv
      have HBL := Lib.hid hbl
      have HSZ := Lib.hid hsz
      have lhv : f.hv.length ≤ 1000 := by omega
      have lbl : f.bl.length ≤ 1000 := by omega
      clear hhv hbl hsz
      obtain ⟨xA, xc, rfl⟩ := hfb.fo.bl.sl
      obtain ⟨yA, yc, rfl⟩ := hfb.fo.hv.sl
      by_cases hlt : k < bl.length
      · have HX10 := Lib.hid (HS.out _ (List.getElem_mem hlt))
        go_wp2_with fail
        refine (pick_any g (P + k) 3 _ hrr (by omega) (by omega) (by omega)).mono ?_
        rintro e w3 ⟨u, rfl, u1, u2, r3, o3⟩
        have hf3 := hfb.only o3 hgW hgq'
        have oo3 := hoo.trans o3
        clear hfb hoo o3 hrr
        have k0 := hf3.c0
        have k1 := hf3.c1
        have k2 := hf3.c2
        have k3 := hf3.c3
        have k4 := hf3.c4
        have k5 := hf3.c5
        by_cases hu : 0 < u
        · go_wp2_with (at_builtin; refine app_bool hf3.fo.hv (by omega) (by have := oo3.size; omega) rfl rfl rfl rfl ?_; intro v4 w4 ho4 hg4; obtain ⟨zA, zn, zc, rfl, hz4⟩ := ho4.sl2; obtain ⟨⟨u5, m5⟩, mf5⟩ := hf3.g5 hg4)
          have hf5 := hf3.set5 hg4 ho4
          have r5 := (r3.grown hg4 (fun r e => Nat.lt_of_lt_of_le hgW (hf3.fo.hv.lt r e).1)).set (p := ⟨q, 5, none⟩) hgq (.slice zA zn zc)
          have oo5 := (oo3.grown hg4 (fun r e => (hf3.fo.hv.lt r e).1)).set (p := ⟨q, 5, none⟩) hq (.slice zA zn zc)
          clear ho4 hg4 hf3 oo3 r3 k0 k1 k2 k3 k4 k5 m5 mf5
          obtain ⟨W5, HW5⟩ : ∃ W5, Hid (w4.setCell ⟨q, 5, none⟩ (.slice zA zn zc) = W5) := ⟨_, Lib.hid rfl⟩
          rw [HW5.out] at hf5 r5 oo5 ⊢
          obtain ⟨_, _, hA, _, _, hc⟩ := (HV.out.only oo5 hgB).r1
          cases hA
          obtain ⟨b, o, rfl, hbs, hc⟩ := hc (by omega)
          have hcell := hc k hlt
          generalize bl[k] = x at *
          have k4 := hf5.c4
          clear hc
          have hql : q < W5.heap.size := hf5.lt
          have hfd := hf5.below (below_drew (Below.refl _ _))
          have rd := r5.below (below_drew (Below.refl _ _))
          have ood := oo5.thenB (below_drew (Below.refl _ _))
          go_region_law ((refine step_str hfd.fo.bl (by show f.bl.length ≤ _; omega) ood.size (by rfl) (by rfl) (by rfl) (by rfl) ?_; intro tA tn tc w6 ho6 hg6; have s4 := hfd.h4 hg6; have mf4 := (hfd.g4 hg6).2))
          all_goals
            go_wp2
            go_roundw
            case rel =>
              refine ⟨k + 1, _, _, _, by omega, by go_num, hfd.set4 hg6 ho6, by simp [HBL.out], by simp [HHV.out], fun y hy => ?_, (rd.grown hg6 (fun r e => Nat.lt_of_lt_of_le hgW (hfd.fo.bl.lt r e).1)).set hgq _, (ood.grown hg6 (fun r e => (hfd.fo.bl.lt r e).1)).set hq _⟩
              rcases List.mem_append.1 hy with hy | hy
              · exact HSZ.out y hy
              · obtain rfl : y = _ := by simpa using hy
                exact HX10.out
            case measure => simp [intOf]; omega
        · obtain rfl : u = 0 := by omega
          go_wp2_with (first
            | (at_builtin; refine app_bool hf3.fo.hv (by omega) (by have := oo3.size; omega) rfl rfl rfl rfl ?_; intro v4 w4 ho4 hg4; obtain ⟨zA, zn, zc, rfl, hz4⟩ := ho4.sl2; obtain ⟨⟨u5, m5⟩, mf5⟩ := hf3.g5 hg4; have m4 := hf3.h4' hg4
               have hf5 := hf3.set5 hg4 ho4
               have r5 := (r3.grown hg4 (fun r e => Nat.lt_of_lt_of_le hgW (hf3.fo.hv.lt r e).1)).set (p := ⟨q, 5, none⟩) hgq (.slice zA zn zc)
               have oo5 := (oo3.grown hg4 (fun r e => (hf3.fo.hv.lt r e).1)).set (p := ⟨q, 5, none⟩) hq (.slice zA zn zc)
               have l4 : q < w4.heap.size := by have := hf5.lt; simpa using this)
            | (at_builtin; refine app_strN (n := w4.heap.size) (by simp) hf5.fo.bl (by show f.bl.length ≤ _; omega) oo5.size rfl rfl rfl rfl ?_; intro v6 w6 ho6 hg6; obtain ⟨tA, tn, tc, rfl, ht6⟩ := ho6.sl2; obtain ⟨⟨u6, n4⟩, nf4⟩ := hf5.g4 hg6))
          go_roundw
          case rel =>
            refine ⟨k + 1, _, _, _, by omega, by go_num, hf5.set4 hg6 ho6, by simp [HBL.out], by simp [HHV.out], fun y hy => ?_, (r5.grown hg6 (fun r e => Nat.lt_of_lt_of_le hgW (hf5.fo.bl.lt r e).1)).set hgq _, (oo5.grown hg6 (fun r e => (hf5.fo.bl.lt r e).1)).set hq _⟩
            rcases List.mem_append.1 hy with hy | hy
            · exact HSZ.out y hy
            · obtain rfl : y = _ := by simpa using hy
              exact Nat.zero_le _
          case measure => simp [intOf]; omega
      · obtain ⟨z0, z1, z2, z3, z4, z5, zf⟩ := box_cells ((hoo.box hl0 hgp).trans HBOX.out)
        have k0 := hfb.c0
        have k1 := hfb.c1
        have k2 := hfb.c2
        have k3 := hfb.c3
        have k4 := hfb.c4
        have k5 := hfb.c5
        obtain rfl : k = bl.length := by omega
        go_wp2
        refine bodyPost_ret (v := .agg #[.int .i64 f.pub, .int .i64 f.hd.len, .int .i64 f.hd.dg, .int .i64 f.hd.sg, .slice xA f.bl.length xc, .slice yA f.hv.length yc]) (by simp [results, Try.results85, go_sem, z0, z1, z2, z3, z4, z5]) rfl ⟨f, _, _, rfl, ?_, HBL.out, HHV.out, HSZ.out, ?_, ?_⟩
        · exact (hfb.fo.set6 hl0 _ _ _ _ _ _).mono (Nat.le_of_lt hl0)
        · exact (rdr_set6 hrr hgl _ _ _ _ _ _).mono (by omega)
        · exact only_set6 ((Only.of_below HB0.out).trans hoo) (Nat.le_refl _) _ _ _ _ _ _
end Go.Proofs.Ytlhiabnablbkpaa
