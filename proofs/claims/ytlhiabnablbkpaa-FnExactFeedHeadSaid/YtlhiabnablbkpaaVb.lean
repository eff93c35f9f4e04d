/- Walks: a feed is spoilt; the draw of FeedProve. -/
import Derived.Test.YtlhiabnablbkpaaVa
namespace Go.Proofs.Ytlhiabnablbkpaa
open Go.RowKit

/-- What l91Spoilt leaves. -/
def SpoiltPost (n g P : Nat) (w : World) (e : Ending) (w' : World) : Prop :=
  ∃ f ub uh, e = .returned (.agg #[.int .i64 f.pub, .int .i64 f.hd.len, .int .i64 f.hd.dg, .int .i64 f.hd.sg, ub, uh]) ∧ FeedO w.heap.size w' f ub uh ∧ f.bl.length ≤ n ∧ f.hv.length ≤ n + 1 ∧ (∀ x ∈ f.bl, x.size ≤ 10) ∧ Rdr w' g P ∧ Only g w w'
theorem FB.setAt {B q gb n c : Nat} {w : World} {f : Fd} {vh : Value} (h : FB B q w f (.slice (some ⟨gb, 0, none⟩) n c) vh) {m : Nat} (hm : m < f.bl.length) (t : ByteArray) :
    FB B q (w.setCell ⟨gb, m, none⟩ (.string t)) { f with bl := f.bl.set m t } (.slice (some ⟨gb, 0, none⟩) n c) vh := by
  have h1 := h.fo.bl.setAt hm t
  have hne : some gb ≠ some q := h.nb
  have h2 := h.fo.hv.grown h1.2 (O1.ne_ h.fo.hv h.fo.bl (by decide))
  exact ⟨(h1.2.block q h.lt (fun e => hne e.symm)).trans h.box, ⟨h1.1, h2⟩⟩
theorem FB.onlyq {B q g : Nat} {w w' : World} {f : Fd} {vb vh : Value} (h : FB B q w f vb vh) (hb : Only g w w') (hB : g < B) (hq : g ≠ q) : FB B q w' f vb vh := h.only hb hB hq
theorem mem_set_size {l : List ByteArray} {m : Nat} {t : ByteArray} (h : ∀ x ∈ l, x.size ≤ 10) (ht : t.size ≤ 10) : ∀ x ∈ l.set m t, x.size ≤ 10 := fun x hx => by
  rcases List.mem_or_eq_of_mem_set hx with hx | rfl
  · exact h x hx
  · exact ht
theorem heap_set6 {q k : Nat} {w : World} (hk : k ≠ q) (x0 x1 x2 x3 x4 x5 : Value) : ((((((w.setCell ⟨q, 0, none⟩ x0).setCell ⟨q, 1, none⟩ x1).setCell ⟨q, 2, none⟩ x2).setCell ⟨q, 3, none⟩ x3).setCell ⟨q, 4, none⟩ x4).setCell ⟨q, 5, none⟩ x5).heap[k]? = w.heap[k]? :=
  ((Below.heap_setCell _ _ _ _ hk).trans ((Below.heap_setCell _ _ _ _ hk).trans ((Below.heap_setCell _ _ _ _ hk).trans ((Below.heap_setCell _ _ _ _ hk).trans ((Below.heap_setCell _ _ _ _ hk).trans (Below.heap_setCell _ _ _ _ hk))))))
set_option maxHeartbeats 3200000 in
set_option maxRecDepth 100000 in
theorem l91Spoilt_any (g P : Nat) (f : Fd) (vb vh : Value) (w : World) (hr : Rdr w g P) (hP : P ≤ 200000) (hf : FeedR w f vb vh) (hL1 : f.bl.length ≤ 17) (hL2 : f.hv.length ≤ 17) (hs : ∀ x ∈ f.bl, x.size ≤ 10) :
    Calls Try.prog 86 #[.pointer (some ⟨g, 0, none⟩), .agg #[.int .i64 f.pub, .int .i64 f.hd.len, .int .i64 f.hd.dg, .int .i64 f.hd.sg, vb, vh]] w (SpoiltPost (max f.bl.length f.hv.length) g (P + 15) w) := by
  have hgl := hr.lt
  have HSZ := Lib.hid hs
  clear hs
  obtain ⟨W0, HW0⟩ : ∃ W0, Hid ((w.alloc (.cells #[.int .i64 f.pub, .int .i64 f.hd.len, .int .i64 f.hd.dg, .int .i64 f.hd.sg, vb, vh] 34)).alloc (.cells #[.int .i64 0, .int .i64 0, .int .i64 0, .int .i64 0, .slice none 0 0, .slice none 0 0] 34) = W0) := ⟨_, Lib.hid rfl⟩
  have HB0 : Hid (Below w.heap.size w W0) := Lib.hid (by rw [← HW0.out]; exact ((Below.refl _ _).alloc (Nat.le_refl _) _).alloc (by simp) _)
  have hs0 : w.heap.size + 2 = W0.heap.size := by rw [← HW0.out]; simp
  have hp0 : W0.heap[w.heap.size]? = some (.cells #[.int .i64 f.pub, .int .i64 f.hd.len, .int .i64 f.hd.dg, .int .i64 f.hd.sg, vb, vh] 34 (0, 0)) := by
    rw [← HW0.out]; exact (((Below.refl (w.heap.size + 1) _).alloc (by simp) _).block w.heap.size (by omega)).trans (heap_alloc_new w _)
  have hz0 : W0.heap[w.heap.size + 1]? = some (.cells #[.int .i64 0, .int .i64 0, .int .i64 0, .int .i64 0, .slice none 0 0, .slice none 0 0] 34 (0, 0)) := by
    rw [← HW0.out]; have := heap_alloc_new (w.alloc (.cells #[.int .i64 f.pub, .int .i64 f.hd.len, .int .i64 f.hd.dg, .int .i64 f.hd.sg, vb, vh] 34)) (.cells #[.int .i64 0, .int .i64 0, .int .i64 0, .int .i64 0, .slice none 0 0, .slice none 0 0] 34); simpa using this
  have hl0 : w.heap.size < W0.heap.size := by omega
  have hl1 : w.heap.size + 1 < W0.heap.size := by omega
  have hgW : g < W0.heap.size := by omega
  have hgp : g ≠ w.heap.size := by omega
  have hgz : w.heap.size + 1 ≠ g := by omega
  have HR0 := Lib.hid (hr.below HB0.out)
  have HF0 : Hid (FeedR W0 f vb vh) := Lib.hid (hf.below HB0.out)
  obtain ⟨A, c, rfl, _, _, _⟩ := hf.bl
  obtain ⟨B, d, rfl, _, _, _⟩ := hf.hv
  obtain ⟨x0, x1, x2, x3, x4, x5, xf⟩ := box_cells hp0
  have HP0 := Lib.hid hp0
  have HZ0 := Lib.hid hz0
  clear hp0 hz0 hf hr
  go_enter Try.func86, Try.ntmps86
  go_wp2_with fail
  rw [HW0.out]
  refine (l11Copy_any f _ _ W0 HF0.out (by omega) (by omega)).mono ?_
  rintro e w1 ⟨ub, uh, rfl, ho1, hb1⟩
  obtain ⟨uA, uc, rfl⟩ := ho1.bl.sl
  obtain ⟨tA, tc, rfl⟩ := ho1.hv.sl
  have hp1 := (hb1.block _ hl0).trans HP0.out
  have hz1 := (hb1.block _ hl1).trans HZ0.out
  have r1 := HR0.out.below hb1
  obtain ⟨v0, v1, v2, v3, v4, v5, vf⟩ := box_cells hp1
  have hf2 := FB.fill hp1 ho1
  have r2 := rdr_set6 r1 hgl (.int .i64 f.pub) (.int .i64 f.hd.len) (.int .i64 f.hd.dg) (.int .i64 f.hd.sg) (.slice uA f.bl.length uc) (.slice tA f.hv.length tc)
  have oo2 : Only g w _ := only_set6 (Only.of_below (HB0.out.trans (hb1.mono (Nat.le_of_lt hl0)))) (Nat.le_refl w.heap.size) (.int .i64 f.pub) (.int .i64 f.hd.len) (.int .i64 f.hd.dg) (.int .i64 f.hd.sg) (.slice uA f.bl.length uc) (.slice tA f.hv.length tc)
  have hz2 := (heap_set6 (w := w1) (q := w.heap.size) (k := w.heap.size + 1) (by omega) (.int .i64 f.pub) (.int .i64 f.hd.len) (.int .i64 f.hd.dg) (.int .i64 f.hd.sg) (.slice uA f.bl.length uc) (.slice tA f.hv.length tc)).trans hz1
  have hW2 : W0.heap.size ≤ ((((((w1.setCell ⟨w.heap.size, 0, none⟩ (.int .i64 f.pub)).setCell ⟨w.heap.size, 1, none⟩ (.int .i64 f.hd.len)).setCell ⟨w.heap.size, 2, none⟩ (.int .i64 f.hd.dg)).setCell ⟨w.heap.size, 3, none⟩ (.int .i64 f.hd.sg)).setCell ⟨w.heap.size, 4, none⟩ (.slice uA f.bl.length uc)).setCell ⟨w.heap.size, 5, none⟩ (.slice tA f.hv.length tc)).heap.size := by simpa using hb1.size
  go_wp2_with fail
  obtain ⟨W2, HW2⟩ : ∃ W2, Hid (((((((w1.setCell ⟨w.heap.size, 0, none⟩ (.int .i64 f.pub)).setCell ⟨w.heap.size, 1, none⟩ (.int .i64 f.hd.len)).setCell ⟨w.heap.size, 2, none⟩ (.int .i64 f.hd.dg)).setCell ⟨w.heap.size, 3, none⟩ (.int .i64 f.hd.sg)).setCell ⟨w.heap.size, 4, none⟩ (.slice uA f.bl.length uc)).setCell ⟨w.heap.size, 5, none⟩ (.slice tA f.hv.length tc)) = W2) := ⟨_, Lib.hid rfl⟩
  rw [HW2.out] at hf2 r2 oo2 hz2 hW2 ⊢
  clear r1 hb1 ho1 hp1 hz1 v0 v1 v2 v3 v4 v5 vf x0 x1 x2 x3 x4 x5 xf
  refine (pick_any g P 24 W2 r2 (by omega) (by omega) (by omega)).mono ?_
  rintro e w3 ⟨x, rfl, a1, a2, r3, o3⟩
  have hf3 := hf2.only o3 hgW hgp
  have hz3 := (o3.box (Nat.lt_of_lt_of_le hl1 hW2) hgz).trans hz2
  have oo3 := oo2.trans o3
  have hW3 := Nat.le_trans hW2 o3.size
  clear r2 hf2 hz2 oo2 o3 hW2
  have hx : x = 0 ∨ x = 1 ∨ x = 2 ∨ x = 3 ∨ 4 ≤ x := by omega
  rcases hx with rfl | rfl | rfl | rfl | hx
  · go_wp2_with fail
    refine (l91Secret_any g (P + 1) w3 r3 (by omega)).mono ?_
    rintro e w4 ⟨y, rfl, b1, b2, r4, o4⟩
    have hf4 := hf3.only o4 hgW hgp
    have oo4 := oo3.trans o4
    obtain ⟨y0, y1, y2, y3, y4, y5, yf⟩ := box_cells ((o4.box (Nat.lt_of_lt_of_le hl1 hW3) hgz).trans hz3)
    have k0 := hf4.c0; have k1 := hf4.c1; have k2 := hf4.c2; have k3 := hf4.c3; have k4 := hf4.c4; have k5 := hf4.c5; have kf := hf4.fz
    have hf5 := hf4.set0 y
    clear hf3 hf4 r3 hz3 oo3 o4
    go_wp2
    refine bodyPost_ret (v := .agg #[.int .i64 y, .int .i64 f.hd.len, .int .i64 f.hd.dg, .int .i64 f.hd.sg, .slice uA f.bl.length uc, .slice tA f.hv.length tc]) (by simp [results, Try.results86, go_sem, y0, y1, y2, y3, y4, y5]) rfl ⟨{ f with pub := y }, _, _, rfl, ?_, Nat.le_max_left _ _, Nat.le_succ_of_le (Nat.le_max_right _ _), HSZ.out, ?_, ?_⟩
    · exact (FeedO.set6 hf5.fo hl1 _ _ _ _ _ _).mono (Nat.le_of_lt hl0)
    · exact (rdr_set6 (r4.set (p := ⟨w.heap.size, 0, none⟩) hgl (.int .i64 y)) (by omega) _ _ _ _ _ _).mono (by omega)
    · exact only_set6 (oo4.set (p := ⟨w.heap.size, 0, none⟩) (Nat.le_refl _) (.int .i64 y)) (Nat.le_succ _) _ _ _ _ _ _
  · go_wp2_with fail
    refine (l91Digest_any g (P + 1) w3 r3 (by omega)).mono ?_
    rintro e w4 ⟨y, rfl, b1, b2, r4, o4⟩
    have hf4 := hf3.only o4 hgW hgp
    have oo4 := oo3.trans o4
    obtain ⟨y0, y1, y2, y3, y4, y5, yf⟩ := box_cells ((o4.box (Nat.lt_of_lt_of_le hl1 hW3) hgz).trans hz3)
    have k0 := hf4.c0; have k1 := hf4.c1; have k2 := hf4.c2; have k3 := hf4.c3; have k4 := hf4.c4; have k5 := hf4.c5; have kf := hf4.fz
    have hf5 := hf4.set2 y
    clear hf3 hf4 r3 hz3 oo3 o4
    go_wp2
    refine bodyPost_ret (v := .agg #[.int .i64 f.pub, .int .i64 f.hd.len, .int .i64 y, .int .i64 f.hd.sg, .slice uA f.bl.length uc, .slice tA f.hv.length tc]) (by simp [results, Try.results86, go_sem, y0, y1, y2, y3, y4, y5]) rfl ⟨{ f with hd := { f.hd with dg := y } }, _, _, rfl, ?_, Nat.le_max_left _ _, Nat.le_succ_of_le (Nat.le_max_right _ _), HSZ.out, ?_, ?_⟩
    · exact (FeedO.set6 hf5.fo hl1 _ _ _ _ _ _).mono (Nat.le_of_lt hl0)
    · exact (rdr_set6 (r4.set (p := ⟨w.heap.size, 2, none⟩) hgl (.int .i64 y)) (by omega) _ _ _ _ _ _).mono (by omega)
    · exact only_set6 (oo4.set (p := ⟨w.heap.size, 2, none⟩) (Nat.le_refl _) (.int .i64 y)) (Nat.le_succ _) _ _ _ _ _ _
  · have k0 := hf3.c0; have k1 := hf3.c1; have k2 := hf3.c2; have k3 := hf3.c3; have k4 := hf3.c4; have k5 := hf3.c5; have kf := hf3.fz
    go_wp2_with (at_builtin; refine app_bool hf3.fo.hv (by omega) (by omega) rfl rfl rfl rfl ?_; intro v4 w4 ho4 hg4; obtain ⟨zA, zn, zc, rfl, hz4⟩ := ho4.sl2
                 obtain ⟨y0, y1, y2, y3, y4, y5, yf⟩ := box_cells ((hg4.block _ (Nat.lt_of_lt_of_le hl1 hW3) (fun e => by have := (hf3.fo.hv.lt _ e.symm).1; omega)).trans hz3)
                 obtain ⟨m0, m1, m2, m3, m4, m5, mf⟩ := box_cells ((hg4.block _ hf3.lt (fun e => hf3.nh e.symm)).trans hf3.box)
                 have hf5 := hf3.set5 hg4 ho4
                 have r5 := (r3.grown hg4 (fun r e => Nat.lt_of_lt_of_le hgW (hf3.fo.hv.lt r e).1)).set (p := ⟨w.heap.size, 5, none⟩) hgl (.slice zA zn zc)
                 have oo5 := (oo3.grown hg4 (fun r e => Nat.le_trans (Nat.le_of_lt hl0) (hf3.fo.hv.lt r e).1)).set (p := ⟨w.heap.size, 5, none⟩) (Nat.le_refl _) (.slice zA zn zc)
                 clear ho4 hg4)
    refine bodyPost_ret (v := .agg #[.int .i64 f.pub, .int .i64 f.hd.len, .int .i64 f.hd.dg, .int .i64 f.hd.sg, .slice uA f.bl.length uc, .slice zA zn zc]) (by simp [results, Try.results86, go_sem, y0, y1, y2, y3, y4, y5]) rfl ⟨{ f with hv := f.hv ++ [true] }, _, _, rfl, ?_, Nat.le_max_left _ _, (by have := Nat.le_max_right f.bl.length f.hv.length; simp; omega), HSZ.out, ?_, ?_⟩
    · exact (FeedO.set6 hf5.fo hl1 _ _ _ _ _ _).mono (Nat.le_of_lt hl0)
    · exact (rdr_set6 r5 (by omega) _ _ _ _ _ _).mono (by omega)
    · exact only_set6 oo5 (Nat.le_succ _) _ _ _ _ _ _
  · by_cases hl : f.bl.length = 0
    · have hl2 : ¬ (0 : Int) < (f.bl.length : Int) := by omega
      clear hl
      have k0 := hf3.c0; have k1 := hf3.c1; have k2 := hf3.c2; have k3 := hf3.c3; have k4 := hf3.c4; have k5 := hf3.c5; have kf := hf3.fz
      obtain ⟨y0, y1, y2, y3, y4, y5, yf⟩ := box_cells hz3
      go_wp2
      refine bodyPost_ret (v := .agg #[.int .i64 f.pub, .int .i64 f.hd.len, .int .i64 f.hd.dg, .int .i64 f.hd.sg, .slice uA f.bl.length uc, .slice tA f.hv.length tc]) (by simp [results, Try.results86, go_sem, y0, y1, y2, y3, y4, y5]) rfl ⟨f, _, _, rfl, ?_, Nat.le_max_left _ _, Nat.le_succ_of_le (Nat.le_max_right _ _), HSZ.out, ?_, ?_⟩
      · exact (FeedO.set6 hf3.fo hl1 _ _ _ _ _ _).mono (Nat.le_of_lt hl0)
      · exact (rdr_set6 r3 (by omega) _ _ _ _ _ _).mono (by omega)
      · exact only_set6 oo3 (Nat.le_succ _) _ _ _ _ _ _
    · have hl2 : (0 : Int) < (f.bl.length : Int) := by omega
      obtain ⟨gb, cap, hA, hgb1, hgb2⟩ := hf3.fo.bl.form (by omega)
      cases hA
      have k0 := hf3.c0; have k1 := hf3.c1; have k2 := hf3.c2; have k3 := hf3.c3; have k4 := hf3.c4; have k5 := hf3.c5; have kf := hf3.fz
      have hgbp : gb ≠ w.heap.size := by omega
      have hgbp' : ¬ gb = w.heap.size := by omega
      have hfd := hf3.below (below_drew (Below.refl _ _))
      have rd := r3.below (below_drew (Below.refl _ _))
      have ood := oo3.thenB (below_drew (Below.refl _ _))
      have hzd : w3.drew.heap[w.heap.size + 1]? = _ := hz3
      have hWd : W0.heap.size ≤ w3.drew.heap.size := hW3
      go_wp2_with fail
      go_region_held3 (fun w' => w'.cell? ⟨w.heap.size, 4, none⟩ = some (.slice (some ⟨gb, 0, none⟩) f.bl.length uc)) (first | exact k4 | exact s4 | exact s5 | go_keep)
        (first
          | (go_at_call 84; refine (pick_any g (P + 1) f.bl.length _ rd (by omega) (by omega) (by omega)).mono ?_; rintro e w4 ⟨u, rfl, u1, u2, r4, o4⟩; obtain ⟨m, rfl⟩ : ∃ m : Nat, u = m := ⟨u.toNat, by omega⟩; have hf4 := hfd.only o4 hgW hgp; have s4 := hf4.c4)
          | (go_at_call 122; refine (l91Text_any g (P + 2) _ r4 (by omega)).mono ?_; rintro e w5 ⟨t, rfl, ht, r5, o5⟩; have hf5 := hf4.only o5 hgW hgp; have s5 := hf5.c4; obtain ⟨e1, e2⟩ := hf5.fo.bl.at_ (j := m) (by omega); have e1' : ∃ u, w5.cell? ⟨gb, m, none⟩ = some u := ⟨_, e1⟩; clear e1; obtain ⟨ue, e1⟩ := e1'))
      have hf6 := hf5.setAt (m := m) (by omega) t
      have hgbz : gb ≠ w.heap.size + 1 := by omega
      have hgbz' : ¬ gb = w.heap.size + 1 := by omega
      have hgbz2 : ¬ w.heap.size + 1 = gb := by omega
      have hgbp2 : ¬ w.heap.size = gb := by omega
      obtain ⟨y0, y1, y2, y3, y4, y5, yf⟩ := box_cells ((o5.box (by have := o4.size; omega) hgz).trans ((o4.box (by omega) hgz).trans hzd))
      have oo5 := (ood.trans o4).trans o5
      have k0 := hf5.c0; have k1 := hf5.c1; have k2 := hf5.c2; have k3 := hf5.c3; have k4 := hf5.c4; have k5 := hf5.c5; have kf := hf5.fz
      clear s4 s5 hf4 hfd hf3 r3 rd r4 oo3 ood hz3 hzd
      go_wp2
      refine bodyPost_ret (v := .agg #[.int .i64 f.pub, .int .i64 f.hd.len, .int .i64 f.hd.dg, .int .i64 f.hd.sg, .slice (some ⟨gb, 0, none⟩) f.bl.length uc, .slice tA f.hv.length tc]) (by simp [results, Try.results86, go_sem, y0, y1, y2, y3, y4, y5]) rfl ⟨{ f with bl := f.bl.set m t }, _, _, rfl, ?_, (by have := Nat.le_max_left f.bl.length f.hv.length; simp; omega), Nat.le_succ_of_le (Nat.le_max_right _ _), mem_set_size HSZ.out ht, ?_, ?_⟩
      · exact (FeedO.set6 hf6.fo hl1 _ _ _ _ _ _).mono (Nat.le_of_lt hl0)
      · exact (rdr_set6 (r5.set (p := ⟨gb, m, none⟩) (by show g < gb; omega) (.string t)) (by omega) _ _ _ _ _ _).mono (by omega)
      · exact only_set6 (oo5.set (p := ⟨gb, m, none⟩) (by show w.heap.size ≤ gb; omega) (.string t)) (Nat.le_succ _) _ _ _ _ _ _
  · have n0 : (x == 0) = false := by rw [beq_eq_false_iff_ne]; omega
    have n1 : (x == 1) = false := by rw [beq_eq_false_iff_ne]; omega
    have n2 : (x == 2) = false := by rw [beq_eq_false_iff_ne]; omega
    have n3 : (x == 3) = false := by rw [beq_eq_false_iff_ne]; omega
    have k0 := hf3.c0; have k1 := hf3.c1; have k2 := hf3.c2; have k3 := hf3.c3; have k4 := hf3.c4; have k5 := hf3.c5; have kf := hf3.fz
    obtain ⟨y0, y1, y2, y3, y4, y5, yf⟩ := box_cells hz3
    go_wp2
    refine bodyPost_ret (v := .agg #[.int .i64 f.pub, .int .i64 f.hd.len, .int .i64 f.hd.dg, .int .i64 f.hd.sg, .slice uA f.bl.length uc, .slice tA f.hv.length tc]) (by simp [results, Try.results86, go_sem, y0, y1, y2, y3, y4, y5]) rfl ⟨f, _, _, rfl, ?_, Nat.le_max_left _ _, Nat.le_succ_of_le (Nat.le_max_right _ _), HSZ.out, ?_, ?_⟩
    · exact (FeedO.set6 hf3.fo hl1 _ _ _ _ _ _).mono (Nat.le_of_lt hl0)
    · exact (rdr_set6 r3 (by omega) _ _ _ _ _ _).mono (by omega)
    · exact only_set6 oo3 (Nat.le_succ _) _ _ _ _ _ _
end Go.Proofs.Ytlhiabnablbkpaa
