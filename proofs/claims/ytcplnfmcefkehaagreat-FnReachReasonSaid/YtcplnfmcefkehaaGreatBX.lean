/- Walks: what a reader has is drawn. | Walks: a feed is spoilt; the draw of FeedProve. | Walks: copies of the program. -/
import Derived.Test.YtcplnfmcefkehaaGreatBG
namespace Go.Proofs.YtcplnfmcefkehaaGreat
open Go.RowKit

theorem Only.box {g p : Nat} {a b : World} (h : Only g a b) (hp : p < a.heap.size) (hne : p ≠ g) : b.heap[p]? = a.heap[p]? := h.block p hp (fun e => hne (Option.some.inj e))
theorem only_set6 {g q : Nat} {a w : World} (h : Only g a w) (hq : a.heap.size ≤ q) (x0 x1 x2 x3 x4 x5 : Value) : Only g a ((((((w.setCell ⟨q, 0, none⟩ x0).setCell ⟨q, 1, none⟩ x1).setCell ⟨q, 2, none⟩ x2).setCell ⟨q, 3, none⟩ x3).setCell ⟨q, 4, none⟩ x4).setCell ⟨q, 5, none⟩ x5) :=
  (((((h.set hq _).set hq _).set hq _).set hq _).set hq _).set hq _
theorem rdr_set6 {g q P : Nat} {w : World} (h : Rdr w g P) (hq : g < q) (x0 x1 x2 x3 x4 x5 : Value) : Rdr ((((((w.setCell ⟨q, 0, none⟩ x0).setCell ⟨q, 1, none⟩ x1).setCell ⟨q, 2, none⟩ x2).setCell ⟨q, 3, none⟩ x3).setCell ⟨q, 4, none⟩ x4).setCell ⟨q, 5, none⟩ x5) g P :=
  (((((h.set hq _).set hq _).set hq _).set hq _).set hq _).set hq _
theorem app_strN {ops : Array Oper} {rest : List Oper} {o : Oper} {a : Act} {Q : Exit → Act → World → Prop} {w : World} {base : Nat} {v : Value} {l : List ByteArray} {n : Nat} (hn0 : w.heap.size = n) (hown : O1 Value.string base 9 w v l) (hn : l.length ≤ 100000000000) (hbase : base ≤ w.heap.size) {y : ByteArray} (hgd : o.guard = none) {s x : Operand}
    (ho : o.op = .call { callee := .builtin .append, args := #[s, x], argTypes := #[56, 56] }) (hs : a.eval s = v) (hx : a.eval x = .slice (some ⟨n, 0, none⟩) 1 1)
    (h : ∀ v' w', O1 Value.string base 9 w' v' (l ++ [y]) → w.grownBy w' v.ownBlock → wpList Tryz.prog ops Q rest (a.put o.dst v') w') : wpList Tryz.prog ops Q (o :: rest) a (w.alloc (.cells #[.string y] 9)) := by
  subst hn0; exact app_str hown hn hbase hgd ho hs hx h
end Go.Proofs.YtcplnfmcefkehaaGreat
namespace Go.Proofs.YtcplnfmcefkehaaGreat
open Go.RowKit

theorem FB.setAt {B q gb n c : Nat} {w : World} {f : Fd} {vh : Value} (h : FB B q w f (.slice (some ⟨gb, 0, none⟩) n c) vh) {m : Nat} (hm : m < f.bl.length) (t : ByteArray) :
    FB B q (w.setCell ⟨gb, m, none⟩ (.string t)) { f with bl := f.bl.set m t } (.slice (some ⟨gb, 0, none⟩) n c) vh := by
  have h1 := h.fo.bl.setAt hm t
  have hne : some gb ≠ some q := h.nb
  have h2 := h.fo.hv.grown h1.2 (O1.ne_ h.fo.hv h.fo.bl (by decide))
  exact ⟨(h1.2.block q h.lt (fun e => hne e.symm)).trans h.box, ⟨h1.1, h2⟩⟩
theorem mem_set_size {l : List ByteArray} {m : Nat} {t : ByteArray} (h : ∀ x ∈ l, x.size ≤ 10) (ht : t.size ≤ 10) : ∀ x ∈ l.set m t, x.size ≤ 10 := fun x hx => by
  rcases List.mem_or_eq_of_mem_set hx with hx | rfl
  · exact h x hx
  · exact ht
theorem heap_set6 {q k : Nat} {w : World} (hk : k ≠ q) (x0 x1 x2 x3 x4 x5 : Value) : ((((((w.setCell ⟨q, 0, none⟩ x0).setCell ⟨q, 1, none⟩ x1).setCell ⟨q, 2, none⟩ x2).setCell ⟨q, 3, none⟩ x3).setCell ⟨q, 4, none⟩ x4).setCell ⟨q, 5, none⟩ x5).heap[k]? = w.heap[k]? :=
  ((Below.heap_setCell _ _ _ _ hk).trans ((Below.heap_setCell _ _ _ _ hk).trans ((Below.heap_setCell _ _ _ _ hk).trans ((Below.heap_setCell _ _ _ _ hk).trans ((Below.heap_setCell _ _ _ _ hk).trans (Below.heap_setCell _ _ _ _ hk))))))
end Go.Proofs.YtcplnfmcefkehaaGreat
namespace Go.Proofs.YtcplnfmcefkehaaGreat
open Go.RowKit

theorem clone_string (l : List ByteArray) (v : Value) (w : World) (hv : RS w v l) (hl : l.length ≤ 10000000000) :
    Calls Tryz.prog 188 #[v] w fun e w' => ∃ v', e = .returned v' ∧ O1 Value.string w.heap.size 9 w' v' l ∧ Below w.heap.size w w' := by
  have HV := Lib.hid hv
  obtain ⟨A, c, rfl, h1, h2, h3⟩ := hv
  clear h3
  go_enter Tryz.func188, Tryz.ntmps188
  go_wp2_with (first
    | (at_make; refine make_strs (n := l.length) rfl rfl rfl rfl (by omega) ?_; intro v1 w1 hown1 hb1; have hr := HV.out.below hb1)
    | (at_builtin; refine app_strs hown1 hr (by simp; omega) hb1.size rfl rfl rfl rfl ?_; intro v2 w2 hown2 hb2))
  go_ret
  exact ⟨v2, rfl, by simpa using hown2, hb1.trans hb2⟩
theorem clone_bool (l : List Bool) (v : Value) (w : World) (hv : RB w v l) (hl : l.length ≤ 10000000000) :
    Calls Tryz.prog 189 #[v] w fun e w' => ∃ v', e = .returned v' ∧ O1 Value.bool w.heap.size 4 w' v' l ∧ Below w.heap.size w w' := by
  have HV := Lib.hid hv
  obtain ⟨A, c, rfl, h1, h2, h3⟩ := hv
  clear h3
  go_enter Tryz.func189, Tryz.ntmps189
  go_wp2_with (first
    | (at_make; refine make_bools (n := l.length) rfl rfl rfl rfl (by omega) ?_; intro v1 w1 hown1 hb1; have hr := HV.out.below hb1)
    | (at_builtin; refine app_bools hown1 hr (by simp; omega) hb1.size rfl rfl rfl rfl ?_; intro v2 w2 hown2 hb2))
  go_ret
  exact ⟨v2, rfl, by simpa using hown2, hb1.trans hb2⟩
theorem cell_set6 {q k o : Nat} {w : World} (hk : k ≠ q) {x0 x1 x2 x3 x4 x5 : Value} : ((((((w.setCell ⟨q, 0, none⟩ x0).setCell ⟨q, 1, none⟩ x1).setCell ⟨q, 2, none⟩ x2).setCell ⟨q, 3, none⟩ x3).setCell ⟨q, 4, none⟩ x4).setCell ⟨q, 5, none⟩ x5).cell? ⟨k, o, none⟩ = w.cell? ⟨k, o, none⟩ :=
  World.cell?_of_block (heap_set6 hk x0 x1 x2 x3 x4 x5)
set_option maxHeartbeats 1600000 in
set_option maxRecDepth 100000 in
theorem copyFeed_any (f : Fd) (vb vh : Value) (w : World) (hf : FeedR w f vb vh) (h1 : f.bl.length ≤ 1000000) (h2 : f.hv.length ≤ 1000000) :
    Calls Tryz.prog 138 #[.agg #[.int .i64 f.pub, .int .i64 f.hd.len, .int .i64 f.hd.dg, .int .i64 f.hd.sg, vb, vh]] w (CopyPost f w) := by
  obtain ⟨W0, HW0⟩ : ∃ W0, Hid ((w.alloc (.cells #[.int .i64 f.pub, .int .i64 f.hd.len, .int .i64 f.hd.dg, .int .i64 f.hd.sg, vb, vh] 59)).alloc (.cells #[.int .i64 0, .int .i64 0, .int .i64 0, .int .i64 0, .slice none 0 0, .slice none 0 0] 59) = W0) := ⟨_, Lib.hid rfl⟩
  have HB0 : Hid (Below w.heap.size w W0) := Lib.hid (by rw [← HW0.out]; exact ((Below.refl _ _).alloc (Nat.le_refl _) _).alloc (by simp) _)
  have hs0 : w.heap.size + 2 = W0.heap.size := by rw [← HW0.out]; simp
  have hp0 : W0.heap[w.heap.size]? = some (.cells #[.int .i64 f.pub, .int .i64 f.hd.len, .int .i64 f.hd.dg, .int .i64 f.hd.sg, vb, vh] 59 (0, 0)) := by
    rw [← HW0.out]; exact (((Below.refl (w.heap.size + 1) _).alloc (by simp) _).block w.heap.size (by omega)).trans (heap_alloc_new w _)
  have hz0 : W0.heap[w.heap.size + 1]? = some (.cells #[.int .i64 0, .int .i64 0, .int .i64 0, .int .i64 0, .slice none 0 0, .slice none 0 0] 59 (0, 0)) := by
    rw [← HW0.out]; have := heap_alloc_new (w.alloc (.cells #[.int .i64 f.pub, .int .i64 f.hd.len, .int .i64 f.hd.dg, .int .i64 f.hd.sg, vb, vh] 59)) (.cells #[.int .i64 0, .int .i64 0, .int .i64 0, .int .i64 0, .slice none 0 0, .slice none 0 0] 59); simpa using this
  have HP0 := Lib.hid hp0
  have HZ0 := Lib.hid hz0
  have HF0 : Hid (FeedR W0 f vb vh) := Lib.hid (hf.below HB0.out)
  have hl0 : w.heap.size < W0.heap.size := by omega
  have hl1 : w.heap.size + 1 < W0.heap.size := by omega
  obtain ⟨A, c, rfl, _, _, _⟩ := hf.bl
  obtain ⟨B, d, rfl, _, _, _⟩ := hf.hv
  obtain ⟨p0, p1, p2, p3, p4, p5, pf⟩ := box_cells hp0
  clear hp0 hz0 hf
  have hbd0 := below_drew (Below.refl W0.heap.size W0)
  go_enter Tryz.func138, Tryz.ntmps138
  go_wp2_with fail
  rw [HW0.out]
  have hpne : w.heap.size ≠ w.heap.size + 1 := by omega
  have hpd : W0.drew.heap[w.heap.size]? = _ := HP0.out
  obtain ⟨d0, d1, d2, d3, d4, d5, df⟩ := box_cells hpd
  go_region_held3 (fun w' => w'.cell? ⟨w.heap.size, 0, none⟩ = some (.int .i64 f.pub) ∧ w'.cell? ⟨w.heap.size, 1, none⟩ = some (.int .i64 f.hd.len) ∧ w'.cell? ⟨w.heap.size, 2, none⟩ = some (.int .i64 f.hd.dg) ∧ w'.cell? ⟨w.heap.size, 3, none⟩ = some (.int .i64 f.hd.sg) ∧ w'.cell? ⟨w.heap.size, 4, none⟩ = some (.slice A f.bl.length c) ∧ w'.cell? ⟨w.heap.size, 5, none⟩ = some (.slice B f.hv.length d)) (first | with_reducible exact ⟨d0, d1, d2, d3, d4, d5⟩ | with_reducible exact ⟨q0, q1, q2, q3, q4, q5⟩ | with_reducible exact ⟨r0, r1, r2, r3, r4, r5⟩ | with_reducible exact ⟨(cell_set6 hpne).trans r0, (cell_set6 hpne).trans r1, (cell_set6 hpne).trans r2, (cell_set6 hpne).trans r3, (cell_set6 hpne).trans r4, (cell_set6 hpne).trans r5⟩)
    (first
      | (go_at_call 188; refine (clone_string f.bl _ _ (HF0.out.bl.below hbd0) (by omega)).mono ?_; rintro e w5 ⟨v5, rfl, ho5, hb5⟩; obtain ⟨sA, sn, sc, rfl, hs5⟩ := ho5.sl2; have hb05 := hbd0.trans hb5; have HP5 := Lib.hid ((hb05.block _ hl0).trans HP0.out); obtain ⟨q0, q1, q2, q3, q4, q5, qf⟩ := box_cells HP5.out)
      | (go_at_call 189; refine (clone_bool f.hv _ _ (HF0.out.hv.below hb05) (by omega)).mono ?_; rintro e w6 ⟨v6, rfl, ho6, hb6⟩; obtain ⟨tA, tn, tc, rfl, hs6⟩ := ho6.sl2; have hb06 := hb05.trans (hb6.mono hb05.size); have HP6 := Lib.hid ((hb06.block _ hl0).trans HP0.out); have HZ6 := Lib.hid ((hb06.block _ hl1).trans HZ0.out); obtain ⟨r0, r1, r2, r3, r4, r5, rf⟩ := box_cells HP6.out; obtain ⟨y0, y1, y2, y3, y4, y5, yf⟩ := box_cells HZ6.out))
  have hfo : FeedO W0.heap.size w6 f (.slice sA sn sc) (.slice tA tn tc) := ⟨(ho5.below hb6).mono hbd0.size, ho6.mono hb05.size⟩
  go_wp2
  refine bodyPost_ret (v := .agg #[.int .i64 f.pub, .int .i64 f.hd.len, .int .i64 f.hd.dg, .int .i64 f.hd.sg, .slice sA sn sc, .slice tA tn tc]) (by simp [results, Tryz.results138, go_sem, y0, y1, y2, y3, y4, y5]) rfl ⟨_, _, rfl, ?_, ?_⟩
  · exact (hfo.set6 hl1 _ _ _ _ _ _).mono (Nat.le_of_lt hl0)
  · exact below_set6 (HB0.out.trans (hb06.mono (Nat.le_of_lt hl0))) (Nat.le_succ _) _ _ _ _ _ _
end Go.Proofs.YtcplnfmcefkehaaGreat
