/- Words: append of made zeros; walk: how a head is handled. -/
import Derived.Test.YtlhiabnablbkpaaTb
import Derived.Test.YtlhiabnablbkpaaLawh
import Derived.Lib.AppendZerosOnto
namespace Go.Proofs.Ytlhiabnablbkpaa

open Go.RowKit

theorem zeroCells_one (x : Value) (k : Nat) : Builtin.zeroCells #[x] k = (List.replicate k x).toArray := by
  apply Array.ext
  · simp [Builtin.zeroCells]
  · intro j h1 h2
    simp [Builtin.zeroCells, Nat.mod_one]
theorem run_zeros_own {α : Type} {enc : α → Value} {P : Program} (w : World) (t tn ty e : TypeId) (i : TypeInfo) (z : Value) (kn : IntKind) (ht : P.underlying t = some (.slice e)) (htn : P.underlying tn = some (.int kn)) (hi : P.info? e = some i) (hz : i.zero = some z)
    (hsize : i.size = 1) (hb100 : i.bytes ≤ 1000) {a0 : α} (hzs : z.cells = #[enc a0]) (h1 : (enc a0).oneCell' = true) {base : Nat} {v : Value} {l : List α} (hown : O1 enc base e w v l) {k : Nat} (h0 : 0 < k) (hlen : l.length + k ≤ 1000) (hbase : base ≤ w.heap.size) :
    ∃ v' w', (Builtin.append_ #[t, tn] ty #[v, .int .i64 (k : Int)]).run P w = .ok v' w' ∧ O1 enc base e w' v' (l ++ List.replicate k a0) ∧ w.grownBy w' v.ownBlock := by
  have hk48 : k * i.bytes ≤ 281474976710656 := Nat.le_trans (Nat.mul_le_mul (show k ≤ 1000 by omega) hb100) (by omega)
  have hzc := zeroCells_one (enc a0)
  have hml : (l ++ List.replicate k a0).length = l.length + k := by simp
  -- what a new row is good for
  have fresh : ∀ (old : Nat) (row : Option Nat), O1 enc base e (w.drew.alloc (.cells ((l.map enc).toArray ++ (List.replicate k (enc a0)).toArray ++ Builtin.zeroCells z.cells (grownCap w (l.length + k) old e - (l.length + k))) e)) (.slice (some ⟨w.heap.size, 0, none⟩) (l.length + k) (grownCap w (l.length + k) old e)) (l ++ List.replicate k a0) ∧
      w.grownBy (w.drew.alloc (.cells ((l.map enc).toArray ++ (List.replicate k (enc a0)).toArray ++ Builtin.zeroCells z.cells (grownCap w (l.length + k) old e - (l.length + k))) e)) row := by
    intro old row
    have hge := grownCap_ge w (l.length + k) old e
    have hcm : grownCap w (l.length + k) old e ≤ maxLen := grownCap_le_maxLen w (l.length + k) old e (by unfold maxLen; omega)
    refine ⟨⟨by simp, .inr ⟨w.heap.size, _, _, by rw [hml], hbase, heap_alloc_new w.drew _, by rw [hml]; exact hge, hcm, ?_, ?_⟩⟩, ⟨rfl, rfl, rfl, by simp, fun j hj _ => heap_alloc_old w.drew _ hj⟩⟩
    · rw [hzs, hzc]; simp; omega
    · rw [hml, Array.toList_append, List.take_left' (by simp)]
      simp
  have hw : IntKind.i64.wrap (k : Int) = k := by rw [IntKind.wrap_i64]; omega
  have hneg : ¬ ((k : Int) < 0) := by omega
  have hns : ¬ (k * i.size = 0) := by rw [hsize]; omega
  have h48i : ¬ (281474976710656 < (k : Int) * (i.bytes : Int)) := by rw [← Int.natCast_mul]; omega
  have h63 : ((l.length + k : Nat) : Int) ≤ 9223372036854775807 := by omega
  have hfitN : ∀ c, c < l.length + k → Builtin.nextslicecap (l.length + k) c * i.bytes ≤ 281474976710656 := fun c hc => by
    refine growslice_fits (by omega) ?_
    exact Nat.le_trans (Nat.mul_le_mul (show l.length + k ≤ 1000 by omega) hb100) (by omega)
  obtain ⟨hlx, hr⟩ := id hown
  rcases hr with ⟨rfl, hn0⟩ | ⟨g, cap, cur, rfl, hbg, hg, hnc, hcm, hcs, htake⟩
  · have hl0 : l = [] := List.eq_nil_of_length_eq_zero hn0
    subst hl0
    have hr := Lib.run_append_nil_zeros (P := P) w t tn ty e i z .i64 kn ht htn hi hz k h0 (by omega) (by omega) hk48
    obtain ⟨f1, f2⟩ := fresh 0 (Value.ownBlock (.slice none 0 0))
    rw [hzs, hzc] at hr
    rw [hzs] at f1 f2
    simp only [List.length_nil, Nat.zero_add, List.nil_append, List.map_nil, Array.empty_append] at f1 f2
    exact ⟨_, _, hr, f1, f2⟩
  · by_cases hroom : l.length + k ≤ cap
    · have hst := run_storeCells_at P g (l.length * i.size) e (List.replicate k (enc a0)) 0 cur w hg (by simp [hsize]; omega) (by intro u hu; rw [List.eq_of_mem_replicate hu]; exact h1)
      simp only [Nat.add_zero] at hst
      have hr : (Builtin.append_ #[t, tn] ty #[.slice (some ⟨g, 0, none⟩) l.length cap, .int .i64 (k : Int)]).run P w = .ok (.slice (some ⟨g, 0, none⟩) (l.length + k) cap) (w.setRow g (cur.toList.take (l.length * i.size) ++ List.replicate k (enc a0) ++ cur.toList.drop (l.length * i.size + k)).toArray) := by
        simp [Builtin.append_, run_underlying ht, run_underlying htn, sizeOf, typeInfo, zeroValue, hi, hz, asInt, asIntOf, hw, hroom, hneg, hns, h48i, hzs, hzc, Addr.add_lit, hst]
      have hcs' : cur.size = cap := by rw [hcs, Nat.mul_one]
      refine ⟨_, _, hr, ⟨by simp, .inr ⟨g, cap, _, by rw [hml], hbg, setRow_heap w g cur _ e _ hg, by rw [hml]; exact hroom, hcm, ?_, ?_⟩⟩, ⟨rfl, rfl, rfl, by simp, fun j _ hj => setRow_other w g j _ (fun e => hj (by simp [Value.ownBlock, e]))⟩⟩
      · simp only [List.size_toArray, List.length_append, List.length_take, List.length_drop, Array.length_toList, List.length_replicate, hsize]
        omega
      · rw [Nat.mul_one] at htake
        rw [hml, hsize, Nat.mul_one, Nat.mul_one, htake]
        simp only [List.map_append, List.map_replicate]
        exact List.take_left' (by simp)
    · have holds : ∀ j u, (l.map enc)[j]? = some u → w.cell? ((⟨g, 0, none⟩ : Addr).add j) = some u := World.ownsRow.cells hown (g := g) rfl
      have hfo := run_firstCells_some (P := P) w.drew i.size l.length ⟨g, 0, none⟩ l.length cap (l.map enc) (by rw [hsize]; simp) (by simpa using holds)
      have hr := Lib.run_append_grow_zeros (P := P) w t tn ty e i z .i64 kn ht htn hi hz (some ⟨g, 0, none⟩) l.length cap (l.map enc) hfo k h0 (by omega) (by omega) h63 hk48 (hfitN cap (by omega))
      obtain ⟨f1, f2⟩ := fresh cap (Value.ownBlock (.slice (some ⟨g, 0, none⟩) l.length cap))
      rw [hzs, hzc] at hr
      rw [hzs] at f1 f2
      exact ⟨_, _, hr, f1, f2⟩
section
variable {ops : Array Oper} {rest : List Oper} {o : Oper} {a : Act} {Q : Exit → Act → World → Prop} {w : World} {base : Nat} {v : Value}
theorem app_zstr {l : List ByteArray} (hown : O1 Value.string base 9 w v l) {k : Nat} (h0 : 0 < k) (hlen : l.length + k ≤ 1000) (hbase : base ≤ w.heap.size) (hgd : o.guard = none) {s x : Operand}
    (ho : o.op = .call { callee := .builtin .append, args := #[s, x], argTypes := #[24, 3] }) (hs : a.eval s = v) (hx : a.eval x = .int .i64 (k : Int))
    (h : ∀ v' w', O1 Value.string base 9 w' v' (l ++ List.replicate k noText) → w.grownBy w' v.ownBlock → wpList Try.prog ops Q rest (a.put o.dst v') w') : wpList Try.prog ops Q (o :: rest) a w := by
  obtain ⟨i0, hi, hz0, hz1, hz2⟩ := info_parts info_str
  obtain ⟨v', w', hr, h2, h3⟩ := run_zeros_own (P := Try.prog) (enc := Value.string) (a0 := noText) w 24 3 o.type 9 i0 _ .i64 Try.underlying24 Try.underlying3 hi hz0 hz1 (by omega) rfl rfl hown h0 hlen hbase
  exact Lib.wpList_append_run w hgd s x _ _ ho _ _ hs hx v' w' hr (h v' w' h2 h3)
theorem app_zbool {l : List Bool} (hown : O1 Value.bool base 4 w v l) {k : Nat} (h0 : 0 < k) (hlen : l.length + k ≤ 1000) (hbase : base ≤ w.heap.size) (hgd : o.guard = none) {s x : Operand}
    (ho : o.op = .call { callee := .builtin .append, args := #[s, x], argTypes := #[25, 3] }) (hs : a.eval s = v) (hx : a.eval x = .int .i64 (k : Int))
    (h : ∀ v' w', O1 Value.bool base 4 w' v' (l ++ List.replicate k false) → w.grownBy w' v.ownBlock → wpList Try.prog ops Q rest (a.put o.dst v') w') : wpList Try.prog ops Q (o :: rest) a w := by
  obtain ⟨i0, hi, hz0, hz1, hz2⟩ := info_parts info_bool
  obtain ⟨v', w', hr, h2, h3⟩ := run_zeros_own (P := Try.prog) (enc := Value.bool) (a0 := false) w 25 3 o.type 4 i0 _ .i64 Try.underlying25 Try.underlying3 hi hz0 hz1 (by omega) rfl rfl hown h0 hlen hbase
  exact Lib.wpList_append_run w hgd s x _ _ ho _ _ hs hx v' w' hr (h v' w' h2 h3)
end


theorem run_head_eqls (a1 a2 a3 b1 b2 b3 : Int) (w : World) :
    (binOp .eql 32 (.agg #[.int .i64 a1, .int .i64 a2, .int .i64 a3]) (.agg #[.int .i64 b1, .int .i64 b2, .int .i64 b3])).run Try.prog w = .ok (.bool (a1 == b1 && a2 == b2 && a3 == b3)) w := by
  rw [run_eql_struct, run_equalIn_agg _ _ _ _ _ (by kernel_rfl) (by kernel_rfl)]
  simp [go_sem]
  by_cases h1 : a1 = b1 <;> by_cases h2 : a2 = b2 <;> by_cases h3 : a3 = b3 <;> simp [h1, h2, h3]
theorem box3_cells {W : World} {q : Nat} {x0 x1 x2 : Value} {t : TypeId} (h : W.heap[q]? = some (.cells #[x0, x1, x2] t (0, 0))) : W.cell? ⟨q, 0, none⟩ = some x0 ∧ W.cell? ⟨q, 1, none⟩ = some x1 ∧ W.cell? ⟨q, 2, none⟩ = some x2 ∧ ∀ o, W.frozen? ⟨q, o, none⟩ = false :=
  ⟨cell_of_row _ _ 0 _ _ _ h, cell_of_row _ _ 1 _ _ _ h, cell_of_row _ _ 2 _ _ _ h, fun o => by simp [World.frozen?, h]⟩
/-- The parts of a head's code. -/
theorem hcode_of {f : Fd} {h : Hd} {l : List Int} {b1 b2 b3 b4 b5 b6 : Bool} (h1 : hcheck f.pub h = b1) (h2 : (h.len == 0) = b2) (h3 : h.same f.hd = b3) (h4 : decide (h.len < f.hd.len) = b4) (h5 : (h.len == f.hd.len) = b5) (h6 : (decide (0 < f.hd.len) && !growCheck f.hd.len f.hd.dg h.len h.dg l) = b6) :
    hcode f h l = if !b1 || b2 then 4 else if b3 then 1 else if b4 then 2 else if b5 then 3 else if b6 then 4 else 0 := by
  unfold hcode
  rw [← h1, ← h2, ← h3, ← h4, ← h5, ← h6]
  simp only [decide_eq_true_eq, beq_iff_eq]
set_option maxHeartbeats 1600000 in
set_option maxRecDepth 100000 in
theorem headCode_i (f : Fd) (h : Hd) (l : List Int) (vb vh lv : Value) (w : World) (hf : FeedR w f vb vh) (hl : RI w lv l) :
    Calls Try.prog 128 #[.agg #[.int .i64 f.pub, .int .i64 f.hd.len, .int .i64 f.hd.dg, .int .i64 f.hd.sg, vb, vh], .agg #[.int .i64 h.len, .int .i64 h.dg, .int .i64 h.sg], lv] w fun e w' => e = .returned (.int .i64 (hcode f h l)) ∧ Below w.heap.size w w' := by
  obtain ⟨W0, HW0⟩ : ∃ W0, Hid ((w.alloc (.cells #[.int .i64 f.pub, .int .i64 f.hd.len, .int .i64 f.hd.dg, .int .i64 f.hd.sg, vb, vh] 34)).alloc (.cells #[.int .i64 h.len, .int .i64 h.dg, .int .i64 h.sg] 32) = W0) := ⟨_, Lib.hid rfl⟩
  have HB0 : Hid (Below w.heap.size w W0) := Lib.hid (by rw [← HW0.out]; exact ((Below.refl _ _).alloc (Nat.le_refl _) _).alloc (by simp) _)
  have hs0 : w.heap.size + 2 = W0.heap.size := by rw [← HW0.out]; simp
  have HP0 : Hid (W0.heap[w.heap.size]? = some (.cells #[.int .i64 f.pub, .int .i64 f.hd.len, .int .i64 f.hd.dg, .int .i64 f.hd.sg, vb, vh] 34 (0, 0))) := Lib.hid (by
    rw [← HW0.out]; exact (((Below.refl (w.heap.size + 1) _).alloc (by simp) _).block w.heap.size (by omega)).trans (heap_alloc_new w _))
  have HZ0 : Hid (W0.heap[w.heap.size + 1]? = some (.cells #[.int .i64 h.len, .int .i64 h.dg, .int .i64 h.sg] 32 (0, 0))) := Lib.hid (by
    rw [← HW0.out]; have := heap_alloc_new (w.alloc (.cells #[.int .i64 f.pub, .int .i64 f.hd.len, .int .i64 f.hd.dg, .int .i64 f.hd.sg, vb, vh] 34)) (.cells #[.int .i64 h.len, .int .i64 h.dg, .int .i64 h.sg] 32); simpa using this)
  have HLR : Hid (RI W0 lv l) := Lib.hid (hl.below HB0.out)
  have hl0 : w.heap.size < W0.heap.size := by omega
  have hl1 : w.heap.size + 1 < W0.heap.size := by omega
  obtain ⟨A, c, rfl, _, _, _⟩ := hf.bl
  obtain ⟨B, d, rfl, _, _, _⟩ := hf.hv
  obtain ⟨C, k, rfl, _, _, _⟩ := hl
  clear hf
  obtain ⟨x0, x1, x2, x3, x4, x5, xf⟩ := box_cells HP0.out
  obtain ⟨y0, y1, y2, yf⟩ := box3_cells HZ0.out
  obtain ⟨b1, H1⟩ : ∃ b, Hid (hcheck f.pub h = b) := ⟨_, Lib.hid rfl⟩
  obtain ⟨b2, H2⟩ : ∃ b, Hid ((h.len == 0) = b) := ⟨_, Lib.hid rfl⟩
  obtain ⟨b3, H3⟩ : ∃ b, Hid (h.same f.hd = b) := ⟨_, Lib.hid rfl⟩
  obtain ⟨b4, H4⟩ : ∃ b, Hid (decide (h.len < f.hd.len) = b) := ⟨_, Lib.hid rfl⟩
  obtain ⟨b5, H5⟩ : ∃ b, Hid ((h.len == f.hd.len) = b) := ⟨_, Lib.hid rfl⟩
  obtain ⟨b7, H7⟩ : ∃ b, Hid (decide (0 < f.hd.len) = b) := ⟨_, Lib.hid rfl⟩
  obtain ⟨b8, H8⟩ : ∃ b, Hid (growCheck f.hd.len f.hd.dg h.len h.dg l = b) := ⟨_, Lib.hid rfl⟩
  have HR : Hid (hcode f h l = if !b1 || b2 then 4 else if b3 then 1 else if b4 then 2 else if b5 then 3 else if (b7 && !b8) then 4 else 0) :=
    Lib.hid (hcode_of H1.out H2.out H3.out H4.out H5.out (by rw [H7.out, H8.out]))
  have HEQ : Hid (∀ w : World, (binOp .eql 32 (.agg #[.int .i64 h.len, .int .i64 h.dg, .int .i64 h.sg]) (.agg #[.int .i64 f.hd.len, .int .i64 f.hd.dg, .int .i64 f.hd.sg])).run Try.prog w = .ok (.bool b3) w) :=
    Lib.hid (fun w => by rw [run_head_eqls, ← H3.out]; rfl)
  rw [HR.out]
  go_enter Try.func128, Try.ntmps128
  go_wp2_with fail
  rw [HW0.out]
  refine (HeadCheck_ib H1 W0).mono ?_
  rintro e w1 ⟨rfl, hb1⟩
  clear x0 x1 x2 x3 x4 x5 xf y0 y1 y2 yf
  obtain ⟨x0, x1, x2, x3, x4, x5, xf⟩ := box_cells ((hb1.block _ hl0).trans HP0.out)
  obtain ⟨y0, y1, y2, yf⟩ := box3_cells ((hb1.block _ hl1).trans HZ0.out)
  have hb01 := Lib.hid (HB0.out.trans (hb1.mono (Nat.le_of_lt hl0)))
  have HL1 := Lib.hid (HLR.out.below hb1)
  clear hb1
  cases b1
  · go_wp2
    go_ret
    exact ⟨rfl, hb01.out⟩
  cases b2
  rotate_left
  · have e2 := H2.out
    go_wp2
    go_ret
    exact ⟨rfl, hb01.out⟩
  have e2 := H2.out
  have e3 := HEQ.out
  cases b3
  rotate_left
  · go_wp2
    go_ret
    exact ⟨rfl, hb01.out⟩
  have e4 := H4.out
  cases b4
  rotate_left
  · go_wp2
    go_ret
    exact ⟨rfl, hb01.out⟩
  have e5 := H5.out
  cases b5
  rotate_left
  · go_wp2
    go_ret
    exact ⟨rfl, hb01.out⟩
  have e7 := H7.out
  cases b7
  · go_wp2
    go_ret
    exact ⟨rfl, hb01.out⟩
  cases b8
  · go_wp2_with (go_at_call 38; refine (TreeGrowthCheck_ib H8 _ _ HL1.out).mono ?_; rintro e w2 ⟨rfl, hb2⟩)
    go_ret
    exact ⟨rfl, hb01.out.trans (hb2.mono hb01.out.size)⟩
  · go_wp2_with (go_at_call 38; refine (TreeGrowthCheck_ib H8 _ _ HL1.out).mono ?_; rintro e w2 ⟨rfl, hb2⟩)
    go_ret
    exact ⟨rfl, hb01.out.trans (hb2.mono hb01.out.size)⟩
end Go.Proofs.Ytlhiabnablbkpaa
