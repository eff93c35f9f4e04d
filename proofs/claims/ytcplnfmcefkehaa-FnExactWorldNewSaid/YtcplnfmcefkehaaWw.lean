/- Walks: texts and blocks are drawn; a feed is made and copied. -/
import Derived.Test.YtcplnfmcefkehaaWv
import Derived.Test.YtcplnfmcefkehaaWt
import Derived.Test.YtcplnfmcefkehaaWo
namespace Go.Proofs.Ytcplnfmcefkehaa
open Go.RowKit

/-- append of one element that lies in a block of its own, onto an owned row: what has turned is told by the row. -/
theorem app_row {α : Type} {enc : α → Value} {P : Program} {ops : Array Oper} {rest : List Oper} {o : Oper} {a : Act} {Q : Exit → Act → World → Prop} {w : World} (t e bytes : Nat) (i : TypeInfo) (z : Value)
    (ht : P.underlying t = some (.slice e)) (hi : P.info? e = some i) (hz : i.zero = some z) (hsize : i.size = 1) (hby : i.bytes = bytes) (hzs : z.cells.size = 1) (hb100 : bytes ≤ 1000)
    {base : Nat} {v : Value} {l : List α} (hown : O1 enc base e w v l) (hn : l.length ≤ 100000000000) (hbase : base ≤ w.heap.size) {y : α} (h1 : (enc y).oneCell' = true)
    (hgd : o.guard = none) {s x : Operand} (ho : o.op = .call { callee := .builtin .append, args := #[s, x], argTypes := #[t, t] })
    (hs : a.eval s = v) (hx : a.eval x = .slice (some ⟨w.heap.size, 0, none⟩) 1 1)
    (h : ∀ v' w', O1 enc base e w' v' (l ++ [y]) → w.grownBy w' v.ownBlock → wpList P ops Q rest (a.put o.dst v') w') : wpList P ops Q (o :: rest) a (w.alloc (.cells #[enc y] e)) := by
  have hbd : (l.length + 1) * bytes ≤ 100000000001 * 1000 := Nat.mul_le_mul (by omega) hb100
  refine wpList_append_own _ hgd s x t ho base e i z 1 bytes ht hi hz hsize hby hzs (by omega) v l.length _ hs
    (hown.alloc _) ⟨w.heap.size, 0, none⟩ 1 1 [enc y] hx (by simp) (fun j u hu => ?_) (by simpa using h1) (by unfold maxLen; omega) (by omega) (by simp; omega) ?_
  · have hadd : (⟨w.heap.size, 0, none⟩ : Addr).add j = ⟨w.heap.size, j, none⟩ := by unfold Addr.add; split <;> simp_all
    rw [hadd, cell_of_row _ w.heap.size j _ e (0, 0) (heap_alloc_new w _)]
    simpa using hu
  · intro v' w' h2 h3 _
    exact h v' w' (by unfold O1; simpa using h2) (grow_trans (grow_below ((Below.refl _ _).alloc (Nat.le_refl _) _)) h3)
section
variable {ops : Array Oper} {rest : List Oper} {o : Oper} {a : Act} {Q : Exit → Act → World → Prop} {w : World} {base : Nat} {v : Value}
theorem app_str {l : List ByteArray} (hown : O1 Value.string base 9 w v l) (hn : l.length ≤ 100000000000) (hbase : base ≤ w.heap.size) {y : ByteArray} (hgd : o.guard = none) {s x : Operand}
    (ho : o.op = .call { callee := .builtin .append, args := #[s, x], argTypes := #[36, 36] }) (hs : a.eval s = v) (hx : a.eval x = .slice (some ⟨w.heap.size, 0, none⟩) 1 1)
    (h : ∀ v' w', O1 Value.string base 9 w' v' (l ++ [y]) → w.grownBy w' v.ownBlock → wpList Try.prog ops Q rest (a.put o.dst v') w') : wpList Try.prog ops Q (o :: rest) a (w.alloc (.cells #[.string y] 9)) := by
  obtain ⟨i0, hi, hz0, hz1, hz2⟩ := info_parts info_str
  exact app_row 36 9 16 i0 _ Try.underlying36 hi hz0 hz1 hz2 rfl (by omega) hown hn hbase rfl hgd ho hs hx h
theorem app_bool {l : List Bool} (hown : O1 Value.bool base 4 w v l) (hn : l.length ≤ 100000000000) (hbase : base ≤ w.heap.size) {y : Bool} (hgd : o.guard = none) {s x : Operand}
    (ho : o.op = .call { callee := .builtin .append, args := #[s, x], argTypes := #[37, 37] }) (hs : a.eval s = v) (hx : a.eval x = .slice (some ⟨w.heap.size, 0, none⟩) 1 1)
    (h : ∀ v' w', O1 Value.bool base 4 w' v' (l ++ [y]) → w.grownBy w' v.ownBlock → wpList Try.prog ops Q rest (a.put o.dst v') w') : wpList Try.prog ops Q (o :: rest) a (w.alloc (.cells #[.bool y] 4)) := by
  obtain ⟨i0, hi, hz0, hz1, hz2⟩ := info_parts info_bool
  exact app_row 37 4 1 i0 _ Try.underlying37 hi hz0 hz1 hz2 rfl (by omega) hown hn hbase rfl hgd ho hs hx h
theorem step_row {α : Type} {enc : α → Value} {P : Program} {ops : Array Oper} {o : Oper} {a : Act} {K : Act → World → Prop} {Q : Exit → Act → World → Prop} {E : Prop} {w : World} (t e bytes : Nat) (i : TypeInfo) (z : Value)
    (ht : P.underlying t = some (.slice e)) (hi : P.info? e = some i) (hz : i.zero = some z) (hsize : i.size = 1) (hby : i.bytes = bytes) (hzs : z.cells.size = 1) (hb100 : bytes ≤ 1000)
    {base : Nat} {v : Value} {l : List α} (hown : O1 enc base e w v l) (hn : l.length ≤ 100000000000) (hbase : base ≤ w.heap.size) {y : α} (h1 : (enc y).oneCell' = true)
    (hgd : o.guard = none) {s x : Operand} (ho : o.op = .call { callee := .builtin .append, args := #[s, x], argTypes := #[t, t] })
    (hs : a.eval s = v) (hx : a.eval x = .slice (some ⟨w.heap.size, 0, none⟩) 1 1)
    (h : ∀ A n c w', O1 enc base e w' (.slice A n c) (l ++ [y]) → w.grownBy w' v.ownBlock → K (a.put o.dst (.slice A n c)) w') : if Region.wanted o (yielded ops a.tmps) = true then Oper.wp P o a (w.alloc (.cells #[enc y] e)) K Q else E := by
  have hbd : (l.length + 1) * bytes ≤ 100000000001 * 1000 := Nat.mul_le_mul (by omega) hb100
  refine step_append_lies _ hgd s x t ho base e i z 1 bytes ht hi hz hsize hby hzs (by omega) v l.length _ hs
    (hown.alloc _) ⟨w.heap.size, 0, none⟩ 1 1 [enc y] hx (by simp) (fun j u hu => ?_) (by simpa using h1) (by omega) (by unfold maxLen; omega) (by omega) (by simp; omega) _ rfl ?_
  · have hadd : (⟨w.heap.size, 0, none⟩ : Addr).add j = ⟨w.heap.size, j, none⟩ := by unfold Addr.add; split <;> simp_all
    rw [hadd, cell_of_row _ w.heap.size j _ e (0, 0) (heap_alloc_new w _)]
    simpa using hu
  · intro g cap w' h2 h3 _ _
    exact h _ _ _ w' (by unfold O1; simpa using h2) (grow_trans (grow_below ((Below.refl _ _).alloc (Nat.le_refl _) _)) h3)
theorem step_str {K : Act → World → Prop} {E : Prop} {l : List ByteArray} (hown : O1 Value.string base 9 w v l) (hn : l.length ≤ 100000000000) (hbase : base ≤ w.heap.size) {y : ByteArray} (hgd : o.guard = none) {s x : Operand}
    (ho : o.op = .call { callee := .builtin .append, args := #[s, x], argTypes := #[36, 36] }) (hs : a.eval s = v) (hx : a.eval x = .slice (some ⟨w.heap.size, 0, none⟩) 1 1)
    (h : ∀ A n c w', O1 Value.string base 9 w' (.slice A n c) (l ++ [y]) → w.grownBy w' v.ownBlock → K (a.put o.dst (.slice A n c)) w') : if Region.wanted o (yielded ops a.tmps) = true then Oper.wp Try.prog o a (w.alloc (.cells #[.string y] 9)) K Q else E := by
  obtain ⟨i0, hi, hz0, hz1, hz2⟩ := info_parts info_str
  exact step_row 36 9 16 i0 _ Try.underlying36 hi hz0 hz1 hz2 rfl (by omega) hown hn hbase rfl hgd ho hs hx h
theorem app_strs {l l2 : List ByteArray} {x : Value} (hown : O1 Value.string base 9 w v l) (hr : RS w x l2) (hn : l.length + l2.length ≤ 100000000000) (hbase : base ≤ w.heap.size)
    (hgd : o.guard = none) {s y : Operand} (ho : o.op = .call { callee := .builtin .append, args := #[s, y], argTypes := #[36, 36] }) (hs : a.eval s = v) (hx : a.eval y = x)
    (h : ∀ v' w', O1 Value.string base 9 w' v' (l ++ l2) → Below base w w' → wpList Try.prog ops Q rest (a.put o.dst v') w') : wpList Try.prog ops Q (o :: rest) a w := by
  obtain ⟨i0, hi, hz0, hz1, hz2⟩ := info_parts info_str
  exact app_all (fun _ => rfl) 36 9 16 i0 _ Try.underlying36 hi hz0 hz1 hz2 rfl (by omega) hown hr hn hbase hgd ho hs hx h
theorem app_bools {l l2 : List Bool} {x : Value} (hown : O1 Value.bool base 4 w v l) (hr : RB w x l2) (hn : l.length + l2.length ≤ 100000000000) (hbase : base ≤ w.heap.size)
    (hgd : o.guard = none) {s y : Operand} (ho : o.op = .call { callee := .builtin .append, args := #[s, y], argTypes := #[37, 37] }) (hs : a.eval s = v) (hx : a.eval y = x)
    (h : ∀ v' w', O1 Value.bool base 4 w' v' (l ++ l2) → Below base w w' → wpList Try.prog ops Q rest (a.put o.dst v') w') : wpList Try.prog ops Q (o :: rest) a w := by
  obtain ⟨i0, hi, hz0, hz1, hz2⟩ := info_parts info_bool
  exact app_all (fun _ => rfl) 37 4 1 i0 _ Try.underlying37 hi hz0 hz1 hz2 rfl (by omega) hown hr hn hbase hgd ho hs hx h
theorem make_strs {n : Nat} {lo co : Operand} (hgd : o.guard = none) (ho : o.op = Op.makeSlice 36 lo co) (hl : a.eval lo = .int .i64 0) (hc : a.eval co = .int .i64 (n : Int)) (hn : n ≤ 1000000000000)
    (h : ∀ v' w', O1 Value.string w.heap.size 9 w' v' [] → Below w.heap.size w w' → wpList Try.prog ops Q rest (a.put o.dst v') w') : wpList Try.prog ops Q (o :: rest) a w := by
  obtain ⟨i0, hi, hz0, hz1, hz2⟩ := info_parts info_str
  exact wpList_make_own w hgd lo co _ ho w.heap.size _ i0 _ 1 Try.underlying36 hi hz0 hz1 .i64 .i64 _ n hl hc rfl (by rw [hz2]; omega) (by unfold maxLen; omega) (Nat.le_refl _)
    fun w' h1 h2 => h _ w' h1 ((Below.refl _ _).grown h2 (Nat.le_refl _) (fun k hk => by cases hk))
theorem make_bools {n : Nat} {lo co : Operand} (hgd : o.guard = none) (ho : o.op = Op.makeSlice 37 lo co) (hl : a.eval lo = .int .i64 0) (hc : a.eval co = .int .i64 (n : Int)) (hn : n ≤ 1000000000000)
    (h : ∀ v' w', O1 Value.bool w.heap.size 4 w' v' [] → Below w.heap.size w w' → wpList Try.prog ops Q rest (a.put o.dst v') w') : wpList Try.prog ops Q (o :: rest) a w := by
  obtain ⟨i0, hi, hz0, hz1, hz2⟩ := info_parts info_bool
  exact wpList_make_own w hgd lo co _ ho w.heap.size _ i0 _ 1 Try.underlying37 hi hz0 hz1 .i64 .i64 _ n hl hc rfl (by rw [hz2]; omega) (by unfold maxLen; omega) (Nat.le_refl _)
    fun w' h1 h2 => h _ w' h1 ((Below.refl _ _).grown h2 (Nat.le_refl _) (fun k hk => by cases hk))
end
theorem Only.grown {g : Nat} {a b c : World} {row : Option Nat} (h : Only g a b) (k : b.grownBy c row) (hr : ∀ r, row = some r → a.heap.size ≤ r) : Only g a c :=
  ⟨k.os.trans h.os, k.tape.trans h.tape, k.output.trans h.output, Nat.le_trans h.size k.size, fun i hi hne => (k.block i (Nat.lt_of_lt_of_le hi h.size) (fun e => by have := hr i e.symm; omega)).trans (h.block i hi hne)⟩
theorem Only.set {g : Nat} {a b : World} (h : Only g a b) {p : Addr} (hp : a.heap.size ≤ p.block) (u : Value) : Only g a (b.setCell p u) :=
  ⟨h.os, h.tape, h.output, by have := h.size; simpa [World.setCell] using this, fun i hi hne => (Below.heap_setCell _ _ _ _ (by omega)).trans (h.block i hi hne)⟩
theorem Only.cell {g : Nat} {a b : World} (h : Only g a b) {k o : Nat} (hk : k < a.heap.size) (hg : k ≠ g) : b.cell? ⟨k, o, none⟩ = a.cell? ⟨k, o, none⟩ := World.cell?_of_block (h.block k hk (fun e => hg (Option.some.inj e)))
theorem R1.only {α : Type} {enc : α → Value} {w w' : World} {v : Value} {l : List α} {g : Nat} (h : R1 enc w v l) (ho : Only g w w') (hne : ∀ b o, ∀ n c, v = .slice (some ⟨b, o, none⟩) n c → b ≠ g) : R1 enc w' v l := by
  obtain ⟨A, c, rfl, h1, h2, h3⟩ := h
  refine ⟨A, c, rfl, h1, h2, fun hl => ?_⟩
  obtain ⟨b, o, rfl, hb, hc⟩ := h3 hl
  exact ⟨b, o, rfl, Nat.lt_of_lt_of_le hb ho.size, fun j hj => (ho.cell hb (hne b o _ _ rfl)).trans (hc j hj)⟩
end Go.Proofs.Ytcplnfmcefkehaa
