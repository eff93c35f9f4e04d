/- Words: two rows of numbers side by side; rows of trees appended whole. -/
import Derived.Test.YtlhiabnablbkpaaWx
import Derived.Test.YtlhiabnablbkpaaLawg
namespace Go.Proofs.Ytlhiabnablbkpaa
open Go.RowKit

/-- Two values own no row together. -/
def Sep (a b : Value) : Prop := ∀ k, a.ownBlock = some k → b.ownBlock ≠ some k
theorem Sep.symm {a b : Value} (h : Sep a b) : Sep b a := fun k h1 h2 => h k h2 h1
theorem Sep.ne {a b : Value} (h : Sep a b) : a.ownBlock = none ∨ a.ownBlock ≠ b.ownBlock := by
  cases hb : a.ownBlock with
  | none => exact .inl rfl
  | some k => exact .inr (fun e => h k hb e.symm)
/-- Behind an append onto a: b stays apart. -/
theorem Sep.app {α : Type} {enc : α → Value} {a a' b : Value} {B : Nat} {e : TypeId} {w : World} {l : List α} (h : Sep a b) (hb : O1 enc B e w b l) (ha : ∀ k, a'.ownBlock = some k → a.ownBlock = some k ∨ w.heap.size ≤ k) : Sep a' b := by
  intro k h1 h2
  rcases ha k h1 with h3 | h3
  · exact h k h3 h2
  · have := (hb.lt k h2).2; omega
theorem own_slice (A : Option Addr) (n c m : Nat) : (Value.slice A n c).ownBlock = (Value.slice A m c).ownBlock := by cases A <;> rfl
section
variable {ops : Array Oper} {rest : List Oper} {o : Oper} {a : Act} {Q : Exit → Act → World → Prop} {w : World} {base : Nat} {v : Value}
theorem app_intL {l : List Int} (hown : O1 (Value.int .i64) base 3 w v l) (hn : l.length ≤ 100000000000) (hbase : base ≤ w.heap.size) {y : Int} (hgd : o.guard = none) {s x : Operand}
    (ho : o.op = .call { callee := .builtin .append, args := #[s, x], argTypes := #[29, 29] }) (hs : a.eval s = v) (hx : a.eval x = .slice (some ⟨w.heap.size, 0, none⟩) 1 1)
    (h : ∀ v' w', O1 (Value.int .i64) base 3 w' v' (l ++ [y]) → w.grownBy w' v.ownBlock → (∀ k, v'.ownBlock = some k → v.ownBlock = some k ∨ w.heap.size ≤ k) → wpList Try.prog ops Q rest (a.put o.dst v') w') :
    wpList Try.prog ops Q (o :: rest) a (w.alloc (.cells #[.int .i64 y] 3)) := by
  obtain ⟨i0, hi, hz0, hz1, hz2⟩ := info_parts info_int
  have hbd : (l.length + 1) * 8 ≤ 100000000001 * 1000 := Nat.mul_le_mul (by omega) (by omega)
  refine wpList_append_own_at _ hgd s x _ ho base 3 i0 _ 1 8 Try.underlying29 hi hz0 hz1 hz2 rfl (by omega) v l.length _ hs
    (hown.alloc _) ⟨w.heap.size, 0, none⟩ 1 1 [.int .i64 y] hx (by simp) (fun j u hu => ?_) (by simp; rfl) (by unfold maxLen; omega) (by omega) (by simp; omega) ?_
  · have hadd : (⟨w.heap.size, 0, none⟩ : Addr).add j = ⟨w.heap.size, j, none⟩ := by unfold Addr.add; split <;> simp_all
    rw [hadd, cell_of_row _ w.heap.size j _ 3 (0, 0) (heap_alloc_new w _)]
    simpa using hu
  · intro v' w' h2 h3 _ h5
    refine h v' w' (by unfold O1; simpa using h2) (grow_trans (grow_below ((Below.refl _ _).alloc (Nat.le_refl _) _)) h3) (fun k hk => ?_)
    rcases h5 with h5 | h5
    · exact .inl (h5 ▸ hk)
    · rw [hk] at h5
      have := Option.some.inj h5
      simp at this
      exact .inr (by omega)
/-- append of a whole slice of trees onto a row of the call's own. -/
theorem app_trees {l l2 : List (Nat × Nat)} {x : Value} (hown : OT base w v l) (hr : RT w x l2) (hn : l.length + l2.length ≤ 100000000000) (hbase : base ≤ w.heap.size)
    (hgd : o.guard = none) {s y : Operand} (ho : o.op = .call { callee := .builtin .append, args := #[s, y], argTypes := #[99, 99] }) (hs : a.eval s = v) (hx : a.eval y = x)
    (h : ∀ v' w', OT base w' v' (l ++ l2) → Below base w w' → wpList Try.prog ops Q rest (a.put o.dst v') w') : wpList Try.prog ops Q (o :: rest) a w := by
  obtain ⟨i0, hi, hz0, hz1, hz2⟩ := info_parts info_tree
  obtain ⟨A, c, rfl, h2, h3, h4⟩ := hr
  have hbd : (l.length + l2.length) * 16 ≤ 100000000000 * 1000 := Nat.mul_le_mul hn (by omega)
  rcases A with _ | ad
  · have hc0 : c = 0 := h2.2 rfl
    have hl0 : l2 = [] := List.eq_nil_of_length_eq_zero (by omega)
    subst hc0 hl0
    exact wpList_append_own_none hgd s y _ ho base 103 i0 2 Try.underlying99 hi v l.length _ hs hown hx (h v w (by rw [List.append_nil]; exact hown) (Below.refl _ _))
  · refine wpList_append_own _ hgd s y _ ho base 103 i0 _ 2 16 Try.underlying99 hi hz0 hz1 hz2 rfl (by omega) v l.length _ hs hown ad l2.length c (l2.flatMap fun t => [t1 t, t2 t]) hx (by rw [flat_len (m := 2) (fun _ => rfl)]) (fun j u hu => ?_) (by intro u hu; obtain ⟨a, _, ha⟩ := List.mem_flatMap.1 hu; simp [t1, t2] at ha; rcases ha with rfl | rfl <;> rfl) (by unfold maxLen; omega) (by omega) hbase ?_
    · have hj : j < l2.length * 2 := by
        have := (List.getElem?_eq_some_iff.1 hu).1
        rw [flat_len (m := 2) (fun _ => rfl)] at this; exact this
      obtain ⟨b, o', hA, hb, hcell⟩ := h4 (by omega)
      cases hA
      have hadd : (⟨b, o', none⟩ : Addr).add j = ⟨b, o' + j, none⟩ := by unfold Addr.add; split <;> simp_all
      obtain ⟨c1, c2⟩ := hcell (j / 2) (by omega)
      have hf := flat_get (enc := fun t : Nat × Nat => [t1 t, t2 t]) (m := 2) (fun _ => rfl) l2 (j / 2) (j % 2) (by omega) (by omega)
      rw [show j / 2 * 2 + j % 2 = j by omega, hu] at hf
      rw [hadd]
      rcases Nat.mod_two_eq_zero_or_one j with hm | hm
      · rw [hm] at hf
        rw [show o' + j = o' + j / 2 * 2 by omega, c1]
        simpa using hf.symm
      · rw [hm] at hf
        rw [show o' + j = o' + j / 2 * 2 + 1 by omega, c2]
        simpa using hf.symm
    · intro v' w' h5 h6 _
      exact h v' w' (by unfold OT O2; simpa [List.flatMap_append] using h5) ((Below.refl _ _).grown h6 hbase (fun k hk => (World.ownsRow.lt hown k hk).1))
end
/-- The last element of what is read. -/
theorem R1.last {α : Type} {enc : α → Value} {w : World} {A : Option Addr} {n c : Nat} {l : List α} {x : α} (h : R1 enc w (.slice A n c) (l ++ [x])) :
    n = l.length + 1 ∧ n ≤ c ∧ c ≤ maxLen ∧ ∃ b o, A = some ⟨b, o, none⟩ ∧ b < w.heap.size ∧ w.cell? ⟨b, o + l.length, none⟩ = some (enc x) := by
  obtain ⟨A', c', hv, h1, h2, h3⟩ := h
  injection hv with e1 e2 e3
  subst e1 e3
  have hl : (l ++ [x]).length = l.length + 1 := by simp
  obtain ⟨b, o, hA, hb, hc⟩ := h3 (by omega)
  refine ⟨by omega, by omega, h2, b, o, hA, hb, ?_⟩
  have := hc l.length (by omega)
  simpa using this
end Go.Proofs.Ytlhiabnablbkpaa
