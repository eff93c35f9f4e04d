/- Walks: the exact laws' conversions, marks and what is held. -/
import Derived.Test.YtcplnfmcefkehaaWp
import Derived.Deep.OwnRows
namespace Go.Proofs.Ytcplnfmcefkehaa
open Go.RowKit

/-- Of the blocks that there were, only those from B1 up to B2 may have turned. -/
structure Mid (B1 B2 : Nat) (w w' : World) : Prop where
  os : w'.os = w.os
  tape : w'.tape = w.tape
  output : w'.output = w.output
  size : w.heap.size ≤ w'.heap.size
  block : ∀ k, k < w.heap.size → (k < B1 ∨ B2 ≤ k) → w'.heap[k]? = w.heap[k]?
theorem Mid.refl (B1 B2 : Nat) (w : World) : Mid B1 B2 w w := ⟨rfl, rfl, rfl, Nat.le_refl _, fun _ _ _ => rfl⟩
theorem Mid.trans {B1 B2 : Nat} {a b c : World} (h : Mid B1 B2 a b) (k : Mid B1 B2 b c) : Mid B1 B2 a c :=
  ⟨k.os.trans h.os, k.tape.trans h.tape, k.output.trans h.output, Nat.le_trans h.size k.size, fun i hi hd => (k.block i (Nat.lt_of_lt_of_le hi h.size) hd).trans (h.block i hi hd)⟩
theorem Mid.of_below {B1 B2 : Nat} {a b : World} (h : Below a.heap.size a b) : Mid B1 B2 a b := ⟨h.os, h.tape, h.output, h.size, fun k hk _ => h.block k hk⟩
theorem Mid.below {B1 B2 B : Nat} {a b : World} (h : Mid B1 B2 a b) (hB : B ≤ B1) (hs : B ≤ a.heap.size) : Below B a b := ⟨h.os, h.tape, h.output, h.size, fun k hk => h.block k (by omega) (.inl (by omega))⟩
theorem Mid.grown {B1 B2 : Nat} {a b : World} {row : Option Nat} (h : a.grownBy b row) (hr : ∀ k, row = some k → B1 ≤ k ∧ k < B2) : Mid B1 B2 a b :=
  ⟨h.os, h.tape, h.output, h.size, fun k hk hd => h.block k hk (fun e => by have := hr k e.symm; omega)⟩
theorem Mid.setCell {B1 B2 : Nat} {a w : World} (h : Mid B1 B2 a w) {p : Addr} (h1 : B1 ≤ p.block) (h2 : p.block < B2) (u : Value) : Mid B1 B2 a (w.setCell p u) :=
  h.trans ⟨rfl, rfl, rfl, by simp [World.setCell], fun k _ hd => Below.heap_setCell _ _ _ _ (by omega)⟩
theorem O1.mid {α : Type} {enc : α → Value} {B B1 B2 : Nat} {e : TypeId} {w w' : World} {v : Value} {l : List α} (h : O1 enc B e w v l) (hb : Mid B1 B2 w w') (hB : B2 ≤ B) : O1 enc B e w' v l := by
  refine ⟨h.1, ?_⟩
  rcases h.2 with hn | ⟨k, cap, cur, hv, hk, hh, r⟩
  · exact .inl hn
  · exact .inr ⟨k, cap, cur, hv, hk, (hb.block k (Array.getElem?_eq_some_iff.1 hh).1 (.inr (by omega))).trans hh, r⟩
theorem O1.grown {α : Type} {enc : α → Value} {B : Nat} {e : TypeId} {w w' : World} {v : Value} {l : List α} {row : Option Nat} (h : O1 enc B e w v l) (hb : w.grownBy w' row) (hne : v.ownBlock = none ∨ v.ownBlock ≠ row) : O1 enc B e w' v l := World.ownsRow.kept h hb hne
/-- Rows of different element types are different. -/
theorem O1.ne_ {α β : Type} {e1 : α → Value} {e2 : β → Value} {B1 B2 : Nat} {t1 t2 : TypeId} {w : World} {v1 v2 : Value} {l1 : List α} {l2 : List β} (h1 : O1 e1 B1 t1 w v1 l1) (h2 : O1 e2 B2 t2 w v2 l2) (ht : t1 ≠ t2) : v1.ownBlock = none ∨ v1.ownBlock ≠ v2.ownBlock := by
  rcases h1.2 with ⟨rfl, _⟩ | ⟨k, cap, cur, rfl, hk, hh, r⟩
  · exact .inl rfl
  · refine .inr fun he => ?_
    rcases h2.2 with ⟨rfl, _⟩ | ⟨k2, cap2, cur2, rfl, hk2, hh2, r2⟩
    · simp [Value.ownBlock] at he
    · simp only [Value.ownBlock, Option.some.injEq] at he
      subst he
      rw [hh] at hh2
      injection hh2 with hh2
      injection hh2 with _ h3
      exact ht h3
theorem O1.lt {α : Type} {enc : α → Value} {B : Nat} {e : TypeId} {w : World} {v : Value} {l : List α} (h : O1 enc B e w v l) : ∀ k, v.ownBlock = some k → B ≤ k ∧ k < w.heap.size := World.ownsRow.lt h

/-- Block g holds a row of n cells of which the first k are given. -/
def Fill {α : Type} (enc : α → Value) (e : TypeId) (g : Nat) (w : World) (l : List α) (k : Nat) : Prop :=
  ∃ cur : Array Value, w.heap[g]? = some (.cells cur e (0, 0)) ∧ cur.size = l.length ∧ ∀ j (hj : j < l.length), j < k → cur[j]? = some (enc l[j])
theorem Fill.own {α : Type} {enc : α → Value} {e : TypeId} {g : Nat} {w : World} {l : List α} (h : Fill enc e g w l l.length) (hm : l.length ≤ maxLen) : O1 enc g e w (.slice (some ⟨g, 0, none⟩) l.length l.length) l := by
  obtain ⟨cur, h1, h2, h3⟩ := h
  refine ⟨by simp, .inr ⟨g, l.length, cur, rfl, Nat.le_refl _, h1, Nat.le_refl _, hm, by rw [h2]; simp, ?_⟩⟩
  rw [Nat.mul_one, List.take_of_length_le (by rw [Array.length_toList, h2]; exact Nat.le_refl _)]
  apply List.ext_getElem?
  intro j
  by_cases hj : j < l.length
  · have := h3 j hj hj
    simp [hj] at this ⊢
    exact this
  · rw [List.getElem?_eq_none (by rw [Array.length_toList, h2]; omega), List.getElem?_eq_none (by simp; omega)]
theorem Fill.step {α : Type} {enc : α → Value} {e : TypeId} {g : Nat} {w : World} {l : List α} {k : Nat} (h : Fill enc e g w l k) (hk : k < l.length) : Fill enc e g (w.setCell ⟨g, k, none⟩ (enc l[k])) l (k + 1) := by
  obtain ⟨cur, h1, h2, h3⟩ := h
  refine ⟨cur.setIfInBounds k (enc l[k]), ?_, by simp [h2], fun j hj hjk => ?_⟩
  · simp [World.setCell, Array.getElem?_modify, h1]
  · by_cases hjk2 : j = k
    · subst hjk2; simp [h2, hj]
    · rw [Array.getElem?_setIfInBounds_ne (by omega)]; exact h3 j hj (by omega)
theorem Fill.cell {α : Type} {enc : α → Value} {e : TypeId} {g : Nat} {w : World} {l : List α} {k : Nat} (h : Fill enc e g w l k) {j : Nat} (hj : j < l.length) : (∃ u, w.cell? ⟨g, j, none⟩ = some u) ∧ w.frozen? ⟨g, j, none⟩ = false := by
  obtain ⟨cur, h1, h2, h3⟩ := h
  exact ⟨⟨cur[j]'(by omega), by rw [cell_of_row w g j cur e (0, 0) h1]; simp [h2, hj]⟩, by simp [World.frozen?, h1]⟩
theorem Fill.made {α : Type} (enc : α → Value) (e : TypeId) (w : World) (z : Value) (l : List α) : Fill enc e w.heap.size (w.alloc (.cells (madeCells #[z] l.length) e)) l 0 :=
  ⟨_, heap_alloc_new w _, by simp [madeCells], fun j _ h => by omega⟩
theorem info_str : (Try.prog.info? 9).map (fun i => (i.zero, i.size, i.bytes)) = some (some (.string ⟨#[]⟩), 1, 16) := by kernel_rfl
theorem info_bool : (Try.prog.info? 4).map (fun i => (i.zero, i.size, i.bytes)) = some (some (.bool false), 1, 1) := by kernel_rfl

def SzPost (f : Fd) (w : World) (e : Ending) (w' : World) : Prop := ∃ r : Int, e = .returned (.int .i64 r) ∧ r ≤ 1048576 ∧ (0 ≤ r → f.bl.length ≤ 1048576 ∧ f.hv.length ≤ 1048576) ∧ Below w.heap.size w w'
end Go.Proofs.Ytcplnfmcefkehaa
