/- Walk: two peers are connected or disconnected. No condition but small sizes. -/
import Derived.Test.YtcplnfmcefkehaaGreatBY
set_option linter.unusedVariables false
set_option linter.unusedSimpArgs false
namespace Go.Proofs.YtcplnfmcefkehaaGreat
open Go.RowKit
attribute [local go_sem ↓] Go.wp_at_zero Go.wp_at_succ

def qeB (w : World) (q : Nat) (z : Int × Int) : Prop := w.heap[q]? = some (.cells #[.int .i64 z.1, .int .i64 z.2] 52 (0, 0))
theorem qeB.c {w : World} {q : Nat} {z : Int × Int} (h : qeB w q z) : w.cell? ⟨q, 0, none⟩ = some (.int .i64 z.1) ∧ w.cell? ⟨q, 1, none⟩ = some (.int .i64 z.2) ∧ ∀ o, w.frozen? ⟨q, o, none⟩ = false :=
 ⟨cell_of_row _ _ 0 _ _ _ h, cell_of_row _ _ 1 _ _ _ h, fun o => qgI h o⟩
def qa8 (ls : List (Int × Int)) (z : Int × Int) (up : Bool) (k : Nat) : qcR := (ls.take k).foldl qeV ⟨[], up, z⟩
theorem qa8.snoc {ls : List (Int × Int)} {z : Int × Int} {up : Bool} {k : Nat} (h : k < ls.length) : qa8 ls z up (k + 1) = qeV (qa8 ls z up k) ls[k] := by
 unfold qa8; rw [qaZ h, List.foldl_append]; rfl
theorem qav.setb {B : Nat} {e : TypeId} {w : World} {v : Value} {l : List (Int × Int)} (h : qav B e w v l) {q : Nat} (hq : q < B) (i : Nat) (u : Value) : qav B e (w.setCell ⟨q, i, none⟩ u) v l := by
 obtain ⟨F, h1, h2⟩ := h; exact ⟨F, h1.grown (qaR _ _ _) (.inr fun e => by have := (h1.lt _ e).1; show False; simp only at this; omega), h2⟩
theorem qav.lt {B : Nat} {e : TypeId} {w : World} {v : Value} {l : List (Int × Int)} (h : qav B e w v l) : ∀ k, v.ownBlock = some k → B ≤ k ∧ k < w.heap.size := by obtain ⟨F, h1, h2⟩ := h; exact h1.lt
theorem qmc (s : qcR) (l : Int × Int) : (qeV s l).out.length ≤ s.out.length + 2 := by
 unfold qeV; split <;> dsimp only <;> split <;> simp <;> omega
theorem qa8.len {ls : List (Int × Int)} {z : Int × Int} {up : Bool} (k : Nat) (hk : k ≤ ls.length) : (qa8 ls z up k).out.length ≤ 2 * k := by
 induction k with
 | zero => simp [qa8]
 | succ k ih => rw [qa8.snoc hk]; have := qmc (qa8 ls z up k) ls[k]; have := ih (by omega); omega
structure qgt (w : World) (par : Array Value) (wr : World) (st : qcR) (v : Value) : Prop where
 p : wr.heap[w.heap.size]? = some (.cells par 35 (0, 0))
 z : wr.heap[w.heap.size + 1]? = some (.cells #[.int .i64 0, .int .i64 0, .slice none 0 0, .slice none 0 0, .slice none 0 0, .slice none 0 0] 35 (0, 0))
 q : qeB wr (w.heap.size + 1 + 1) st.key
 o : qav (w.heap.size + 3) 52 wr v st.out
 b : Below w.heap.size w wr
section
variable {w wr w5 : World} {par : Array Value} {out out' : List (Int × Int)} {u u' : Bool} {ky : Int × Int} {v v' : Value}
theorem qgt.key (h : qgt w par wr ⟨out, u, ky⟩ v) (z : Int × Int) : qgt w par ((wr.setCell ⟨w.heap.size + 1 + 1, 0, none⟩ (.int .i64 z.1)).setCell ⟨w.heap.size + 1 + 1, 1, none⟩ (.int .i64 z.2)) ⟨out, u', z⟩ v :=
 ⟨(Below.heap_setCell _ _ _ _ (by show w.heap.size ≠ w.heap.size + 1 + 1; omega)).trans ((Below.heap_setCell _ _ _ _ (by show w.heap.size ≠ w.heap.size + 1 + 1; omega)).trans h.p),
  (Below.heap_setCell _ _ _ _ (by show w.heap.size + 1 ≠ w.heap.size + 1 + 1; omega)).trans ((Below.heap_setCell _ _ _ _ (by show w.heap.size + 1 ≠ w.heap.size + 1 + 1; omega)).trans h.z),
  qas (i := 1) (qas (i := 0) h.q _) _, (h.o.setb (by omega) _ _).setb (by omega) _ _, (h.b.setCell (p := ⟨w.heap.size + 1 + 1, 0, none⟩) (by show w.heap.size ≤ w.heap.size + 1 + 1; omega) _).setCell (p := ⟨w.heap.size + 1 + 1, 1, none⟩) (by show w.heap.size ≤ w.heap.size + 1 + 1; omega) _⟩
theorem qgt.up (h : qgt w par wr ⟨out, u, ky⟩ v) : qgt w par wr ⟨out, u', ky⟩ v := ⟨h.p, h.z, h.q, h.o, h.b⟩
end
end Go.Proofs.YtcplnfmcefkehaaGreat
