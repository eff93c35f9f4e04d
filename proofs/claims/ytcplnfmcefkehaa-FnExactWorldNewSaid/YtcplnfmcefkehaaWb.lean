/- Walks: the trees into which leaves are divided. -/
import Derived.Test.YtcplnfmcefkehaaWa
namespace Go.Proofs.Ytcplnfmcefkehaa
open Go.RowKit

def t1 (t : Nat × Nat) : Value := .int .i64 t.1
def t2 (t : Nat × Nat) : Value := .int .i64 t.2
def encT (t : Nat × Nat) : List Value := [t1 t, t2 t]
abbrev RT (w : World) (v : Value) (l : List (Nat × Nat)) : Prop := R2 t1 t2 w v l

theorem szRel {p n s f : Nat} (hc : 2 * (s : Int) ≤ (n : Int) - p) (h3 : p % (2 * s) = 0) (HF : Hid (s * 2 ^ f = 32 ∧ szF p n f s = sz p n)) (h1' : 1 ≤ s) (hn : n ≤ 16) :
    ∃ f' s' : Nat, Value.int .i64 ((s : Int) * 2) = .int .i64 s' ∧ 1 ≤ s' ∧ s' ≤ 16 ∧ Hid (s' * 2 ^ f' = 32 ∧ szF p n f' s' = sz p n) := by
  obtain ⟨h1, h2⟩ := HF.out
  cases f with
  | zero => omega
  | succ f =>
    have hpow : 2 * s * 2 ^ f = 32 := by rw [← h1, Nat.pow_succ, Nat.mul_comm 2 s, Nat.mul_assoc, Nat.mul_comm 2]
    have hlast : 2 * s ≤ 16 := by omega
    exact ⟨f, 2 * s, by congr 1; omega, by omega, hlast, Lib.hid ⟨hpow, by rw [← h2, szF_go ⟨by omega, h3⟩]⟩⟩
end Go.Proofs.Ytcplnfmcefkehaa
