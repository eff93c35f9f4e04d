/- Walks: peaks and their digest in the reference's way. -/
import Derived.Test.YtcplnfmcefkehaaWd
namespace Go.Proofs.Ytcplnfmcefkehaa
open Go.RowKit

theorem szRel2 {p n s f : Nat} (hc : p + 2 * s ≤ n) (h3 : p % (2 * s) = 0) (HF : Hid (s * 2 ^ f = 32 ∧ szF p n f s = sz p n)) (h1' : 1 ≤ s) (hn : n ≤ 16) :
    ∃ f' s' : Nat, Value.int .i64 (2 * (s : Int)) = .int .i64 s' ∧ 1 ≤ s' ∧ s' ≤ 16 ∧ Hid (s' * 2 ^ f' = 32 ∧ szF p n f' s' = sz p n) := by
  obtain ⟨f', s', h, r⟩ := szRel (by omega) h3 HF h1' hn
  exact ⟨f', s', by rw [← h]; congr 1; omega, r⟩
/-- What l2Cover gives: the roots of the trees from p on. -/
def coverOf (l : List Int) (p : Nat) : List Int := (trees p l.length).map (rootT l)
theorem cover_pre {l : List Int} {p0 p : Nat} {out : List Int} (h : out ++ coverOf l p = coverOf l p0) : out.length ≤ 17 := by
  have h1 := congrArg List.length h
  have h2 := trees_len p0 l.length
  simp [coverOf] at h1; omega
end Go.Proofs.Ytcplnfmcefkehaa
