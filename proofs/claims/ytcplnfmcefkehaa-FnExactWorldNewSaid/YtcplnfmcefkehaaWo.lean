/- Walks: FeedProve. -/
import Derived.Test.YtcplnfmcefkehaaWn
namespace Go.Proofs.Ytcplnfmcefkehaa
open Go.RowKit

def fproveOk (f : Fd) (i : Int) : Bool := fvalid f && wholeB f.hv && inB i 0 ((f.bl.length : Int) - 1)
def fprove (f : Fd) (i : Int) : List Int := if fproveOk f i then proofOf (lvs f.bl) i else []
theorem fvalid_size {f : Fd} (h : fvalid f = true) : ∀ s ∈ f.bl, s.size ≤ 8 := by
  simp only [fvalid, Bool.and_eq_true, beq_iff_eq] at h
  obtain ⟨⟨⟨⟨_, h1⟩, h2⟩, h3⟩, _⟩ := h
  exact blocksOk_size (by omega) h3
theorem fvalid_len {f : Fd} (h : fvalid f = true) : f.bl.length = f.hv.length ∧ f.bl.length ≤ 16 ∧ (f.bl.length : Int) = f.hd.len := by
  simp only [fvalid, Bool.and_eq_true, beq_iff_eq, Bool.or_eq_true] at h
  obtain ⟨⟨⟨⟨⟨_, h0⟩, h1⟩, h2⟩, h3⟩, _⟩ := h
  refine ⟨by omega, ?_, h1⟩
  rcases h0 with h0 | h0
  · simp only [Hd.isZero, Bool.and_eq_true, beq_iff_eq] at h0; omega
  · simp only [hcheck, Bool.and_eq_true] at h0
    have := inB_true.1 h0.1.1.1.2; omega
/-- What a call of FeedProve leaves. -/
def ProvePost_i (f : Fd) (i : Int) (w : World) (e : Ending) (w' : World) : Prop :=
  ∃ v, e = .returned (.tuple #[v, .bool (fproveOk f i)]) ∧ O1 (Value.int .i64) w.heap.size 3 w' v (fprove f i) ∧ Below w.heap.size w w'
/-- What a call of FeedProve leaves. -/
def ProvePost_s (f : Fd) (i : Int) (w : World) (e : Ending) (w' : World) : Prop :=
  ∃ v, e = .returned (.tuple #[v, .bool (fproveOk f i)]) ∧ O1 (Value.int .i64) w.heap.size 3 w' v (fprove f i) ∧ Below w.heap.size w w'
end Go.Proofs.Ytcplnfmcefkehaa
