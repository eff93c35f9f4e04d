/- The plain law of FeedProve; FeedPut as a plain function. No condition. -/
import Derived.Test.YtcplnfmcefkehaaLawp
import Derived.Test.YtcplnfmcefkehaaWo
namespace Go.Proofs.Ytcplnfmcefkehaa

theorem lvs_get {bl : List ByteArray} {i : Nat} (hi : i < bl.length) : (lvs bl).getD i 0 = textD bl[i].data.toList := by
  unfold lvs; rw [List.getD_eq_getElem?_getD, List.getElem?_map, List.getElem?_eq_getElem hi]; rfl
theorem fvalid_tree {f : Fd} (h : fvalid f = true) (hw : wholeB f.hv = true) (h0 : f.bl.length ≠ 0) : treeD (lvs f.bl) = f.hd.dg := by
  simp only [fvalid, Bool.and_eq_true, Bool.or_eq_true, beq_iff_eq, Bool.not_eq_true'] at h
  rcases h.2 with (h1 | h1) | h1
  · exact absurd h1 h0
  · rw [hw] at h1; cases h1
  · exact h1
theorem fvalid_leaves {f : Fd} (h : fvalid f = true) : leavesOk (lvs f.bl) = true := leavesOk_true.2 ⟨by rw [lvs_len]; exact (fvalid_len h).2.1, lvs_dig _⟩
/-- Who has everything can prove everything. -/
theorem prove_law {f : Fd} {i : Int} (h : fproveOk f i = true) : ∃ hi : i.toNat < f.bl.length, checkOf f.hd.dg f.hd.len i (textD f.bl[i.toNat].data.toList) (fprove f i) = true := by
  have h' := h
  simp only [fproveOk, Bool.and_eq_true] at h
  obtain ⟨⟨hv, hw⟩, hi⟩ := h
  have h2 := inB_true.1 hi
  have hlt : i.toNat < f.bl.length := by omega
  refine ⟨hlt, ?_⟩
  obtain ⟨l1, l2, l3⟩ := fvalid_len hv
  have e1 := fvalid_tree hv hw (by omega)
  have e2 := lvs_get hlt
  have hl := lvs_len f.bl
  have := check_proofOf (l := lvs f.bl) (i := i) (fvalid_leaves hv) (by rw [hl]; exact hi) (by rw [e2]; exact textD_dig _) (proofOf_dig i)
  rw [e1, e2, hl, l3] at this
  unfold fprove
  rw [h', if_pos rfl]
  exact this

/-- A feed with block i stored. -/
def Fd.put (f : Fd) (i : Nat) (t : ByteArray) : Fd := { f with bl := f.bl.set i t, hv := f.hv.set i true }
def Fd.zero : Fd := ⟨0, ⟨0, 0, 0⟩, [], []⟩
/-- May the block be tried? -/
def fputMay (f : Fd) (i : Int) (t : ByteArray) (proof : List Int) : Bool :=
  inB i 0 ((f.bl.length : Int) - 1) && !(f.hv.getD i.toNat false) && checkOf f.hd.dg f.hd.len i (textD t.data.toList) proof
def fput (f : Fd) (i : Int) (t : ByteArray) (proof : List Int) : Fd × Bool :=
  if fvalid f && decide (t.size ≤ 8) then
    if fputMay f i t proof && fvalid (f.put i.toNat t) then (f.put i.toNat t, true) else (f, false)
  else (Fd.zero, false)
theorem fput_true {f : Fd} {i : Int} {t : ByteArray} {proof : List Int} (h : (fput f i t proof).2 = true) : fvalid f = true ∧ t.size ≤ 8 ∧ fputMay f i t proof = true ∧ fvalid (f.put i.toNat t) = true ∧ (fput f i t proof).1 = f.put i.toNat t := by
  unfold fput at *
  split at h
  · rename_i h1
    rw [if_pos h1]
    split at h
    · rename_i h2
      rw [if_pos h2]
      simp only [Bool.and_eq_true, decide_eq_true_eq] at h1 h2
      exact ⟨h1.1, h1.2, h2.1, h2.2, rfl⟩
    · cases h
  · cases h
end Go.Proofs.Ytcplnfmcefkehaa
