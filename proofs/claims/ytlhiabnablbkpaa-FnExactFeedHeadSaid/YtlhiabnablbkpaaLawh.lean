/- Plain functions: how a head is handled, and the plain laws. No condition. -/
import Derived.Test.YtlhiabnablbkpaaLawg
import Derived.Test.YtlhiabnablbkpaaLawr
import Derived.Test.YtlhiabnablbkpaaWy
namespace Go.Proofs.Ytlhiabnablbkpaa

def Hd.same (a b : Hd) : Bool := a.len == b.len && a.dg == b.dg && a.sg == b.sg
theorem Hd.same_iff {a b : Hd} : a.same b = true ↔ a = b := by
  cases a; cases b; simp [Hd.same, and_assoc]
/-- How a valid feed handles a head. -/
def hcode (f : Fd) (h : Hd) (growth : List Int) : Int :=
  if !hcheck f.pub h || h.len == 0 then 4
  else if h.same f.hd then 1
  else if h.len < f.hd.len then 2
  else if h.len = f.hd.len then 3
  else if decide (0 < f.hd.len) && !growCheck f.hd.len f.hd.dg h.len h.dg growth then 4
  else 0
/-- The feed under a longer head. -/
def Fd.grow (f : Fd) (h : Hd) : Fd := ⟨f.pub, h, f.bl ++ List.replicate (h.len.toNat - f.bl.length) noText, f.hv ++ List.replicate (h.len.toNat - f.hv.length) false⟩
def fhead (f : Fd) (h : Hd) (growth : List Int) : Fd × Int :=
  if fvalid f then (if hcode f h growth = 0 then f.grow h else f, hcode f h growth) else (Fd.zero, 5)
theorem hcode_cases (f : Fd) (h : Hd) (l : List Int) : hcode f h l = 0 ∨ hcode f h l = 1 ∨ hcode f h l = 2 ∨ hcode f h l = 3 ∨ hcode f h l = 4 := by
  unfold hcode; repeat' split
  all_goals simp
/-- What is so where a head was accepted. -/
theorem hcode_done {f : Fd} {h : Hd} {l : List Int} (h0 : hcode f h l = 0) : hcheck f.pub h = true ∧ h.len ≠ 0 ∧ f.hd.len < h.len ∧ (0 < f.hd.len → growCheck f.hd.len f.hd.dg h.len h.dg l = true) := by
  unfold hcode at h0
  split at h0
  · cases h0
  · rename_i c1
    split at h0
    · cases h0
    · split at h0
      · cases h0
      · split at h0
        · cases h0
        · split at h0
          · cases h0
          · rename_i c4 c5 c6
            simp only [Bool.or_eq_true, Bool.not_eq_true', beq_iff_eq, not_or, Bool.not_eq_false] at c1
            refine ⟨c1.1, c1.2, by omega, fun hp => ?_⟩
            simpa [hp] using c6
theorem hcheck_len {p : Int} {h : Hd} (hc : hcheck p h = true) : 0 ≤ h.len ∧ h.len ≤ 16 := by
  simp only [hcheck, Bool.and_eq_true] at hc
  exact inB_true.1 hc.1.1.1.2
theorem wholeB_more {l : List Bool} {k : Nat} (hk : 0 < k) : wholeB (l ++ List.replicate k false) = false := by
  cases h : wholeB (l ++ List.replicate k false)
  · rfl
  · have := wholeB_all h l.length (by simp; omega)
    rw [List.getElem?_append_right (by omega)] at this
    simp [hk] at this
theorem blocksOk_more : ∀ {bl : List ByteArray} {hv : List Bool} (k : Nat), bl.length = hv.length → blocksOk bl hv = true → blocksOk (bl ++ List.replicate k noText) (hv ++ List.replicate k false) = true
  | [], [], 0, _, _ => rfl
  | [], [], k + 1, _, _ => by
    have := blocksOk_more (bl := []) (hv := []) k rfl rfl
    simp only [List.nil_append] at this ⊢
    rw [List.replicate_succ, List.replicate_succ, blocksOk, this]; rfl
  | s :: bl, b :: hv, k, hl, h => by
    simp only [blocksOk, Bool.and_eq_true, List.cons_append] at h ⊢
    exact ⟨h.1, blocksOk_more k (by simpa using hl) h.2⟩
theorem grow_valid {f : Fd} {h : Hd} {l : List Int} (hv : fvalid f = true) (h0 : hcode f h l = 0) : fvalid (f.grow h) = true := by
  obtain ⟨c1, c2, c3, _⟩ := hcode_done h0
  obtain ⟨l1, l2, l3⟩ := fvalid_len hv
  obtain ⟨b1, b2⟩ := hcheck_len c1
  simp only [fvalid, Bool.and_eq_true, beq_iff_eq] at hv
  obtain ⟨⟨⟨⟨⟨v1, v2⟩, v3⟩, v4⟩, v5⟩, v6⟩ := hv
  have e1 : h.len.toNat - f.bl.length = h.len.toNat - f.hv.length := by omega
  simp only [fvalid, Bool.and_eq_true, beq_iff_eq, Fd.grow]
  refine ⟨⟨⟨⟨⟨v1, by rw [c1, Bool.or_true]⟩, by simp; omega⟩, by simp; omega⟩, ?_⟩, ?_⟩
  · rw [e1]; exact blocksOk_more _ l1 v5
  · rw [wholeB_more (by omega)]; simp
theorem hcode_same {f : Fd} {h : Hd} {l l2 : List Int} (h0 : hcode f h l = 0) : hcode (f.grow h) h l2 = 1 := by
  obtain ⟨c1, c2, c3, _⟩ := hcode_done h0
  unfold hcode
  have e : (f.grow h).pub = f.pub := rfl
  rw [e, c1, if_neg (by simp [c2])]
  exact if_pos (Hd.same_iff.2 rfl)
theorem hcode_old {f : Fd} {h : Hd} {l l2 : List Int} (hv : fvalid f = true) (h0 : hcode f h l = 0) (hp : f.hd.len ≠ 0) : hcode (f.grow h) f.hd l2 = 2 := by
  obtain ⟨c1, c2, c3, _⟩ := hcode_done h0
  have c0 : hcheck f.pub f.hd = true := by
    simp only [fvalid, Bool.and_eq_true, Bool.or_eq_true] at hv
    rcases hv.1.1.1.1.2 with h1 | h1
    · simp only [Hd.isZero, Bool.and_eq_true, beq_iff_eq] at h1
      exact absurd h1.1.1 hp
    · exact h1
  unfold hcode
  have e : (f.grow h).pub = f.pub := rfl
  have e2 : (f.grow h).hd = h := rfl
  rw [e, e2, c0, if_neg (by simp [hp]), if_neg, if_pos c3]
  intro hs
  have := Hd.same_iff.1 hs
  rw [← this] at c3
  omega
theorem hcode_first {f : Fd} {h : Hd} {l : List Int} (hc : hcheck f.pub h = true) (hl : h.len ≠ 0) (hz : f.hd.len = 0) : hcode f h l = 0 := by
  obtain ⟨b1, b2⟩ := hcheck_len hc
  unfold hcode
  rw [hc, if_neg (by simp [hl]), if_neg, if_neg (by omega), if_neg (by omega), if_neg (by simp [hz])]
  intro hs
  have := Hd.same_iff.1 hs
  rw [← this] at hz
  exact hl hz
theorem hcode_unsigned {f : Fd} {h : Hd} {l : List Int} (hs : h.sg = 0) : hcode f h l = 4 := by
  unfold hcode
  have : hcheck f.pub h = false := by
    unfold hcheck; rw [hs]; simp [key, inB]
  rw [this]; rfl
theorem hcode_wrong {f : Fd} {h : Hd} {l : List Int} (hc : hcheck f.pub h = false) : hcode f h l = 4 := by
  unfold hcode; rw [hc]; rfl
theorem cnt_more (l : List Bool) (k : Nat) : cnt (l ++ List.replicate k false) = cnt l := by
  unfold cnt; rw [List.count_append, List.count_replicate]; simp
theorem fnew_ok {f : Fd} (hv : fvalid f = true) : key f.pub = true := by
  simp only [fvalid, Bool.and_eq_true] at hv
  exact hv.1.1.1.1.1
theorem fhead_no {f : Fd} {h : Hd} {l : List Int} (hv : fvalid f = false) : fhead f h l = (Fd.zero, 5) := by unfold fhead; rw [hv]; rfl
theorem fhead_done {f : Fd} {h : Hd} {l : List Int} (hv : fvalid f = true) (h0 : hcode f h l = 0) : fhead f h l = (f.grow h, 0) := by unfold fhead; rw [hv, h0]; rfl
theorem fhead_keep {f : Fd} {h : Hd} {l : List Int} {c : Int} (hv : fvalid f = true) (hc : hcode f h l = c) (h0 : c ≠ 0) : fhead f h l = (f, c) := by unfold fhead; rw [hv, hc, if_pos rfl, if_neg h0]
theorem fhead_valid {f : Fd} {h : Hd} {l : List Int} (h5 : (fhead f h l).2 ≠ 5) : fvalid f = true := by
  cases hv : fvalid f
  · rw [fhead_no hv] at h5; exact absurd rfl h5
  · rfl
end Go.Proofs.Ytlhiabnablbkpaa
