/- The plain law: a reader that has some of the blocks may put any other. No condition. -/
import Derived.Test.YtlhiabnablbkpaaLawq
namespace Go.Proofs.Ytlhiabnablbkpaa

def noText : ByteArray := ⟨#[]⟩
/-- g has some of f's blocks, and nothing else. -/
structure Part (f g : Fd) : Prop where
  pub : g.pub = f.pub
  hd : g.hd = f.hd
  lb : g.bl.length = f.bl.length
  lh : g.hv.length = f.bl.length
  at_ : ∀ j, j < f.bl.length → ∃ b, g.hv[j]? = some b ∧ g.bl[j]? = some (if b then f.bl.getD j noText else noText)
theorem blocksOk_of {bl : List ByteArray} {hv : List Bool} (h : ∀ (j : Nat) s b, bl[j]? = some s → hv[j]? = some b → blockOk s b = true) : blocksOk bl hv = true := by
  induction bl generalizing hv with
  | nil => rfl
  | cons s bl ih =>
    cases hv with
    | nil => rfl
    | cons b hv =>
      simp only [blocksOk, Bool.and_eq_true]
      exact ⟨h 0 s b rfl rfl, ih fun j s' b' h1 h2 => h (j + 1) s' b' (by simpa using h1) (by simpa using h2)⟩
theorem wholeB_all {l : List Bool} (h : wholeB l = true) : ∀ j, j < l.length → l[j]? = some true := by
  intro j hj
  unfold wholeB bcount at h
  split at h
  · rename_i h16
    have h1 : cnt l = l.length := by have := beq_iff_eq.1 h; omega
    have h2 := List.count_eq_length.1 h1
    have h3 := h2 l[j] (List.getElem_mem hj)
    rw [List.getElem?_eq_getElem hj, ← h3]
  · have := beq_iff_eq.1 h; omega
theorem all_wholeB {l : List Bool} (h16 : l.length ≤ 16) (h : ∀ j, j < l.length → l[j]? = some true) : wholeB l = true := by
  unfold wholeB bcount
  rw [if_pos h16]
  have : cnt l = l.length := List.count_eq_length.2 fun b hb => by
    obtain ⟨j, hj, rfl⟩ := List.getElem_of_mem hb
    have := h j hj
    rw [List.getElem?_eq_getElem hj] at this
    exact (Option.some.inj this).symm
  simp [this]
theorem part_whole {f g : Fd} (hp : Part f g) (h : wholeB g.hv = true) : g.bl = f.bl := by
  apply List.ext_getElem?
  intro j
  by_cases hj : j < f.bl.length
  · obtain ⟨b, h1, h2⟩ := hp.at_ j hj
    rw [wholeB_all h j (by rw [hp.lh]; exact hj)] at h1
    cases h1
    rw [h2, if_pos rfl, List.getD_eq_getElem?_getD, List.getElem?_eq_getElem hj]; rfl
  · rw [List.getElem?_eq_none (by rw [hp.lb]; omega), List.getElem?_eq_none (by omega)]
theorem part_valid {f g : Fd} (hv : fvalid f = true) (hw : wholeB f.hv = true) (h0 : f.bl.length ≠ 0) (hp : Part f g) : fvalid g = true := by
  have ht := fvalid_tree hv hw h0
  obtain ⟨l1, l2, l3⟩ := fvalid_len hv
  have hsz := fvalid_size hv
  have hv' := hv
  simp only [fvalid, Bool.and_eq_true, beq_iff_eq] at hv
  obtain ⟨⟨⟨⟨⟨v1, v2⟩, v3⟩, v4⟩, v5⟩, v6⟩ := hv
  simp only [fvalid, Bool.and_eq_true, beq_iff_eq]
  refine ⟨⟨⟨⟨⟨by rw [hp.pub]; exact v1, by rw [hp.hd, hp.pub]; exact v2⟩, by rw [hp.lb, hp.hd]; exact v3⟩, by rw [hp.lh, hp.hd]; exact v3⟩, ?_⟩, ?_⟩
  · refine blocksOk_of fun j s b h1 h2 => ?_
    have hj : j < f.bl.length := by
      have := (List.getElem?_eq_some_iff.1 h1).1
      rw [hp.lb] at this; exact this
    obtain ⟨b', e1, e2⟩ := hp.at_ j hj
    rw [h1] at e2
    rw [h2] at e1
    cases e1
    injection e2 with e2
    subst e2
    cases b
    · rfl
    · rw [if_pos rfl, List.getD_eq_getElem?_getD, List.getElem?_eq_getElem hj]
      have := hsz _ (List.getElem_mem hj)
      simp [blockOk, this]
  · by_cases hgw : wholeB g.hv = true
    · rw [part_whole hp hgw, ht, hp.hd]; simp
    · simp [hgw]
theorem part_put {f g : Fd} {m : Nat} (hok : fproveOk f m = true) (hp : Part f g) (hm : m < f.bl.length) (hn : g.hv[m]? = some false) :
    Part f (g.put m f.bl[m]) ∧ fput g m f.bl[m] (fprove f m) = (g.put m f.bl[m], true) := by
  have hok' := hok
  simp only [fproveOk, Bool.and_eq_true] at hok'
  obtain ⟨⟨hv, hw⟩, hi⟩ := hok'
  obtain ⟨_, hck⟩ := prove_law hok
  simp only [Int.toNat_natCast] at hck
  have h0 : f.bl.length ≠ 0 := by omega
  have hp2 : Part f (g.put m f.bl[m]) := by
    refine ⟨hp.pub, hp.hd, by simp [Fd.put, hp.lb], by simp [Fd.put, hp.lh], fun j hj => ?_⟩
    obtain ⟨b, e1, e2⟩ := hp.at_ j hj
    by_cases hjm : m = j
    · subst hjm
      refine ⟨true, ?_, ?_⟩
      · simp [Fd.put, hp.lh, hj]
      · simp [Fd.put, hp.lb, hj]
    · exact ⟨b, by simp only [Fd.put]; rw [List.getElem?_set_ne hjm]; exact e1, by simp only [Fd.put]; rw [List.getElem?_set_ne hjm]; exact e2⟩
  refine ⟨hp2, ?_⟩
  have v1 := part_valid hv hw h0 hp
  have v2 := part_valid hv hw h0 hp2
  have hs := fvalid_size hv _ (List.getElem_mem hm)
  have hmay : fputMay g m f.bl[m] (fprove f m) = true := by
    unfold fputMay
    rw [hp.lb, hi, hp.hd, hck, List.getD_eq_getElem?_getD, Int.toNat_natCast, hn]; rfl
  unfold fput
  rw [Int.toNat_natCast, if_pos (by rw [v1]; simpa using hs), if_pos (by rw [hmay, v2]; rfl)]
def blank (f : Fd) : Fd := { f with bl := List.replicate f.bl.length noText, hv := List.replicate f.hv.length false }
theorem part_blank {f : Fd} (h : f.bl.length = f.hv.length) : Part f (blank f) :=
  ⟨rfl, rfl, by simp [blank], by simp [blank, h], fun j hj => ⟨false, by simp [blank, ← h, hj], by simp [blank, hj]⟩⟩
end Go.Proofs.Ytlhiabnablbkpaa
