/- Plain functions: blocks of feeds. -/
import Derived.Test.YtcplnfmcefkehaaPure
namespace Go.Proofs.Ytcplnfmcefkehaa
theorem blocksOk_snoc {bl : List ByteArray} {hv : List Bool} {k : Nat} (h1 : k < bl.length) (h2 : k < hv.length) (h : blocksOk (bl.take k) (hv.take k) = true) (hb : blockOk bl[k] hv[k] = true) :
    blocksOk (bl.take (k + 1)) (hv.take (k + 1)) = true := by
  induction bl generalizing hv k with
  | nil => simp at h1
  | cons s bl ih =>
    cases hv with
    | nil => simp at h2
    | cons b hv =>
      cases k with
      | zero => simp [blocksOk] at *; exact hb
      | succ k =>
        simp only [List.take_succ_cons, blocksOk, Bool.and_eq_true] at h ⊢
        exact ⟨h.1, ih (by simpa using h1) (by simpa using h2) h.2 (by simpa using hb)⟩
theorem blocksOk_no {bl : List ByteArray} {hv : List Bool} {k : Nat} (h1 : k < bl.length) (h2 : k < hv.length) (hb : blockOk bl[k] hv[k] = false) : blocksOk bl hv = false := by
  induction bl generalizing hv k with
  | nil => simp at h1
  | cons s bl ih =>
    cases hv with
    | nil => simp at h2
    | cons b hv =>
      cases k with
      | zero => simp at hb; simp [blocksOk, hb]
      | succ k =>
        simp only [blocksOk]
        rw [ih (k := k) (by simpa using h1) (by simpa using h2) (by simpa using hb), Bool.and_false]
theorem blocksOk_all {bl : List ByteArray} {hv : List Bool} {k : Nat} (h1 : bl.length ≤ k) (h2 : hv.length ≤ k) (h : blocksOk (bl.take k) (hv.take k) = true) : blocksOk bl hv = true := by
  rwa [List.take_of_length_le h1, List.take_of_length_le h2] at h
theorem blocksOk_size {bl : List ByteArray} {hv : List Bool} (hl : bl.length = hv.length) (h : blocksOk bl hv = true) : ∀ s ∈ bl, s.size ≤ 8 := by
  induction bl generalizing hv with
  | nil => simp
  | cons s bl ih =>
    cases hv with
    | nil => simp at hl
    | cons b hv =>
      simp only [blocksOk, Bool.and_eq_true, blockOk, decide_eq_true_eq] at h
      intro x hx
      rcases List.mem_cons.1 hx with rfl | hx
      · exact h.1.1
      · exact ih (by simpa using hl) h.2 x hx
theorem data_len (s : ByteArray) : s.data.toList.length = s.size := rfl
theorem toList_data (s : ByteArray) : s.toList = s.data.toList := by
  have key : ∀ (n : Nat) (i : Nat) (r : List UInt8), s.size - i = n → ByteArray.toList.loop s i r = r.reverse ++ s.data.toList.drop i := by
    intro n
    induction n with
    | zero =>
      intro i r h
      unfold ByteArray.toList.loop
      rw [if_neg (by omega), List.drop_of_length_le (by rw [data_len]; omega), List.append_nil]
    | succ n ih =>
      intro i r h
      unfold ByteArray.toList.loop
      have hi : i < s.data.toList.length := by rw [data_len]; omega
      rw [if_pos (by omega), ih (i + 1) _ (by omega), List.drop_eq_getElem_cons hi]
      have hg : s.get! i = s.data.toList[i] := by
        show s.data[i]! = _
        rw [getElem!_pos s.data i (by simpa using hi)]; simp
      simp [hg]
  have := key s.size 0 [] (by omega)
  simpa [ByteArray.toList] using this
theorem toList_nil {s : ByteArray} (h : s.size = 0) : s.toList.isEmpty = true := by
  rw [toList_data, List.isEmpty_iff, List.eq_nil_iff_length_eq_zero, data_len]; exact h
theorem toList_cons {s : ByteArray} (h : ¬ s.size = 0) : s.toList.isEmpty = false := by
  rw [toList_data, List.isEmpty_eq_false_iff]; intro h2
  exact h (by have := congrArg List.length h2; rw [data_len] at this; exact this)
theorem blockOk_empty {s : ByteArray} (h : s.size = 0) : blockOk s false = true := by unfold blockOk; rw [h]; rfl
theorem blockOk_full {s : ByteArray} (h : ¬ s.size = 0) : blockOk s false = false := by
  unfold blockOk; rw [show (s.size == 0) = false by simpa only [beq_eq_false_iff_ne] using h]; simp
end Go.Proofs.Ytcplnfmcefkehaa
