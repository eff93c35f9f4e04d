/- Words for the laws on FeedPut. -/
import Derived.Test.YtlhiabnablbkpaaVj
import Derived.Test.YtlhiabnablbkpaaVg
import Derived.Test.YtlhiabnablbkpaaWp
import Derived.Test.YtlhiabnablbkpaaLawr
namespace Go.Proofs.Ytlhiabnablbkpaa
open Go.RowKit

theorem FeedPut_ig {f o : Fd} {i : Int} {t : ByteArray} {proof : List Int} {ok : Bool} (h : Hid (fput f i t proof = (o, ok))) (vb vh pv : Value) (w : World) (hf : FeedR w f vb vh) (ht : t.size ≤ maxLen) (hp : RI w pv proof) :
    Calls Try.prog 40 #[.agg #[.int .i64 f.pub, .int .i64 f.hd.len, .int .i64 f.hd.dg, .int .i64 f.hd.sg, vb, vh], .int .i64 i, .string t, pv] w (PutPost o ok w) := by
  have := FeedPut_i f i t proof vb vh pv w hf ht hp
  rw [h.out] at this
  exact this
theorem FeedPut_sg {f o : Fd} {i : Int} {t : ByteArray} {proof : List Int} {ok : Bool} (h : Hid (fput f i t proof = (o, ok))) (vb vh pv : Value) (w : World) (hf : FeedR w f vb vh) (ht : t.size ≤ maxLen) (hp : RI w pv proof) :
    Calls Try.prog 47 #[.agg #[.int .i64 f.pub, .int .i64 f.hd.len, .int .i64 f.hd.dg, .int .i64 f.hd.sg, vb, vh], .int .i64 i, .string t, pv] w (PutPost o ok w) := by
  have := FeedPut_s f i t proof vb vh pv w hf ht hp
  rw [h.out] at this
  exact this
theorem BitsCount_b {l : List Bool} {n : Int} (h : Hid (bcount l = n)) (v : Value) (w : World) (hv : RB w v l) : Calls Try.prog 52 #[v] w fun e w' => e = .returned (.int .i64 n) ∧ w = w' := by
  rw [← h.out]; exact BitsCount_any l v w hv
/-- What is so where a block was stored. -/
theorem put_facts {f g : Fd} {i : Int} {t : ByteArray} {proof : List Int} (h : fput f i t proof = (g, true)) :
    ∃ m : Nat, i = m ∧ m < f.bl.length ∧ m < f.hv.length ∧ f.bl.length ≤ 16 ∧ f.bl.length = f.hv.length ∧ t.size ≤ 8 ∧ f.hv[m]? = some false ∧ g = f.put m t ∧ fvalid f = true ∧ fvalid g = true ∧ checkOf f.hd.dg f.hd.len i (textD t.data.toList) proof = true := by
  have h1 := fput_true (f := f) (i := i) (t := t) (proof := proof) (by rw [h])
  rw [h] at h1
  obtain ⟨v, ht, hm, hv2, hg⟩ := h1
  simp only [fputMay, Bool.and_eq_true, Bool.not_eq_true'] at hm
  obtain ⟨⟨hi, hn⟩, hc⟩ := hm
  have hi' := inB_true.1 hi
  obtain ⟨l1, l2, _⟩ := fvalid_len v
  obtain ⟨m, rfl⟩ : ∃ m : Nat, i = m := ⟨i.toNat, by omega⟩
  simp only [Int.toNat_natCast] at hn hv2 hg
  have hmh : m < f.hv.length := by omega
  refine ⟨m, rfl, by omega, hmh, l2, l1, ht, ?_, hg, v, by rw [hg]; exact hv2, hc⟩
  rw [List.getD_eq_getElem?_getD, List.getElem?_eq_getElem hmh] at hn
  rw [List.getElem?_eq_getElem hmh]
  simpa using hn
theorem len6 : ∀ n, n < 17 → ∀ i, i < n → lev n i + ((trees 0 n).length - 1) ≤ 6 := by decide +kernel
theorem fprove_len6 (f : Fd) (i : Int) : (fprove f i).length ≤ 6 := by
  unfold fprove; split
  · unfold proofOf; split
    · rename_i h
      simp only [Bool.and_eq_true, leavesOk_true, inB, decide_eq_true_eq] at h
      obtain ⟨⟨h1, _⟩, h2, h3⟩ := h
      have h4 := len6 (lvs f.bl).length (by omega) i.toNat (by omega)
      have h5 := (pk_ok (lvs f.bl).length (by omega) i.toNat (by omega)).1
      unfold proofAt sibs others
      rw [List.length_append, List.length_map, List.length_range, List.length_map, List.length_eraseIdx, if_pos h5]
      omega
    · simp
  · simp
theorem count_set {l : List Bool} {m : Nat} (h : l[m]? = some false) : cnt (l.set m true) = cnt l + 1 := by
  induction l generalizing m with
  | nil => simp at h
  | cons b l ih =>
    cases m with
    | zero =>
      simp at h
      subst h
      simp [cnt]
    | succ m =>
      have := ih (m := m) (by simpa using h)
      unfold cnt at *
      rw [List.set_cons_succ, List.count_cons, List.count_cons, this]
      omega
end Go.Proofs.Ytlhiabnablbkpaa
