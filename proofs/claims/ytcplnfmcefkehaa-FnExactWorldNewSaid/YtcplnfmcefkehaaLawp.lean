/- The plain law of a proof: the proof that is made of valid leaves is the one that the check takes. No condition. -/
import Derived.Test.YtcplnfmcefkehaaPure
namespace Go.Proofs.Ytcplnfmcefkehaa

theorem path_sibs (l : List Int) (i : Nat) : ∀ k, pathR i 0 (l.getD i 0) (sibs l i k) = rootN l k (i / 2 ^ k * 2 ^ k)
  | 0 => by simp [sibs, pathR, rootN]
  | k + 1 => by
    have hl : (sibs l i k).length = k := by simp [sibs]
    rw [sibs_snoc, pathR_snoc, path_sibs l i k, hl, Nat.zero_add]
    have e : i / 2 ^ (k + 1) = i / 2 ^ k / 2 := by rw [Nat.pow_succ, Nat.div_div_eq_div_mul]
    have e2 : (2 : Nat) ^ (k + 1) = 2 * 2 ^ k := by rw [Nat.pow_succ, Nat.mul_comm]
    rw [e, e2]
    conv => rhs; unfold rootN
    unfold sib
    generalize i / 2 ^ k = a
    generalize 2 ^ k = m
    by_cases h : a % 2 = 0
    · rw [if_pos h, if_pos h]
      have : a / 2 * (2 * m) = a * m := by rw [← Nat.mul_assoc]; congr 1; omega
      rw [this]
    · rw [if_neg h, if_neg h]
      have h1 : a * m = a / 2 * (2 * m) + m := by
        rw [← Nat.mul_assoc]
        have : a = a / 2 * 2 + 1 := by omega
        calc a * m = (a / 2 * 2 + 1) * m := by rw [← this]
          _ = a / 2 * 2 * m + m := by rw [Nat.add_mul, Nat.one_mul]
      rw [h1, Nat.add_sub_cancel]
theorem check_proof {l : List Int} (hl : l.length ≤ 16) {i : Nat} (hi : i < l.length) : checkAt (fold l.length (peaksOf l)) l.length i (l.getD i 0) (proofAt l i) = true := by
  obtain ⟨p1, p2, p3, p4, p5, p6, p7, p8, p9⟩ := pk_ok l.length (by omega) i hi
  have hs : (sibs l i (lev l.length i)).length = lev l.length i := by simp [sibs]
  have ho : (others l i).length = (trees 0 l.length).length - 1 := by simp [others, List.length_eraseIdx, p1]
  have hroot : rootN l (lev l.length i) (i / 2 ^ lev l.length i * 2 ^ lev l.length i) = rootT l (pkT l.length i) := by
    unfold rootT
    show _ = rootN l (lev l.length i) _
    congr 1
    rw [← p2, p9]
    congr 1
    have hpos : 0 < (pkT l.length i).2 := by omega
    generalize (pkT l.length i).1 = a at *
    generalize (pkT l.length i).2 = s at *
    have h1 : a / s * s ≤ i := by omega
    have h2 : i < a / s * s + s := by omega
    apply Nat.le_antisymm
    · have := Nat.div_lt_of_lt_mul (m := i) (n := s) (k := a / s + 1) (by rw [Nat.mul_add, Nat.mul_one, Nat.mul_comm]; exact h2)
      omega
    · exact (Nat.le_div_iff_mul_le hpos).2 h1
  unfold checkAt proofAt
  rw [List.length_append, hs, ho, List.take_left' hs, List.drop_left' hs, path_sibs, hroot]
  have hpk : (trees 0 l.length)[pkIdx l.length i] = pkT l.length i := by unfold pkT; rw [List.getD_eq_getElem?_getD, List.getElem?_eq_getElem p1]; rfl
  have e : (others l i).take (pkIdx l.length i) ++ [rootT l (pkT l.length i)] ++ (others l i).drop (pkIdx l.length i) = peaksOf l := by
    unfold others peaksOf
    rw [List.eraseIdx_eq_take_drop_succ, List.map_append, ← hpk]
    have hlen : (List.map (rootT l) (List.take (pkIdx l.length i) (trees 0 l.length))).length = pkIdx l.length i := by simp; omega
    rw [List.take_left' hlen, List.drop_left' hlen]
    have := List.take_append_drop (pkIdx l.length i) (trees 0 l.length)
    rw [List.drop_eq_getElem_cons p1] at this
    conv => rhs; rw [← this, List.map_append, List.map_cons]
    rw [List.append_assoc]; rfl
  rw [e]
  simp
/-- A proof of a whole valid feed's block is taken. -/
theorem check_proofOf {l : List Int} {i : Int} (hl : leavesOk l = true) (hi : inB i 0 ((l.length : Int) - 1) = true) (hd : dig (l.getD i.toNat 0) = true) (hp : digs (proofOf l i) = true) :
    checkOf (treeD l) l.length i (l.getD i.toNat 0) (proofOf l i) = true := by
  have h1 := (leavesOk_true.1 hl).1
  have h2 := inB_true.1 hi
  unfold checkOf
  have hn : ((l.length : Int)).toNat = l.length := by simp
  rw [hn, hd, hp, hi, inB_true.2 (show (1 : Int) ≤ (l.length : Int) ∧ (l.length : Int) ≤ 16 by omega)]
  unfold treeD proofOf
  rw [hl, hi]
  simp only [if_true, Bool.true_and, Bool.and_self]
  exact check_proof h1 (by omega)
theorem proofAt_dig {l : List Int} (hl : l.length ≤ 16) (hd : digs l = true) {i : Nat} (hi : i < l.length) : digs (proofAt l i) = true := by
  have hk := sib_ok l.length (by omega) i hi
  unfold digs proofAt
  rw [List.all_append, Bool.and_eq_true]
  constructor
  · unfold sibs; rw [List.all_map, List.all_eq_true]
    intro j hj
    have hj' := List.mem_range.1 hj
    exact rootN_dig hd _ _ (hk j hj')
  · unfold others; rw [List.all_map, List.all_eq_true]
    intro t ht
    exact rootT_dig hd hl (Nat.zero_le _) (List.mem_of_mem_eraseIdx ht)
theorem proofOf_dig {l : List Int} (i : Int) : digs (proofOf l i) = true := by
  unfold proofOf
  split
  · rename_i h
    simp only [Bool.and_eq_true] at h
    have h1 := leavesOk_true.1 h.1
    have h2 := inB_true.1 h.2
    exact proofAt_dig h1.1 h1.2 (by omega)
  · rfl
end Go.Proofs.Ytcplnfmcefkehaa
