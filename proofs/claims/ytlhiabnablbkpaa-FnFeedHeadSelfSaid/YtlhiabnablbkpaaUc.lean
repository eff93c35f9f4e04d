/- Walks: TreeGrowth. -/
import Derived.Test.YtlhiabnablbkpaaUb
namespace Go.Proofs.Ytlhiabnablbkpaa
open Go.RowKit

theorem grow_no {l : List Int} {m : Int} (h : (leavesOk l && inB m 0 l.length) = false) : growOf l m = [] := by unfold growOf; rw [h]; rfl
theorem grow_yes {l : List Int} {k : Nat} (h : leavesOk l = true) (hk : k ≤ l.length) : growOf l k = coverOf (l.take k) 0 ++ coverOf l k := by
  obtain ⟨h16, hd⟩ := leavesOk_true.1 h
  have hi : inB (k : Int) 0 (l.length : Int) = true := inB_true.2 (by omega)
  unfold growOf gtrees coverOf
  rw [h, hi, List.map_append, Int.toNat_natCast]
  simp only [Bool.and_self, if_true]
  congr 1
  rw [show (l.take k).length = k by simp; omega]
  apply List.map_congr_left
  intro t ht
  obtain ⟨t1, t2, _⟩ := trees_ok k (by omega) 0 (by omega) t ht
  exact (rootN_take _ _ (by rw [t2]; exact t1)).symm
theorem cover_len (l1 l2 : List Int) (p1 p2 : Nat) : (coverOf l1 p1).length + (coverOf l2 p2).length ≤ 100000000000 := by
  have h1 : (coverOf l1 p1).length ≤ 17 := by unfold coverOf; rw [List.length_map]; exact trees_len _ _
  have h2 : (coverOf l2 p2).length ≤ 17 := by unfold coverOf; rw [List.length_map]; exact trees_len _ _
  exact Nat.le_trans (Nat.add_le_add h1 h2) (by omega)
set_option maxHeartbeats 800000 in
theorem TreeGrowth_s (l : List Int) (m : Int) (v : Value) (w : World) (hv : RI w v l) :
    Calls Try.prog 126 #[v, .int .i64 m] w fun e w' => ∃ v', e = .returned v' ∧ O1 (Value.int .i64) w.heap.size 3 w' v' (growOf l m) ∧ Below w.heap.size w w' := by
  have HV := Lib.hid hv
  obtain ⟨A, c, rfl, h1, h2, h3⟩ := hv
  unfold maxLen at h2
  have hlc := h1.1
  obtain ⟨b1, HL⟩ : ∃ b, Hid (leavesOk l = b) := ⟨_, Lib.hid rfl⟩
  obtain ⟨b2, HI⟩ : ∃ b, Hid (inB m 0 (l.length : Int) = b) := ⟨_, Lib.hid rfl⟩
  clear h1 h3
  cases b1
  · have HG := Lib.hid (grow_no (l := l) (m := m) (by rw [HL.out]; rfl))
    go_enter Try.func126, Try.ntmps126
    go_wp2_with (go_at_call 136; refine (l2Leaves_b HL _ _ HV.out).mono ?_; rintro e w' ⟨rfl, rfl⟩)
    go_ret
    exact ⟨_, rfl, by rw [HG.out]; exact O1.made _ _ _, (Below.refl _ _).alloc (Nat.le_refl _) _⟩
  cases b2
  · have HG := Lib.hid (grow_no (l := l) (m := m) (by rw [HL.out, HI.out]; rfl))
    go_enter Try.func126, Try.ntmps126
    go_wp2_with (first
      | (go_at_call 136; refine (l2Leaves_b HL _ _ HV.out).mono ?_; rintro e w' ⟨rfl, rfl⟩)
      | (go_at_call 66; refine (l6In_b HI _).mono ?_; rintro e w' ⟨rfl, rfl⟩))
    go_ret
    exact ⟨_, rfl, by rw [HG.out]; exact O1.made _ _ _, (Below.refl _ _).alloc (Nat.le_refl _) _⟩
  obtain ⟨h16, hd⟩ := leavesOk_true.1 HL.out
  have hi := inB_true.1 HI.out
  obtain ⟨k, rfl⟩ : ∃ k : Nat, m = k := ⟨m.toNat, by omega⟩
  have hk : k ≤ l.length := by omega
  have HG := Lib.hid (grow_yes HL.out hk)
  have HD := Lib.hid hd
  have HD2 := Lib.hid (digs_take hd k)
  have HK : Hid ((l.take k).length = k) := Lib.hid (by simp; omega)
  have HV2 := Lib.hid (R1.take HV.out hk)
  have HLC := Lib.hid (cover_len (l.take k) l 0 k)
  clear hd hi
  go_enter Try.func126, Try.ntmps126
  go_wp2_with (first
    | (go_at_call 136; refine (l2Leaves_b HL _ _ HV.out).mono ?_; rintro e w' ⟨rfl, rfl⟩)
    | (go_at_call 66; refine (l6In_b HI _).mono ?_; rintro e w' ⟨rfl, rfl⟩)
    | (go_at_call_of 152 (Value.slice A k c); refine (l2Cover_any (l.take k) 0 _ _ HD2.out (by rw [HK.out]; omega) (Nat.zero_le _) HV2.out).mono ?_; rintro e w1 ⟨v1, rfl, ho1, hb1⟩)
    | (go_at_call_of 152 (Value.slice A l.length c); refine (l2Cover_any l k _ _ HD.out h16 hk (HV.out.below hb1)).mono ?_; rintro e w2 ⟨v2, rfl, ho2, hb2⟩; have ho1' := ho1.below hb2; have hb12 := below_bb hb1 hb2)
    | (at_builtin; refine app_ints ho1' ho2.r1 HLC.out hb12.size rfl rfl rfl rfl ?_; intro v3 w3 ho3 hb3))
  go_ret
  exact ⟨_, rfl, by rw [HG.out]; exact ho3, hb12.trans hb3⟩
theorem areLeaves_b {l : List Int} {b : Bool} (h : Hid (leavesOk l = b)) (v : Value) (w : World) (hv : RI w v l) : Calls Try.prog 94 #[v] w fun e w' => e = .returned (.bool b) ∧ w = w' := by
  rw [← h.out]; exact areLeaves_any l v w hv
set_option maxHeartbeats 800000 in
theorem TreeGrowth_i (l : List Int) (m : Int) (v : Value) (w : World) (hv : RI w v l) :
    Calls Try.prog 37 #[v, .int .i64 m] w fun e w' => ∃ v', e = .returned v' ∧ O1 (Value.int .i64) w.heap.size 3 w' v' (growOf l m) ∧ Below w.heap.size w w' := by
  have HV := Lib.hid hv
  obtain ⟨A, c, rfl, h1, h2, h3⟩ := hv
  unfold maxLen at h2
  have hlc := h1.1
  obtain ⟨b1, HL⟩ : ∃ b, Hid (leavesOk l = b) := ⟨_, Lib.hid rfl⟩
  obtain ⟨b2, HI⟩ : ∃ b, Hid (inB m 0 (l.length : Int) = b) := ⟨_, Lib.hid rfl⟩
  clear h1 h3
  cases b1
  · have HG := Lib.hid (grow_no (l := l) (m := m) (by rw [HL.out]; rfl))
    go_enter Try.func37, Try.ntmps37
    go_wp2_with (go_at_call 94; refine (areLeaves_b HL _ _ HV.out).mono ?_; rintro e w' ⟨rfl, rfl⟩)
    go_ret
    exact ⟨_, rfl, by rw [HG.out]; exact O1.nil _ _ _ _, Below.refl _ _⟩
  cases b2
  · have HG := Lib.hid (grow_no (l := l) (m := m) (by rw [HL.out, HI.out]; rfl))
    go_enter Try.func37, Try.ntmps37
    go_wp2_with (first
      | (go_at_call 94; refine (areLeaves_b HL _ _ HV.out).mono ?_; rintro e w' ⟨rfl, rfl⟩)
      | (go_at_call 72; refine (within_b HI _).mono ?_; rintro e w' ⟨rfl, rfl⟩))
    go_ret
    exact ⟨_, rfl, by rw [HG.out]; exact O1.nil _ _ _ _, Below.refl _ _⟩
  obtain ⟨h16, hd⟩ := leavesOk_true.1 HL.out
  have hi := inB_true.1 HI.out
  obtain ⟨k, rfl⟩ : ∃ k : Nat, m = k := ⟨m.toNat, by omega⟩
  have hk : k ≤ l.length := by omega
  have HG : Hid (growOf l k = (gtrees k l.length).map (rootT l)) := Lib.hid (by unfold growOf; rw [HL.out, HI.out]; rfl)
  have HD := Lib.hid hd
  have HOK := Lib.hid (gtrees_ok l.length (by omega) k (by omega))
  have HTL : Hid ((trees 0 k).length + (trees k l.length).length ≤ 100000000000) := Lib.hid (Nat.le_trans (Nat.add_le_add (trees_len 0 k) (trees_len k l.length)) (by omega))
  have HGL : Hid ((gtrees k l.length).length ≤ 40) := Lib.hid (Nat.le_trans (gtrees_len k l.length) (by omega))
  clear hd hi
  go_enter Try.func37, Try.ntmps37
  go_wp2_with (first
    | (go_at_call 94; refine (areLeaves_b HL _ _ HV.out).mono ?_; rintro e w' ⟨rfl, rfl⟩)
    | (go_at_call 72; refine (within_b HI _).mono ?_; rintro e w' ⟨rfl, rfl⟩)
    | (go_at_call_of 89 (Value.int .i64 0); refine (treesFrom_any 0 k _ (by omega) (by omega)).mono ?_; rintro e w1 ⟨v1, rfl, ho1, hb1⟩)
    | (go_at_call_of 89 (Value.int .i64 k); refine (treesFrom_any k l.length _ (by omega) h16).mono ?_; rintro e w2 ⟨v2, rfl, ho2, hb2⟩; have ho1' := ho1.below hb2; have hb12 := below_bb hb1 hb2)
    | (at_builtin; refine app_trees ho1' ho2.r2 HTL.out hb12.size rfl rfl rfl rfl ?_; intro v3 w3 ho3 hb3; have hb13 := hb12.trans hb3)
    | (go_at_call 95; refine (roots_i l HD.out (gtrees k l.length) _ _ _ HOK.out HGL.out ho3.r2 (HV.out.below hb13)).mono ?_; rintro e w4 ⟨v4, rfl, ho4, hb4⟩))
  go_ret
  exact ⟨_, rfl, by rw [HG.out]; exact ho4.mono hb13.size, hb13.trans (hb4.mono hb13.size)⟩
end Go.Proofs.Ytlhiabnablbkpaa
