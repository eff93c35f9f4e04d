/- Walks: peaks and their digest in the program's way. -/
import Derived.Test.YtlhiabnablbkpaaWd
namespace Go.Proofs.Ytlhiabnablbkpaa
open Go.RowKit

theorem clone_int (l : List Int) (v : Value) (w : World) (hv : RI w v l) (hl : l.length ≤ 100000000000) :
    Calls Try.prog 92 #[v] w fun e w' => ∃ v', e = .returned v' ∧ O1 (Value.int .i64) w.heap.size 3 w' v' l ∧ Below w.heap.size w w' := by
  have hv' := hv
  obtain ⟨A, c, rfl, h1, h2, h3⟩ := hv
  clear h3
  go_enter Try.func92, Try.ntmps92
  go_wp2_with (first
    | (at_make; refine make_ints rfl rfl rfl rfl (by omega) ?_; intro v1 w1 hown1 hb1; have hr := hv'.below hb1)
    | (at_builtin; refine app_ints hown1 hr (by simp; omega) hb1.size rfl rfl rfl rfl ?_; intro v2 w2 hown2 hb2))
  go_ret
  exact ⟨v2, rfl, by simpa using hown2, hb1.trans hb2⟩

set_option maxHeartbeats 400000 in
theorem roots_i (l : List Int) (hd : digs l = true) (ts : List (Nat × Nat)) (tv v : Value) (w : World) (hts : ∀ t ∈ ts, t.1 + t.2 ≤ l.length ∧ 2 ^ t.2.log2 = t.2 ∧ t.2.log2 ≤ 4) (hl : ts.length ≤ 40)
    (ht : RT w tv ts) (hv : RI w v l) :
    Calls Try.prog 95 #[tv, v] w fun e w' => ∃ v', e = .returned v' ∧ O1 (Value.int .i64) w.heap.size 3 w' v' (ts.map (rootT l)) ∧ Below w.heap.size w w' := by
  have HD := Lib.hid hd; clear hd
  have HT := Lib.hid hts; clear hts
  have ht0 := Lib.hid ht
  obtain ⟨A, c, rfl, h1, h2, h3⟩ := ht
  clear h3
  have HV := Lib.hid hv; clear hv
  go_enter Try.func95, Try.ntmps95
  go_wp2
  go_loopw [5, 11] (fun out i wr => ∃ k : Nat, k ≤ ts.length ∧ i = .int .i64 k ∧ O1 (Value.int .i64) w.heap.size 3 wr out ((ts.take k).map (rootT l)) ∧ Below w.heap.size w wr) (fun _ i _ => ts.length - (intOf i).toNat)
  case atStart => exact ⟨0, Nat.zero_le _, rfl, O1.made _ _ _, (Below.refl _ _).alloc (Nat.le_refl _) _⟩
  case round =>
    obtain ⟨k, hk, rfl, hown, hb⟩ := hrel
    by_cases hlt : k < ts.length
    · obtain ⟨A', c', hA, _, _, hc⟩ := ht0.out.below hb
      cases hA
      obtain ⟨b, o, rfl, hbs, hc⟩ := hc (by omega)
      obtain ⟨hc1, hc2⟩ := hc k hlt
      clear hc
      obtain ⟨g1, g2, g3⟩ := HT.out _ (List.getElem_mem hlt)
      have HG := Lib.hid g2; clear g2
      simp only [t1, t2] at hc1 hc2
      have HS := Lib.hid (take_snocI hlt)
      have hv2 := (HV.out.below hb).alloc (.cells #[.int .i64 (ts[k].1 : Int), .int .i64 (ts[k].2 : Int)] 103)
      have hown1 := hown.alloc (.cells #[.int .i64 (ts[k].1 : Int), .int .i64 (ts[k].2 : Int)] 103)
      have hlk : ((ts.take k).map (rootT l)).length = k := by simp; omega
      have HLK := Lib.hid hlk; clear hlk
      have hba := below_alloc hb (.cells #[.int .i64 (ts[k].1 : Int), .int .i64 (ts[k].2 : Int)] 103)
      go_wp2_with (first
        | (go_at_call 140; refine (root_i l HD.out ts[k].2.log2 ts[k].1 _ _ _ _ rfl (by rw [HG.out]) g3 (by rw [HG.out]; exact g1) hv2).mono ?_; rintro e w1 ⟨rfl, hb1⟩; have hown2 := hown1.below hb1; have hb2 := hba.trans (hb1.mono hba.size))
        | (at_builtin; refine app_int hown2 (by rw [HLK.out]; omega) hb2.size rfl rfl rfl rfl ?_; intro v3 w3 hown3 hb3))
      go_roundw
      case rel => exact ⟨k + 1, by omega, by go_num, by rw [HS.out, List.map_append]; exact hown3, hb2.trans hb3⟩
      case measure => simp [intOf]; omega
    · go_wp2
      go_ret
      exact ⟨_, rfl, by rw [List.take_of_length_le (by omega)] at hown; exact hown, hb⟩

theorem TreePeaks_ok (l : List Int) (v : Value) (w : World) (hv : RI w v l) (hl : leavesOk l = true) :
    Calls Try.prog 97 #[v] w fun e w' => ∃ v', e = .returned v' ∧ O1 (Value.int .i64) w.heap.size 3 w' v' (peaksOf l) ∧ Below w.heap.size w w' := by
  obtain ⟨h16, hd⟩ := leavesOk_true.1 hl
  have HL := Lib.hid hl; clear hl
  have HD := Lib.hid hd; clear hd
  have HV := Lib.hid hv
  obtain ⟨A, c, rfl, h1, h2, h3⟩ := hv
  clear h3
  go_enter Try.func97, Try.ntmps97
  go_wp2_with (first
    | (go_at_call 94; refine (areLeaves_any l _ _ HV.out).mono ?_; rw [HL.out]; rintro e w' ⟨rfl, rfl⟩)
    | (go_at_call 89; refine (treesFrom_any 0 l.length _ (by omega) h16).mono ?_; rintro e w1 ⟨v1, rfl, ho1, hb1⟩)
    | (go_at_call 95; refine (roots_i l HD.out (trees 0 l.length) _ _ _ (trees_ok l.length (by omega) 0 (by omega)) (by have := trees_len 0 l.length; omega) ho1.r2 (HV.out.below hb1)).mono ?_; rintro e w2 ⟨v2, rfl, ho2, hb2⟩))
  go_ret
  exact ⟨v2, rfl, ho2.mono hb1.size, below_bb hb1 hb2⟩
theorem TreePeaks_no (l : List Int) (v : Value) (w : World) (hv : RI w v l) (hl : leavesOk l = false) :
    Calls Try.prog 97 #[v] w fun e w' => e = .returned (.slice none 0 0) ∧ w = w' := by
  have HL := Lib.hid hl; clear hl
  have HV := Lib.hid hv
  obtain ⟨A, c, rfl, h1, h2, h3⟩ := hv
  clear h3
  go_enter Try.func97, Try.ntmps97
  go_wp2_with (go_at_call 94; refine (areLeaves_any l _ _ HV.out).mono ?_; rw [HL.out]; rintro e w' ⟨rfl, rfl⟩)
  go_ret
  exact ⟨rfl, rfl⟩
theorem TreeDigest_i (l : List Int) (v : Value) (w : World) (hv : RI w v l) :
    Calls Try.prog 39 #[v] w fun e w' => e = .returned (.int .i64 (treeD l)) ∧ Below w.heap.size w w' := by
  cases hl : leavesOk l
  · have ht : treeD l = -1 := by unfold treeD; rw [hl]; rfl
    have HT := Lib.hid ht; clear ht
    have HL := Lib.hid hl; clear hl
    have HV := Lib.hid hv
    obtain ⟨A, c, rfl, h1, h2, h3⟩ := hv
    clear h3
    go_enter Try.func39, Try.ntmps39
    go_wp2_with (go_at_call 94; refine (areLeaves_any l _ _ HV.out).mono ?_; rw [HL.out]; rintro e w' ⟨rfl, rfl⟩)
    go_ret
    exact ⟨reti HT.out.symm, Below.refl _ _⟩
  · have ht : treeD l = fold l.length (peaksOf l) := by unfold treeD; rw [hl]; rfl
    have HT := Lib.hid ht; clear ht
    obtain ⟨h16, hd⟩ := leavesOk_true.1 hl
    have HL := Lib.hid hl; clear hl
    have HP := Lib.hid (peaks_dig hd h16)
    have hd16 : dig (l.length : Int) = true := dig_true.2 (by omega)
    have HV := Lib.hid hv
    obtain ⟨A, c, rfl, h1, h2, h3⟩ := hv
    clear h3 hd
    have HDG := Lib.hid hd16; clear hd16
    go_enter Try.func39, Try.ntmps39
    go_wp2_with (first
      | (go_at_call 94; refine (areLeaves_any l _ _ HV.out).mono ?_; rw [HL.out]; rintro e w' ⟨rfl, rfl⟩)
      | (go_at_call 97; refine (TreePeaks_ok l _ _ HV.out HL.out).mono ?_; rintro e w1 ⟨v1, rfl, ho1, hb1⟩)
      | (go_at_call 93; refine (digestOf_any _ _ _ _ HDG.out HP.out ho1.r1).mono ?_; rintro e w2 ⟨rfl, rfl⟩))
    go_ret
    exact ⟨reti HT.out.symm, hb1⟩
end Go.Proofs.Ytlhiabnablbkpaa
