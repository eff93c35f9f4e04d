/- Walks: peaks of a leaf; proofs. | Walks: the reference's proofs. | Walks: the reference's check of a proof. -/
import Derived.Test.YtcplnfmcefkehaaGreatBB
import Derived.Laws.BitsAllLaws
import Derived.Laws.BitsLemmas
namespace Go.Proofs.YtcplnfmcefkehaaGreat
open Go.RowKit

theorem TreeDigest_s (l : List Int) (v : Value) (w : World) (hv : RI w v l) :
    Calls Tryz.prog 90 #[v] w fun e w' => e = .returned (.int .i64 (treeD l)) ∧ Below w.heap.size w w' := by
  cases hl : leavesOk l
  · have ht : treeD l = -1 := by unfold treeD; rw [hl]; rfl
    have HT := Lib.hid ht; clear ht
    have HL := Lib.hid hl; clear hl
    have HV := Lib.hid hv
    obtain ⟨A, c, rfl, h1, h2, h3⟩ := hv
    clear h3
    go_enter Tryz.func90, Tryz.ntmps90
    go_wp2_with (go_at_call 154; refine (l2Leaves_any l _ _ HV.out).mono ?_; rw [HL.out]; rintro e w' ⟨rfl, rfl⟩)
    go_ret
    exact ⟨reti HT.out.symm, Below.refl _ _⟩
  · have ht : treeD l = fold l.length (coverOf l 0) := by unfold treeD; rw [hl]; rfl
    have HT := Lib.hid ht; clear ht
    obtain ⟨h16, hd⟩ := leavesOk_true.1 hl
    have HL := Lib.hid hl; clear hl
    have HP : Hid (digs (coverOf l 0) = true) := Lib.hid (peaks_dig hd h16)
    have HD := Lib.hid hd
    have hd16 : dig (l.length : Int) = true := dig_true.2 (by omega)
    have HV := Lib.hid hv
    obtain ⟨A, c, rfl, h1, h2, h3⟩ := hv
    clear h3 hd
    have HDG := Lib.hid hd16; clear hd16
    go_enter Tryz.func90, Tryz.ntmps90
    go_wp2_with (first
      | (go_at_call 154; refine (l2Leaves_any l _ _ HV.out).mono ?_; rw [HL.out]; rintro e w' ⟨rfl, rfl⟩)
      | (go_at_call 156; refine (l2Cover_any l 0 _ _ HD.out h16 (by omega) HV.out).mono ?_; rintro e w1 ⟨v1, rfl, ho1, hb1⟩)
      | (go_at_call 155; refine (l2Fold_any _ _ _ _ HDG.out HP.out ho1.r1).mono ?_; rintro e w2 ⟨rfl, rfl⟩))
    go_ret
    exact ⟨reti HT.out.symm, hb1⟩

theorem findIdx_ge {α : Type} {p : α → Bool} {l : List α} {k : Nat} (hk : k < l.length) (h : k ≤ l.findIdx p) (hp : p l[k] = false) : k + 1 ≤ l.findIdx p := by
  rcases Nat.lt_or_ge k (l.findIdx p) with h1 | h1
  · exact h1
  · have he : l.findIdx p = k := by omega
    have hlt : l.findIdx p < l.length := by omega
    have h2 : p l[l.findIdx p] = true := List.findIdx_getElem
    simp only [he] at h2
    rw [hp] at h2; cases h2
theorem findIdx_le {α : Type} {p : α → Bool} {l : List α} {k : Nat} (hk : k < l.length) (h : k ≤ l.findIdx p) (hp : p l[k] = true) : l.findIdx p = k := by
  rcases Nat.lt_or_ge k (l.findIdx p) with h1 | h1
  · exact absurd hp (by simpa using List.not_of_lt_findIdx h1)
  · omega
theorem peakOf_any (ts : List (Nat × Nat)) (i : Nat) (v : Value) (w : World) (hv : RT w v ts) (hb9 : ∀ t ∈ ts, t.1 + t.2 ≤ 1000) (hf : ts.findIdx (fun t => decide (i < t.1 + t.2)) < ts.length) (hi : i ≤ 1000) :
    Calls Tryz.prog 173 #[v, .int .i64 i] w fun e w' => e = .returned (.int .i64 ((ts.findIdx (fun t => decide (i < t.1 + t.2)) : Nat) : Int)) ∧ Below w.heap.size w w' := by
  have HB := Lib.hid hb9; clear hb9
  have HV := Lib.hid hv
  have hl := hv.len
  obtain ⟨A, c, rfl, h1, h2, h3⟩ := hv
  unfold maxLen at hl h2
  clear h3
  have HF : Hid (∃ f, f = ts.findIdx (fun t => decide (i < t.1 + t.2)) ∧ f < ts.length) := Lib.hid ⟨_, rfl, hf⟩
  clear hf
  go_enter Tryz.func173, Tryz.ntmps173
  go_wp2
  go_loopw [9] (fun q wr => ∃ k : Nat, k < ts.length ∧ q = .int .i64 k ∧ Hid (k ≤ ts.findIdx (fun t => decide (i < t.1 + t.2))) ∧ Below w.heap.size w wr) (fun q _ => ts.length - (intOf q).toNat)
  case atStart => exact ⟨0, by obtain ⟨f, _, h⟩ := HF.out; omega, rfl, Lib.hid (Nat.zero_le _), Below.refl _ _⟩
  case round =>
    obtain ⟨k, hlt, rfl, HK, hb⟩ := hrel
    obtain ⟨A', c', hA, _, _, hc⟩ := HV.out.below hb
    cases hA
    obtain ⟨b, o, rfl, hbs, hc⟩ := hc (by omega)
    obtain ⟨hc1, hc2⟩ := hc k hlt
    have hbd := HB.out _ (List.getElem_mem hlt)
    simp only [t1, t2] at hc1 hc2
    clear hc
    by_cases hx : i < ts[k].1 + ts[k].2
    · have hx' : (i : Int) < (ts[k].1 : Int) + ts[k].2 := by omega
      have HE := Lib.hid (findIdx_le hlt HK.out (by simpa using hx))
      clear hx
      generalize ts[k] = t at *
      go_wp2
      go_ret
      exact ⟨reti (by rw [HE.out]), below_alloc hb _⟩
    · have hx' : ¬ (i : Int) < (ts[k].1 : Int) + ts[k].2 := by omega
      have HE := Lib.hid (findIdx_ge hlt HK.out (by simpa using hx))
      have hlt2 : k + 1 < ts.length := by obtain ⟨f, hf1, hf2⟩ := HF.out; have := HE.out; omega
      clear hx
      generalize ts[k] = t at *
      go_wp2
      go_roundw
      case rel => exact ⟨k + 1, hlt2, by go_num, HE, below_alloc hb _⟩
      case measure => simp [intOf]; omega

theorem peakOf_n (n i : Nat) (v : Value) (w : World) (hv : RT w v (trees 0 n)) (hn : n ≤ 16) (hi : i < n) :
    Calls Tryz.prog 173 #[v, .int .i64 i] w fun e w' => e = .returned (.int .i64 (pkIdx n i : Nat)) ∧ Below w.heap.size w w' :=
  peakOf_any (trees 0 n) i v w hv (fun t ht => by have := (trees_ok n (by omega) 0 (by omega) t ht).1; omega) (pk_ok n (by omega) i hi).1 (by omega)
theorem pkT_get {n i : Nat} (h : pkIdx n i < (trees 0 n).length) : (trees 0 n)[pkIdx n i] = pkT n i := by
  unfold pkT; rw [List.getD_eq_getElem?_getD, List.getElem?_eq_getElem h]; rfl

theorem ofInt_nat (a : Nat) (ha : a < 9223372036854775808) : (BitVec.ofInt 64 (a : Int)).toNat = a := by
  rw [BitVec.ofInt_natCast, BitVec.toNat_ofNat]; exact Nat.mod_eq_of_lt (by omega)
theorem xor_nat (a b : Nat) (ha : a < 65536) (hb : b < 65536) : bits .xor .i64 (a : Int) (b : Int) = ((a ^^^ b : Nat) : Int) := by
  have hx : a ^^^ b < 2 ^ 16 := Nat.xor_lt_two_pow (by omega) (by omega)
  show IntKind.i64.wrap ((BitVec.ofInt 64 (a : Int) ^^^ BitVec.ofInt 64 (b : Int)).toNat : Int) = _
  rw [BitVec.toNat_xor, ofInt_nat a (by omega), ofInt_nat b (by omega), IntKind.wrap_i64]
  omega
set_option maxHeartbeats 800000 in
set_option maxRecDepth 100000 in
theorem TreeProof_i_ok (l : List Int) (i : Nat) (v : Value) (w : World) (hv : RI w v l) (hl : leavesOk l = true) (hi : i < l.length) :
    Calls Tryz.prog 121 #[v, .int .i64 i] w fun e w' => ∃ v', e = .returned v' ∧ O1 (Value.int .i64) w.heap.size 3 w' v' (proofAt l i) ∧ Below w.heap.size w w' := by
  obtain ⟨h16, hd⟩ := leavesOk_true.1 hl
  have HL := Lib.hid hl; clear hl
  have HD := Lib.hid hd; clear hd
  have HV := Lib.hid hv
  obtain ⟨A, c, rfl, h1, h2, h3⟩ := hv
  clear h3
  obtain ⟨p1, p2, p3, p4, p5, p6, p7, p8, p9⟩ := pk_ok l.length (by omega) i hi
  have HP2 := Lib.hid p2
  have HP7 := Lib.hid p7
  have HB : Hid (inB i 0 ((l.length : Int) - 1) = true) := Lib.hid (inB_true.2 (by omega))
  have HTR := Lib.hid (trees_ok l.length (by omega) 0 (by omega))
  have hTL := trees_len 0 l.length
  clear p2 p7 p8 p9 p4 p5 p6
  go_enter Tryz.func121, Tryz.ntmps121
  go_wp2_with (first
    | (go_at_call 167; refine (areLeaves_any l _ _ HV.out).mono ?_; rw [HL.out]; rintro e w' ⟨rfl, rfl⟩)
    | (go_at_call 107; refine (within_any _ _ _ _).mono ?_; rw [HB.out]; rintro e w' ⟨rfl, rfl⟩)
    | (go_at_call 172; refine (treesFrom_any 0 l.length _ (by omega) h16).mono ?_; rintro e w1 ⟨v1, rfl, ho1, hb1⟩)
    | (go_at_call 173; refine (peakOf_n l.length i _ _ ho1.r2 h16 hi).mono ?_; rintro e w2 ⟨rfl, hb2⟩))
  have HR2 := Lib.hid (ho1.r2.below hb2)
  have hb12 := below_bb hb1 hb2
  obtain ⟨A', c', rfl, k1, k2, k3⟩ := id HR2.out
  obtain ⟨b', o', rfl, kb, kc⟩ := k3 (by omega)
  have hl16 : 2 ^ lev l.length i ≤ 2 ^ 4 := Nat.pow_le_pow_right (by omega) p3
  obtain ⟨Z, HZ⟩ : ∃ Z, Hid (2 ^ lev l.length i = Z) := ⟨_, Lib.hid rfl⟩
  have kc2 : w2.cell? ⟨b', o' + pkIdx l.length i * 2 + 1, none⟩ = some (.int .i64 (Z : Int)) := by
    rw [(kc _ p1).2, pkT_get p1, ← HZ.out, ← HP2.out]; rfl
  rw [HZ.out] at hl16
  unfold maxLen at k2 h2
  clear kc k3
  go_loopw [7, 8] (fun out q wr => ∃ j : Nat, j ≤ lev l.length i ∧ q = .int .i64 ((2 ^ j : Nat) : Int) ∧ O1 (Value.int .i64) w2.heap.size 3 wr out (sibs l i j) ∧ Below w2.heap.size w2 wr) (fun _ q _ => 64 - (intOf q).toNat)
  case atStart => exact ⟨0, Nat.zero_le _, rfl, O1.made _ _ _, (Below.refl _ _).alloc (Nat.le_refl _) _⟩
  case round =>
    obtain ⟨j, hj, rfl, hown, hb⟩ := hrel
    have kc3 : wr.cell? ⟨b', o' + pkIdx l.length i * 2 + 1, none⟩ = some (.int .i64 (Z : Int)) := (hb.cell kb).trans kc2
    by_cases hlt : j < lev l.length i
    · have hS1 : 1 ≤ 2 ^ j := Nat.one_le_two_pow
      have hi16 : i ≤ 16 := by omega
      have hS8 : 2 ^ j ≤ 2 ^ 3 := Nat.pow_le_pow_right (by omega) (by omega)
      have hlt' : 2 ^ j < Z := by rw [← HZ.out]; exact Nat.pow_lt_pow_right (by omega) hlt
      have hdm : i / 2 ^ j * 2 ^ j ≤ i := Nat.div_mul_le_self _ _
      have hdv : i / 2 ^ j ≤ i := Nat.div_le_self _ _
      have hxor : bits .xor .i64 ((i : Int) / ((2 ^ j : Nat) : Int) * ((2 ^ j : Nat) : Int)) ((2 ^ j : Nat) : Int) = ((sib i j : Nat) : Int) := by
        rw [← sib_xor i (by omega) j (by omega), ← xor_nat _ _ (by omega) (by omega), Int.natCast_mul, Int.natCast_ediv]
      have e1 : ((i / 2 ^ j : Nat) : Int) = (i : Int) / ((2 ^ j : Nat) : Int) := Int.natCast_ediv _ _
      have e2 : ((i / 2 ^ j * 2 ^ j : Nat) : Int) = (i : Int) / ((2 ^ j : Nat) : Int) * ((2 ^ j : Nat) : Int) := by rw [Int.natCast_mul, Int.natCast_ediv]
      have b1 : 0 ≤ (i : Int) / ((2 ^ j : Nat) : Int) := by rw [← e1]; exact Int.natCast_nonneg _
      have b2 : (i : Int) / ((2 ^ j : Nat) : Int) ≤ 16 := by rw [← e1]; exact Int.ofNat_le.2 (Nat.le_trans hdv hi16)
      have b3 : 0 ≤ (i : Int) / ((2 ^ j : Nat) : Int) * ((2 ^ j : Nat) : Int) := by rw [← e2]; exact Int.natCast_nonneg _
      have b4 : (i : Int) / ((2 ^ j : Nat) : Int) * ((2 ^ j : Nat) : Int) ≤ 16 := by rw [← e2]; exact Int.ofNat_le.2 (Nat.le_trans hdm hi16)
      have hsok := sib_ok l.length (by omega) i hi j hlt
      have HS := Lib.hid (sibs_snoc l i j)
      have HJ : Hid ((2 ^ (j + 1) : Nat) = 2 ^ j * 2) := Lib.hid (Nat.pow_succ 2 j)
      clear e1 e2
      generalize hS : 2 ^ j = S at *
      have HSS := Lib.hid hS
      clear hS
      have hlS : (sibs l i j).length = j := by simp [sibs]
      have hv2 := HV.out.below (hb12.trans (hb.mono hb12.size))
      go_wp2_with (first
        | (go_at_call 174; refine (root_i l HD.out j (sib i j) _ _ _ _ rfl (by rw [HSS.out]) (by omega) (by rw [HSS.out]; exact hsok) hv2).mono ?_; rintro e w4 ⟨rfl, hb4⟩; have hown4 := hown.below hb4; have hbb4 := hb.trans (hb4.mono hb.size))
        | (at_builtin; refine app_int hown4 (by omega) hbb4.size rfl rfl rfl rfl ?_; intro v5 w5 hown5 hb5))
      go_roundw
      case rel => exact ⟨j + 1, by omega, by rw [HJ.out]; go_num, by rw [HS.out]; exact hown5, hbb4.trans hb5⟩
      case measure => simp [intOf]; omega
    · obtain rfl : j = lev l.length i := by omega
      rw [HZ.out]
      obtain ⟨wo, rfl⟩ : ∃ wo : World, wo = wr := ⟨_, rfl⟩
      go_wp2
      go_loopw [7, 54] (fun out q wr => ∃ j : Nat, j ≤ (trees 0 l.length).length ∧ q = .int .i64 j ∧ O1 (Value.int .i64) w2.heap.size 3 wr out (sibs l i (lev l.length i) ++ (((trees 0 l.length).take j).eraseIdx (pkIdx l.length i)).map (rootT l)) ∧ Below w2.heap.size w2 wr) (fun _ q _ => (trees 0 l.length).length - (intOf q).toNat)
      case atStart => exact ⟨0, Nat.zero_le _, rfl, by simpa using hown, hb⟩
      case round =>
        obtain ⟨j, hj, rfl, hown1, hb'⟩ := hrel
        by_cases hlt : j < (trees 0 l.length).length
        · obtain ⟨A'', c'', hA, _, _, hc⟩ := HR2.out.below hb'
          cases hA
          obtain ⟨_, _, hA2, hbs, hc⟩ := hc (by omega)
          cases hA2
          obtain ⟨hc1, hc2⟩ := hc j hlt
          clear hc
          obtain ⟨g1, g2, g3⟩ := HTR.out _ (List.getElem_mem hlt)
          have HG := Lib.hid g2; clear g2
          simp only [t1, t2] at hc1 hc2
          have HE := Lib.hid (erase_take (trees 0 l.length) (pkIdx l.length i) j hlt)
          have hle : ((sibs l i (lev l.length i)) ++ (((trees 0 l.length).take j).eraseIdx (pkIdx l.length i)).map (rootT l)).length ≤ 100 := by
            have := List.length_eraseIdx_le ((trees 0 l.length).take j) (pkIdx l.length i)
            simp [sibs] at this ⊢; omega
          have hbw2 := hb12.trans (hb'.mono hb12.size)
          have hv2 := (HV.out.below hbw2).alloc (.cells #[.int .i64 ((trees 0 l.length)[j].1 : Int), .int .i64 ((trees 0 l.length)[j].2 : Int)] 167)
          have hownA := hown1.alloc (.cells #[.int .i64 ((trees 0 l.length)[j].1 : Int), .int .i64 ((trees 0 l.length)[j].2 : Int)] 167)
          have hbA := hb'.alloc hb'.size (.cells #[.int .i64 ((trees 0 l.length)[j].1 : Int), .int .i64 ((trees 0 l.length)[j].2 : Int)] 167)
          have hsz : w2.heap.size ≤ wr.heap.size := hb'.size
          by_cases hk : j = pkIdx l.length i
          · have hkb : ((j : Int) == (pkIdx l.length i : Int)) = true := by simp [hk]
            have hkn : ((j : Int) != (pkIdx l.length i : Int)) = false := by simp [hk]
            have HE' := HE.out
            rw [if_pos hk, List.append_nil] at HE'
            have HE2 := Lib.hid HE'
            clear HE HE' hk
            generalize (trees 0 l.length)[j] = t at *
            go_wp2
            go_roundw
            case rel => exact ⟨j + 1, by omega, by go_num, by rw [HE2.out]; exact hownA, hbA⟩
            case measure => simp [intOf]; omega
          · have hkb : ((j : Int) == (pkIdx l.length i : Int)) = false := by simp; omega
            have hkn : ((j : Int) != (pkIdx l.length i : Int)) = true := by simp; omega
            have HE' := HE.out
            rw [if_neg hk] at HE'
            have HE2 := Lib.hid HE'
            clear HE HE' hk
            generalize (trees 0 l.length)[j] = t at *
            go_wp2_with (first
              | (go_at_call 174; refine (root_i l HD.out t.2.log2 t.1 _ _ _ _ rfl (by rw [HG.out]) g3 (by rw [HG.out]; exact g1) hv2).mono ?_; rintro e w6 ⟨rfl, hb6⟩; have hown6 := hownA.below hb6; have hbb6 := hbA.trans (hb6.mono hbA.size))
              | (at_builtin; refine app_int hown6 (by omega) hbb6.size rfl rfl rfl rfl ?_; intro v7 w7 hown7 hb7))
            go_roundw
            case rel => exact ⟨j + 1, by omega, by go_num, by rw [HE2.out, List.map_append, ← List.append_assoc]; exact hown7, hbb6.trans hb7⟩
            case measure => simp [intOf]; omega
        · obtain rfl : j = (trees 0 l.length).length := by omega
          go_wp2
          go_ret
          exact ⟨_, rfl, by rw [List.take_length] at hown1; exact hown1.mono hb12.size, hb12.trans (hb'.mono hb12.size)⟩
theorem TreeProof_i_no (l : List Int) (i : Int) (v : Value) (w : World) (hv : RI w v l) (hl : (leavesOk l && inB i 0 (l.length - 1)) = false) :
    Calls Tryz.prog 121 #[v, .int .i64 i] w fun e w' => e = .returned (.slice none 0 0) ∧ w = w' := by
  have HV := Lib.hid hv
  have hm := hv.len
  obtain ⟨A, c, rfl, h1, h2, h3⟩ := hv
  unfold maxLen at hm
  clear h3
  cases hx : leavesOk l
  · have HX := Lib.hid hx
    clear hl hx
    go_enter Tryz.func121, Tryz.ntmps121
    go_wp2_with (go_at_call 167; refine (areLeaves_any l _ _ HV.out).mono ?_; rw [HX.out]; rintro e w' ⟨rfl, rfl⟩)
    go_ret
    exact ⟨rfl, rfl⟩
  · rw [hx, Bool.true_and] at hl
    have HX := Lib.hid hx
    have HI := Lib.hid hl
    clear hl hx
    go_enter Tryz.func121, Tryz.ntmps121
    go_wp2_with (first
      | (go_at_call 167; refine (areLeaves_any l _ _ HV.out).mono ?_; rw [HX.out]; rintro e w' ⟨rfl, rfl⟩)
      | (go_at_call 107; refine (within_any _ _ _ _).mono ?_; rw [HI.out]; rintro e w' ⟨rfl, rfl⟩))
    go_ret
    exact ⟨rfl, rfl⟩
theorem TreeProof_i (l : List Int) (i : Int) (v : Value) (w : World) (hv : RI w v l) :
    Calls Tryz.prog 121 #[v, .int .i64 i] w fun e w' => ∃ v', e = .returned v' ∧ O1 (Value.int .i64) w.heap.size 3 w' v' (proofOf l i) ∧ Below w.heap.size w w' := by
  cases h : leavesOk l && inB i 0 (l.length - 1)
  · have hp : proofOf l i = [] := by unfold proofOf; rw [h]; rfl
    rw [hp]
    exact (TreeProof_i_no l i v w hv h).mono fun e w' ⟨he, hw⟩ => by subst hw; exact ⟨_, he, O1.nil _ _ _ _, Below.refl _ _⟩
  · have hp : proofOf l i = proofAt l i.toNat := by unfold proofOf; rw [h]; rfl
    rw [hp]
    rw [Bool.and_eq_true, inB_true] at h
    obtain ⟨h1, h2, h3⟩ := h
    obtain ⟨k, rfl⟩ := Int.eq_ofNat_of_zero_le h2
    exact TreeProof_i_ok l k v w hv h1 (by omega)
end Go.Proofs.YtcplnfmcefkehaaGreat
namespace Go.Proofs.YtcplnfmcefkehaaGreat
open Go.RowKit

theorem l2Peak_any (n i : Nat) (w : World) (hn : n ≤ 16) (hi : i < n) :
    Calls Tryz.prog 157 #[.int .i64 n, .int .i64 i] w fun e w' => e = .returned (.tuple #[.int .i64 ((pkT n i).1 : Nat), .int .i64 ((pkT n i).2 : Nat)]) ∧ w = w' := by
  have HOK := Lib.hid (pkF_ok n (by omega) i hi)
  have HSZ := Lib.hid (pk_ok n (by omega) i hi).2.2.2.2.2.2.2.1
  go_enter Tryz.func157, Tryz.ntmps157
  go_wp2
  go_loop [6] (fun q => ∃ f p : Nat, q = .int .i64 p ∧ p ≤ i ∧ 17 ≤ f + p ∧ Hid (pkF f n i p = (pkT n i).1)) (fun q => 64 - (intOf q).toNat)
  case atStart => exact ⟨17, 0, rfl, by omega, by omega, HOK⟩
  case round =>
    obtain ⟨f, p, rfl, hpi, hf, HF⟩ := hrel
    have hb := sz_bd (show p < n by omega)
    by_cases hc : p + sz p n ≤ i
    · obtain ⟨f, rfl⟩ : ∃ g, f = g + 1 := ⟨f - 1, by omega⟩
      have HG := Lib.hid (pkF_go (f := f) hc)
      obtain ⟨s, HS⟩ : ∃ s, Hid (sz p n = s) := ⟨_, Lib.hid rfl⟩
      rw [HS.out] at hb hc HG
      have hc' : (p : Int) + (s : Int) ≤ i := by omega
      go_wp2_with (go_at_call 159; refine (l2Size_any p n _ (by omega) hn).mono ?_; rw [HS.out]; rintro e w' ⟨rfl, rfl⟩)
      go_round
      case rel => exact ⟨f, p + s, by go_num, by omega, by omega, Lib.hid (by rw [← HG.out, HF.out])⟩
      case measure => simp [intOf]; omega
    · have HG := Lib.hid (pkF_stop hc f)
      obtain ⟨s, HS⟩ : ∃ s, Hid (sz p n = s) := ⟨_, Lib.hid rfl⟩
      rw [HS.out] at hb hc
      have hc' : (i : Int) < (p : Int) + (s : Int) := by omega
      have hc2 : decide ((p : Int) + (s : Int) ≤ i) = false := by simp; omega
      have hp : p = (pkT n i).1 := by rw [← HF.out, HG.out]
      have HP := Lib.hid hp
      clear hp hc
      go_wp2_with (go_at_call 159; refine (l2Size_any p n _ (by omega) hn).mono ?_; rw [HS.out]; rintro e w' ⟨rfl, rfl⟩)
      go_ret2
      refine ⟨?_, rfl⟩
      show Ending.returned (Value.tuple #[.int .i64 (p : Int), .int .i64 (s : Int)]) = _
      rw [HSZ.out, ← HP.out, HS.out]

set_option maxHeartbeats 1600000 in
set_option maxRecDepth 100000 in
theorem TreeProof_s_ok (l : List Int) (i : Nat) (v : Value) (w : World) (hv : RI w v l) (hl : leavesOk l = true) (hi : i < l.length) :
    Calls Tryz.prog 101 #[v, .int .i64 i] w fun e w' => ∃ v', e = .returned v' ∧ O1 (Value.int .i64) w.heap.size 3 w' v' (proofAt l i) ∧ Below w.heap.size w w' := by
  obtain ⟨h16, hd⟩ := leavesOk_true.1 hl
  have HL := Lib.hid hl; clear hl
  have HD := Lib.hid hd; clear hd
  have HV := Lib.hid hv
  obtain ⟨A, c, rfl, h1, h2, h3⟩ := hv
  obtain ⟨b, o, rfl, hb0, _⟩ := h3 (by omega)
  clear h3
  have hc1 := h1.1
  unfold maxLen at h2
  obtain ⟨p1, p2, p3, p4, p5, p6, p7, p8, p9⟩ := pk_ok l.length (by omega) i hi
  have HP2 := Lib.hid p2
  have HP7 := Lib.hid p7
  have HB : Hid (inB i 0 ((l.length : Int) - 1) = true) := Lib.hid (inB_true.2 (by omega))
  clear p2 p7 p8 p9 p4 p5 p6 h1
  have hl16 : 2 ^ lev l.length i ≤ 2 ^ 4 := Nat.pow_le_pow_right (by omega) p3
  obtain ⟨Z, HZ⟩ : ∃ Z, Hid (2 ^ lev l.length i = Z) := ⟨_, Lib.hid rfl⟩
  have HPZ : Hid ((pkT l.length i).2 = Z) := Lib.hid (by rw [HP2.out, HZ.out])
  obtain ⟨pk, HPK⟩ : ∃ p, Hid ((pkT l.length i).1 = p) := ⟨_, Lib.hid rfl⟩
  rw [HZ.out] at hl16
  go_enter Tryz.func101, Tryz.ntmps101
  go_wp2_with (first
    | (go_at_call 154; refine (l2Leaves_any l _ _ (HV.out.alloc _)).mono ?_; rw [HL.out]; rintro e w' ⟨rfl, rfl⟩)
    | (go_at_call 85; refine (l6In_any _ _ _ _).mono ?_; rw [HB.out]; rintro e w' ⟨rfl, rfl⟩)
    | (go_at_call 157; refine (l2Peak_any l.length i _ h16 hi).mono ?_; rw [HPZ.out, HPK.out]; rintro e w' ⟨rfl, rfl⟩))
  go_loopw [5, 9, 10] (fun out q _ wr => ∃ j : Nat, j ≤ lev l.length i ∧ q = .int .i64 ((2 ^ j : Nat) : Int) ∧ O1 (Value.int .i64) w.heap.size 3 wr out (sibs l i j) ∧ Below w.heap.size w wr) (fun _ q _ _ => 64 - (intOf q).toNat)
  case atStart => exact ⟨0, Nat.zero_le _, rfl, O1.made _ _ _, (Below.refl _ _).alloc (Nat.le_refl _) _⟩
  case round =>
    obtain ⟨j, hj, rfl, hown, hb⟩ := hrel
    by_cases hlt : j < lev l.length i
    · have hS1 : 1 ≤ 2 ^ j := Nat.one_le_two_pow
      have hi16 : i ≤ 16 := by omega
      have hS8 : 2 ^ j ≤ 2 ^ 3 := Nat.pow_le_pow_right (by omega) (by omega)
      have hlt' : 2 ^ j < Z := by rw [← HZ.out]; exact Nat.pow_lt_pow_right (by omega) hlt
      have hdm : i / 2 ^ j * 2 ^ j ≤ i := Nat.div_mul_le_self _ _
      have hdv : i / 2 ^ j ≤ i := Nat.div_le_self _ _
      have e1 : (i : Int) / ((2 ^ j : Nat) : Int) = ((i / 2 ^ j : Nat) : Int) := (Int.natCast_ediv _ _).symm
      have e2 : ((i / 2 ^ j : Nat) : Int) * ((2 ^ j : Nat) : Int) = ((i / 2 ^ j * 2 ^ j : Nat) : Int) := (Int.natCast_mul _ _).symm
      have e3 : ((i / 2 ^ j * 2 ^ j : Nat) : Int) / ((2 ^ j : Nat) : Int) = ((i / 2 ^ j : Nat) : Int) := by rw [← Int.natCast_ediv, div_step i (by omega) j (by omega)]
      have hsok := sib_ok l.length (by omega) i hi j hlt
      have HS := Lib.hid (sibs_snoc l i j)
      have HJ : Hid ((2 ^ (j + 1) : Nat) = 2 ^ j * 2) := Lib.hid (Nat.pow_succ 2 j)
      have hsd : sib i j = if i / 2 ^ j % 2 = 0 then i / 2 ^ j * 2 ^ j + 2 ^ j else i / 2 ^ j * 2 ^ j - 2 ^ j := rfl
      have hge : ¬ i / 2 ^ j % 2 = 0 → 2 ^ j ≤ i / 2 ^ j * 2 ^ j := fun h => Nat.le_mul_of_pos_left _ (Nat.pos_of_ne_zero fun h0 => h (by rw [h0]))
      have HT : Hid (digs ((l.drop (sib i j)).take (2 ^ j)) = true) := Lib.hid (digs_take (digs_drop HD.out _) _)
      have HLN : Hid (((l.drop (sib i j)).take (2 ^ j)).length = 2 ^ j) := Lib.hid (by simp; omega)
      have HR : Hid (rootN ((l.drop (sib i j)).take (2 ^ j)) j 0 = rootN l j (sib i j)) := Lib.hid (by rw [rootN_take _ _ (by omega), rootN_drop, Nat.add_zero])
      have hrd := R1.take (R1.drop (HV.out.below hb) (m := sib i j) (by omega)) (m := 2 ^ j) (by simp; omega)
      have hlS : (sibs l i j).length = j := by simp [sibs]
      generalize (l.drop (sib i j)).take (2 ^ j) = lt at *
      generalize hS : 2 ^ j = S at *
      have HSS := Lib.hid hS
      clear hS
      generalize hD : i / S = D at *
      generalize hM : D * S = M at *
      clear hD hM
      by_cases hpar : D % 2 = 0
      · have hpi : (D : Int) % 2 = 0 := by omega
        rw [if_pos hpar] at hsd
        generalize sib i j = sb at *
        have e4 : (M : Int) + (S : Int) = (sb : Int) := by omega
        clear hsd hpar hge
        go_wp2_with (first
          | (go_at_call 158; refine (l2Root_k j lt _ _ HT.out (by omega) (by rw [HSS.out]; exact HLN.out) hrd).mono ?_; rw [HR.out]; rintro e w4 ⟨rfl, hb4⟩; have hown4 := hown.below hb4; have hbb4 := hb.trans (hb4.mono hb.size))
          | (at_builtin; refine app_int hown4 (by omega) hbb4.size rfl rfl rfl rfl ?_; intro v5 w5 hown5 hb5))
        go_roundw
        case rel => exact ⟨j + 1, by omega, by rw [HJ.out]; go_num, by rw [HS.out]; exact hown5, hbb4.trans hb5⟩
        case measure => simp [intOf]; omega
      · have hpi : ((D : Int) % 2 == 0) = false := by simp; omega
        rw [if_neg hpar] at hsd
        have hge2 := hge hpar
        generalize sib i j = sb at *
        have e4 : (M : Int) - (S : Int) = (sb : Int) := by omega
        clear hsd hpar hge
        go_wp2_with (first
          | (go_at_call 158; refine (l2Root_k j lt _ _ HT.out (by omega) (by rw [HSS.out]; exact HLN.out) hrd).mono ?_; rw [HR.out]; rintro e w4 ⟨rfl, hb4⟩; have hown4 := hown.below hb4; have hbb4 := hb.trans (hb4.mono hb.size))
          | (at_builtin; refine app_int hown4 (by omega) hbb4.size rfl rfl rfl rfl ?_; intro v5 w5 hown5 hb5))
        go_roundw
        case rel => exact ⟨j + 1, by omega, by rw [HJ.out]; go_num, by rw [HS.out]; exact hown5, hbb4.trans hb5⟩
        case measure => simp [intOf]; omega
    · obtain rfl : j = lev l.length i := by omega
      rw [HZ.out]
      go_wp2
      go_loopw [5, 11] (fun out q wr => ∃ (p : Nat) (l1 : List Int), p ≤ l.length ∧ q = .int .i64 p ∧ O1 (Value.int .i64) w.heap.size 3 wr out l1 ∧ l1.length ≤ 100 ∧
        Hid (l1 ++ (othersFrom l.length i p).map (rootT l) = proofAt l i) ∧ Below w.heap.size w wr) (fun _ q _ => l.length - (intOf q).toNat)
      case atStart => exact ⟨0, _, Nat.zero_le _, rfl, hown, by simp [sibs]; omega, Lib.hid (by unfold proofAt others; rw [HP7.out]; rfl), hb⟩
      case round =>
        obtain ⟨p, l1, hpl, rfl, hown1, hl1, HX, hb1⟩ := hrel
        by_cases hlt : p < l.length
        · obtain ⟨hs1, hs2⟩ := sz_bd hlt
          have HST := Lib.hid (othersFrom_step (i := i) hlt h16)
          have hmem : (p, sz p l.length) ∈ trees p l.length := by rw [trees_cons hlt h16]; simp
          obtain ⟨g1, g2, g3⟩ := trees_ok l.length (by omega) p (by omega) _ hmem
          have HTD := Lib.hid (digs_take (digs_drop HD.out p) (sz p l.length))
          have HR : Hid (rootN ((l.drop p).take (sz p l.length)) (sz p l.length).log2 0 = rootT l (p, sz p l.length)) := Lib.hid (by rw [rootN_take _ _ (by simp only at g2; omega), rootN_drop, Nat.add_zero]; rfl)
          have HLL : Hid (((l.drop p).take (sz p l.length)).length = 2 ^ (sz p l.length).log2) := Lib.hid (by simp only at g2; rw [g2]; simp; omega)
          have hrd := R1.take (R1.drop (HV.out.below hb1) (m := p) (by omega)) (m := sz p l.length) (by simp; omega)
          simp only at g1 g3
          clear hmem g2
          rw [HPK.out] at HST
          generalize (sz p l.length).log2 = lg at *
          generalize (l.drop p).take (sz p l.length) = lt at *
          generalize hr : rootT l (p, sz p l.length) = rt at *
          have HRT := Lib.hid hr
          clear hr
          generalize hs : sz p l.length = s at *
          have HSZ := Lib.hid hs
          clear hs
          by_cases hk : p = pk
          · have hkb : ((p : Int) == (pk : Int)) = true := by simp [hk]
            have hkn : ((p : Int) != (pk : Int)) = false := by simp [hk]
            have HS2 := HST.out
            rw [if_pos hk] at HS2
            have HS3 := Lib.hid HS2
            clear HS2 HST hk
            go_wp2_with (go_at_call 159; refine (l2Size_any p l.length _ (by omega) h16).mono ?_; rw [HSZ.out]; rintro e w' ⟨rfl, rfl⟩)
            go_roundw
            case rel => exact ⟨p + s, l1, by omega, by go_num, hown1, hl1, Lib.hid (by rw [← HX.out, HS3.out]; rfl), hb1⟩
            case measure => simp [intOf]; omega
          · have hkb : ((p : Int) == (pk : Int)) = false := by simp; omega
            have hkn : ((p : Int) != (pk : Int)) = true := by simp; omega
            have HS2 := HST.out
            rw [if_neg hk] at HS2
            have HS3 := Lib.hid HS2
            have hl2 : (othersFrom l.length i p).length ≤ 17 := others_len _ _ _
            have hl3 : l1.length + (othersFrom l.length i p).length = (proofAt l i).length := by rw [← HX.out]; simp
            have hl4 : (proofAt l i).length ≤ 40 := by
              have := others_len l.length i 0
              unfold proofAt others; rw [HP7.out]; simp [sibs]; unfold othersFrom at this; omega
            clear HS2 HST hk
            go_wp2_with (first
              | (go_at_call 159; refine (l2Size_any p l.length _ (by omega) h16).mono ?_; rw [HSZ.out]; rintro e w' ⟨rfl, rfl⟩)
              | (go_at_call 158; refine (l2Root_k lg lt _ _ HTD.out g3 HLL.out hrd).mono ?_; rw [HR.out]; rintro e w4 ⟨rfl, hb4⟩; have hown4 := hown1.below hb4; have hbb4 := hb1.trans (hb4.mono hb1.size))
              | (at_builtin; refine app_int hown4 (by omega) hbb4.size rfl rfl rfl rfl ?_; intro v5 w5 hown5 hb5))
            go_roundw
            case rel => exact ⟨p + s, l1 ++ [rt], by omega, by go_num, hown5, by simp; omega, Lib.hid (by rw [← HX.out, HS3.out, List.map_append, ← List.append_assoc, ← HRT.out]; rfl), hbb4.trans hb5⟩
            case measure => simp [intOf]; omega
        · have hz := othersFrom_nil (i := i) (show l.length ≤ p by omega)
          have HXX := HX.out
          rw [hz, List.map_nil, List.append_nil] at HXX
          have HX2 := Lib.hid HXX
          clear HXX hz
          go_wp2
          go_ret
          exact ⟨_, rfl, by rw [← HX2.out]; exact hown1, hb1⟩
theorem TreeProof_s_no (l : List Int) (i : Int) (v : Value) (w : World) (hv : RI w v l) (hl : (leavesOk l && inB i 0 (l.length - 1)) = false) :
    Calls Tryz.prog 101 #[v, .int .i64 i] w fun e w' => ∃ v', e = .returned v' ∧ O1 (Value.int .i64) w.heap.size 3 w' v' [] ∧ Below w.heap.size w w' := by
  have HV := Lib.hid hv
  have hm := hv.len
  obtain ⟨A, c, rfl, h1, h2, h3⟩ := hv
  unfold maxLen at hm
  clear h3
  cases hx : leavesOk l
  · have HX := Lib.hid hx
    clear hl hx
    go_enter Tryz.func101, Tryz.ntmps101
    go_wp2_with (go_at_call 154; refine (l2Leaves_any l _ _ (HV.out.alloc _)).mono ?_; rw [HX.out]; rintro e w' ⟨rfl, rfl⟩)
    go_ret
    exact ⟨_, rfl, O1.made _ _ _, (Below.refl _ _).alloc (Nat.le_refl _) _⟩
  · rw [hx, Bool.true_and] at hl
    have HX := Lib.hid hx
    have HI := Lib.hid hl
    clear hl hx
    go_enter Tryz.func101, Tryz.ntmps101
    go_wp2_with (first
      | (go_at_call 154; refine (l2Leaves_any l _ _ (HV.out.alloc _)).mono ?_; rw [HX.out]; rintro e w' ⟨rfl, rfl⟩)
      | (go_at_call 85; refine (l6In_any _ _ _ _).mono ?_; rw [HI.out]; rintro e w' ⟨rfl, rfl⟩))
    go_ret
    exact ⟨_, rfl, O1.made _ _ _, (Below.refl _ _).alloc (Nat.le_refl _) _⟩
theorem TreeProof_s (l : List Int) (i : Int) (v : Value) (w : World) (hv : RI w v l) :
    Calls Tryz.prog 101 #[v, .int .i64 i] w fun e w' => ∃ v', e = .returned v' ∧ O1 (Value.int .i64) w.heap.size 3 w' v' (proofOf l i) ∧ Below w.heap.size w w' := by
  cases h : leavesOk l && inB i 0 (l.length - 1)
  · have hp : proofOf l i = [] := by unfold proofOf; rw [h]; rfl
    rw [hp]
    exact TreeProof_s_no l i v w hv h
  · have hp : proofOf l i = proofAt l i.toNat := by unfold proofOf; rw [h]; rfl
    rw [hp]
    rw [Bool.and_eq_true, inB_true] at h
    obtain ⟨h1, h2, h3⟩ := h
    obtain ⟨k, rfl⟩ := Int.eq_ofNat_of_zero_le h2
    exact TreeProof_s_ok l k v w hv h1 (by omega)
end Go.Proofs.YtcplnfmcefkehaaGreat
namespace Go.Proofs.YtcplnfmcefkehaaGreat
open Go.RowKit

set_option maxHeartbeats 1600000 in
set_option maxRecDepth 100000 in
theorem l2Check_any (dg leaf : Int) (n i : Nat) (l : List Int) (v : Value) (w : World) (hv : RI w v l) (hn : n ≤ 16) (hi : i < n) (hlf : dig leaf = true) (hd : digs l = true) :
    Calls Tryz.prog 207 #[.int .i64 dg, .int .i64 n, .int .i64 i, .int .i64 leaf, v] w fun e w' => e = .returned (.bool (checkAt dg n i leaf l)) ∧ w = w' := by
  have HLF := Lib.hid hlf; clear hlf
  have HD := Lib.hid hd; clear hd
  have hm := hv.len
  obtain ⟨A, c, rfl, h1, h2, h3⟩ := hv
  unfold maxLen at hm
  obtain ⟨p1, p2, p3, p4, p5, p6, p7, p8, p9⟩ := pk_ok n (by omega) i hi
  have HP2 := Lib.hid p2
  clear p2 p7 p8 p9 p4 p5 p6 h1
  have hl16 : 2 ^ lev n i ≤ 2 ^ 4 := Nat.pow_le_pow_right (by omega) p3
  obtain ⟨Z, HZ⟩ : ∃ Z, Hid (2 ^ lev n i = Z) := ⟨_, Lib.hid rfl⟩
  have HPZ : Hid ((pkT n i).2 = Z) := Lib.hid (by rw [HP2.out, HZ.out])
  obtain ⟨pk, HPK⟩ : ∃ p, Hid ((pkT n i).1 = p) := ⟨_, Lib.hid rfl⟩
  rw [HZ.out] at hl16
  go_enter Tryz.func207, Tryz.ntmps207
  go_wp2_with (go_at_call 157; refine (l2Peak_any n i _ hn hi).mono ?_; rw [HPZ.out, HPK.out]; rintro e w' ⟨rfl, rfl⟩)
  go_loop [13, 14, 15] (fun r u q => ∃ j : Nat, j ≤ lev n i ∧ j ≤ l.length ∧ q = .int .i64 ((2 ^ j : Nat) : Int) ∧ u = .int .i64 j ∧ r = .int .i64 (pathR i 0 leaf (l.take j))) (fun _ _ q => 64 - (intOf q).toNat)
  case atStart => exact ⟨0, Nat.zero_le _, Nat.zero_le _, rfl, rfl, rfl⟩
  case round =>
    obtain ⟨j, hj, hjl, rfl, rfl, rfl⟩ := hrel
    by_cases hlt : j < lev n i
    · have hS1 : 1 ≤ 2 ^ j := Nat.one_le_two_pow
      have hS8 : 2 ^ j ≤ 2 ^ 3 := Nat.pow_le_pow_right (by omega) (by omega)
      have hlt' : 2 ^ j < Z := by rw [← HZ.out]; exact Nat.pow_lt_pow_right (by omega) hlt
      have hdv : i / 2 ^ j ≤ i := Nat.div_le_self _ _
      have e1 : (i : Int) / ((2 ^ j : Nat) : Int) = ((i / 2 ^ j : Nat) : Int) := (Int.natCast_ediv _ _).symm
      have HJ : Hid ((2 ^ (j + 1) : Nat) = 2 ^ j * 2) := Lib.hid (Nat.pow_succ 2 j)
      by_cases hend : j = l.length
      · have hcs : checkAt dg n i leaf l = false := check_short _ _ _ (by omega)
        have HC := Lib.hid hcs
        clear hcs
        generalize hS : 2 ^ j = S at *
        clear hS HJ e1 hdv
        have hje : ((j : Int) == (l.length : Int)) = true := by simp [hend]
        go_wp2
        go_ret
        exact ⟨retb HC.out.symm, rfl⟩
      · have hjl' : j < l.length := by omega
        obtain ⟨b, o, rfl, hb, hc⟩ := h3 (by omega)
        have hcell := hc j hjl'
        have HS := Lib.hid (pathR_snoc i (l.take j) 0 leaf l[j])
        have HT := Lib.hid (take_snocI hjl')
        have HDX := Lib.hid (digs_get HD.out hjl')
        have HDR := Lib.hid (pathR_dig i (l.take j) 0 leaf HLF.out)
        have hlj : (l.take j).length = j := by simp; omega
        have HLJ := Lib.hid hlj
        have hje : ((j : Int) == (l.length : Int)) = false := by simp; omega
        clear hc h3 hlj
        have HST : Hid (pathR i 0 leaf (l.take (j + 1)) = if i / 2 ^ j % 2 = 0 then pair (pathR i 0 leaf (l.take j)) l[j] else pair l[j] (pathR i 0 leaf (l.take j))) :=
          Lib.hid (by rw [HT.out, HS.out, HLJ.out, Nat.zero_add])
        clear HS HT HLJ
        generalize pathR i 0 leaf (l.take j) = r at *
        generalize l[j] = x at *
        generalize hS : 2 ^ j = S at *
        have HSS := Lib.hid hS
        clear hS
        generalize i / S = D at *
        by_cases hpar : D % 2 = 0
        · have hpi : (D : Int) % 2 = 0 := by omega
          have HX : Hid (pathR i 0 leaf (l.take (j + 1)) = pair r x) := Lib.hid (by rw [HST.out, if_pos hpar])
          clear HST hpar
          go_wp2_with (go_at_call 197; refine (l1Pair_any _ _ _ HDR.out HDX.out).mono ?_; rintro e w' ⟨rfl, rfl⟩)
          go_round
          case rel => exact ⟨j + 1, by omega, by omega, by rw [HJ.out]; go_num, by go_num, by rw [HX.out]⟩
          case measure => simp [intOf]; omega
        · have hpi : ((D : Int) % 2 == 0) = false := by simp; omega
          have HX : Hid (pathR i 0 leaf (l.take (j + 1)) = pair x r) := Lib.hid (by rw [HST.out, if_neg hpar])
          clear HST hpar
          go_wp2_with (go_at_call 197; refine (l1Pair_any _ _ _ HDX.out HDR.out).mono ?_; rintro e w' ⟨rfl, rfl⟩)
          go_round
          case rel => exact ⟨j + 1, by omega, by omega, by rw [HJ.out]; go_num, by go_num, by rw [HX.out]⟩
          case measure => simp [intOf]; omega
    · obtain rfl : j = lev n i := by omega
      have HCK := Lib.hid (check_run2 hn hi dg leaf l hjl)
      have HDR := Lib.hid (pathR_dig i (l.take (lev n i)) 0 leaf HLF.out)
      have hdn : dig (n : Int) = true := dig_true.2 (by omega)
      have HDN := Lib.hid hdn
      clear hdn
      rw [HZ.out]
      generalize pathR i 0 leaf (l.take (lev n i)) = r at *
      go_wp2
      go_loop [14, 16, 17] (fun u t q => ∃ (p used : Nat) (out : Int), p ≤ n ∧ used ≤ l.length ∧ q = .int .i64 p ∧ u = .int .i64 used ∧ t = .int .i64 out ∧ Hid (dig out = true) ∧
        Hid (run2 dg r (flags n i p) out (l.drop used) = checkAt dg n i leaf l)) (fun _ _ q => n - (intOf q).toNat)
      case atStart => exact ⟨0, lev n i, n, Nat.zero_le _, hjl, rfl, rfl, rfl, HDN, HCK⟩
      case round =>
        obtain ⟨p, used, out, hpn, hul, rfl, rfl, rfl, HDO, HX⟩ := hrel
        by_cases hlt : p < n
        · obtain ⟨hs1, hs2⟩ := sz_bd hlt
          have HF := Lib.hid (flags_cons (i := i) hlt hn)
          rw [HPK.out] at HF
          generalize hs : sz p n = s at *
          have HSZ := Lib.hid hs
          clear hs
          by_cases hk : p = pk
          · have hkb : ((p : Int) == (pk : Int)) = true := by simp [hk]
            have HF2 : Hid (flags n i p = true :: flags n i (p + s)) := Lib.hid (by rw [HF.out]; simp [hk])
            clear HF hk
            go_wp2_with (first
              | (go_at_call 159; refine (l2Size_any p n _ (by omega) hn).mono ?_; rw [HSZ.out]; rintro e w' ⟨rfl, rfl⟩)
              | (go_at_call 197; refine (l1Pair_any _ _ _ HDO.out HDR.out).mono ?_; rintro e w' ⟨rfl, rfl⟩))
            go_round
            case rel => exact ⟨p + s, used, _, by omega, hul, by go_num, rfl, rfl, Lib.hid (pair_dig _ _), Lib.hid (by rw [← HX.out, HF2.out]; rfl)⟩
            case measure => simp [intOf]; omega
          · have hkb : ((p : Int) == (pk : Int)) = false := by simp; omega
            have HF2 : Hid (flags n i p = false :: flags n i (p + s)) := Lib.hid (by rw [HF.out]; simp [hk])
            clear HF hk
            by_cases hend : used = l.length
            · have hue : ((used : Int) == (l.length : Int)) = true := by simp [hend]
              have hcs : checkAt dg n i leaf l = false := by rw [← HX.out, HF2.out, hend, List.drop_length]; rfl
              have HC := Lib.hid hcs
              clear hcs
              go_wp2
              go_ret
              exact ⟨retb HC.out.symm, rfl⟩
            · have hue : ((used : Int) == (l.length : Int)) = false := by simp; omega
              have hul' : used < l.length := by omega
              obtain ⟨b, o, rfl, hb, hc⟩ := h3 (by omega)
              have hcell := hc used hul'
              have HDX := Lib.hid (digs_get HD.out hul')
              have HDP : Hid (l.drop used = l[used] :: l.drop (used + 1)) := Lib.hid (List.drop_eq_getElem_cons hul')
              clear hc h3
              generalize l[used] = x at *
              go_wp2_with (first
                | (go_at_call 159; refine (l2Size_any p n _ (by omega) hn).mono ?_; rw [HSZ.out]; rintro e w' ⟨rfl, rfl⟩)
                | (go_at_call 197; refine (l1Pair_any _ _ _ HDO.out HDX.out).mono ?_; rintro e w' ⟨rfl, rfl⟩))
              go_round
              case rel => exact ⟨p + s, used + 1, _, by omega, by omega, by go_num, by go_num, rfl, Lib.hid (pair_dig _ _), Lib.hid (by rw [← HX.out, HF2.out, HDP.out]; rfl)⟩
              case measure => simp [intOf]; omega
        · have hf := flags_nil (i := i) (show n ≤ p by omega)
          have HX2 := HX.out
          rw [hf] at HX2
          have HX3 := Lib.hid HX2
          clear HX2 hf
          by_cases hend : used = l.length
          · have hue : ((used : Int) == (l.length : Int)) = true := by simp [hend]
            have HX4 : Hid (checkAt dg n i leaf l = (out == dg)) := Lib.hid (by rw [← HX3.out, hend, List.drop_length]; rfl)
            clear hend
            go_wp2
            go_ret
            exact ⟨retb HX4.out.symm, rfl⟩
          · have hue : ((used : Int) == (l.length : Int)) = false := by simp; omega
            have HX4 : Hid (checkAt dg n i leaf l = false) := Lib.hid (by
              rw [← HX3.out, List.drop_eq_getElem_cons (show used < l.length by omega)]; rfl)
            clear hend
            go_wp2
            go_ret
            exact ⟨retb HX4.out.symm, rfl⟩
end Go.Proofs.YtcplnfmcefkehaaGreat
