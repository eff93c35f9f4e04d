/- Walks: peaks of a leaf; proofs. -/
import Derived.Test.YtlhiabnablbkpaaWe
import Derived.Test.YtlhiabnablbkpaaWf
import Derived.Laws.BitsAllLaws
import Derived.Laws.BitsLemmas
namespace Go.Proofs.Ytlhiabnablbkpaa
open Go.RowKit

theorem TreeDigest_s (l : List Int) (v : Value) (w : World) (hv : RI w v l) :
    Calls Try.prog 134 #[v] w fun e w' => e = .returned (.int .i64 (treeD l)) ∧ Below w.heap.size w w' := by
  cases hl : leavesOk l
  · have ht : treeD l = -1 := by unfold treeD; rw [hl]; rfl
    have HT := Lib.hid ht; clear ht
    have HL := Lib.hid hl; clear hl
    have HV := Lib.hid hv
    obtain ⟨A, c, rfl, h1, h2, h3⟩ := hv
    clear h3
    go_enter Try.func134, Try.ntmps134
    go_wp2_with (go_at_call 136; refine (l2Leaves_any l _ _ HV.out).mono ?_; rw [HL.out]; rintro e w' ⟨rfl, rfl⟩)
    go_ret
    exact ⟨reti HT.out.symm, Below.refl _ _⟩
  · have ht : treeD l = fold l.length (coverOf l 0) := by unfold treeD; rw [hl]; rfl
    have HT := Lib.hid ht; clear ht
    obtain ⟨h16, hd⟩ := leavesOk_true.1 hl
    have HL := Lib.hid hl; clear hl
    have HP : Hid (digs (coverOf l 0) = true) := Lib.hid (peaks_dig hd h16)
    have HD := Lib.hid hd
    have hd16 : dig (l.length : Int) = true := dig_true.2 (by omega)
    have HV := Lib.hid hv
    obtain ⟨A, c, rfl, h1, h2, h3⟩ := hv
    clear h3 hd
    have HDG := Lib.hid hd16; clear hd16
    go_enter Try.func134, Try.ntmps134
    go_wp2_with (first
      | (go_at_call 136; refine (l2Leaves_any l _ _ HV.out).mono ?_; rw [HL.out]; rintro e w' ⟨rfl, rfl⟩)
      | (go_at_call 152; refine (l2Cover_any l 0 _ _ HD.out h16 (by omega) HV.out).mono ?_; rintro e w1 ⟨v1, rfl, ho1, hb1⟩)
      | (go_at_call 155; refine (l2Fold_any _ _ _ _ HDG.out HP.out ho1.r1).mono ?_; rintro e w2 ⟨rfl, rfl⟩))
    go_ret
    exact ⟨reti HT.out.symm, hb1⟩

theorem findIdx_ge {α : Type} {p : α → Bool} {l : List α} {k : Nat} (hk : k < l.length) (h : k ≤ l.findIdx p) (hp : p l[k] = false) : k + 1 ≤ l.findIdx p := by
  rcases Nat.lt_or_ge k (l.findIdx p) with h1 | h1
  · exact h1
  · have he : l.findIdx p = k := by omega
    have hlt : l.findIdx p < l.length := by omega
    have h2 : p l[l.findIdx p] = true := List.findIdx_getElem
    simp only [he] at h2
    rw [hp] at h2; cases h2
theorem findIdx_le {α : Type} {p : α → Bool} {l : List α} {k : Nat} (hk : k < l.length) (h : k ≤ l.findIdx p) (hp : p l[k] = true) : l.findIdx p = k := by
  rcases Nat.lt_or_ge k (l.findIdx p) with h1 | h1
  · exact absurd hp (by simpa using List.not_of_lt_findIdx h1)
  · omega
theorem peakOf_any (ts : List (Nat × Nat)) (i : Nat) (v : Value) (w : World) (hv : RT w v ts) (hb9 : ∀ t ∈ ts, t.1 + t.2 ≤ 1000) (hf : ts.findIdx (fun t => decide (i < t.1 + t.2)) < ts.length) (hi : i ≤ 1000) :
    Calls Try.prog 90 #[v, .int .i64 i] w fun e w' => e = .returned (.int .i64 ((ts.findIdx (fun t => decide (i < t.1 + t.2)) : Nat) : Int)) ∧ Below w.heap.size w w' := by
  have HB := Lib.hid hb9; clear hb9
  have HV := Lib.hid hv
  have hl := hv.len
  obtain ⟨A, c, rfl, h1, h2, h3⟩ := hv
  unfold maxLen at hl h2
  clear h3
  have HF : Hid (∃ f, f = ts.findIdx (fun t => decide (i < t.1 + t.2)) ∧ f < ts.length) := Lib.hid ⟨_, rfl, hf⟩
  clear hf
  go_enter Try.func90, Try.ntmps90
  go_wp2
  go_loopw [9] (fun q wr => ∃ k : Nat, k < ts.length ∧ q = .int .i64 k ∧ Hid (k ≤ ts.findIdx (fun t => decide (i < t.1 + t.2))) ∧ Below w.heap.size w wr) (fun q _ => ts.length - (intOf q).toNat)
  case atStart => exact ⟨0, by obtain ⟨f, _, h⟩ := HF.out; omega, rfl, Lib.hid (Nat.zero_le _), Below.refl _ _⟩
  case round =>
    obtain ⟨k, hlt, rfl, HK, hb⟩ := hrel
    obtain ⟨A', c', hA, _, _, hc⟩ := HV.out.below hb
    cases hA
    obtain ⟨b, o, rfl, hbs, hc⟩ := hc (by omega)
    obtain ⟨hc1, hc2⟩ := hc k hlt
    have hbd := HB.out _ (List.getElem_mem hlt)
    simp only [t1, t2] at hc1 hc2
    clear hc
    by_cases hx : i < ts[k].1 + ts[k].2
    · have hx' : (i : Int) < (ts[k].1 : Int) + ts[k].2 := by omega
      have HE := Lib.hid (findIdx_le hlt HK.out (by simpa using hx))
      clear hx
      generalize ts[k] = t at *
      go_wp2
      go_ret
      exact ⟨reti (by rw [HE.out]), below_alloc hb _⟩
    · have hx' : ¬ (i : Int) < (ts[k].1 : Int) + ts[k].2 := by omega
      have HE := Lib.hid (findIdx_ge hlt HK.out (by simpa using hx))
      have hlt2 : k + 1 < ts.length := by obtain ⟨f, hf1, hf2⟩ := HF.out; have := HE.out; omega
      clear hx
      generalize ts[k] = t at *
      go_wp2
      go_roundw
      case rel => exact ⟨k + 1, hlt2, by go_num, HE, below_alloc hb _⟩
      case measure => simp [intOf]; omega

theorem peakOf_n (n i : Nat) (v : Value) (w : World) (hv : RT w v (trees 0 n)) (hn : n ≤ 16) (hi : i < n) :
    Calls Try.prog 90 #[v, .int .i64 i] w fun e w' => e = .returned (.int .i64 (pkIdx n i : Nat)) ∧ Below w.heap.size w w' :=
  peakOf_any (trees 0 n) i v w hv (fun t ht => by have := (trees_ok n (by omega) 0 (by omega) t ht).1; omega) (pk_ok n (by omega) i hi).1 (by omega)
theorem pkT_get {n i : Nat} (h : pkIdx n i < (trees 0 n).length) : (trees 0 n)[pkIdx n i] = pkT n i := by
  unfold pkT; rw [List.getD_eq_getElem?_getD, List.getElem?_eq_getElem h]; rfl

theorem ofInt_nat (a : Nat) (ha : a < 9223372036854775808) : (BitVec.ofInt 64 (a : Int)).toNat = a := by
  rw [BitVec.ofInt_natCast, BitVec.toNat_ofNat]; exact Nat.mod_eq_of_lt (by omega)
theorem xor_nat (a b : Nat) (ha : a < 65536) (hb : b < 65536) : bits .xor .i64 (a : Int) (b : Int) = ((a ^^^ b : Nat) : Int) := by
  have hx : a ^^^ b < 2 ^ 16 := Nat.xor_lt_two_pow (by omega) (by omega)
  show IntKind.i64.wrap ((BitVec.ofInt 64 (a : Int) ^^^ BitVec.ofInt 64 (b : Int)).toNat : Int) = _
  rw [BitVec.toNat_xor, ofInt_nat a (by omega), ofInt_nat b (by omega), IntKind.wrap_i64]
  omega
theorem and_nat (a b : Nat) (ha : a < 65536) (hb : b < 65536) : bits .and .i64 (a : Int) (b : Int) = ((a &&& b : Nat) : Int) := by
  have hx : a &&& b < 2 ^ 16 := Nat.and_lt_two_pow _ (by omega)
  show IntKind.i64.wrap ((BitVec.ofInt 64 (a : Int) &&& BitVec.ofInt 64 (b : Int)).toNat : Int) = _
  rw [BitVec.toNat_and, ofInt_nat a (by omega), ofInt_nat b (by omega), IntKind.wrap_i64]
  omega

set_option maxHeartbeats 800000 in
set_option maxRecDepth 100000 in
theorem TreeProof_i_ok (l : List Int) (i : Nat) (v : Value) (w : World) (hv : RI w v l) (hl : leavesOk l = true) (hi : i < l.length) :
    Calls Try.prog 73 #[v, .int .i64 i] w fun e w' => ∃ v', e = .returned v' ∧ O1 (Value.int .i64) w.heap.size 3 w' v' (proofAt l i) ∧ Below w.heap.size w w' := by
  obtain ⟨h16, hd⟩ := leavesOk_true.1 hl
  have HL := Lib.hid hl; clear hl
  have HD := Lib.hid hd; clear hd
  have HV := Lib.hid hv
  obtain ⟨A, c, rfl, h1, h2, h3⟩ := hv
  clear h3
  obtain ⟨p1, p2, p3, p4, p5, p6, p7, p8, p9⟩ := pk_ok l.length (by omega) i hi
  have HP2 := Lib.hid p2
  have HP7 := Lib.hid p7
  have HB : Hid (inB i 0 ((l.length : Int) - 1) = true) := Lib.hid (inB_true.2 (by omega))
  have HTR := Lib.hid (trees_ok l.length (by omega) 0 (by omega))
  have hTL := trees_len 0 l.length
  clear p2 p7 p8 p9 p4 p5 p6
  go_enter Try.func73, Try.ntmps73
  go_wp2_with (first
    | (go_at_call 94; refine (areLeaves_any l _ _ HV.out).mono ?_; rw [HL.out]; rintro e w' ⟨rfl, rfl⟩)
    | (go_at_call 72; refine (within_any _ _ _ _).mono ?_; rw [HB.out]; rintro e w' ⟨rfl, rfl⟩)
    | (go_at_call 89; refine (treesFrom_any 0 l.length _ (by omega) h16).mono ?_; rintro e w1 ⟨v1, rfl, ho1, hb1⟩)
    | (go_at_call 90; refine (peakOf_n l.length i _ _ ho1.r2 h16 hi).mono ?_; rintro e w2 ⟨rfl, hb2⟩))
  have HR2 := Lib.hid (ho1.r2.below hb2)
  have hb12 := below_bb hb1 hb2
  obtain ⟨A', c', rfl, k1, k2, k3⟩ := id HR2.out
  obtain ⟨b', o', rfl, kb, kc⟩ := k3 (by omega)
  have hl16 : 2 ^ lev l.length i ≤ 2 ^ 4 := Nat.pow_le_pow_right (by omega) p3
  obtain ⟨Z, HZ⟩ : ∃ Z, Hid (2 ^ lev l.length i = Z) := ⟨_, Lib.hid rfl⟩
  have kc2 : w2.cell? ⟨b', o' + pkIdx l.length i * 2 + 1, none⟩ = some (.int .i64 (Z : Int)) := by
    rw [(kc _ p1).2, pkT_get p1, ← HZ.out, ← HP2.out]; rfl
  rw [HZ.out] at hl16
  unfold maxLen at k2 h2
  clear kc k3
  go_loopw [7, 8] (fun out q wr => ∃ j : Nat, j ≤ lev l.length i ∧ q = .int .i64 ((2 ^ j : Nat) : Int) ∧ O1 (Value.int .i64) w2.heap.size 3 wr out (sibs l i j) ∧ Below w2.heap.size w2 wr) (fun _ q _ => 64 - (intOf q).toNat)
  case atStart => exact ⟨0, Nat.zero_le _, rfl, O1.made _ _ _, (Below.refl _ _).alloc (Nat.le_refl _) _⟩
  case round =>
    obtain ⟨j, hj, rfl, hown, hb⟩ := hrel
    have kc3 : wr.cell? ⟨b', o' + pkIdx l.length i * 2 + 1, none⟩ = some (.int .i64 (Z : Int)) := (hb.cell kb).trans kc2
    by_cases hlt : j < lev l.length i
    · have hS1 : 1 ≤ 2 ^ j := Nat.one_le_two_pow
      have hi16 : i ≤ 16 := by omega
      have hS8 : 2 ^ j ≤ 2 ^ 3 := Nat.pow_le_pow_right (by omega) (by omega)
      have hlt' : 2 ^ j < Z := by rw [← HZ.out]; exact Nat.pow_lt_pow_right (by omega) hlt
      have hdm : i / 2 ^ j * 2 ^ j ≤ i := Nat.div_mul_le_self _ _
      have hdv : i / 2 ^ j ≤ i := Nat.div_le_self _ _
      have hxor : bits .xor .i64 ((i : Int) / ((2 ^ j : Nat) : Int) * ((2 ^ j : Nat) : Int)) ((2 ^ j : Nat) : Int) = ((sib i j : Nat) : Int) := by
        rw [← sib_xor i (by omega) j (by omega), ← xor_nat _ _ (by omega) (by omega), Int.natCast_mul, Int.natCast_ediv]
      have e1 : ((i / 2 ^ j : Nat) : Int) = (i : Int) / ((2 ^ j : Nat) : Int) := Int.natCast_ediv _ _
      have e2 : ((i / 2 ^ j * 2 ^ j : Nat) : Int) = (i : Int) / ((2 ^ j : Nat) : Int) * ((2 ^ j : Nat) : Int) := by rw [Int.natCast_mul, Int.natCast_ediv]
      have b1 : 0 ≤ (i : Int) / ((2 ^ j : Nat) : Int) := by rw [← e1]; exact Int.natCast_nonneg _
      have b2 : (i : Int) / ((2 ^ j : Nat) : Int) ≤ 16 := by rw [← e1]; exact Int.ofNat_le.2 (Nat.le_trans hdv hi16)
      have b3 : 0 ≤ (i : Int) / ((2 ^ j : Nat) : Int) * ((2 ^ j : Nat) : Int) := by rw [← e2]; exact Int.natCast_nonneg _
      have b4 : (i : Int) / ((2 ^ j : Nat) : Int) * ((2 ^ j : Nat) : Int) ≤ 16 := by rw [← e2]; exact Int.ofNat_le.2 (Nat.le_trans hdm hi16)
      have hsok := sib_ok l.length (by omega) i hi j hlt
      have HS := Lib.hid (sibs_snoc l i j)
      have HJ : Hid ((2 ^ (j + 1) : Nat) = 2 ^ j * 2) := Lib.hid (Nat.pow_succ 2 j)
      clear e1 e2
      generalize hS : 2 ^ j = S at *
      have HSS := Lib.hid hS
      clear hS
      have hlS : (sibs l i j).length = j := by simp [sibs]
      have hv2 := HV.out.below (hb12.trans (hb.mono hb12.size))
      go_wp2_with (first
        | (go_at_call 140; refine (root_i l HD.out j (sib i j) _ _ _ _ rfl (by rw [HSS.out]) (by omega) (by rw [HSS.out]; exact hsok) hv2).mono ?_; rintro e w4 ⟨rfl, hb4⟩; have hown4 := hown.below hb4; have hbb4 := hb.trans (hb4.mono hb.size))
        | (at_builtin; refine app_int hown4 (by omega) hbb4.size rfl rfl rfl rfl ?_; intro v5 w5 hown5 hb5))
      go_roundw
      case rel => exact ⟨j + 1, by omega, by rw [HJ.out]; go_num, by rw [HS.out]; exact hown5, hbb4.trans hb5⟩
      case measure => simp [intOf]; omega
    · obtain rfl : j = lev l.length i := by omega
      rw [HZ.out]
      obtain ⟨wo, rfl⟩ : ∃ wo : World, wo = wr := ⟨_, rfl⟩
      go_wp2
      go_loopw [7, 54] (fun out q wr => ∃ j : Nat, j ≤ (trees 0 l.length).length ∧ q = .int .i64 j ∧ O1 (Value.int .i64) w2.heap.size 3 wr out (sibs l i (lev l.length i) ++ (((trees 0 l.length).take j).eraseIdx (pkIdx l.length i)).map (rootT l)) ∧ Below w2.heap.size w2 wr) (fun _ q _ => (trees 0 l.length).length - (intOf q).toNat)
      case atStart => exact ⟨0, Nat.zero_le _, rfl, by simpa using hown, hb⟩
      case round =>
        obtain ⟨j, hj, rfl, hown1, hb'⟩ := hrel
        by_cases hlt : j < (trees 0 l.length).length
        · obtain ⟨A'', c'', hA, _, _, hc⟩ := HR2.out.below hb'
          cases hA
          obtain ⟨_, _, hA2, hbs, hc⟩ := hc (by omega)
          cases hA2
          obtain ⟨hc1, hc2⟩ := hc j hlt
          clear hc
          obtain ⟨g1, g2, g3⟩ := HTR.out _ (List.getElem_mem hlt)
          have HG := Lib.hid g2; clear g2
          simp only [t1, t2] at hc1 hc2
          have HE := Lib.hid (erase_take (trees 0 l.length) (pkIdx l.length i) j hlt)
          have hle : ((sibs l i (lev l.length i)) ++ (((trees 0 l.length).take j).eraseIdx (pkIdx l.length i)).map (rootT l)).length ≤ 100 := by
            have := List.length_eraseIdx_le ((trees 0 l.length).take j) (pkIdx l.length i)
            simp [sibs] at this ⊢; omega
          have hbw2 := hb12.trans (hb'.mono hb12.size)
          have hv2 := (HV.out.below hbw2).alloc (.cells #[.int .i64 ((trees 0 l.length)[j].1 : Int), .int .i64 ((trees 0 l.length)[j].2 : Int)] 103)
          have hownA := hown1.alloc (.cells #[.int .i64 ((trees 0 l.length)[j].1 : Int), .int .i64 ((trees 0 l.length)[j].2 : Int)] 103)
          have hbA := hb'.alloc hb'.size (.cells #[.int .i64 ((trees 0 l.length)[j].1 : Int), .int .i64 ((trees 0 l.length)[j].2 : Int)] 103)
          have hsz : w2.heap.size ≤ wr.heap.size := hb'.size
          by_cases hk : j = pkIdx l.length i
          · have hkb : ((j : Int) == (pkIdx l.length i : Int)) = true := by simp [hk]
            have hkn : ((j : Int) != (pkIdx l.length i : Int)) = false := by simp [hk]
            have HE' := HE.out
            rw [if_pos hk, List.append_nil] at HE'
            have HE2 := Lib.hid HE'
            clear HE HE' hk
            generalize (trees 0 l.length)[j] = t at *
            go_wp2
            go_roundw
            case rel => exact ⟨j + 1, by omega, by go_num, by rw [HE2.out]; exact hownA, hbA⟩
            case measure => simp [intOf]; omega
          · have hkb : ((j : Int) == (pkIdx l.length i : Int)) = false := by simp; omega
            have hkn : ((j : Int) != (pkIdx l.length i : Int)) = true := by simp; omega
            have HE' := HE.out
            rw [if_neg hk] at HE'
            have HE2 := Lib.hid HE'
            clear HE HE' hk
            generalize (trees 0 l.length)[j] = t at *
            go_wp2_with (first
              | (go_at_call 140; refine (root_i l HD.out t.2.log2 t.1 _ _ _ _ rfl (by rw [HG.out]) g3 (by rw [HG.out]; exact g1) hv2).mono ?_; rintro e w6 ⟨rfl, hb6⟩; have hown6 := hownA.below hb6; have hbb6 := hbA.trans (hb6.mono hbA.size))
              | (at_builtin; refine app_int hown6 (by omega) hbb6.size rfl rfl rfl rfl ?_; intro v7 w7 hown7 hb7))
            go_roundw
            case rel => exact ⟨j + 1, by omega, by go_num, by rw [HE2.out, List.map_append, ← List.append_assoc]; exact hown7, hbb6.trans hb7⟩
            case measure => simp [intOf]; omega
        · obtain rfl : j = (trees 0 l.length).length := by omega
          go_wp2
          go_ret
          exact ⟨_, rfl, by rw [List.take_length] at hown1; exact hown1.mono hb12.size, hb12.trans (hb'.mono hb12.size)⟩
theorem TreeProof_i_no (l : List Int) (i : Int) (v : Value) (w : World) (hv : RI w v l) (hl : (leavesOk l && inB i 0 (l.length - 1)) = false) :
    Calls Try.prog 73 #[v, .int .i64 i] w fun e w' => e = .returned (.slice none 0 0) ∧ w = w' := by
  have HV := Lib.hid hv
  have hm := hv.len
  obtain ⟨A, c, rfl, h1, h2, h3⟩ := hv
  unfold maxLen at hm
  clear h3
  cases hx : leavesOk l
  · have HX := Lib.hid hx
    clear hl hx
    go_enter Try.func73, Try.ntmps73
    go_wp2_with (go_at_call 94; refine (areLeaves_any l _ _ HV.out).mono ?_; rw [HX.out]; rintro e w' ⟨rfl, rfl⟩)
    go_ret
    exact ⟨rfl, rfl⟩
  · rw [hx, Bool.true_and] at hl
    have HX := Lib.hid hx
    have HI := Lib.hid hl
    clear hl hx
    go_enter Try.func73, Try.ntmps73
    go_wp2_with (first
      | (go_at_call 94; refine (areLeaves_any l _ _ HV.out).mono ?_; rw [HX.out]; rintro e w' ⟨rfl, rfl⟩)
      | (go_at_call 72; refine (within_any _ _ _ _).mono ?_; rw [HI.out]; rintro e w' ⟨rfl, rfl⟩))
    go_ret
    exact ⟨rfl, rfl⟩
theorem TreeProof_i (l : List Int) (i : Int) (v : Value) (w : World) (hv : RI w v l) :
    Calls Try.prog 73 #[v, .int .i64 i] w fun e w' => ∃ v', e = .returned v' ∧ O1 (Value.int .i64) w.heap.size 3 w' v' (proofOf l i) ∧ Below w.heap.size w w' := by
  cases h : leavesOk l && inB i 0 (l.length - 1)
  · have hp : proofOf l i = [] := by unfold proofOf; rw [h]; rfl
    rw [hp]
    exact (TreeProof_i_no l i v w hv h).mono fun e w' ⟨he, hw⟩ => by subst hw; exact ⟨_, he, O1.nil _ _ _ _, Below.refl _ _⟩
  · have hp : proofOf l i = proofAt l i.toNat := by unfold proofOf; rw [h]; rfl
    rw [hp]
    rw [Bool.and_eq_true, inB_true] at h
    obtain ⟨h1, h2, h3⟩ := h
    obtain ⟨k, rfl⟩ := Int.eq_ofNat_of_zero_le h2
    exact TreeProof_i_ok l k v w hv h1 (by omega)
end Go.Proofs.Ytlhiabnablbkpaa
