/- Walks: TreeCheck, the reference's and the program's. -/
import Derived.Test.YtlhiabnablbkpaaWi
namespace Go.Proofs.Ytlhiabnablbkpaa
open Go.RowKit

theorem TreeCheck_s (dg n i leaf : Int) (l : List Int) (v : Value) (w : World) (hv : RI w v l) :
    Calls Try.prog 118 #[.int .i64 dg, .int .i64 n, .int .i64 i, .int .i64 leaf, v] w fun e w' => e = .returned (.bool (checkOf dg n i leaf l)) ∧ w = w' := by
  have HV := Lib.hid hv; clear hv
  cases hA : inB n 1 16
  · have HA := Lib.hid hA
    have HR : Hid (checkOf dg n i leaf l = false) := Lib.hid (by simp [checkOf, hA])
    clear hA
    go_enter Try.func118, Try.ntmps118
    go_wp2_with (go_at_call 66; refine (l6In_any _ _ _ _).mono ?_; rw [HA.out]; rintro e w' ⟨rfl, rfl⟩)
    go_ret; exact ⟨retb HR.out.symm, rfl⟩
  have HA := Lib.hid hA
  have hA' := inB_true.1 hA
  cases hB : inB i 0 (n - 1)
  · have HB := Lib.hid hB
    have HR : Hid (checkOf dg n i leaf l = false) := Lib.hid (by simp [checkOf, hB])
    clear hA hB
    go_enter Try.func118, Try.ntmps118
    go_wp2_with (first
      | (go_at_call 66; refine (l6In_any _ _ _ _).mono ?_; (first | rw [HA.out] | rw [HB.out]); rintro e w' ⟨rfl, rfl⟩))
    go_ret; exact ⟨retb HR.out.symm, rfl⟩
  have HB := Lib.hid hB
  have hB' := inB_true.1 hB
  cases hC : dig leaf
  · have HC := Lib.hid hC
    have HR : Hid (checkOf dg n i leaf l = false) := Lib.hid (by simp [checkOf, hC])
    clear hA hB hC
    go_enter Try.func118, Try.ntmps118
    go_wp2_with (first
      | (go_at_call 66; refine (l6In_any _ _ _ _).mono ?_; (first | rw [HA.out] | rw [HB.out]); rintro e w' ⟨rfl, rfl⟩)
      | (go_at_call 130; refine (l1Digest_any _ _).mono ?_; rw [HC.out]; rintro e w' ⟨rfl, rfl⟩))
    go_ret; exact ⟨retb HR.out.symm, rfl⟩
  have HC := Lib.hid hC
  cases hD : digs l
  · have HD := Lib.hid hD
    have HR : Hid (checkOf dg n i leaf l = false) := Lib.hid (by simp [checkOf, hD])
    clear hA hB hC hD
    go_enter Try.func118, Try.ntmps118
    go_wp2_with (first
      | (go_at_call 66; refine (l6In_any _ _ _ _).mono ?_; (first | rw [HA.out] | rw [HB.out]); rintro e w' ⟨rfl, rfl⟩)
      | (go_at_call 130; refine (l1Digest_any _ _).mono ?_; rw [HC.out]; rintro e w' ⟨rfl, rfl⟩)
      | (go_at_call 150; refine (l2Digests_any l _ _ HV.out).mono ?_; rw [HD.out]; rintro e w' ⟨rfl, rfl⟩))
    go_ret; exact ⟨retb HR.out.symm, rfl⟩
  have HD := Lib.hid hD
  obtain ⟨N, rfl⟩ := Int.eq_ofNat_of_zero_le (show 0 ≤ n by omega)
  obtain ⟨I, rfl⟩ := Int.eq_ofNat_of_zero_le (show 0 ≤ i by omega)
  have HR : Hid (checkOf dg N I leaf l = checkAt dg N I leaf l) := Lib.hid (by simp [checkOf, hA, hB, hC, hD])
  have hN : N ≤ 16 := by omega
  have hI : I < N := by omega
  clear hA hB hC hD hA' hB'
  go_enter Try.func118, Try.ntmps118
  go_wp2_with (first
    | (go_at_call 66; refine (l6In_any _ _ _ _).mono ?_; (first | rw [HA.out] | rw [HB.out]); rintro e w' ⟨rfl, rfl⟩)
    | (go_at_call 130; refine (l1Digest_any _ _).mono ?_; rw [HC.out]; rintro e w' ⟨rfl, rfl⟩)
    | (go_at_call 150; refine (l2Digests_any l _ _ HV.out).mono ?_; rw [HD.out]; rintro e w' ⟨rfl, rfl⟩)
    | (go_at_call 151; refine (l2Check_any dg leaf N I l _ _ HV.out hN hI HC.out HD.out).mono ?_; rintro e w' ⟨rfl, rfl⟩))
  go_ret; exact ⟨retb HR.out.symm, rfl⟩

set_option maxHeartbeats 1600000 in
set_option maxRecDepth 100000 in
theorem TreeCheck_i_ok (dg leaf : Int) (n i : Nat) (l : List Int) (v : Value) (w : World) (hv : RI w v l) (hn : n ≤ 16) (hi : i < n) (hlf : dig leaf = true) (hd : digs l = true) :
    Calls Try.prog 34 #[.int .i64 dg, .int .i64 n, .int .i64 i, .int .i64 leaf, v] w fun e w' => e = .returned (.bool (checkAt dg n i leaf l)) ∧ Below w.heap.size w w' := by
  have HLF := Lib.hid hlf; clear hlf
  have HD := Lib.hid hd; clear hd
  have HV := Lib.hid hv
  obtain ⟨p1, p2, p3, p4, p5, p6, p7, p8, p9⟩ := pk_ok n (by omega) i hi
  have HP2 := Lib.hid p2
  clear p2 p7 p8 p9 p4 p5 p6
  have hl16 : 2 ^ lev n i ≤ 2 ^ 4 := Nat.pow_le_pow_right (by omega) p3
  obtain ⟨Z, HZ⟩ : ∃ Z, Hid (2 ^ lev n i = Z) := ⟨_, Lib.hid rfl⟩
  rw [HZ.out] at hl16
  have HA : Hid (inB n 1 16 = true) := Lib.hid (inB_true.2 (by omega))
  have HB : Hid (inB i 0 ((n : Int) - 1) = true) := Lib.hid (inB_true.2 (by omega))
  have hTL := trees_len 0 n
  go_enter Try.func34, Try.ntmps34
  go_wp2_with (first
    | (go_at_call 72; refine (within_any _ _ _ _).mono ?_; (first | rw [HA.out] | rw [HB.out]); rintro e w' ⟨rfl, rfl⟩)
    | (go_at_call 87; refine (isDigest_any _ _).mono ?_; rw [HLF.out]; rintro e w' ⟨rfl, rfl⟩)
    | (go_at_call 88; refine (areDigests_any l _ _ HV.out).mono ?_; rw [HD.out]; rintro e w' ⟨rfl, rfl⟩)
    | (go_at_call 89; refine (treesFrom_any 0 n _ (by omega) hn).mono ?_; rintro e w1 ⟨v1, rfl, ho1, hb1⟩)
    | (go_at_call 90; refine (peakOf_n n i _ _ ho1.r2 hn hi).mono ?_; rintro e w2 ⟨rfl, hb2⟩))
  have hb12 := below_bb hb1 hb2
  obtain ⟨A', c', rfl, k1, k2, k3⟩ := ho1.r2.below hb2
  obtain ⟨b', o', rfl, kb, kc⟩ := k3 (by omega)
  have kc2 : w2.cell? ⟨b', o' + pkIdx n i * 2 + 1, none⟩ = some (.int .i64 (Z : Int)) := by
    rw [(kc _ p1).2, pkT_get p1, ← HZ.out, ← HP2.out]; rfl
  unfold maxLen at k2
  clear kc k3
  go_loop [4, 13, 14] (fun pv r q => ∃ j : Nat, j ≤ lev n i ∧ j ≤ l.length ∧ q = .int .i64 ((2 ^ j : Nat) : Int) ∧ RI w2 pv (l.drop j) ∧ r = .int .i64 (pathR i 0 leaf (l.take j))) (fun _ _ q => 64 - (intOf q).toNat)
  case atStart => exact ⟨0, Nat.zero_le _, Nat.zero_le _, rfl, HV.out.below hb12, rfl⟩
  case round =>
    obtain ⟨j, hj, hjl, rfl, hrp, rfl⟩ := hrel
    have hm := hrp.len
    unfold maxLen at hm
    obtain ⟨d, HDJ⟩ : ∃ d, Hid (l.drop j = d) := ⟨_, Lib.hid rfl⟩
    have hdl : (l.drop j).length = l.length - j := List.length_drop
    rw [HDJ.out] at hrp hm hdl
    obtain ⟨A3, c3, rfl, q1, q2, q3⟩ := id hrp
    unfold maxLen at q2
    by_cases hlt : j < lev n i
    · have hS1 : 1 ≤ 2 ^ j := Nat.one_le_two_pow
      have hS8 : 2 ^ j ≤ 2 ^ 3 := Nat.pow_le_pow_right (by omega) (by omega)
      have hlt' : 2 ^ j < Z := by rw [← HZ.out]; exact Nat.pow_lt_pow_right (by omega) hlt
      have hi16 : i < 65536 := by omega
      have hp16 : 2 ^ j < 65536 := by omega
      have hand : bits .and .i64 (i : Int) ((2 ^ j : Nat) : Int) = ((i &&& 2 ^ j : Nat) : Int) := and_nat i _ hi16 hp16
      have HAND := Lib.hid hand; clear hand
      have HAB := Lib.hid (and_bit i (by omega) j (by omega))
      have HJ : Hid ((2 ^ (j + 1) : Nat) = 2 ^ j * 2) := Lib.hid (Nat.pow_succ 2 j)
      by_cases hend : j = l.length
      · have HC : Hid (checkAt dg n i leaf l = false) := Lib.hid (check_short _ _ _ (by omega))
        obtain rfl : d = [] := List.eq_nil_of_length_eq_zero (by omega)
        generalize hS : 2 ^ j = S at *
        clear hS HJ HAND HAB q3 hend hdl
        go_wp2
        go_ret
        exact ⟨retb HC.out.symm, hb12⟩
      · have hjl' : j < l.length := by omega
        obtain ⟨b, o, rfl, hb, hc⟩ := q3 (by omega)
        have HS := Lib.hid (pathR_snoc i (l.take j) 0 leaf l[j])
        have HT := Lib.hid (take_snocI hjl')
        have HDX := Lib.hid (digs_get HD.out hjl')
        have HDR := Lib.hid (pathR_dig i (l.take j) 0 leaf HLF.out)
        have hlj : (l.take j).length = j := by simp; omega
        have HD1 : Hid (l.drop (j + 1) = d.drop 1) := Lib.hid (by rw [← HDJ.out, List.drop_drop])
        have hcell : w2.cell? ⟨b, o, none⟩ = some (.int .i64 l[j]) := by
          have := hc 0 (by omega)
          rw [Nat.add_zero] at this
          rw [this]; congr 2; have h9 := HDJ.out; subst h9; simp
        have HST : Hid (pathR i 0 leaf (l.take (j + 1)) = if i &&& 2 ^ j = 0 then pair (pathR i 0 leaf (l.take j)) l[j] else pair l[j] (pathR i 0 leaf (l.take j))) :=
          Lib.hid (by rw [HT.out, HS.out, hlj, Nat.zero_add]; simp only [HAB.out])
        have hd1 : 1 ≤ d.length := by omega
        clear hc q3 hlj HAB HS HT hend hdl
        have hcc := q1.1
        generalize pathR i 0 leaf (l.take j) = r at *
        generalize l[j] = x at *
        generalize hS : 2 ^ j = S at *
        have HSS := Lib.hid hS
        clear hS
        have hand := HAND.out
        generalize i &&& S = D at *
        by_cases hc1 : c3 = 1
        · subst hc1
          have hlen1 : d.length = 1 := by omega
          have hr1 : RI w2 (.slice (some ⟨b, o, none⟩) 0 0) (d.drop 1) := by
            have hz : d.drop 1 = [] := List.eq_nil_of_length_eq_zero (by simp; omega)
            rw [hz]; exact ⟨_, 0, rfl, ⟨Nat.le_refl _, fun h => by cases h⟩, by unfold maxLen; omega, fun h => by simp at h⟩
          rw [hlen1]
          clear hlen1
          by_cases hpar : D = 0
          · have HX : Hid (pathR i 0 leaf (l.take (j + 1)) = pair r x) := Lib.hid (by rw [HST.out, if_pos hpar])
            subst hpar
            clear HST
            go_wp2_with (go_at_call 91; refine (DigestPair_any _ _ _ HDR.out HDX.out).mono ?_; rintro e w' ⟨rfl, rfl⟩)
            go_round
            case rel => exact ⟨j + 1, by omega, by omega, by rw [HJ.out]; go_num, by rw [HD1.out]; exact hr1, by rw [HX.out]⟩
            case measure => simp [intOf]; omega
          · have HX : Hid (pathR i 0 leaf (l.take (j + 1)) = pair x r) := Lib.hid (by rw [HST.out, if_neg hpar])
            have hpb : ((D : Int) == 0) = false := by simp; omega
            clear HST
            go_wp2_with (go_at_call 91; refine (DigestPair_any _ _ _ HDX.out HDR.out).mono ?_; rintro e w' ⟨rfl, rfl⟩)
            go_round
            case rel => exact ⟨j + 1, by omega, by omega, by rw [HJ.out]; go_num, by rw [HD1.out]; exact hr1, by rw [HX.out]⟩
            case measure => simp [intOf]; omega
        · have hr1 := R1.drop hrp (m := 1) (by omega)
          by_cases hpar : D = 0
          · have HX : Hid (pathR i 0 leaf (l.take (j + 1)) = pair r x) := Lib.hid (by rw [HST.out, if_pos hpar])
            subst hpar
            clear HST
            go_wp2_with (go_at_call 91; refine (DigestPair_any _ _ _ HDR.out HDX.out).mono ?_; rintro e w' ⟨rfl, rfl⟩)
            go_round
            case rel => exact ⟨j + 1, by omega, by omega, by rw [HJ.out]; go_num, by rw [HD1.out]; exact hr1, by rw [HX.out]⟩
            case measure => simp [intOf]; omega
          · have HX : Hid (pathR i 0 leaf (l.take (j + 1)) = pair x r) := Lib.hid (by rw [HST.out, if_neg hpar])
            have hpb : ((D : Int) == 0) = false := by simp; omega
            clear HST
            go_wp2_with (go_at_call 91; refine (DigestPair_any _ _ _ HDX.out HDR.out).mono ?_; rintro e w' ⟨rfl, rfl⟩)
            go_round
            case rel => exact ⟨j + 1, by omega, by omega, by rw [HJ.out]; go_num, by rw [HD1.out]; exact hr1, by rw [HX.out]⟩
            case measure => simp [intOf]; omega
    · obtain rfl : j = lev n i := by omega
      rw [HZ.out]
      have hkT : pkIdx n i ≤ (trees 0 n).length - 1 := by omega
      by_cases hlen : d.length = (trees 0 n).length - 1
      · have hr1 := R1.take hrp (m := pkIdx n i) (by omega)
        have HCK : Hid (checkAt dg n i leaf l = (fold n (d.take (pkIdx n i) ++ [pathR i 0 leaf (l.take (lev n i))] ++ d.drop (pkIdx n i)) == dg)) := Lib.hid (by
          unfold checkAt; rw [HDJ.out, decide_eq_true (by omega), Bool.true_and])
        have HDR := Lib.hid (pathR_dig i (l.take (lev n i)) 0 leaf HLF.out)
        have HDN : Hid (dig (n : Int) = true) := Lib.hid (dig_true.2 (by omega))
        have HDD : Hid (digs d = true) := Lib.hid (by rw [← HDJ.out]; exact digs_drop HD.out _)
        generalize pathR i 0 leaf (l.take (lev n i)) = r at *
        have HDP : Hid (digs (d.take (pkIdx n i) ++ [r] ++ d.drop (pkIdx n i)) = true) := Lib.hid (by
          have h1 := digs_take HDD.out (pkIdx n i)
          have h2 := digs_drop HDD.out (pkIdx n i)
          unfold digs at h1 h2 ⊢
          rw [List.all_append, List.all_append, h1, h2]; simp [HDR.out])
        have hne : ((d.length : Int) != ((trees 0 n).length : Int) - 1) = false := by simp; omega
        have hkd : pkIdx n i ≤ d.length := by omega
        have hcc := q1.1
        have hdl9 : d.length ≤ 1000 := by omega
        have hT1 : 1 ≤ (trees 0 n).length := by omega
        have hn16 : (n : Int) ≤ 16 := by omega
        have hle1 : d.length ≤ (trees 0 n).length - 1 := by omega
        have hle2 : (trees 0 n).length - 1 ≤ d.length := by omega
        clear hdl hkT hlen
        generalize pkIdx n i = kk at *
        by_cases hd0 : d.length = 0
        · obtain rfl : d = [] := List.eq_nil_of_length_eq_zero hd0
          obtain rfl : kk = 0 := by omega
          have hne0 : ((0 : Int) != ((trees 0 n).length : Int) - 1) = false := by simp at hle1 hle2 ⊢; omega
          have hr2 : RI w2 (.slice A3 0 c3) ([] : List Int) := hrp
          have hr1' : RI w2 (.slice A3 0 c3) ([] : List Int) := hrp
          rcases A3 with _ | ad
          · obtain rfl : c3 = 0 := q1.2 rfl
            go_wp2_with (first
              | (go_at_call 92; refine (clone_int _ _ _ hr1' (by simp)).mono ?_; rintro e w3 ⟨v3, rfl, ho3, hb3⟩; have hr3 := hr2.below hb3; have ho3' := ho3.alloc (.cells #[.int .i64 r] 3))
              | (at_builtin; refine app_int ho3 (by simp) hb3.size rfl rfl rfl rfl ?_; intro v4 w4 hown4 hb4; have hb34 := hb3.trans hb4; have hr4 := hr2.below hb34)
              | (at_builtin; refine app_ints hown4 hr4 (by simp) hb34.size rfl rfl rfl rfl ?_; intro v5 w5 hown5 hb5; have hb35 := hb34.trans hb5)
              | (go_at_call 93; refine (digestOf_any _ _ _ _ HDN.out HDP.out hown5.r1).mono ?_; rintro e w6 ⟨rfl, rfl⟩))
            go_ret
            exact ⟨retb (by rw [HCK.out]; simp), below_bb hb12 hb35⟩
          · clear q1 hd0
            go_wp2_with (first
              | (go_at_call 92; refine (clone_int _ _ _ hr1' (by simp)).mono ?_; rintro e w3 ⟨v3, rfl, ho3, hb3⟩; have hr3 := hr2.below hb3; have ho3' := ho3.alloc (.cells #[.int .i64 r] 3))
              | (at_builtin; refine app_int ho3 (by simp) hb3.size rfl rfl rfl rfl ?_; intro v4 w4 hown4 hb4; have hb34 := hb3.trans hb4; have hr4 := hr2.below hb34)
              | (at_builtin; refine app_ints hown4 hr4 (by simp) hb34.size rfl rfl rfl rfl ?_; intro v5 w5 hown5 hb5; have hb35 := hb34.trans hb5)
              | (go_at_call 93; refine (digestOf_any _ _ _ _ HDN.out HDP.out hown5.r1).mono ?_; rintro e w6 ⟨rfl, rfl⟩))
            go_ret
            exact ⟨retb (by rw [HCK.out]; simp), below_bb hb12 hb35⟩
        · obtain ⟨b, o, rfl, hb, _⟩ := q3 (by omega)
          clear q3 q1
          by_cases hck : c3 = kk
          · subst hck
            have hr2 : RI w2 (.slice (some ⟨b, o, none⟩) 0 0) (d.drop c3) := by
              have hz : d.drop c3 = [] := List.eq_nil_of_length_eq_zero (by simp; omega)
              rw [hz]; exact ⟨_, 0, rfl, ⟨Nat.le_refl _, fun h => by cases h⟩, by unfold maxLen; omega, fun h => by simp at h⟩
            have hz1 : d.length - c3 = 0 := by omega
            go_wp2_with (first
              | (go_at_call 92; refine (clone_int _ _ _ hr1 (by simp; omega)).mono ?_; rintro e w3 ⟨v3, rfl, ho3, hb3⟩; have hr3 := hr2.below hb3; have ho3' := ho3.alloc (.cells #[.int .i64 r] 3))
              | (at_builtin; refine app_int ho3 (by simp; omega) hb3.size rfl rfl rfl rfl ?_; intro v4 w4 hown4 hb4; have hb34 := hb3.trans hb4; have hr4 := hr2.below hb34)
              | (at_builtin; refine app_ints hown4 hr4 (by simp; omega) hb34.size rfl rfl rfl rfl ?_; intro v5 w5 hown5 hb5; have hb35 := hb34.trans hb5)
              | (go_at_call 93; refine (digestOf_any _ _ _ _ HDN.out HDP.out hown5.r1).mono ?_; rintro e w6 ⟨rfl, rfl⟩))
            go_ret
            exact ⟨retb (by rw [HCK.out]; simp), below_bb hb12 hb35⟩
          · have hr2 := R1.drop hrp (m := kk) (by omega)
            go_wp2_with (first
              | (go_at_call 92; refine (clone_int _ _ _ hr1 (by simp; omega)).mono ?_; rintro e w3 ⟨v3, rfl, ho3, hb3⟩; have hr3 := hr2.below hb3; have ho3' := ho3.alloc (.cells #[.int .i64 r] 3))
              | (at_builtin; refine app_int ho3 (by simp; omega) hb3.size rfl rfl rfl rfl ?_; intro v4 w4 hown4 hb4; have hb34 := hb3.trans hb4; have hr4 := hr2.below hb34)
              | (at_builtin; refine app_ints hown4 hr4 (by simp; omega) hb34.size rfl rfl rfl rfl ?_; intro v5 w5 hown5 hb5; have hb35 := hb34.trans hb5)
              | (go_at_call 93; refine (digestOf_any _ _ _ _ HDN.out HDP.out hown5.r1).mono ?_; rintro e w6 ⟨rfl, rfl⟩))
            go_ret
            exact ⟨retb (by rw [HCK.out]; simp), below_bb hb12 hb35⟩
      · have HCK : Hid (checkAt dg n i leaf l = false) := Lib.hid (by unfold checkAt; rw [decide_eq_false (by omega)]; rfl)
        have hne : ((d.length : Int) != ((trees 0 n).length : Int) - 1) = true := by simp; omega
        clear hdl
        go_wp2
        go_ret
        exact ⟨retb HCK.out.symm, hb12⟩
theorem TreeCheck_i (dg n i leaf : Int) (l : List Int) (v : Value) (w : World) (hv : RI w v l) :
    Calls Try.prog 34 #[.int .i64 dg, .int .i64 n, .int .i64 i, .int .i64 leaf, v] w fun e w' => e = .returned (.bool (checkOf dg n i leaf l)) ∧ Below w.heap.size w w' := by
  have HV := Lib.hid hv; clear hv
  cases hA : inB n 1 16
  · have HA := Lib.hid hA
    have HR : Hid (checkOf dg n i leaf l = false) := Lib.hid (by simp [checkOf, hA])
    clear hA
    go_enter Try.func34, Try.ntmps34
    go_wp2_with (go_at_call 72; refine (within_any _ _ _ _).mono ?_; rw [HA.out]; rintro e w' ⟨rfl, rfl⟩)
    go_ret; exact ⟨retb HR.out.symm, Below.refl _ _⟩
  have HA := Lib.hid hA
  have hA' := inB_true.1 hA
  cases hB : inB i 0 (n - 1)
  · have HB := Lib.hid hB
    have HR : Hid (checkOf dg n i leaf l = false) := Lib.hid (by simp [checkOf, hB])
    clear hA hB
    go_enter Try.func34, Try.ntmps34
    go_wp2_with (go_at_call 72; refine (within_any _ _ _ _).mono ?_; (first | rw [HA.out] | rw [HB.out]); rintro e w' ⟨rfl, rfl⟩)
    go_ret; exact ⟨retb HR.out.symm, Below.refl _ _⟩
  have HB := Lib.hid hB
  have hB' := inB_true.1 hB
  cases hC : dig leaf
  · have HC := Lib.hid hC
    have HR : Hid (checkOf dg n i leaf l = false) := Lib.hid (by simp [checkOf, hC])
    clear hA hB hC
    go_enter Try.func34, Try.ntmps34
    go_wp2_with (first
      | (go_at_call 72; refine (within_any _ _ _ _).mono ?_; (first | rw [HA.out] | rw [HB.out]); rintro e w' ⟨rfl, rfl⟩)
      | (go_at_call 87; refine (isDigest_any _ _).mono ?_; rw [HC.out]; rintro e w' ⟨rfl, rfl⟩))
    go_ret; exact ⟨retb HR.out.symm, Below.refl _ _⟩
  have HC := Lib.hid hC
  cases hD : digs l
  · have HD := Lib.hid hD
    have HR : Hid (checkOf dg n i leaf l = false) := Lib.hid (by simp [checkOf, hD])
    clear hA hB hC hD
    go_enter Try.func34, Try.ntmps34
    go_wp2_with (first
      | (go_at_call 72; refine (within_any _ _ _ _).mono ?_; (first | rw [HA.out] | rw [HB.out]); rintro e w' ⟨rfl, rfl⟩)
      | (go_at_call 87; refine (isDigest_any _ _).mono ?_; rw [HC.out]; rintro e w' ⟨rfl, rfl⟩)
      | (go_at_call 88; refine (areDigests_any l _ _ HV.out).mono ?_; rw [HD.out]; rintro e w' ⟨rfl, rfl⟩))
    go_ret; exact ⟨retb HR.out.symm, Below.refl _ _⟩
  obtain ⟨N, rfl⟩ := Int.eq_ofNat_of_zero_le (show 0 ≤ n by omega)
  obtain ⟨I, rfl⟩ := Int.eq_ofNat_of_zero_le (show 0 ≤ i by omega)
  have HR : checkOf dg N I leaf l = checkAt dg N I leaf l := by simp [checkOf, hA, hB, hC, hD]
  rw [HR]
  exact TreeCheck_i_ok dg leaf N I l v w HV.out (by omega) (by omega) hC hD
end Go.Proofs.Ytlhiabnablbkpaa
