/- Walks: the reference's check of a proof. -/
import Derived.Test.YtlhiabnablbkpaaWh
namespace Go.Proofs.Ytlhiabnablbkpaa
open Go.RowKit

set_option maxHeartbeats 1600000 in
set_option maxRecDepth 100000 in
theorem l2Check_any (dg leaf : Int) (n i : Nat) (l : List Int) (v : Value) (w : World) (hv : RI w v l) (hn : n ≤ 16) (hi : i < n) (hlf : dig leaf = true) (hd : digs l = true) :
    Calls Try.prog 151 #[.int .i64 dg, .int .i64 n, .int .i64 i, .int .i64 leaf, v] w fun e w' => e = .returned (.bool (checkAt dg n i leaf l)) ∧ w = w' := by
  have HLF := Lib.hid hlf; clear hlf
  have HD := Lib.hid hd; clear hd
  have hm := hv.len
  obtain ⟨A, c, rfl, h1, h2, h3⟩ := hv
  unfold maxLen at hm
  obtain ⟨p1, p2, p3, p4, p5, p6, p7, p8, p9⟩ := pk_ok n (by omega) i hi
  have HP2 := Lib.hid p2
  clear p2 p7 p8 p9 p4 p5 p6 h1
  have hl16 : 2 ^ lev n i ≤ 2 ^ 4 := Nat.pow_le_pow_right (by omega) p3
  obtain ⟨Z, HZ⟩ : ∃ Z, Hid (2 ^ lev n i = Z) := ⟨_, Lib.hid rfl⟩
  have HPZ : Hid ((pkT n i).2 = Z) := Lib.hid (by rw [HP2.out, HZ.out])
  obtain ⟨pk, HPK⟩ : ∃ p, Hid ((pkT n i).1 = p) := ⟨_, Lib.hid rfl⟩
  rw [HZ.out] at hl16
  go_enter Try.func151, Try.ntmps151
  go_wp2_with (go_at_call 137; refine (l2Peak_any n i _ hn hi).mono ?_; rw [HPZ.out, HPK.out]; rintro e w' ⟨rfl, rfl⟩)
  go_loop [13, 14, 15] (fun r u q => ∃ j : Nat, j ≤ lev n i ∧ j ≤ l.length ∧ q = .int .i64 ((2 ^ j : Nat) : Int) ∧ u = .int .i64 j ∧ r = .int .i64 (pathR i 0 leaf (l.take j))) (fun _ _ q => 64 - (intOf q).toNat)
  case atStart => exact ⟨0, Nat.zero_le _, Nat.zero_le _, rfl, rfl, rfl⟩
  case round =>
    obtain ⟨j, hj, hjl, rfl, rfl, rfl⟩ := hrel
    by_cases hlt : j < lev n i
    · have hS1 : 1 ≤ 2 ^ j := Nat.one_le_two_pow
      have hS8 : 2 ^ j ≤ 2 ^ 3 := Nat.pow_le_pow_right (by omega) (by omega)
      have hlt' : 2 ^ j < Z := by rw [← HZ.out]; exact Nat.pow_lt_pow_right (by omega) hlt
      have hdv : i / 2 ^ j ≤ i := Nat.div_le_self _ _
      have e1 : (i : Int) / ((2 ^ j : Nat) : Int) = ((i / 2 ^ j : Nat) : Int) := (Int.natCast_ediv _ _).symm
      have HJ : Hid ((2 ^ (j + 1) : Nat) = 2 ^ j * 2) := Lib.hid (Nat.pow_succ 2 j)
      by_cases hend : j = l.length
      · have hcs : checkAt dg n i leaf l = false := check_short _ _ _ (by omega)
        have HC := Lib.hid hcs
        clear hcs
        generalize hS : 2 ^ j = S at *
        clear hS HJ e1 hdv
        have hje : ((j : Int) == (l.length : Int)) = true := by simp [hend]
        go_wp2
        go_ret
        exact ⟨retb HC.out.symm, rfl⟩
      · have hjl' : j < l.length := by omega
        obtain ⟨b, o, rfl, hb, hc⟩ := h3 (by omega)
        have hcell := hc j hjl'
        have HS := Lib.hid (pathR_snoc i (l.take j) 0 leaf l[j])
        have HT := Lib.hid (take_snocI hjl')
        have HDX := Lib.hid (digs_get HD.out hjl')
        have HDR := Lib.hid (pathR_dig i (l.take j) 0 leaf HLF.out)
        have hlj : (l.take j).length = j := by simp; omega
        have HLJ := Lib.hid hlj
        have hje : ((j : Int) == (l.length : Int)) = false := by simp; omega
        clear hc h3 hlj
        have HST : Hid (pathR i 0 leaf (l.take (j + 1)) = if i / 2 ^ j % 2 = 0 then pair (pathR i 0 leaf (l.take j)) l[j] else pair l[j] (pathR i 0 leaf (l.take j))) :=
          Lib.hid (by rw [HT.out, HS.out, HLJ.out, Nat.zero_add])
        clear HS HT HLJ
        generalize pathR i 0 leaf (l.take j) = r at *
        generalize l[j] = x at *
        generalize hS : 2 ^ j = S at *
        have HSS := Lib.hid hS
        clear hS
        generalize i / S = D at *
        by_cases hpar : D % 2 = 0
        · have hpi : (D : Int) % 2 = 0 := by omega
          have HX : Hid (pathR i 0 leaf (l.take (j + 1)) = pair r x) := Lib.hid (by rw [HST.out, if_pos hpar])
          clear HST hpar
          go_wp2_with (go_at_call 154; refine (l1Pair_any _ _ _ HDR.out HDX.out).mono ?_; rintro e w' ⟨rfl, rfl⟩)
          go_round
          case rel => exact ⟨j + 1, by omega, by omega, by rw [HJ.out]; go_num, by go_num, by rw [HX.out]⟩
          case measure => simp [intOf]; omega
        · have hpi : ((D : Int) % 2 == 0) = false := by simp; omega
          have HX : Hid (pathR i 0 leaf (l.take (j + 1)) = pair x r) := Lib.hid (by rw [HST.out, if_neg hpar])
          clear HST hpar
          go_wp2_with (go_at_call 154; refine (l1Pair_any _ _ _ HDX.out HDR.out).mono ?_; rintro e w' ⟨rfl, rfl⟩)
          go_round
          case rel => exact ⟨j + 1, by omega, by omega, by rw [HJ.out]; go_num, by go_num, by rw [HX.out]⟩
          case measure => simp [intOf]; omega
    · obtain rfl : j = lev n i := by omega
      have HCK := Lib.hid (check_run2 hn hi dg leaf l hjl)
      have HDR := Lib.hid (pathR_dig i (l.take (lev n i)) 0 leaf HLF.out)
      have hdn : dig (n : Int) = true := dig_true.2 (by omega)
      have HDN := Lib.hid hdn
      clear hdn
      rw [HZ.out]
      generalize pathR i 0 leaf (l.take (lev n i)) = r at *
      go_wp2
      go_loop [14, 16, 17] (fun u t q => ∃ (p used : Nat) (out : Int), p ≤ n ∧ used ≤ l.length ∧ q = .int .i64 p ∧ u = .int .i64 used ∧ t = .int .i64 out ∧ Hid (dig out = true) ∧
        Hid (run2 dg r (flags n i p) out (l.drop used) = checkAt dg n i leaf l)) (fun _ _ q => n - (intOf q).toNat)
      case atStart => exact ⟨0, lev n i, n, Nat.zero_le _, hjl, rfl, rfl, rfl, HDN, HCK⟩
      case round =>
        obtain ⟨p, used, out, hpn, hul, rfl, rfl, rfl, HDO, HX⟩ := hrel
        by_cases hlt : p < n
        · obtain ⟨hs1, hs2⟩ := sz_bd hlt
          have HF := Lib.hid (flags_cons (i := i) hlt hn)
          rw [HPK.out] at HF
          generalize hs : sz p n = s at *
          have HSZ := Lib.hid hs
          clear hs
          by_cases hk : p = pk
          · have hkb : ((p : Int) == (pk : Int)) = true := by simp [hk]
            have HF2 : Hid (flags n i p = true :: flags n i (p + s)) := Lib.hid (by rw [HF.out]; simp [hk])
            clear HF hk
            go_wp2_with (first
              | (go_at_call 139; refine (l2Size_any p n _ (by omega) hn).mono ?_; rw [HSZ.out]; rintro e w' ⟨rfl, rfl⟩)
              | (go_at_call 154; refine (l1Pair_any _ _ _ HDO.out HDR.out).mono ?_; rintro e w' ⟨rfl, rfl⟩))
            go_round
            case rel => exact ⟨p + s, used, _, by omega, hul, by go_num, rfl, rfl, Lib.hid (pair_dig _ _), Lib.hid (by rw [← HX.out, HF2.out]; rfl)⟩
            case measure => simp [intOf]; omega
          · have hkb : ((p : Int) == (pk : Int)) = false := by simp; omega
            have HF2 : Hid (flags n i p = false :: flags n i (p + s)) := Lib.hid (by rw [HF.out]; simp [hk])
            clear HF hk
            by_cases hend : used = l.length
            · have hue : ((used : Int) == (l.length : Int)) = true := by simp [hend]
              have hcs : checkAt dg n i leaf l = false := by rw [← HX.out, HF2.out, hend, List.drop_length]; rfl
              have HC := Lib.hid hcs
              clear hcs
              go_wp2
              go_ret
              exact ⟨retb HC.out.symm, rfl⟩
            · have hue : ((used : Int) == (l.length : Int)) = false := by simp; omega
              have hul' : used < l.length := by omega
              obtain ⟨b, o, rfl, hb, hc⟩ := h3 (by omega)
              have hcell := hc used hul'
              have HDX := Lib.hid (digs_get HD.out hul')
              have HDP : Hid (l.drop used = l[used] :: l.drop (used + 1)) := Lib.hid (List.drop_eq_getElem_cons hul')
              clear hc h3
              generalize l[used] = x at *
              go_wp2_with (first
                | (go_at_call 139; refine (l2Size_any p n _ (by omega) hn).mono ?_; rw [HSZ.out]; rintro e w' ⟨rfl, rfl⟩)
                | (go_at_call 154; refine (l1Pair_any _ _ _ HDO.out HDX.out).mono ?_; rintro e w' ⟨rfl, rfl⟩))
              go_round
              case rel => exact ⟨p + s, used + 1, _, by omega, by omega, by go_num, by go_num, rfl, Lib.hid (pair_dig _ _), Lib.hid (by rw [← HX.out, HF2.out, HDP.out]; rfl)⟩
              case measure => simp [intOf]; omega
        · have hf := flags_nil (i := i) (show n ≤ p by omega)
          have HX2 := HX.out
          rw [hf] at HX2
          have HX3 := Lib.hid HX2
          clear HX2 hf
          by_cases hend : used = l.length
          · have hue : ((used : Int) == (l.length : Int)) = true := by simp [hend]
            have HX4 : Hid (checkAt dg n i leaf l = (out == dg)) := Lib.hid (by rw [← HX3.out, hend, List.drop_length]; rfl)
            clear hend
            go_wp2
            go_ret
            exact ⟨retb HX4.out.symm, rfl⟩
          · have hue : ((used : Int) == (l.length : Int)) = false := by simp; omega
            have HX4 : Hid (checkAt dg n i leaf l = false) := Lib.hid (by
              rw [← HX3.out, List.drop_eq_getElem_cons (show used < l.length by omega)]; rfl)
            clear hend
            go_wp2
            go_ret
            exact ⟨retb HX4.out.symm, rfl⟩
end Go.Proofs.Ytlhiabnablbkpaa
