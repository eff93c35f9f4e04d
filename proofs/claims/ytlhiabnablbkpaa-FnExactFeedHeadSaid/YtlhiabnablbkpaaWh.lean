/- Walks: the reference's proofs. -/
import Derived.Test.YtlhiabnablbkpaaWg
namespace Go.Proofs.Ytlhiabnablbkpaa
open Go.RowKit

theorem l2Peak_any (n i : Nat) (w : World) (hn : n ≤ 16) (hi : i < n) :
    Calls Try.prog 137 #[.int .i64 n, .int .i64 i] w fun e w' => e = .returned (.tuple #[.int .i64 ((pkT n i).1 : Nat), .int .i64 ((pkT n i).2 : Nat)]) ∧ w = w' := by
  have HOK := Lib.hid (pkF_ok n (by omega) i hi)
  have HSZ := Lib.hid (pk_ok n (by omega) i hi).2.2.2.2.2.2.2.1
  go_enter Try.func137, Try.ntmps137
  go_wp2
  go_loop [6] (fun q => ∃ f p : Nat, q = .int .i64 p ∧ p ≤ i ∧ 17 ≤ f + p ∧ Hid (pkF f n i p = (pkT n i).1)) (fun q => 64 - (intOf q).toNat)
  case atStart => exact ⟨17, 0, rfl, by omega, by omega, HOK⟩
  case round =>
    obtain ⟨f, p, rfl, hpi, hf, HF⟩ := hrel
    have hb := sz_bd (show p < n by omega)
    by_cases hc : p + sz p n ≤ i
    · obtain ⟨f, rfl⟩ : ∃ g, f = g + 1 := ⟨f - 1, by omega⟩
      have HG := Lib.hid (pkF_go (f := f) hc)
      obtain ⟨s, HS⟩ : ∃ s, Hid (sz p n = s) := ⟨_, Lib.hid rfl⟩
      rw [HS.out] at hb hc HG
      have hc' : (p : Int) + (s : Int) ≤ i := by omega
      go_wp2_with (go_at_call 139; refine (l2Size_any p n _ (by omega) hn).mono ?_; rw [HS.out]; rintro e w' ⟨rfl, rfl⟩)
      go_round
      case rel => exact ⟨f, p + s, by go_num, by omega, by omega, Lib.hid (by rw [← HG.out, HF.out])⟩
      case measure => simp [intOf]; omega
    · have HG := Lib.hid (pkF_stop hc f)
      obtain ⟨s, HS⟩ : ∃ s, Hid (sz p n = s) := ⟨_, Lib.hid rfl⟩
      rw [HS.out] at hb hc
      have hc' : (i : Int) < (p : Int) + (s : Int) := by omega
      have hc2 : decide ((p : Int) + (s : Int) ≤ i) = false := by simp; omega
      have hp : p = (pkT n i).1 := by rw [← HF.out, HG.out]
      have HP := Lib.hid hp
      clear hp hc
      go_wp2_with (go_at_call 139; refine (l2Size_any p n _ (by omega) hn).mono ?_; rw [HS.out]; rintro e w' ⟨rfl, rfl⟩)
      go_ret2
      refine ⟨?_, rfl⟩
      show Ending.returned (Value.tuple #[.int .i64 (p : Int), .int .i64 (s : Int)]) = _
      rw [HSZ.out, ← HP.out, HS.out]

set_option maxHeartbeats 1600000 in
set_option maxRecDepth 100000 in
theorem TreeProof_s_ok (l : List Int) (i : Nat) (v : Value) (w : World) (hv : RI w v l) (hl : leavesOk l = true) (hi : i < l.length) :
    Calls Try.prog 67 #[v, .int .i64 i] w fun e w' => ∃ v', e = .returned v' ∧ O1 (Value.int .i64) w.heap.size 3 w' v' (proofAt l i) ∧ Below w.heap.size w w' := by
  obtain ⟨h16, hd⟩ := leavesOk_true.1 hl
  have HL := Lib.hid hl; clear hl
  have HD := Lib.hid hd; clear hd
  have HV := Lib.hid hv
  obtain ⟨A, c, rfl, h1, h2, h3⟩ := hv
  obtain ⟨b, o, rfl, hb0, _⟩ := h3 (by omega)
  clear h3
  have hc1 := h1.1
  unfold maxLen at h2
  obtain ⟨p1, p2, p3, p4, p5, p6, p7, p8, p9⟩ := pk_ok l.length (by omega) i hi
  have HP2 := Lib.hid p2
  have HP7 := Lib.hid p7
  have HB : Hid (inB i 0 ((l.length : Int) - 1) = true) := Lib.hid (inB_true.2 (by omega))
  clear p2 p7 p8 p9 p4 p5 p6 h1
  have hl16 : 2 ^ lev l.length i ≤ 2 ^ 4 := Nat.pow_le_pow_right (by omega) p3
  obtain ⟨Z, HZ⟩ : ∃ Z, Hid (2 ^ lev l.length i = Z) := ⟨_, Lib.hid rfl⟩
  have HPZ : Hid ((pkT l.length i).2 = Z) := Lib.hid (by rw [HP2.out, HZ.out])
  obtain ⟨pk, HPK⟩ : ∃ p, Hid ((pkT l.length i).1 = p) := ⟨_, Lib.hid rfl⟩
  rw [HZ.out] at hl16
  go_enter Try.func67, Try.ntmps67
  go_wp2_with (first
    | (go_at_call 136; refine (l2Leaves_any l _ _ (HV.out.alloc _)).mono ?_; rw [HL.out]; rintro e w' ⟨rfl, rfl⟩)
    | (go_at_call 66; refine (l6In_any _ _ _ _).mono ?_; rw [HB.out]; rintro e w' ⟨rfl, rfl⟩)
    | (go_at_call 137; refine (l2Peak_any l.length i _ h16 hi).mono ?_; rw [HPZ.out, HPK.out]; rintro e w' ⟨rfl, rfl⟩))
  go_loopw [5, 9, 10] (fun out q _ wr => ∃ j : Nat, j ≤ lev l.length i ∧ q = .int .i64 ((2 ^ j : Nat) : Int) ∧ O1 (Value.int .i64) w.heap.size 3 wr out (sibs l i j) ∧ Below w.heap.size w wr) (fun _ q _ _ => 64 - (intOf q).toNat)
  case atStart => exact ⟨0, Nat.zero_le _, rfl, O1.made _ _ _, (Below.refl _ _).alloc (Nat.le_refl _) _⟩
  case round =>
    obtain ⟨j, hj, rfl, hown, hb⟩ := hrel
    by_cases hlt : j < lev l.length i
    · have hS1 : 1 ≤ 2 ^ j := Nat.one_le_two_pow
      have hi16 : i ≤ 16 := by omega
      have hS8 : 2 ^ j ≤ 2 ^ 3 := Nat.pow_le_pow_right (by omega) (by omega)
      have hlt' : 2 ^ j < Z := by rw [← HZ.out]; exact Nat.pow_lt_pow_right (by omega) hlt
      have hdm : i / 2 ^ j * 2 ^ j ≤ i := Nat.div_mul_le_self _ _
      have hdv : i / 2 ^ j ≤ i := Nat.div_le_self _ _
      have e1 : (i : Int) / ((2 ^ j : Nat) : Int) = ((i / 2 ^ j : Nat) : Int) := (Int.natCast_ediv _ _).symm
      have e2 : ((i / 2 ^ j : Nat) : Int) * ((2 ^ j : Nat) : Int) = ((i / 2 ^ j * 2 ^ j : Nat) : Int) := (Int.natCast_mul _ _).symm
      have e3 : ((i / 2 ^ j * 2 ^ j : Nat) : Int) / ((2 ^ j : Nat) : Int) = ((i / 2 ^ j : Nat) : Int) := by rw [← Int.natCast_ediv, div_step i (by omega) j (by omega)]
      have hsok := sib_ok l.length (by omega) i hi j hlt
      have HS := Lib.hid (sibs_snoc l i j)
      have HJ : Hid ((2 ^ (j + 1) : Nat) = 2 ^ j * 2) := Lib.hid (Nat.pow_succ 2 j)
      have hsd : sib i j = if i / 2 ^ j % 2 = 0 then i / 2 ^ j * 2 ^ j + 2 ^ j else i / 2 ^ j * 2 ^ j - 2 ^ j := rfl
      have hge : ¬ i / 2 ^ j % 2 = 0 → 2 ^ j ≤ i / 2 ^ j * 2 ^ j := fun h => Nat.le_mul_of_pos_left _ (Nat.pos_of_ne_zero fun h0 => h (by rw [h0]))
      have HT : Hid (digs ((l.drop (sib i j)).take (2 ^ j)) = true) := Lib.hid (digs_take (digs_drop HD.out _) _)
      have HLN : Hid (((l.drop (sib i j)).take (2 ^ j)).length = 2 ^ j) := Lib.hid (by simp; omega)
      have HR : Hid (rootN ((l.drop (sib i j)).take (2 ^ j)) j 0 = rootN l j (sib i j)) := Lib.hid (by rw [rootN_take _ _ (by omega), rootN_drop, Nat.add_zero])
      have hrd := R1.take (R1.drop (HV.out.below hb) (m := sib i j) (by omega)) (m := 2 ^ j) (by simp; omega)
      have hlS : (sibs l i j).length = j := by simp [sibs]
      generalize (l.drop (sib i j)).take (2 ^ j) = lt at *
      generalize hS : 2 ^ j = S at *
      have HSS := Lib.hid hS
      clear hS
      generalize hD : i / S = D at *
      generalize hM : D * S = M at *
      clear hD hM
      by_cases hpar : D % 2 = 0
      · have hpi : (D : Int) % 2 = 0 := by omega
        rw [if_pos hpar] at hsd
        generalize sib i j = sb at *
        have e4 : (M : Int) + (S : Int) = (sb : Int) := by omega
        clear hsd hpar hge
        go_wp2_with (first
          | (go_at_call 138; refine (l2Root_k j lt _ _ HT.out (by omega) (by rw [HSS.out]; exact HLN.out) hrd).mono ?_; rw [HR.out]; rintro e w4 ⟨rfl, hb4⟩; have hown4 := hown.below hb4; have hbb4 := hb.trans (hb4.mono hb.size))
          | (at_builtin; refine app_int hown4 (by omega) hbb4.size rfl rfl rfl rfl ?_; intro v5 w5 hown5 hb5))
        go_roundw
        case rel => exact ⟨j + 1, by omega, by rw [HJ.out]; go_num, by rw [HS.out]; exact hown5, hbb4.trans hb5⟩
        case measure => simp [intOf]; omega
      · have hpi : ((D : Int) % 2 == 0) = false := by simp; omega
        rw [if_neg hpar] at hsd
        have hge2 := hge hpar
        generalize sib i j = sb at *
        have e4 : (M : Int) - (S : Int) = (sb : Int) := by omega
        clear hsd hpar hge
        go_wp2_with (first
          | (go_at_call 138; refine (l2Root_k j lt _ _ HT.out (by omega) (by rw [HSS.out]; exact HLN.out) hrd).mono ?_; rw [HR.out]; rintro e w4 ⟨rfl, hb4⟩; have hown4 := hown.below hb4; have hbb4 := hb.trans (hb4.mono hb.size))
          | (at_builtin; refine app_int hown4 (by omega) hbb4.size rfl rfl rfl rfl ?_; intro v5 w5 hown5 hb5))
        go_roundw
        case rel => exact ⟨j + 1, by omega, by rw [HJ.out]; go_num, by rw [HS.out]; exact hown5, hbb4.trans hb5⟩
        case measure => simp [intOf]; omega
    · obtain rfl : j = lev l.length i := by omega
      rw [HZ.out]
      go_wp2
      go_loopw [5, 11] (fun out q wr => ∃ (p : Nat) (l1 : List Int), p ≤ l.length ∧ q = .int .i64 p ∧ O1 (Value.int .i64) w.heap.size 3 wr out l1 ∧ l1.length ≤ 100 ∧
        Hid (l1 ++ (othersFrom l.length i p).map (rootT l) = proofAt l i) ∧ Below w.heap.size w wr) (fun _ q _ => l.length - (intOf q).toNat)
      case atStart => exact ⟨0, _, Nat.zero_le _, rfl, hown, by simp [sibs]; omega, Lib.hid (by unfold proofAt others; rw [HP7.out]; rfl), hb⟩
      case round =>
        obtain ⟨p, l1, hpl, rfl, hown1, hl1, HX, hb1⟩ := hrel
        by_cases hlt : p < l.length
        · obtain ⟨hs1, hs2⟩ := sz_bd hlt
          have HST := Lib.hid (othersFrom_step (i := i) hlt h16)
          have hmem : (p, sz p l.length) ∈ trees p l.length := by rw [trees_cons hlt h16]; simp
          obtain ⟨g1, g2, g3⟩ := trees_ok l.length (by omega) p (by omega) _ hmem
          have HTD := Lib.hid (digs_take (digs_drop HD.out p) (sz p l.length))
          have HR : Hid (rootN ((l.drop p).take (sz p l.length)) (sz p l.length).log2 0 = rootT l (p, sz p l.length)) := Lib.hid (by rw [rootN_take _ _ (by simp only at g2; omega), rootN_drop, Nat.add_zero]; rfl)
          have HLL : Hid (((l.drop p).take (sz p l.length)).length = 2 ^ (sz p l.length).log2) := Lib.hid (by simp only at g2; rw [g2]; simp; omega)
          have hrd := R1.take (R1.drop (HV.out.below hb1) (m := p) (by omega)) (m := sz p l.length) (by simp; omega)
          simp only at g1 g3
          clear hmem g2
          rw [HPK.out] at HST
          generalize (sz p l.length).log2 = lg at *
          generalize (l.drop p).take (sz p l.length) = lt at *
          generalize hr : rootT l (p, sz p l.length) = rt at *
          have HRT := Lib.hid hr
          clear hr
          generalize hs : sz p l.length = s at *
          have HSZ := Lib.hid hs
          clear hs
          by_cases hk : p = pk
          · have hkb : ((p : Int) == (pk : Int)) = true := by simp [hk]
            have hkn : ((p : Int) != (pk : Int)) = false := by simp [hk]
            have HS2 := HST.out
            rw [if_pos hk] at HS2
            have HS3 := Lib.hid HS2
            clear HS2 HST hk
            go_wp2_with (go_at_call 139; refine (l2Size_any p l.length _ (by omega) h16).mono ?_; rw [HSZ.out]; rintro e w' ⟨rfl, rfl⟩)
            go_roundw
            case rel => exact ⟨p + s, l1, by omega, by go_num, hown1, hl1, Lib.hid (by rw [← HX.out, HS3.out]; rfl), hb1⟩
            case measure => simp [intOf]; omega
          · have hkb : ((p : Int) == (pk : Int)) = false := by simp; omega
            have hkn : ((p : Int) != (pk : Int)) = true := by simp; omega
            have HS2 := HST.out
            rw [if_neg hk] at HS2
            have HS3 := Lib.hid HS2
            have hl2 : (othersFrom l.length i p).length ≤ 17 := others_len _ _ _
            have hl3 : l1.length + (othersFrom l.length i p).length = (proofAt l i).length := by rw [← HX.out]; simp
            have hl4 : (proofAt l i).length ≤ 40 := by
              have := others_len l.length i 0
              unfold proofAt others; rw [HP7.out]; simp [sibs]; unfold othersFrom at this; omega
            clear HS2 HST hk
            go_wp2_with (first
              | (go_at_call 139; refine (l2Size_any p l.length _ (by omega) h16).mono ?_; rw [HSZ.out]; rintro e w' ⟨rfl, rfl⟩)
              | (go_at_call 138; refine (l2Root_k lg lt _ _ HTD.out g3 HLL.out hrd).mono ?_; rw [HR.out]; rintro e w4 ⟨rfl, hb4⟩; have hown4 := hown1.below hb4; have hbb4 := hb1.trans (hb4.mono hb1.size))
              | (at_builtin; refine app_int hown4 (by omega) hbb4.size rfl rfl rfl rfl ?_; intro v5 w5 hown5 hb5))
            go_roundw
            case rel => exact ⟨p + s, l1 ++ [rt], by omega, by go_num, hown5, by simp; omega, Lib.hid (by rw [← HX.out, HS3.out, List.map_append, ← List.append_assoc, ← HRT.out]; rfl), hbb4.trans hb5⟩
            case measure => simp [intOf]; omega
        · have hz := othersFrom_nil (i := i) (show l.length ≤ p by omega)
          have HXX := HX.out
          rw [hz, List.map_nil, List.append_nil] at HXX
          have HX2 := Lib.hid HXX
          clear HXX hz
          go_wp2
          go_ret
          exact ⟨_, rfl, by rw [← HX2.out]; exact hown1, hb1⟩
theorem TreeProof_s_no (l : List Int) (i : Int) (v : Value) (w : World) (hv : RI w v l) (hl : (leavesOk l && inB i 0 (l.length - 1)) = false) :
    Calls Try.prog 67 #[v, .int .i64 i] w fun e w' => ∃ v', e = .returned v' ∧ O1 (Value.int .i64) w.heap.size 3 w' v' [] ∧ Below w.heap.size w w' := by
  have HV := Lib.hid hv
  have hm := hv.len
  obtain ⟨A, c, rfl, h1, h2, h3⟩ := hv
  unfold maxLen at hm
  clear h3
  cases hx : leavesOk l
  · have HX := Lib.hid hx
    clear hl hx
    go_enter Try.func67, Try.ntmps67
    go_wp2_with (go_at_call 136; refine (l2Leaves_any l _ _ (HV.out.alloc _)).mono ?_; rw [HX.out]; rintro e w' ⟨rfl, rfl⟩)
    go_ret
    exact ⟨_, rfl, O1.made _ _ _, (Below.refl _ _).alloc (Nat.le_refl _) _⟩
  · rw [hx, Bool.true_and] at hl
    have HX := Lib.hid hx
    have HI := Lib.hid hl
    clear hl hx
    go_enter Try.func67, Try.ntmps67
    go_wp2_with (first
      | (go_at_call 136; refine (l2Leaves_any l _ _ (HV.out.alloc _)).mono ?_; rw [HX.out]; rintro e w' ⟨rfl, rfl⟩)
      | (go_at_call 66; refine (l6In_any _ _ _ _).mono ?_; rw [HI.out]; rintro e w' ⟨rfl, rfl⟩))
    go_ret
    exact ⟨_, rfl, O1.made _ _ _, (Below.refl _ _).alloc (Nat.le_refl _) _⟩
theorem TreeProof_s (l : List Int) (i : Int) (v : Value) (w : World) (hv : RI w v l) :
    Calls Try.prog 67 #[v, .int .i64 i] w fun e w' => ∃ v', e = .returned v' ∧ O1 (Value.int .i64) w.heap.size 3 w' v' (proofOf l i) ∧ Below w.heap.size w w' := by
  cases h : leavesOk l && inB i 0 (l.length - 1)
  · have hp : proofOf l i = [] := by unfold proofOf; rw [h]; rfl
    rw [hp]
    exact TreeProof_s_no l i v w hv h
  · have hp : proofOf l i = proofAt l i.toNat := by unfold proofOf; rw [h]; rfl
    rw [hp]
    rw [Bool.and_eq_true, inB_true] at h
    obtain ⟨h1, h2, h3⟩ := h
    obtain ⟨k, rfl⟩ := Int.eq_ofNat_of_zero_le h2
    exact TreeProof_s_ok l k v w hv h1 (by omega)
end Go.Proofs.Ytlhiabnablbkpaa
