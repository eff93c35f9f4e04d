/- Walk: the reference's TreeGrowthCheck. -/
import Derived.Test.YtlhiabnablbkpaaUc
namespace Go.Proofs.Ytlhiabnablbkpaa
open Go.RowKit

theorem l2Digests_b {l : List Int} {b : Bool} (h : Hid (digs l = b)) (v : Value) (w : World) (hv : RI w v l) : Calls Try.prog 150 #[v] w fun e w' => e = .returned (.bool b) ∧ w = w' := by
  rw [← h.out]; exact l2Digests_any l v w hv
theorem l2Fold_b {n r : Int} {l : List Int} (h : Hid (fold n l = r)) (v : Value) (w : World) (hn : dig n = true) (hl : digs l = true) (hv : RI w v l) : Calls Try.prog 155 #[.int .i64 n, v] w fun e w' => e = .returned (.int .i64 r) ∧ w = w' := by
  rw [← h.out]; exact l2Fold_any n l v w hn hl hv
theorem szs_zs (ts : List (Nat × Nat)) : szs ts = (ts.map Prod.snd).map fun (z : Nat) => (z : Int) := by simp [szs]
theorem gtrees_sz : ∀ n, n < 17 → ∀ m, m < n + 1 → ∀ z ∈ (gtrees m n).map Prod.snd, 1 ≤ z ∧ z ≤ 16 := by decide +kernel
theorem grow_check_no {m old n dg : Int} {l : List Int} (h : inB n 0 16 = false ∨ inB m 0 n = false ∨ digs l = false) : growCheck m old n dg l = false := by
  unfold growCheck
  rcases h with h | h | h <;> rw [h] <;> simp
theorem grow_check_yes {a b : Nat} {old dg : Int} {l : List Int} (h1 : inB (b : Int) 0 16 = true) (h2 : inB (a : Int) 0 (b : Int) = true) (h3 : digs l = true) : growCheck a old b dg l = growAt a old b dg l := by
  unfold growCheck
  rw [h1, h2, h3]; rfl
set_option maxHeartbeats 1600000 in
theorem TreeGrowthCheck_s (m old n dg : Int) (l : List Int) (v : Value) (w : World) (hv : RI w v l) :
    Calls Try.prog 153 #[.int .i64 m, .int .i64 old, .int .i64 n, .int .i64 dg, v] w fun e w' => e = .returned (.bool (growCheck m old n dg l)) ∧ Below w.heap.size w w' := by
  have HV := Lib.hid hv
  have hlen := hv.len
  obtain ⟨A, c, rfl, h1, h2, h3⟩ := hv
  unfold maxLen at h2 hlen
  have hlc := h1.1
  clear h1 h3
  obtain ⟨b1, H1⟩ : ∃ b, Hid (inB n 0 16 = b) := ⟨_, Lib.hid rfl⟩
  obtain ⟨b2, H2⟩ : ∃ b, Hid (inB m 0 n = b) := ⟨_, Lib.hid rfl⟩
  obtain ⟨b3, H3⟩ : ∃ b, Hid (digs l = b) := ⟨_, Lib.hid rfl⟩
  cases b1
  · have HG := Lib.hid (grow_check_no (m := m) (old := old) (n := n) (dg := dg) (l := l) (.inl H1.out))
    go_enter Try.func153, Try.ntmps153
    go_wp2_with (go_at_call 66; refine (l6In_b H1 _).mono ?_; rintro e w' ⟨rfl, rfl⟩)
    go_ret
    exact ⟨retb HG.out.symm, Below.refl _ _⟩
  cases b2
  · have HG := Lib.hid (grow_check_no (m := m) (old := old) (n := n) (dg := dg) (l := l) (.inr (.inl H2.out)))
    go_enter Try.func153, Try.ntmps153
    go_wp2_with (first
      | (go_at_call_of 66 (Value.int .i64 m); refine (l6In_b H2 _).mono ?_; rintro e w' ⟨rfl, rfl⟩)
      | (go_at_call 66; refine (l6In_b H1 _).mono ?_; rintro e w' ⟨rfl, rfl⟩))
    go_ret
    exact ⟨retb HG.out.symm, Below.refl _ _⟩
  cases b3
  · have HG := Lib.hid (grow_check_no (m := m) (old := old) (n := n) (dg := dg) (l := l) (.inr (.inr H3.out)))
    go_enter Try.func153, Try.ntmps153
    go_wp2_with (first
      | (go_at_call_of 66 (Value.int .i64 m); refine (l6In_b H2 _).mono ?_; rintro e w' ⟨rfl, rfl⟩)
      | (go_at_call 66; refine (l6In_b H1 _).mono ?_; rintro e w' ⟨rfl, rfl⟩)
      | (go_at_call 150; refine (l2Digests_b H3 _ _ HV.out).mono ?_; rintro e w' ⟨rfl, rfl⟩))
    go_ret
    exact ⟨retb HG.out.symm, Below.refl _ _⟩
  have i1 := inB_true.1 H1.out
  have i2 := inB_true.1 H2.out
  obtain ⟨b, rfl⟩ : ∃ b : Nat, n = b := ⟨n.toNat, by omega⟩
  obtain ⟨a, rfl⟩ : ∃ a : Nat, m = a := ⟨m.toNat, by omega⟩
  have hb16 : b ≤ 16 := by omega
  have hab : a ≤ b := by omega
  have HG := Lib.hid (grow_check_yes (old := old) (dg := dg) H1.out H2.out H3.out)
  rw [HG.out]
  have HDA : Hid (dig (a : Int) = true) := Lib.hid (dig_true.2 (by omega))
  have HDB : Hid (dig (b : Int) = true) := Lib.hid (dig_true.2 (by omega))
  have HSZ := Lib.hid (gtrees_sz b (by omega) a (by omega))
  have HGL := Lib.hid (gtrees_len a b)
  have HFL : Hid ((trees 0 a).length ≤ (gtrees a b).length) := Lib.hid (by unfold gtrees; simp)
  obtain ⟨ts, HTS⟩ : ∃ ts, Hid (gtrees a b = ts) := ⟨_, Lib.hid rfl⟩
  obtain ⟨fl, HFF⟩ : ∃ fl, Hid ((trees 0 a).length = fl) := ⟨_, Lib.hid rfl⟩
  rw [HTS.out] at HGL HSZ HFL
  rw [HFF.out] at HFL
  have hgl := HGL.out
  have hfl := HFL.out
  have HLS : Hid ((szs ts).length = ts.length) := Lib.hid (by simp [szs])
  clear i1 i2
  go_enter Try.func153, Try.ntmps153
  go_wp2_with (first
    | (go_at_call_of 66 (Value.int .i64 a); refine (l6In_b H2 _).mono ?_; rintro e w' ⟨rfl, rfl⟩)
    | (go_at_call 66; refine (l6In_b H1 _).mono ?_; rintro e w' ⟨rfl, rfl⟩)
    | (go_at_call 150; refine (l2Digests_b H3 _ _ HV.out).mono ?_; rintro e w' ⟨rfl, rfl⟩))
  refine (l2Sizes_any a b w (by omega) hb16).mono ?_
  rintro e w1 ⟨v1, rfl, ho1, hb1⟩
  rw [HTS.out] at ho1
  rw [HFF.out]
  obtain ⟨A1, c1, rfl⟩ := ho1.sl
  rw [HLS.out] at ho1 ⊢
  have HV1 := Lib.hid (HV.out.below hb1)
  by_cases hle : l.length = ts.length
  · have hle' : ((l.length : Int) != (ts.length : Int)) = false := by simp [hle]
    have HLE := Lib.hid hle
    have hfl2 : (fl : Int) ≤ (c : Int) := by omega
    have hfl3 : fl ≤ l.length := by omega
    have HV2 := Lib.hid (R1.take HV1.out hfl3)
    have HD2 := Lib.hid (digs_take H3.out fl)
    obtain ⟨r1, HR1⟩ : ∃ r, Hid (fold a (l.take fl) = r) := ⟨_, Lib.hid rfl⟩
    have HRI : Hid (RI w1 (.slice A1 ts.length c1) ((ts.map Prod.snd).map fun (z : Nat) => (z : Int))) := Lib.hid (by rw [← szs_zs]; exact ho1.r1)
    clear hle ho1
    by_cases he : r1 = old
    · have he' : (r1 == old) = true := by simp [he]
      have HE := Lib.hid he
      clear he
      go_wp2_with (first
        | (go_at_call_of 155 (Value.int .i64 a); refine (l2Fold_b HR1 _ _ HDA.out HD2.out HV2.out).mono ?_; rintro e w' ⟨rfl, rfl⟩)
        | (go_at_call 158; refine (l2Merge_any (ts.map Prod.snd) l _ _ _ HRI.out HV1.out (by rw [List.length_map]; exact HLE.out) (by rw [List.length_map]; exact HGL.out) HSZ.out H3.out).mono ?_; rintro e w2 ⟨v2, rfl, ho2, hd2, hb2⟩))
      have HM : Hid (mergedL (ts.map Prod.snd) l = merged pair a b l) := Lib.hid (by rw [← HTS.out]; rfl)
      rw [HM.out] at ho2 hd2
      obtain ⟨xs, HXS⟩ : ∃ xs, Hid (merged pair a b l = xs) := ⟨_, Lib.hid rfl⟩
      rw [HXS.out] at ho2 hd2
      obtain ⟨r2, HR2⟩ : ∃ r, Hid (fold b xs = r) := ⟨_, Lib.hid rfl⟩
      have HGA : Hid (growAt a old b dg l = (r2 == dg)) := Lib.hid (by
        unfold growAt
        rw [HFF.out, HR1.out, he', HTS.out, decide_eq_true HLE.out, HXS.out, HR2.out]; rfl)
      obtain ⟨A2, c2, rfl⟩ := ho2.sl
      go_wp2_with (go_at_call 155; refine (l2Fold_b HR2 _ _ HDB.out hd2 ho2.r1).mono ?_; rintro e w' ⟨rfl, rfl⟩)
      go_ret
      exact ⟨retb HGA.out.symm, below_bb hb1 hb2⟩
    · have he' : (r1 == old) = false := by rw [beq_eq_false_iff_ne]; exact he
      have HGA : Hid (growAt a old b dg l = false) := Lib.hid (by
        unfold growAt
        rw [HFF.out, HR1.out, he']; simp)
      clear he
      go_wp2_with (go_at_call 155; refine (l2Fold_b HR1 _ _ HDA.out HD2.out HV2.out).mono ?_; rintro e w' ⟨rfl, rfl⟩)
      go_ret
      exact ⟨retb HGA.out.symm, hb1⟩
  · have hle' : ((l.length : Int) != (ts.length : Int)) = true := by simp; omega
    have HGA : Hid (growAt a old b dg l = false) := Lib.hid (by
      unfold growAt
      rw [HTS.out, decide_eq_false hle]; simp)
    clear hle
    go_wp2
    go_ret
    exact ⟨retb HGA.out.symm, hb1⟩
end Go.Proofs.Ytlhiabnablbkpaa
