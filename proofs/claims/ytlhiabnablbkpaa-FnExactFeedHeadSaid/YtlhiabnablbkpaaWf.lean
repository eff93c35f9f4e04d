/- Walks: peaks and their digest in the reference's way. -/
import Derived.Test.YtlhiabnablbkpaaWd
namespace Go.Proofs.Ytlhiabnablbkpaa
open Go.RowKit

theorem szRel2 {p n s f : Nat} (hc : p + 2 * s ≤ n) (h3 : p % (2 * s) = 0) (HF : Hid (s * 2 ^ f = 32 ∧ szF p n f s = sz p n)) (h1' : 1 ≤ s) (hn : n ≤ 16) :
    ∃ f' s' : Nat, Value.int .i64 (2 * (s : Int)) = .int .i64 s' ∧ 1 ≤ s' ∧ s' ≤ 16 ∧ Hid (s' * 2 ^ f' = 32 ∧ szF p n f' s' = sz p n) := by
  obtain ⟨f', s', h, r⟩ := szRel (by omega) h3 HF h1' hn
  exact ⟨f', s', by rw [← h]; congr 1; omega, r⟩
theorem l2Size_any (p n : Nat) (w : World) (hp : p ≤ 16) (hn : n ≤ 16) :
    Calls Try.prog 139 #[.int .i64 p, .int .i64 n] w fun e w' => e = .returned (.int .i64 (sz p n)) ∧ w = w' := by
  go_enter Try.func139, Try.ntmps139
  go_wp2
  go_loop [5] (fun q => ∃ f s : Nat, q = .int .i64 s ∧ 1 ≤ s ∧ s ≤ 16 ∧ Hid (s * 2 ^ f = 32 ∧ szF p n f s = sz p n)) (fun q => 64 - (intOf q).toNat)
  case atStart => exact ⟨5, 1, rfl, by omega, by omega, Lib.hid ⟨rfl, rfl⟩⟩
  case round =>
    obtain ⟨f, s, rfl, h1, h16, HF⟩ := hrel
    have em : (p : Int) % (2 * (s : Int)) = ((p % (2 * s) : Nat) : Int) := by simp
    by_cases h3 : p % (2 * s) = 0
    · have hc3 : (p : Int) % (2 * (s : Int)) = 0 := by omega
      clear em
      by_cases h2 : p + 2 * s ≤ n
      · have hc4 : (p : Int) + 2 * (s : Int) ≤ (n : Int) := by omega
        go_wp2
        go_round
        case rel => exact szRel2 h2 h3 HF h1 hn
        case measure => simp [intOf]; omega
      · have hc4 : ¬ ((p : Int) + 2 * (s : Int) ≤ (n : Int)) := by omega
        go_wp2
        go_ret
        exact ⟨reti (by rw [← HF.out.2, szF_stop (by omega)]), rfl⟩
    · have hc3 : ((p : Int) % (2 * (s : Int)) == 0) = false := by rw [em]; simp; omega
      clear em
      go_wp2
      go_ret
      exact ⟨reti (by rw [← HF.out.2, szF_stop (by omega)]), rfl⟩

set_option maxHeartbeats 400000 in
theorem l2Root_k : ∀ (k : Nat) (l : List Int) (v : Value) (w : World), digs l = true → k ≤ 4 → l.length = 2 ^ k → RI w v l →
    Calls Try.prog 138 #[v] w fun e w' => e = .returned (.int .i64 (rootN l k 0)) ∧ Below w.heap.size w w' := by
  intro k
  induction k with
  | zero =>
    intro l v w hd _ hl hv
    obtain ⟨A, c, rfl, h1, h2, h3⟩ := hv
    have hl1 : l.length = 1 := by simpa using hl
    obtain ⟨b, o, rfl, hb, hc⟩ := h3 (by omega)
    have hcell : w.cell? ⟨b, o, none⟩ = some (.int .i64 (l.getD 0 0)) := by
      rw [List.getD_eq_getElem?_getD, List.getElem?_eq_getElem (by omega)]; exact hc 0 (by omega)
    have HH := Lib.hid hl1
    rw [hl1]
    clear hc h3 hl hl1 h1
    go_enter Try.func138, Try.ntmps138
    go_wp2
    go_ret
    exact ⟨reti (by rfl), Below.refl _ _⟩
  | succ k ih =>
    intro l v w hd hk hl hv
    have hy1 : 1 ≤ 2 ^ k := Nat.one_le_two_pow
    have hl2 : l.length = 2 * 2 ^ k := by rw [hl, Nat.pow_succ]; omega
    have D1 := Lib.hid (rootN_dig (digs_take hd (2 ^ k)) k 0 (by simp; omega))
    have D2 := Lib.hid (rootN_dig (digs_drop hd (2 ^ k)) k 0 (by simp; omega))
    have T1 := Lib.hid (digs_take hd (2 ^ k))
    have T2 := Lib.hid (digs_drop hd (2 ^ k))
    have E : Hid (rootN l (k + 1) 0 = pair (rootN (l.take (2 ^ k)) k 0) (rootN (l.drop (2 ^ k)) k 0)) :=
      Lib.hid (by conv => { lhs; unfold rootN }; rw [rootN_take k 0 (by omega), rootN_drop k 0, Nat.add_zero, Nat.zero_add])
    have IH : Hid (∀ (l : List Int) (v : Value) (w : World), digs l = true → k ≤ 4 → l.length = 2 ^ k → RI w v l →
      Calls Try.prog 138 #[v] w fun e w' => e = .returned (.int .i64 (rootN l k 0)) ∧ Below w.heap.size w w') := ih
    clear ih
    obtain ⟨A, c, rfl, h1, h2, h3⟩ := id hv
    obtain ⟨b, o, rfl, hb, _⟩ := h3 (by omega)
    have R1' := R1.take hv (m := 2 ^ k) (by omega)
    have R2' := R1.drop hv (m := 2 ^ k) (by omega)
    have L1 : Hid ((l.take (2 ^ k)).length = 2 ^ k) := Lib.hid (by simp; omega)
    have L2 : Hid ((l.drop (2 ^ k)).length = 2 ^ k) := Lib.hid (by simp; omega)
    have hc1 := h1.1
    clear hv h3 h1 hd hl
    generalize l.take (2 ^ k) = la at *
    generalize l.drop (2 ^ k) = lb at *
    rw [hl2] at R2' ⊢
    rw [hl2] at hc1
    clear hl2
    generalize 2 ^ k = y at *
    unfold maxLen at h2
    have hq : 2 * (y : Int) / 2 = y := by omega
    go_enter Try.func138, Try.ntmps138
    go_wp2
    refine wp_region_up (by kernel_rfl) (by kernel_rfl) ?_
    repeat (go_big_quiet_step (first
      | (go_at_call 138; refine up_call (IH.out la _ _ T1.out (by omega) L1.out (R1'.up _)))
      | (go_at_call 138; refine up_call (IH.out lb _ _ T2.out (by omega) L2.out (R2'.up _)))
      | (go_at_call 154; refine up_same (l1Pair_any _ _ _ D1.out D2.out))))
    refine wpQuiet_nil ?_
    intro w1 hw1
    have hb1 := of_up hw1
    clear hw1
    go_wp2
    go_ret
    exact ⟨reti E.out.symm, hb1⟩

/-- What l2Cover gives: the roots of the trees from p on. -/
def coverOf (l : List Int) (p : Nat) : List Int := (trees p l.length).map (rootT l)
theorem cover_pre {l : List Int} {p0 p : Nat} {out : List Int} (h : out ++ coverOf l p = coverOf l p0) : out.length ≤ 17 := by
  have h1 := congrArg List.length h
  have h2 := trees_len p0 l.length
  simp [coverOf] at h1; omega
set_option maxHeartbeats 400000 in
theorem l2Cover_any (l : List Int) (p0 : Nat) (v : Value) (w : World) (hd : digs l = true) (h16 : l.length ≤ 16) (hp : p0 ≤ l.length) (hv : RI w v l) :
    Calls Try.prog 152 #[v, .int .i64 p0] w fun e w' => ∃ v', e = .returned v' ∧ O1 (Value.int .i64) w.heap.size 3 w' v' (coverOf l p0) ∧ Below w.heap.size w w' := by
  have HD := Lib.hid hd; clear hd
  have HV := Lib.hid hv
  obtain ⟨A, c, rfl, h1, h2, h3⟩ := hv
  unfold maxLen at h2
  have hb0 : 0 < l.length → ∃ b o, A = some ⟨b, o, none⟩ := fun h => by obtain ⟨b, o, hA, _⟩ := h3 h; exact ⟨b, o, hA⟩
  have HB := Lib.hid hb0
  have hc1 := h1.1
  clear h3 hb0 h1
  go_enter Try.func152, Try.ntmps152
  go_wp2
  go_loopw [5, 6] (fun out q wr => ∃ (p : Nat) (l1 : List Int), p ≤ l.length ∧ q = .int .i64 p ∧ O1 (Value.int .i64) w.heap.size 3 wr out l1 ∧ Hid (l1 ++ coverOf l p = coverOf l p0) ∧ Below w.heap.size w wr) (fun _ q _ => l.length - (intOf q).toNat)
  case atStart => exact ⟨p0, [], hp, rfl, O1.made _ _ _, Lib.hid rfl, (Below.refl _ _).alloc (Nat.le_refl _) _⟩
  case round =>
    obtain ⟨p, l1, hpl, rfl, hown, HX, hb⟩ := hrel
    by_cases hlt : p < l.length
    · obtain ⟨b, o, rfl⟩ := HB.out (by omega)
      obtain ⟨hs1, hs2⟩ := sz_bd hlt
      have hmem : (p, sz p l.length) ∈ trees p l.length := by rw [trees_cons hlt h16]; simp
      obtain ⟨g1, g2, g3⟩ := trees_ok l.length (by omega) p (by omega) _ hmem
      have HG := Lib.hid g2
      have HC : Hid (coverOf l p = rootN l (sz p l.length).log2 p :: coverOf l (p + sz p l.length)) := Lib.hid (by unfold coverOf; rw [trees_cons hlt h16]; rfl)
      have hl1 := cover_pre HX.out
      have HTD := Lib.hid (digs_take (digs_drop HD.out p) (sz p l.length))
      have HR : Hid (rootN ((l.drop p).take (sz p l.length)) (sz p l.length).log2 0 = rootN l (sz p l.length).log2 p) := Lib.hid (by rw [rootN_take _ _ (by simp only at g2; omega), rootN_drop, Nat.add_zero])
      have HL : Hid (((l.drop p).take (sz p l.length)).length = 2 ^ (sz p l.length).log2) := Lib.hid (by simp only at g2; rw [g2]; simp; omega)
      have hrd := R1.take (R1.drop (HV.out.below hb) (m := p) (by omega)) (m := sz p l.length) (by simp; omega)
      simp only at g1 g3
      clear hmem g2
      generalize (sz p l.length).log2 = lg at *
      generalize (l.drop p).take (sz p l.length) = lt at *
      generalize hs : sz p l.length = s at *
      have HS := Lib.hid hs
      clear hs
      go_wp2_with (first
        | (go_at_call 139; refine (l2Size_any p l.length _ (by omega) h16).mono ?_; rw [HS.out]; rintro e w' ⟨rfl, rfl⟩)
        | (go_at_call 138; refine (l2Root_k lg lt _ _ HTD.out g3 HL.out hrd).mono ?_; rw [HR.out]; rintro e w1 ⟨rfl, hb1⟩; have hown1 := hown.below hb1; have hb2 := hb.trans (hb1.mono hb.size))
        | (at_builtin; refine app_int hown1 (by omega) hb2.size rfl rfl rfl rfl ?_; intro v3 w3 hown3 hb3))
      go_roundw
      case rel => exact ⟨p + s, l1 ++ [rootN l lg p], by omega, by go_num, hown3, Lib.hid (by rw [← HX.out, HC.out, List.append_assoc]; rfl), hb2.trans hb3⟩
      case measure => simp [intOf]; omega
    · go_wp2
      go_ret
      have hc : coverOf l p = [] := by unfold coverOf; rw [trees_nil (by omega)]; rfl
      have := HX.out
      rw [hc, List.append_nil] at this
      exact ⟨_, rfl, by rw [← this]; exact hown, hb⟩
end Go.Proofs.Ytlhiabnablbkpaa
