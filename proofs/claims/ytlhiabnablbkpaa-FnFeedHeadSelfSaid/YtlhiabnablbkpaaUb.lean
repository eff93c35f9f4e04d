/- Walks: the sizes of a growth proof's trees; merging. -/
import Derived.Test.YtlhiabnablbkpaaUa
import Derived.Test.YtlhiabnablbkpaaVi
namespace Go.Proofs.Ytlhiabnablbkpaa
open Go.RowKit

def szs (ts : List (Nat × Nat)) : List Int := ts.map fun t => (t.2 : Int)
theorem szs_cons {p n : Nat} (h : p < n) (hn : n ≤ 16) : szs (trees p n) = (sz p n : Int) :: szs (trees (p + sz p n) n) := by unfold szs; rw [trees_cons h hn]; rfl
theorem szs_nil {p n : Nat} (h : n ≤ p) : szs (trees p n) = [] := by unfold szs; rw [trees_nil h]; rfl
theorem szs_len (p n : Nat) : (szs (trees p n)).length ≤ 17 := by unfold szs; rw [List.length_map]; exact trees_len p n
theorem szs_gtrees (m n : Nat) : szs (gtrees m n) = szs (trees 0 m) ++ szs (trees m n) := by simp [szs, gtrees]
theorem pre_len {l1 l2 l3 : List Int} {k : Nat} (h : l1 ++ l2 = l3) (hl : l3.length ≤ k) : l1.length ≤ k := by
  have := congrArg List.length h; simp at this; omega
set_option maxHeartbeats 800000 in
theorem l2Sizes_any (m n : Nat) (w : World) (hm : m ≤ 16) (hn : n ≤ 16) :
    Calls Try.prog 157 #[.int .i64 m, .int .i64 n] w fun e w' => ∃ v', e = .returned (.tuple #[v', .int .i64 (trees 0 m).length]) ∧ O1 (Value.int .i64) w.heap.size 3 w' v' (szs (gtrees m n)) ∧ Below w.heap.size w w' := by
  go_enter Try.func157, Try.ntmps157
  go_wp2
  go_loopw [6, 7] (fun out q wr => ∃ (p : Nat) (l1 : List Int), p ≤ m ∧ q = .int .i64 p ∧ O1 (Value.int .i64) w.heap.size 3 wr out l1 ∧ Hid (l1 ++ szs (trees p m) = szs (trees 0 m)) ∧ Below w.heap.size w wr) (fun _ q _ => m - (intOf q).toNat)
  case atStart => exact ⟨0, [], Nat.zero_le _, rfl, O1.made _ _ _, Lib.hid rfl, (Below.refl _ _).alloc (Nat.le_refl _) _⟩
  case round =>
    obtain ⟨p, l1, hpl, rfl, hown, HX, hb⟩ := hrel
    have hl1 := pre_len HX.out (szs_len 0 m)
    by_cases hlt : p < m
    · obtain ⟨hs1, hs2⟩ := sz_bd hlt
      have HC := Lib.hid (szs_cons hlt hm)
      generalize hs : sz p m = s at *
      have HS := Lib.hid hs
      clear hs
      go_wp2_with (first
        | (go_at_call 139; refine (l2Size_any p m _ (by omega) hm).mono ?_; rw [HS.out]; rintro e w' ⟨rfl, rfl⟩)
        | (at_builtin; refine app_int hown (by omega) hb.size rfl rfl rfl rfl ?_; intro v3 w3 hown3 hb3))
      go_roundw
      case rel => exact ⟨p + s, l1 ++ [(s : Int)], by omega, by go_num, hown3, Lib.hid (by rw [← HX.out, HC.out, List.append_assoc]; rfl), hb.trans hb3⟩
      case measure => simp [intOf]; omega
    · have hz := szs_nil (show m ≤ p by omega)
      have HXX := HX.out
      rw [hz, List.append_nil] at HXX
      have HL : Hid (l1.length = (trees 0 m).length) := Lib.hid (by rw [HXX]; simp [szs])
      have HX2 := Lib.hid HXX
      have hll : (trees 0 m).length ≤ 17 := trees_len 0 m
      obtain ⟨A, c, rfl⟩ := hown.sl
      clear HX hz HXX
      go_wp2
      go_loopw [6, 9] (fun out q wr => ∃ (p : Nat) (l2 : List Int), p ≤ max m n ∧ q = .int .i64 p ∧ O1 (Value.int .i64) w.heap.size 3 wr out (l1 ++ l2) ∧ Hid (l2 ++ szs (trees p n) = szs (trees m n)) ∧ Below w.heap.size w wr) (fun _ q _ => n - (intOf q).toNat)
      case atStart => exact ⟨m, [], Nat.le_max_left _ _, rfl, by simpa using hown, Lib.hid rfl, hb⟩
      case round =>
        clear hown hb
        obtain ⟨p, l2, hpl, rfl, hown, HX, hb⟩ := hrel
        have hl2 := pre_len HX.out (szs_len m n)
        have hlen : (l1 ++ l2).length ≤ 34 := by simp; omega
        by_cases hlt : p < n
        · obtain ⟨hs1, hs2⟩ := sz_bd hlt
          have HC := Lib.hid (szs_cons hlt hn)
          generalize hs : sz p n = s at *
          have HS := Lib.hid hs
          clear hs
          go_wp2_with (first
            | (go_at_call 139; refine (l2Size_any p n _ (by omega) hn).mono ?_; rw [HS.out]; rintro e w' ⟨rfl, rfl⟩)
            | (at_builtin; refine app_int hown (by omega) hb.size rfl rfl rfl rfl ?_; intro v3 w3 hown3 hb3))
          go_roundw
          case rel => exact ⟨p + s, l2 ++ [(s : Int)], by omega, by go_num, by rw [← List.append_assoc]; exact hown3, Lib.hid (by rw [← HX.out, HC.out, List.append_assoc]; rfl), hb.trans hb3⟩
          case measure => simp [intOf]; omega
        · have hz := szs_nil (show n ≤ p by omega)
          have HXX := HX.out
          rw [hz, List.append_nil] at HXX
          have HX3 := Lib.hid HXX
          clear HXX hz
          go_wp2
          go_ret2
          refine ⟨u6, ?_, ?_, hb⟩
          · rw [← HL.out]; rfl
          · rw [szs_gtrees, ← HX2.out, ← HX3.out]; exact hown

/-- The roots that merging leaves. -/
def mergedL (zs : List Nat) (xs : List Int) : List Int := ((mergeF pair 0 (zs.zip xs) []).map Prod.snd).reverse
def fsts (st : List (Nat × Int)) : List Int := st.reverse.map fun p => (p.1 : Int)
def snds (st : List (Nat × Int)) : List Int := st.reverse.map fun p => p.2
theorem fsts_cons (p : Nat × Int) (st : List (Nat × Int)) : fsts (p :: st) = fsts st ++ [(p.1 : Int)] := by simp [fsts]
theorem snds_cons (p : Nat × Int) (st : List (Nat × Int)) : snds (p :: st) = snds st ++ [p.2] := by simp [snds]
theorem fsts_len (st : List (Nat × Int)) : (fsts st).length = st.length := by simp [fsts]
theorem snds_len (st : List (Nat × Int)) : (snds st).length = st.length := by simp [snds]
/-- The stack's sizes fill at most p places; its roots are digests. -/
def StOk (p : Nat) (st : List (Nat × Int)) : Prop := (st.map Prod.fst).sum ≤ p ∧ ∀ x ∈ st, dig x.2 = true
theorem push_stop {p s : Nat} {r : Int} {st : List (Nat × Int)} (h : ∀ s1 r1 st1, st = (s1, r1) :: st1 → ¬ (s1 = s ∧ p % (2 * s) = 0)) : push pair p st s r = (s, r) :: st := by
  cases st with
  | nil => rfl
  | cons q st1 => obtain ⟨s1, r1⟩ := q; unfold push; rw [if_neg (h s1 r1 st1 rfl)]
theorem push_go {p s : Nat} {r r1 : Int} {st : List (Nat × Int)} (h : p % (2 * s) = 0) : push pair p ((s, r1) :: st) s r = push pair p st (2 * s) (pair r1 r) := by
  conv => lhs; unfold push
  rw [if_pos ⟨rfl, h⟩]
theorem st_push {P s : Nat} {r : Int} {st : List (Nat × Int)} (h : s ≤ P ∧ StOk (P - s) st) (hr : dig r = true) : StOk P ((s, r) :: st) := by
  obtain ⟨h1, h2, h3⟩ := h
  refine ⟨by simp; omega, fun x hx => ?_⟩
  rcases List.mem_cons.1 hx with rfl | hx
  · exact hr
  · exact h3 x hx
theorem st_pop {P s : Nat} {x : Int} {st : List (Nat × Int)} (h : s ≤ P ∧ StOk (P - s) ((s, x) :: st)) : 2 * s ≤ P ∧ StOk (P - 2 * s) st := by
  obtain ⟨h1, h2, h3⟩ := h
  simp only [List.map_cons, List.sum_cons] at h2
  exact ⟨by omega, by omega, fun x hx => h3 x (List.mem_cons_of_mem _ hx)⟩
theorem O1.pre {α : Type} {enc : α → Value} {B : Nat} {e : TypeId} {w : World} {A : Option Addr} {n c m : Nat} {l : List α} {x : α} (h : O1 enc B e w (.slice A n c) (l ++ [x])) (hm : m = l.length) : O1 enc B e w (.slice A m c) l := by
  have := h.takeN (m := l.length) (by simp)
  rw [hm]
  simpa using this
theorem O1.pop {B : Nat} {w : World} {A : Option Addr} {n c : Nat} {st : List (Nat × Int)} {p : Nat × Int} (h : O1 (Value.int .i64) B 3 w (.slice A n c) (fsts (p :: st))) : O1 (Value.int .i64) B 3 w (.slice A st.length c) (fsts st) := by
  rw [fsts_cons] at h; exact h.pre (fsts_len st).symm
theorem O1.pop2 {B : Nat} {w : World} {A : Option Addr} {n c : Nat} {st : List (Nat × Int)} {p : Nat × Int} (h : O1 (Value.int .i64) B 3 w (.slice A n c) (snds (p :: st))) : O1 (Value.int .i64) B 3 w (.slice A st.length c) (snds st) := by
  rw [snds_cons] at h; exact h.pre (snds_len st).symm
theorem zip_drop {zs : List Nat} {xs : List Int} {k : Nat} (h1 : k < zs.length) (h2 : k < xs.length) : (zs.zip xs).drop k = (zs[k], xs[k]) :: (zs.zip xs).drop (k + 1) := by
  rw [List.drop_eq_getElem_cons (by simp; omega)]; simp
set_option maxHeartbeats 1600000 in
set_option maxRecDepth 100000 in
theorem l2Merge_any (zs : List Nat) (xs : List Int) (zv xv : Value) (w : World) (hz : RI w zv (zs.map fun (z : Nat) => (z : Int))) (hx : RI w xv xs) (hl : xs.length = zs.length) (h34 : zs.length ≤ 34) (hb16 : ∀ z ∈ zs, 1 ≤ z ∧ z ≤ 16) (hd : digs xs = true) :
    Calls Try.prog 158 #[zv, xv] w fun e w' => ∃ v', e = .returned v' ∧ O1 (Value.int .i64) w.heap.size 3 w' v' (mergedL zs xs) ∧ digs (mergedL zs xs) = true ∧ Below w.heap.size w w' := by
  have HB16 := Lib.hid hb16
  have HD := Lib.hid hd
  have HL := Lib.hid hl
  have hzl : (zs.map fun (z : Nat) => (z : Int)).length = zs.length := by simp
  obtain ⟨zA, zc, rfl, m1, m2, hzc⟩ := hz
  obtain ⟨xA, xc, rfl, m3, m4, hxc⟩ := hx
  rw [hzl] at m1 ⊢
  have hxl34 : xs.length ≤ 34 := by omega
  have HZC : Hid (0 < zs.length → ∃ b o, zA = some ⟨b, o, none⟩ ∧ b < w.heap.size ∧ ∀ j (hj : j < zs.length), w.cell? ⟨b, o + j, none⟩ = some (.int .i64 (zs[j] : Int))) := Lib.hid (fun h => by
    obtain ⟨b, o, h1, h2, h3⟩ := hzc (by omega)
    exact ⟨b, o, h1, h2, fun j hj => by have := h3 j (by simpa using hj); simpa using this⟩)
  have HXC := Lib.hid hxc
  unfold maxLen at m2 m4
  clear hb16 hd hl hzl hzc hxc
  go_enter Try.func158, Try.ntmps158
  go_wp2
  go_loopw [5, 6, 7, 8] (fun so ou pv iv wr => ∃ (k p : Nat) (st : List (Nat × Int)), k ≤ zs.length ∧ iv = .int .i64 k ∧ pv = .int .i64 p ∧ p ≤ 16 * k ∧ O1 (Value.int .i64) w.heap.size 3 wr so (fsts st) ∧ O1 (Value.int .i64) w.heap.size 3 wr ou (snds st) ∧ Sep so ou ∧ st.length ≤ k ∧
      Hid (StOk p st) ∧ Hid (mergeF pair p ((zs.zip xs).drop k) st = mergeF pair 0 (zs.zip xs) []) ∧ Below w.heap.size w wr) (fun _ _ _ iv _ => zs.length - (intOf iv).toNat)
  case atStart =>
    refine ⟨0, 0, [], Nat.zero_le _, rfl, rfl, Nat.zero_le _, ?_, ?_, ?_, Nat.zero_le _, Lib.hid ⟨Nat.le_refl _, fun x hx => by cases hx⟩, Lib.hid rfl, ?_⟩
    · exact (O1.made _ _ _).alloc _
    · have := O1.made (Value.int .i64) (w.alloc (.cells #[] 3)) 3
      simp only [World.size_alloc] at this
      exact O1.mono this (Nat.le_succ _)
    · intro k h1 h2; simp [Value.ownBlock] at h1 h2; omega
    · exact ((Below.refl _ _).alloc (Nat.le_refl _) _).alloc (by simp) _
  case round =>
    obtain ⟨k, p, st, hk, rfl, rfl, hp, hso, hou, hsep, hst, HST, HX, hb⟩ := hrel
    have hfl := fsts_len st
    have hsl := snds_len st
    by_cases hlt : k < zs.length
    · have hlt' : (k : Int) < (zs.length : Int) := by omega
      have hxk : k < xs.length := by have := HL.out; omega
      obtain ⟨zb, zo, rfl, zlt, hzc⟩ := HZC.out (by omega)
      obtain ⟨xb, xo, rfl, xlt, hxc⟩ := HXC.out (by omega)
      have c1 := (hb.cell (p := ⟨zb, zo + k, none⟩) zlt).trans (hzc k hlt)
      have c2 := (hb.cell (p := ⟨xb, xo + k, none⟩) xlt).trans (hxc k hxk)
      obtain ⟨z1, z2⟩ := HB16.out _ (List.getElem_mem hlt)
      have HDX := Lib.hid (digs_get HD.out hxk)
      have HZD := Lib.hid (zip_drop hlt hxk)
      have hs1 := Nat.lt_of_lt_of_le zlt hb.size
      have hs2 := Nat.lt_of_lt_of_le xlt hb.size
      clear hzc hxc
      generalize zs[k] = z at *
      generalize xs[k] = x at *
      obtain ⟨P, HP⟩ : ∃ P, Hid (p + z = P) := ⟨_, Lib.hid rfl⟩
      have hP : P ≤ 16 * 34 := by have := HP.out; omega
      have ep : (p : Int) + (z : Int) = (P : Int) := by have := HP.out; omega
      obtain ⟨A1, q1, rfl⟩ := hso.sl
      obtain ⟨A2, q2, rfl⟩ := hou.sl
      rw [hfl] at hso hsep
      rw [hsl] at hou hsep
      rw [hfl, hsl]
      clear hfl hsl
      go_wp2
      go_loop [5, 6, 9, 10] (fun so ou zv rv => ∃ (st2 : List (Nat × Int)) (s : Nat) (r : Int) (A1 A2 : Option Addr) (q1 q2 : Nat), so = .slice A1 st2.length q1 ∧ ou = .slice A2 st2.length q2 ∧ zv = .int .i64 s ∧ rv = .int .i64 r ∧ 1 ≤ s ∧ s ≤ 544 ∧ st2.length ≤ k ∧
        O1 (Value.int .i64) w.heap.size 3 wr (.slice A1 st2.length q1) (fsts st2) ∧ O1 (Value.int .i64) w.heap.size 3 wr (.slice A2 st2.length q2) (snds st2) ∧ Sep (.slice A1 st2.length q1) (.slice A2 st2.length q2) ∧
        Hid (s ≤ P ∧ StOk (P - s) st2) ∧ Hid (dig r = true) ∧ Hid (push pair P st2 s r = push pair P st z x)) (fun _ _ zv _ => 600 - (intOf zv).toNat)
      case atStart => exact ⟨st, z, x, A1, A2, q1, q2, rfl, rfl, rfl, rfl, z1, by omega, hst, hso, hou, hsep, Lib.hid ⟨by have := HP.out; omega, by have := HP.out; rw [show P - z = p by omega]; exact HST.out⟩, HDX, Lib.hid rfl⟩
      case round =>
        clear hso hou hsep hst
        obtain ⟨st2, s, r, A1, A2, q1, q2, rfl, rfl, rfl, rfl, s1, s2, hlen2, hso2, hou2, hsep2, HS2, HR2, HPS⟩ := hrel
        cases st2 with
        | nil =>
          clear c1 c2
          go_wp2_with (first
            | (at_builtin; refine app_intL hou2 (by rw [snds_len]; omega) hb.size rfl rfl rfl rfl ?_; intro v3 w3 ho3 hg3 hloc3; have hso3 := hso2.grown hg3 hsep2.ne; have hb3 := hb.trans ((Below.refl _ _).grown hg3 hb.size (fun k hk => (hou2.lt k hk).1)); have hsep3 := hsep2.symm.app hso2 hloc3)
            | (at_builtin; refine app_intL hso3 (by rw [fsts_len]; omega) hb3.size rfl rfl rfl rfl ?_; intro v4 w4 ho4 hg4 hloc4))
          have ho5 := ho3.grown hg4 (hsep3.ne)
          have hb4 := hb3.trans ((Below.refl _ _).grown hg4 hb3.size (fun k hk => (hso3.lt k hk).1))
          have hsep4 := hsep3.symm.app ho3 hloc4
          have HPU := Lib.hid (push_stop (p := P) (s := s) (r := r) (st := []) (by intro _ _ _ h; cases h))
          go_roundw
          case rel => exact ⟨k + 1, P, (s, r) :: [], by omega, by go_num, rfl, by have := HP.out; omega, by rw [fsts_cons]; exact ho4, by rw [snds_cons]; exact ho5, hsep4, Nat.succ_le_succ hlen2,
            Lib.hid (st_push HS2.out HR2.out), Lib.hid (by rw [← HX.out, HZD.out, mergeF, HP.out, ← HPS.out, HPU.out]), hb4⟩
          case measure => simp [intOf]; omega
        | cons t st3 =>
          obtain ⟨t1, t2⟩ := t
          obtain ⟨-, nq1, mq1, b1, o1, rfl, lb1, c3⟩ := R1.last (l := fsts st3) (x := (t1 : Int)) (by rw [← fsts_cons (t1, t2)]; exact hso2.r1)
          obtain ⟨-, nq2, mq2, b2, o2, rfl, lb2, c4⟩ := R1.last (l := snds st3) (x := t2) (by rw [← snds_cons (t1, t2)]; exact hou2.r1)
          rw [fsts_len] at c3
          rw [snds_len] at c4
          simp only [List.length_cons] at *
          clear c1 c2
          unfold maxLen at mq1 mq2
          have HT2 := Lib.hid (HS2.out.2.2 (t1, t2) List.mem_cons_self)
          have hsum : t1 + s ≤ P := by
            have h1 := HS2.out.2.1
            have h2 := HS2.out.1
            simp only [List.map_cons, List.sum_cons] at h1
            omega
          have HLN : Hid (st3.length + 1 = ((t1, t2) :: st3).length) := Lib.hid rfl
          by_cases e1 : t1 = s
          · subst e1
            have em : ((P : Int) - 2 * (t1 : Int)) % (2 * (t1 : Int)) = ((P % (2 * t1) : Nat) : Int) := by
              rw [Int.sub_emod_right]; simp
            have hp0 : 0 ≤ (P : Int) - 2 * (t1 : Int) := by omega
            by_cases e2 : P % (2 * t1) = 0
            · have e3 : ((P : Int) - 2 * (t1 : Int)) % (2 * (t1 : Int)) = 0 := by rw [em, e2]; rfl
              have HGO := Lib.hid (push_go (p := P) (s := t1) (r := r) (r1 := t2) (st := st3) e2)
              clear em e2
              go_wp2_with (go_at_call 154; refine (l1Pair_any _ _ _ HT2.out HR2.out).mono ?_; rintro e w' ⟨rfl, rfl⟩)
              go_round
              case rel => exact ⟨st3, 2 * t1, pair t2 r, _, _, q1, q2, rfl, rfl, by go_num, rfl, by omega, by omega, by omega, O1.pop hso2, O1.pop2 hou2, hsep2, Lib.hid (st_pop HS2.out), Lib.hid (pair_dig _ _), Lib.hid (by rw [← HGO.out, HPS.out])⟩
              case measure => simp [intOf]; omega
            · have e3 : (((P : Int) - 2 * (t1 : Int)) % (2 * (t1 : Int)) == 0) = false := by rw [em]; generalize P % (2 * t1) = d at e2; rw [beq_eq_false_iff_ne]; omega
              have e4 : ((P : Int) % (2 * (t1 : Int)) == 0) = false := by
                have e5 : (P : Int) % (2 * (t1 : Int)) = ((P % (2 * t1) : Nat) : Int) := by simp
                rw [e5]; generalize P % (2 * t1) = d at e2; rw [beq_eq_false_iff_ne]; omega
              have HE2 := Lib.hid e2
              clear em e2
              go_wp2_with (first
                | (at_builtin; refine app_intL hou2 (by rw [snds_len]; show st3.length + 1 ≤ _; omega) hb.size rfl rfl rfl rfl ?_; intro v3 w3 ho3 hg3 hloc3; have hso3 := hso2.grown hg3 hsep2.ne; have hb3 := hb.trans ((Below.refl _ _).grown hg3 hb.size (fun k hk => (hou2.lt k hk).1)); have hsep3 := hsep2.symm.app hso2 hloc3)
                | (at_builtin; refine app_intL hso3 (by rw [fsts_len]; show st3.length + 1 ≤ _; omega) hb3.size rfl rfl rfl rfl ?_; intro v4 w4 ho4 hg4 hloc4))
              have ho5 := ho3.grown hg4 (hsep3.ne)
              have hb4 := hb3.trans ((Below.refl _ _).grown hg4 hb3.size (fun k hk => (hso3.lt k hk).1))
              have hsep4 := hsep3.symm.app ho3 hloc4
              have HPU := Lib.hid (push_stop (p := P) (s := t1) (r := r) (st := ((t1, t2) :: st3)) (by intro _ _ _ h hc; cases h; exact HE2.out hc.2))
              go_roundw
              case rel => exact ⟨k + 1, P, (t1, r) :: ((t1, t2) :: st3), by omega, by go_num, rfl, by have := HP.out; omega, by rw [fsts_cons]; exact ho4, by rw [snds_cons]; exact ho5, hsep4, Nat.succ_le_succ hlen2,
                Lib.hid (st_push HS2.out HR2.out), Lib.hid (by rw [← HX.out, HZD.out, mergeF, HP.out, ← HPS.out, HPU.out]), hb4⟩
              case measure => simp [intOf]; omega
          · have e3 : ((t1 : Int) == (s : Int)) = false := by simp; omega
            go_wp2_with (first
              | (at_builtin; refine app_intL hou2 (by rw [snds_len]; show st3.length + 1 ≤ _; omega) hb.size rfl rfl rfl rfl ?_; intro v3 w3 ho3 hg3 hloc3; have hso3 := hso2.grown hg3 hsep2.ne; have hb3 := hb.trans ((Below.refl _ _).grown hg3 hb.size (fun k hk => (hou2.lt k hk).1)); have hsep3 := hsep2.symm.app hso2 hloc3)
              | (at_builtin; refine app_intL hso3 (by rw [fsts_len]; show st3.length + 1 ≤ _; omega) hb3.size rfl rfl rfl rfl ?_; intro v4 w4 ho4 hg4 hloc4))
            have ho5 := ho3.grown hg4 (hsep3.ne)
            have hb4 := hb3.trans ((Below.refl _ _).grown hg4 hb3.size (fun k hk => (hso3.lt k hk).1))
            have hsep4 := hsep3.symm.app ho3 hloc4
            have HPU := Lib.hid (push_stop (p := P) (s := s) (r := r) (st := ((t1, t2) :: st3)) (by intro _ _ _ h hc; cases h; exact e1 hc.1))
            go_roundw
            case rel => exact ⟨k + 1, P, (s, r) :: ((t1, t2) :: st3), by omega, by go_num, rfl, by have := HP.out; omega, by rw [fsts_cons]; exact ho4, by rw [snds_cons]; exact ho5, hsep4, Nat.succ_le_succ hlen2,
              Lib.hid (st_push HS2.out HR2.out), Lib.hid (by rw [← HX.out, HZD.out, mergeF, HP.out, ← HPS.out, HPU.out]), hb4⟩
            case measure => simp [intOf]; omega
    · go_wp2
      go_ret
      obtain rfl : k = zs.length := by omega
      have hxx := HX.out
      rw [List.drop_of_length_le (by simp; omega), mergeF] at hxx
      refine ⟨_, rfl, ?_, ?_, hb⟩
      · unfold mergedL; rw [← hxx, ← List.map_reverse]; exact hou
      · unfold mergedL; rw [← hxx]; unfold digs; rw [List.all_reverse, List.all_map, List.all_eq_true]; intro y hy; exact HST.out.2 y hy
end Go.Proofs.Ytlhiabnablbkpaa
