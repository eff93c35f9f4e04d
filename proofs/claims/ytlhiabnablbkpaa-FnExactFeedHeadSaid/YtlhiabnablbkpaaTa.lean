/- Walks: growth in the reference; merging; the program's TreeGrowth. -/
import Derived.Test.YtlhiabnablbkpaaWx
import Derived.Test.YtlhiabnablbkpaaLawg
import Derived.Test.YtlhiabnablbkpaaVi
namespace Go.Proofs.Ytlhiabnablbkpaa

open Go.RowKit

/-- Two values own no row together. -/
def Sep (a b : Value) : Prop := ∀ k, a.ownBlock = some k → b.ownBlock ≠ some k
theorem Sep.symm {a b : Value} (h : Sep a b) : Sep b a := fun k h1 h2 => h k h2 h1
theorem Sep.ne {a b : Value} (h : Sep a b) : a.ownBlock = none ∨ a.ownBlock ≠ b.ownBlock := by
  cases hb : a.ownBlock with
  | none => exact .inl rfl
  | some k => exact .inr (fun e => h k hb e.symm)
/-- Behind an append onto a: b stays apart. -/
theorem Sep.app {α : Type} {enc : α → Value} {a a' b : Value} {B : Nat} {e : TypeId} {w : World} {l : List α} (h : Sep a b) (hb : O1 enc B e w b l) (ha : ∀ k, a'.ownBlock = some k → a.ownBlock = some k ∨ w.heap.size ≤ k) : Sep a' b := by
  intro k h1 h2
  rcases ha k h1 with h3 | h3
  · exact h k h3 h2
  · have := (hb.lt k h2).2; omega
theorem own_slice (A : Option Addr) (n c m : Nat) : (Value.slice A n c).ownBlock = (Value.slice A m c).ownBlock := by cases A <;> rfl
section
variable {ops : Array Oper} {rest : List Oper} {o : Oper} {a : Act} {Q : Exit → Act → World → Prop} {w : World} {base : Nat} {v : Value}
theorem app_intL {l : List Int} (hown : O1 (Value.int .i64) base 3 w v l) (hn : l.length ≤ 100000000000) (hbase : base ≤ w.heap.size) {y : Int} (hgd : o.guard = none) {s x : Operand}
    (ho : o.op = .call { callee := .builtin .append, args := #[s, x], argTypes := #[29, 29] }) (hs : a.eval s = v) (hx : a.eval x = .slice (some ⟨w.heap.size, 0, none⟩) 1 1)
    (h : ∀ v' w', O1 (Value.int .i64) base 3 w' v' (l ++ [y]) → w.grownBy w' v.ownBlock → (∀ k, v'.ownBlock = some k → v.ownBlock = some k ∨ w.heap.size ≤ k) → wpList Try.prog ops Q rest (a.put o.dst v') w') :
    wpList Try.prog ops Q (o :: rest) a (w.alloc (.cells #[.int .i64 y] 3)) := by
  obtain ⟨i0, hi, hz0, hz1, hz2⟩ := info_parts info_int
  have hbd : (l.length + 1) * 8 ≤ 100000000001 * 1000 := Nat.mul_le_mul (by omega) (by omega)
  refine wpList_append_own_at _ hgd s x _ ho base 3 i0 _ 1 8 Try.underlying29 hi hz0 hz1 hz2 rfl (by omega) v l.length _ hs
    (hown.alloc _) ⟨w.heap.size, 0, none⟩ 1 1 [.int .i64 y] hx (by simp) (fun j u hu => ?_) (by simp; rfl) (by unfold maxLen; omega) (by omega) (by simp; omega) ?_
  · have hadd : (⟨w.heap.size, 0, none⟩ : Addr).add j = ⟨w.heap.size, j, none⟩ := by unfold Addr.add; split <;> simp_all
    rw [hadd, cell_of_row _ w.heap.size j _ 3 (0, 0) (heap_alloc_new w _)]
    simpa using hu
  · intro v' w' h2 h3 _ h5
    refine h v' w' (by unfold O1; simpa using h2) (grow_trans (grow_below ((Below.refl _ _).alloc (Nat.le_refl _) _)) h3) (fun k hk => ?_)
    rcases h5 with h5 | h5
    · exact .inl (h5 ▸ hk)
    · rw [hk] at h5
      have := Option.some.inj h5
      simp at this
      exact .inr (by omega)
/-- append of a whole slice of trees onto a row of the call's own. -/
theorem app_trees {l l2 : List (Nat × Nat)} {x : Value} (hown : OT base w v l) (hr : RT w x l2) (hn : l.length + l2.length ≤ 100000000000) (hbase : base ≤ w.heap.size)
    (hgd : o.guard = none) {s y : Operand} (ho : o.op = .call { callee := .builtin .append, args := #[s, y], argTypes := #[99, 99] }) (hs : a.eval s = v) (hx : a.eval y = x)
    (h : ∀ v' w', OT base w' v' (l ++ l2) → Below base w w' → wpList Try.prog ops Q rest (a.put o.dst v') w') : wpList Try.prog ops Q (o :: rest) a w := by
  obtain ⟨i0, hi, hz0, hz1, hz2⟩ := info_parts info_tree
  obtain ⟨A, c, rfl, h2, h3, h4⟩ := hr
  have hbd : (l.length + l2.length) * 16 ≤ 100000000000 * 1000 := Nat.mul_le_mul hn (by omega)
  rcases A with _ | ad
  · have hc0 : c = 0 := h2.2 rfl
    have hl0 : l2 = [] := List.eq_nil_of_length_eq_zero (by omega)
    subst hc0 hl0
    exact wpList_append_own_none hgd s y _ ho base 103 i0 2 Try.underlying99 hi v l.length _ hs hown hx (h v w (by rw [List.append_nil]; exact hown) (Below.refl _ _))
  · refine wpList_append_own _ hgd s y _ ho base 103 i0 _ 2 16 Try.underlying99 hi hz0 hz1 hz2 rfl (by omega) v l.length _ hs hown ad l2.length c (l2.flatMap fun t => [t1 t, t2 t]) hx (by rw [flat_len (m := 2) (fun _ => rfl)]) (fun j u hu => ?_) (by intro u hu; obtain ⟨a, _, ha⟩ := List.mem_flatMap.1 hu; simp [t1, t2] at ha; rcases ha with rfl | rfl <;> rfl) (by unfold maxLen; omega) (by omega) hbase ?_
    · have hj : j < l2.length * 2 := by
        have := (List.getElem?_eq_some_iff.1 hu).1
        rw [flat_len (m := 2) (fun _ => rfl)] at this; exact this
      obtain ⟨b, o', hA, hb, hcell⟩ := h4 (by omega)
      cases hA
      have hadd : (⟨b, o', none⟩ : Addr).add j = ⟨b, o' + j, none⟩ := by unfold Addr.add; split <;> simp_all
      obtain ⟨c1, c2⟩ := hcell (j / 2) (by omega)
      have hf := flat_get (enc := fun t : Nat × Nat => [t1 t, t2 t]) (m := 2) (fun _ => rfl) l2 (j / 2) (j % 2) (by omega) (by omega)
      rw [show j / 2 * 2 + j % 2 = j by omega, hu] at hf
      rw [hadd]
      rcases Nat.mod_two_eq_zero_or_one j with hm | hm
      · rw [hm] at hf
        rw [show o' + j = o' + j / 2 * 2 by omega, c1]
        simpa using hf.symm
      · rw [hm] at hf
        rw [show o' + j = o' + j / 2 * 2 + 1 by omega, c2]
        simpa using hf.symm
    · intro v' w' h5 h6 _
      exact h v' w' (by unfold OT O2; simpa [List.flatMap_append] using h5) ((Below.refl _ _).grown h6 hbase (fun k hk => (World.ownsRow.lt hown k hk).1))
end
/-- The last element of what is read. -/
theorem R1.last {α : Type} {enc : α → Value} {w : World} {A : Option Addr} {n c : Nat} {l : List α} {x : α} (h : R1 enc w (.slice A n c) (l ++ [x])) :
    n = l.length + 1 ∧ n ≤ c ∧ c ≤ maxLen ∧ ∃ b o, A = some ⟨b, o, none⟩ ∧ b < w.heap.size ∧ w.cell? ⟨b, o + l.length, none⟩ = some (enc x) := by
  obtain ⟨A', c', hv, h1, h2, h3⟩ := h
  injection hv with e1 e2 e3
  subst e1 e3
  have hl : (l ++ [x]).length = l.length + 1 := by simp
  obtain ⟨b, o, hA, hb, hc⟩ := h3 (by omega)
  refine ⟨by omega, by omega, h2, b, o, hA, hb, ?_⟩
  have := hc l.length (by omega)
  simpa using this


def szs (ts : List (Nat × Nat)) : List Int := ts.map fun t => (t.2 : Int)
theorem szs_cons {p n : Nat} (h : p < n) (hn : n ≤ 16) : szs (trees p n) = (sz p n : Int) :: szs (trees (p + sz p n) n) := by unfold szs; rw [trees_cons h hn]; rfl
theorem szs_nil {p n : Nat} (h : n ≤ p) : szs (trees p n) = [] := by unfold szs; rw [trees_nil h]; rfl
theorem szs_len (p n : Nat) : (szs (trees p n)).length ≤ 17 := by unfold szs; rw [List.length_map]; exact trees_len p n
theorem szs_gtrees (m n : Nat) : szs (gtrees m n) = szs (trees 0 m) ++ szs (trees m n) := by simp [szs, gtrees]
theorem pre_len {l1 l2 l3 : List Int} {k : Nat} (h : l1 ++ l2 = l3) (hl : l3.length ≤ k) : l1.length ≤ k := by
  have := congrArg List.length h; simp at this; omega
set_option maxHeartbeats 800000 in
theorem l2Sizes_any (m n : Nat) (w : World) (hm : m ≤ 16) (hn : n ≤ 16) :
    Calls Try.prog 157 #[.int .i64 m, .int .i64 n] w fun e w' => ∃ v', e = .returned (.tuple #[v', .int .i64 (trees 0 m).length]) ∧ O1 (Value.int .i64) w.heap.size 3 w' v' (szs (gtrees m n)) ∧ Below w.heap.size w w' := by
  go_enter Try.func157, Try.ntmps157
  go_wp2
  go_loopw [6, 7] (fun out q wr => ∃ (p : Nat) (l1 : List Int), p ≤ m ∧ q = .int .i64 p ∧ O1 (Value.int .i64) w.heap.size 3 wr out l1 ∧ Hid (l1 ++ szs (trees p m) = szs (trees 0 m)) ∧ Below w.heap.size w wr) (fun _ q _ => m - (intOf q).toNat)
  case atStart => exact ⟨0, [], Nat.zero_le _, rfl, O1.made _ _ _, Lib.hid rfl, (Below.refl _ _).alloc (Nat.le_refl _) _⟩
  case round =>
    obtain ⟨p, l1, hpl, rfl, hown, HX, hb⟩ := hrel
    have hl1 := pre_len HX.out (szs_len 0 m)
    by_cases hlt : p < m
    · obtain ⟨hs1, hs2⟩ := sz_bd hlt
      have HC := Lib.hid (szs_cons hlt hm)
      generalize hs : sz p m = s at *
      have HS := Lib.hid hs
      clear hs
      go_wp2_with (first
        | (go_at_call 139; refine (l2Size_any p m _ (by omega) hm).mono ?_; rw [HS.out]; rintro e w' ⟨rfl, rfl⟩)
        | (at_builtin; refine app_int hown (by omega) hb.size rfl rfl rfl rfl ?_; intro v3 w3 hown3 hb3))
      go_roundw
      case rel => exact ⟨p + s, l1 ++ [(s : Int)], by omega, by go_num, hown3, Lib.hid (by rw [← HX.out, HC.out, List.append_assoc]; rfl), hb.trans hb3⟩
      case measure => simp [intOf]; omega
    · have hz := szs_nil (show m ≤ p by omega)
      have HXX := HX.out
      rw [hz, List.append_nil] at HXX
      have HL : Hid (l1.length = (trees 0 m).length) := Lib.hid (by rw [HXX]; simp [szs])
      have HX2 := Lib.hid HXX
      have hll : (trees 0 m).length ≤ 17 := trees_len 0 m
      obtain ⟨A, c, rfl⟩ := hown.sl
      clear HX hz HXX
      go_wp2
      go_loopw [6, 9] (fun out q wr => ∃ (p : Nat) (l2 : List Int), p ≤ max m n ∧ q = .int .i64 p ∧ O1 (Value.int .i64) w.heap.size 3 wr out (l1 ++ l2) ∧ Hid (l2 ++ szs (trees p n) = szs (trees m n)) ∧ Below w.heap.size w wr) (fun _ q _ => n - (intOf q).toNat)
      case atStart => exact ⟨m, [], Nat.le_max_left _ _, rfl, by simpa using hown, Lib.hid rfl, hb⟩
      case round =>
        clear hown hb
        obtain ⟨p, l2, hpl, rfl, hown, HX, hb⟩ := hrel
        have hl2 := pre_len HX.out (szs_len m n)
        have hlen : (l1 ++ l2).length ≤ 34 := by simp; omega
        by_cases hlt : p < n
        · obtain ⟨hs1, hs2⟩ := sz_bd hlt
          have HC := Lib.hid (szs_cons hlt hn)
          generalize hs : sz p n = s at *
          have HS := Lib.hid hs
          clear hs
          go_wp2_with (first
            | (go_at_call 139; refine (l2Size_any p n _ (by omega) hn).mono ?_; rw [HS.out]; rintro e w' ⟨rfl, rfl⟩)
            | (at_builtin; refine app_int hown (by omega) hb.size rfl rfl rfl rfl ?_; intro v3 w3 hown3 hb3))
          go_roundw
          case rel => exact ⟨p + s, l2 ++ [(s : Int)], by omega, by go_num, by rw [← List.append_assoc]; exact hown3, Lib.hid (by rw [← HX.out, HC.out, List.append_assoc]; rfl), hb.trans hb3⟩
          case measure => simp [intOf]; omega
        · have hz := szs_nil (show n ≤ p by omega)
          have HXX := HX.out
          rw [hz, List.append_nil] at HXX
          have HX3 := Lib.hid HXX
          clear HXX hz
          go_wp2
          go_ret2
          refine ⟨u6, ?_, ?_, hb⟩
          · rw [← HL.out]; rfl
          · rw [szs_gtrees, ← HX2.out, ← HX3.out]; exact hown

/-- The roots that merging leaves. -/
def mergedL (zs : List Nat) (xs : List Int) : List Int := ((mergeF pair 0 (zs.zip xs) []).map Prod.snd).reverse
def fsts (st : List (Nat × Int)) : List Int := st.reverse.map fun p => (p.1 : Int)
def snds (st : List (Nat × Int)) : List Int := st.reverse.map fun p => p.2
theorem fsts_cons (p : Nat × Int) (st : List (Nat × Int)) : fsts (p :: st) = fsts st ++ [(p.1 : Int)] := by simp [fsts]
theorem snds_cons (p : Nat × Int) (st : List (Nat × Int)) : snds (p :: st) = snds st ++ [p.2] := by simp [snds]
theorem fsts_len (st : List (Nat × Int)) : (fsts st).length = st.length := by simp [fsts]
theorem snds_len (st : List (Nat × Int)) : (snds st).length = st.length := by simp [snds]
/-- The stack's sizes fill at most p places; its roots are digests. -/
def StOk (p : Nat) (st : List (Nat × Int)) : Prop := (st.map Prod.fst).sum ≤ p ∧ ∀ x ∈ st, dig x.2 = true
theorem push_stop {p s : Nat} {r : Int} {st : List (Nat × Int)} (h : ∀ s1 r1 st1, st = (s1, r1) :: st1 → ¬ (s1 = s ∧ p % (2 * s) = 0)) : push pair p st s r = (s, r) :: st := by
  cases st with
  | nil => rfl
  | cons q st1 => obtain ⟨s1, r1⟩ := q; unfold push; rw [if_neg (h s1 r1 st1 rfl)]
theorem push_go {p s : Nat} {r r1 : Int} {st : List (Nat × Int)} (h : p % (2 * s) = 0) : push pair p ((s, r1) :: st) s r = push pair p st (2 * s) (pair r1 r) := by
  conv => lhs; unfold push
  rw [if_pos ⟨rfl, h⟩]
theorem st_push {P s : Nat} {r : Int} {st : List (Nat × Int)} (h : s ≤ P ∧ StOk (P - s) st) (hr : dig r = true) : StOk P ((s, r) :: st) := by
  obtain ⟨h1, h2, h3⟩ := h
  refine ⟨by simp; omega, fun x hx => ?_⟩
  rcases List.mem_cons.1 hx with rfl | hx
  · exact hr
  · exact h3 x hx
theorem st_pop {P s : Nat} {x : Int} {st : List (Nat × Int)} (h : s ≤ P ∧ StOk (P - s) ((s, x) :: st)) : 2 * s ≤ P ∧ StOk (P - 2 * s) st := by
  obtain ⟨h1, h2, h3⟩ := h
  simp only [List.map_cons, List.sum_cons] at h2
  exact ⟨by omega, by omega, fun x hx => h3 x (List.mem_cons_of_mem _ hx)⟩
theorem O1.pre {α : Type} {enc : α → Value} {B : Nat} {e : TypeId} {w : World} {A : Option Addr} {n c m : Nat} {l : List α} {x : α} (h : O1 enc B e w (.slice A n c) (l ++ [x])) (hm : m = l.length) : O1 enc B e w (.slice A m c) l := by
  have := h.takeN (m := l.length) (by simp)
  rw [hm]
  simpa using this
theorem O1.pop {B : Nat} {w : World} {A : Option Addr} {n c : Nat} {st : List (Nat × Int)} {p : Nat × Int} (h : O1 (Value.int .i64) B 3 w (.slice A n c) (fsts (p :: st))) : O1 (Value.int .i64) B 3 w (.slice A st.length c) (fsts st) := by
  rw [fsts_cons] at h; exact h.pre (fsts_len st).symm
theorem O1.pop2 {B : Nat} {w : World} {A : Option Addr} {n c : Nat} {st : List (Nat × Int)} {p : Nat × Int} (h : O1 (Value.int .i64) B 3 w (.slice A n c) (snds (p :: st))) : O1 (Value.int .i64) B 3 w (.slice A st.length c) (snds st) := by
  rw [snds_cons] at h; exact h.pre (snds_len st).symm
theorem zip_drop {zs : List Nat} {xs : List Int} {k : Nat} (h1 : k < zs.length) (h2 : k < xs.length) : (zs.zip xs).drop k = (zs[k], xs[k]) :: (zs.zip xs).drop (k + 1) := by
  rw [List.drop_eq_getElem_cons (by simp; omega)]; simp
set_option maxHeartbeats 1600000 in
set_option maxRecDepth 100000 in
theorem l2Merge_any (zs : List Nat) (xs : List Int) (zv xv : Value) (w : World) (hz : RI w zv (zs.map fun (z : Nat) => (z : Int))) (hx : RI w xv xs) (hl : xs.length = zs.length) (h34 : zs.length ≤ 34) (hb16 : ∀ z ∈ zs, 1 ≤ z ∧ z ≤ 16) (hd : digs xs = true) :
    Calls Try.prog 158 #[zv, xv] w fun e w' => ∃ v', e = .returned v' ∧ O1 (Value.int .i64) w.heap.size 3 w' v' (mergedL zs xs) ∧ digs (mergedL zs xs) = true ∧ Below w.heap.size w w' := by
  have HB16 := Lib.hid hb16
  have HD := Lib.hid hd
  have HL := Lib.hid hl
  have hzl : (zs.map fun (z : Nat) => (z : Int)).length = zs.length := by simp
  obtain ⟨zA, zc, rfl, m1, m2, hzc⟩ := hz
  obtain ⟨xA, xc, rfl, m3, m4, hxc⟩ := hx
  rw [hzl] at m1 ⊢
  have hxl34 : xs.length ≤ 34 := by omega
  have HZC : Hid (0 < zs.length → ∃ b o, zA = some ⟨b, o, none⟩ ∧ b < w.heap.size ∧ ∀ j (hj : j < zs.length), w.cell? ⟨b, o + j, none⟩ = some (.int .i64 (zs[j] : Int))) := Lib.hid (fun h => by
    obtain ⟨b, o, h1, h2, h3⟩ := hzc (by omega)
    exact ⟨b, o, h1, h2, fun j hj => by have := h3 j (by simpa using hj); simpa using this⟩)
  have HXC := Lib.hid hxc
  unfold maxLen at m2 m4
  clear hb16 hd hl hzl hzc hxc
  go_enter Try.func158, Try.ntmps158
  go_wp2
  go_loopw [5, 6, 7, 8] (fun so ou pv iv wr => ∃ (k p : Nat) (st : List (Nat × Int)), k ≤ zs.length ∧ iv = .int .i64 k ∧ pv = .int .i64 p ∧ p ≤ 16 * k ∧ O1 (Value.int .i64) w.heap.size 3 wr so (fsts st) ∧ O1 (Value.int .i64) w.heap.size 3 wr ou (snds st) ∧ Sep so ou ∧ st.length ≤ k ∧
      Hid (StOk p st) ∧ Hid (mergeF pair p ((zs.zip xs).drop k) st = mergeF pair 0 (zs.zip xs) []) ∧ Below w.heap.size w wr) (fun _ _ _ iv _ => zs.length - (intOf iv).toNat)
  case atStart =>
    refine ⟨0, 0, [], Nat.zero_le _, rfl, rfl, Nat.zero_le _, ?_, ?_, ?_, Nat.zero_le _, Lib.hid ⟨Nat.le_refl _, fun x hx => by cases hx⟩, Lib.hid rfl, ?_⟩
    · exact (O1.made _ _ _).alloc _
    · have := O1.made (Value.int .i64) (w.alloc (.cells #[] 3)) 3
      simp only [World.size_alloc] at this
      exact O1.mono this (Nat.le_succ _)
    · intro k h1 h2; simp [Value.ownBlock] at h1 h2; omega
    · exact ((Below.refl _ _).alloc (Nat.le_refl _) _).alloc (by simp) _
  case round =>
    obtain ⟨k, p, st, hk, rfl, rfl, hp, hso, hou, hsep, hst, HST, HX, hb⟩ := hrel
    have hfl := fsts_len st
    have hsl := snds_len st
    by_cases hlt : k < zs.length
    · have hlt' : (k : Int) < (zs.length : Int) := by omega
      have hxk : k < xs.length := by have := HL.out; omega
      obtain ⟨zb, zo, rfl, zlt, hzc⟩ := HZC.out (by omega)
      obtain ⟨xb, xo, rfl, xlt, hxc⟩ := HXC.out (by omega)
      have c1 := (hb.cell (p := ⟨zb, zo + k, none⟩) zlt).trans (hzc k hlt)
      have c2 := (hb.cell (p := ⟨xb, xo + k, none⟩) xlt).trans (hxc k hxk)
      obtain ⟨z1, z2⟩ := HB16.out _ (List.getElem_mem hlt)
      have HDX := Lib.hid (digs_get HD.out hxk)
      have HZD := Lib.hid (zip_drop hlt hxk)
      have hs1 := Nat.lt_of_lt_of_le zlt hb.size
      have hs2 := Nat.lt_of_lt_of_le xlt hb.size
      clear hzc hxc
      generalize zs[k] = z at *
      generalize xs[k] = x at *
      obtain ⟨P, HP⟩ : ∃ P, Hid (p + z = P) := ⟨_, Lib.hid rfl⟩
      have hP : P ≤ 16 * 34 := by have := HP.out; omega
      have ep : (p : Int) + (z : Int) = (P : Int) := by have := HP.out; omega
      obtain ⟨A1, q1, rfl⟩ := hso.sl
      obtain ⟨A2, q2, rfl⟩ := hou.sl
      rw [hfl] at hso hsep
      rw [hsl] at hou hsep
      rw [hfl, hsl]
      clear hfl hsl
      go_wp2
      go_loop [5, 6, 9, 10] (fun so ou zv rv => ∃ (st2 : List (Nat × Int)) (s : Nat) (r : Int) (A1 A2 : Option Addr) (q1 q2 : Nat), so = .slice A1 st2.length q1 ∧ ou = .slice A2 st2.length q2 ∧ zv = .int .i64 s ∧ rv = .int .i64 r ∧ 1 ≤ s ∧ s ≤ 544 ∧ st2.length ≤ k ∧
        O1 (Value.int .i64) w.heap.size 3 wr (.slice A1 st2.length q1) (fsts st2) ∧ O1 (Value.int .i64) w.heap.size 3 wr (.slice A2 st2.length q2) (snds st2) ∧ Sep (.slice A1 st2.length q1) (.slice A2 st2.length q2) ∧
        Hid (s ≤ P ∧ StOk (P - s) st2) ∧ Hid (dig r = true) ∧ Hid (push pair P st2 s r = push pair P st z x)) (fun _ _ zv _ => 600 - (intOf zv).toNat)
      case atStart => exact ⟨st, z, x, A1, A2, q1, q2, rfl, rfl, rfl, rfl, z1, by omega, hst, hso, hou, hsep, Lib.hid ⟨by have := HP.out; omega, by have := HP.out; rw [show P - z = p by omega]; exact HST.out⟩, HDX, Lib.hid rfl⟩
      case round =>
        clear hso hou hsep hst
        obtain ⟨st2, s, r, A1, A2, q1, q2, rfl, rfl, rfl, rfl, s1, s2, hlen2, hso2, hou2, hsep2, HS2, HR2, HPS⟩ := hrel
        cases st2 with
        | nil =>
          clear c1 c2
          go_wp2_with (first
            | (at_builtin; refine app_intL hou2 (by rw [snds_len]; omega) hb.size rfl rfl rfl rfl ?_; intro v3 w3 ho3 hg3 hloc3; have hso3 := hso2.grown hg3 hsep2.ne; have hb3 := hb.trans ((Below.refl _ _).grown hg3 hb.size (fun k hk => (hou2.lt k hk).1)); have hsep3 := hsep2.symm.app hso2 hloc3)
            | (at_builtin; refine app_intL hso3 (by rw [fsts_len]; omega) hb3.size rfl rfl rfl rfl ?_; intro v4 w4 ho4 hg4 hloc4))
          have ho5 := ho3.grown hg4 (hsep3.ne)
          have hb4 := hb3.trans ((Below.refl _ _).grown hg4 hb3.size (fun k hk => (hso3.lt k hk).1))
          have hsep4 := hsep3.symm.app ho3 hloc4
          have HPU := Lib.hid (push_stop (p := P) (s := s) (r := r) (st := []) (by intro _ _ _ h; cases h))
          go_roundw
          case rel => exact ⟨k + 1, P, (s, r) :: [], by omega, by go_num, rfl, by have := HP.out; omega, by rw [fsts_cons]; exact ho4, by rw [snds_cons]; exact ho5, hsep4, Nat.succ_le_succ hlen2,
            Lib.hid (st_push HS2.out HR2.out), Lib.hid (by rw [← HX.out, HZD.out, mergeF, HP.out, ← HPS.out, HPU.out]), hb4⟩
          case measure => simp [intOf]; omega
        | cons t st3 =>
          obtain ⟨t1, t2⟩ := t
          obtain ⟨-, nq1, mq1, b1, o1, rfl, lb1, c3⟩ := R1.last (l := fsts st3) (x := (t1 : Int)) (by rw [← fsts_cons (t1, t2)]; exact hso2.r1)
          obtain ⟨-, nq2, mq2, b2, o2, rfl, lb2, c4⟩ := R1.last (l := snds st3) (x := t2) (by rw [← snds_cons (t1, t2)]; exact hou2.r1)
          rw [fsts_len] at c3
          rw [snds_len] at c4
          simp only [List.length_cons] at *
          clear c1 c2
          unfold maxLen at mq1 mq2
          have HT2 := Lib.hid (HS2.out.2.2 (t1, t2) List.mem_cons_self)
          have hsum : t1 + s ≤ P := by
            have h1 := HS2.out.2.1
            have h2 := HS2.out.1
            simp only [List.map_cons, List.sum_cons] at h1
            omega
          have HLN : Hid (st3.length + 1 = ((t1, t2) :: st3).length) := Lib.hid rfl
          by_cases e1 : t1 = s
          · subst e1
            have em : ((P : Int) - 2 * (t1 : Int)) % (2 * (t1 : Int)) = ((P % (2 * t1) : Nat) : Int) := by
              rw [Int.sub_emod_right]; simp
            have hp0 : 0 ≤ (P : Int) - 2 * (t1 : Int) := by omega
            by_cases e2 : P % (2 * t1) = 0
            · have e3 : ((P : Int) - 2 * (t1 : Int)) % (2 * (t1 : Int)) = 0 := by rw [em, e2]; rfl
              have HGO := Lib.hid (push_go (p := P) (s := t1) (r := r) (r1 := t2) (st := st3) e2)
              clear em e2
              go_wp2_with (go_at_call 154; refine (l1Pair_any _ _ _ HT2.out HR2.out).mono ?_; rintro e w' ⟨rfl, rfl⟩)
              go_round
              case rel => exact ⟨st3, 2 * t1, pair t2 r, _, _, q1, q2, rfl, rfl, by go_num, rfl, by omega, by omega, by omega, O1.pop hso2, O1.pop2 hou2, hsep2, Lib.hid (st_pop HS2.out), Lib.hid (pair_dig _ _), Lib.hid (by rw [← HGO.out, HPS.out])⟩
              case measure => simp [intOf]; omega
            · have e3 : (((P : Int) - 2 * (t1 : Int)) % (2 * (t1 : Int)) == 0) = false := by rw [em]; generalize P % (2 * t1) = d at e2; rw [beq_eq_false_iff_ne]; omega
              have e4 : ((P : Int) % (2 * (t1 : Int)) == 0) = false := by
                have e5 : (P : Int) % (2 * (t1 : Int)) = ((P % (2 * t1) : Nat) : Int) := by simp
                rw [e5]; generalize P % (2 * t1) = d at e2; rw [beq_eq_false_iff_ne]; omega
              have HE2 := Lib.hid e2
              clear em e2
              go_wp2_with (first
                | (at_builtin; refine app_intL hou2 (by rw [snds_len]; show st3.length + 1 ≤ _; omega) hb.size rfl rfl rfl rfl ?_; intro v3 w3 ho3 hg3 hloc3; have hso3 := hso2.grown hg3 hsep2.ne; have hb3 := hb.trans ((Below.refl _ _).grown hg3 hb.size (fun k hk => (hou2.lt k hk).1)); have hsep3 := hsep2.symm.app hso2 hloc3)
                | (at_builtin; refine app_intL hso3 (by rw [fsts_len]; show st3.length + 1 ≤ _; omega) hb3.size rfl rfl rfl rfl ?_; intro v4 w4 ho4 hg4 hloc4))
              have ho5 := ho3.grown hg4 (hsep3.ne)
              have hb4 := hb3.trans ((Below.refl _ _).grown hg4 hb3.size (fun k hk => (hso3.lt k hk).1))
              have hsep4 := hsep3.symm.app ho3 hloc4
              have HPU := Lib.hid (push_stop (p := P) (s := t1) (r := r) (st := ((t1, t2) :: st3)) (by intro _ _ _ h hc; cases h; exact HE2.out hc.2))
              go_roundw
              case rel => exact ⟨k + 1, P, (t1, r) :: ((t1, t2) :: st3), by omega, by go_num, rfl, by have := HP.out; omega, by rw [fsts_cons]; exact ho4, by rw [snds_cons]; exact ho5, hsep4, Nat.succ_le_succ hlen2,
                Lib.hid (st_push HS2.out HR2.out), Lib.hid (by rw [← HX.out, HZD.out, mergeF, HP.out, ← HPS.out, HPU.out]), hb4⟩
              case measure => simp [intOf]; omega
          · have e3 : ((t1 : Int) == (s : Int)) = false := by simp; omega
            go_wp2_with (first
              | (at_builtin; refine app_intL hou2 (by rw [snds_len]; show st3.length + 1 ≤ _; omega) hb.size rfl rfl rfl rfl ?_; intro v3 w3 ho3 hg3 hloc3; have hso3 := hso2.grown hg3 hsep2.ne; have hb3 := hb.trans ((Below.refl _ _).grown hg3 hb.size (fun k hk => (hou2.lt k hk).1)); have hsep3 := hsep2.symm.app hso2 hloc3)
              | (at_builtin; refine app_intL hso3 (by rw [fsts_len]; show st3.length + 1 ≤ _; omega) hb3.size rfl rfl rfl rfl ?_; intro v4 w4 ho4 hg4 hloc4))
            have ho5 := ho3.grown hg4 (hsep3.ne)
            have hb4 := hb3.trans ((Below.refl _ _).grown hg4 hb3.size (fun k hk => (hso3.lt k hk).1))
            have hsep4 := hsep3.symm.app ho3 hloc4
            have HPU := Lib.hid (push_stop (p := P) (s := s) (r := r) (st := ((t1, t2) :: st3)) (by intro _ _ _ h hc; cases h; exact e1 hc.1))
            go_roundw
            case rel => exact ⟨k + 1, P, (s, r) :: ((t1, t2) :: st3), by omega, by go_num, rfl, by have := HP.out; omega, by rw [fsts_cons]; exact ho4, by rw [snds_cons]; exact ho5, hsep4, Nat.succ_le_succ hlen2,
              Lib.hid (st_push HS2.out HR2.out), Lib.hid (by rw [← HX.out, HZD.out, mergeF, HP.out, ← HPS.out, HPU.out]), hb4⟩
            case measure => simp [intOf]; omega
    · go_wp2
      go_ret
      obtain rfl : k = zs.length := by omega
      have hxx := HX.out
      rw [List.drop_of_length_le (by simp; omega), mergeF] at hxx
      refine ⟨_, rfl, ?_, ?_, hb⟩
      · unfold mergedL; rw [← hxx, ← List.map_reverse]; exact hou
      · unfold mergedL; rw [← hxx]; unfold digs; rw [List.all_reverse, List.all_map, List.all_eq_true]; intro y hy; exact HST.out.2 y hy


theorem grow_no {l : List Int} {m : Int} (h : (leavesOk l && inB m 0 l.length) = false) : growOf l m = [] := by unfold growOf; rw [h]; rfl
theorem grow_yes {l : List Int} {k : Nat} (h : leavesOk l = true) (hk : k ≤ l.length) : growOf l k = coverOf (l.take k) 0 ++ coverOf l k := by
  obtain ⟨h16, hd⟩ := leavesOk_true.1 h
  have hi : inB (k : Int) 0 (l.length : Int) = true := inB_true.2 (by omega)
  unfold growOf gtrees coverOf
  rw [h, hi, List.map_append, Int.toNat_natCast]
  simp only [Bool.and_self, if_true]
  congr 1
  rw [show (l.take k).length = k by simp; omega]
  apply List.map_congr_left
  intro t ht
  obtain ⟨t1, t2, _⟩ := trees_ok k (by omega) 0 (by omega) t ht
  exact (rootN_take _ _ (by rw [t2]; exact t1)).symm
theorem cover_len (l1 l2 : List Int) (p1 p2 : Nat) : (coverOf l1 p1).length + (coverOf l2 p2).length ≤ 100000000000 := by
  have h1 : (coverOf l1 p1).length ≤ 17 := by unfold coverOf; rw [List.length_map]; exact trees_len _ _
  have h2 : (coverOf l2 p2).length ≤ 17 := by unfold coverOf; rw [List.length_map]; exact trees_len _ _
  exact Nat.le_trans (Nat.add_le_add h1 h2) (by omega)
set_option maxHeartbeats 800000 in
theorem TreeGrowth_s (l : List Int) (m : Int) (v : Value) (w : World) (hv : RI w v l) :
    Calls Try.prog 126 #[v, .int .i64 m] w fun e w' => ∃ v', e = .returned v' ∧ O1 (Value.int .i64) w.heap.size 3 w' v' (growOf l m) ∧ Below w.heap.size w w' := by
  have HV := Lib.hid hv
  obtain ⟨A, c, rfl, h1, h2, h3⟩ := hv
  unfold maxLen at h2
  have hlc := h1.1
  obtain ⟨b1, HL⟩ : ∃ b, Hid (leavesOk l = b) := ⟨_, Lib.hid rfl⟩
  obtain ⟨b2, HI⟩ : ∃ b, Hid (inB m 0 (l.length : Int) = b) := ⟨_, Lib.hid rfl⟩
  clear h1 h3
  cases b1
  · have HG := Lib.hid (grow_no (l := l) (m := m) (by rw [HL.out]; rfl))
    go_enter Try.func126, Try.ntmps126
    go_wp2_with (go_at_call 136; refine (l2Leaves_b HL _ _ HV.out).mono ?_; rintro e w' ⟨rfl, rfl⟩)
    go_ret
    exact ⟨_, rfl, by rw [HG.out]; exact O1.made _ _ _, (Below.refl _ _).alloc (Nat.le_refl _) _⟩
  cases b2
  · have HG := Lib.hid (grow_no (l := l) (m := m) (by rw [HL.out, HI.out]; rfl))
    go_enter Try.func126, Try.ntmps126
    go_wp2_with (first
      | (go_at_call 136; refine (l2Leaves_b HL _ _ HV.out).mono ?_; rintro e w' ⟨rfl, rfl⟩)
      | (go_at_call 66; refine (l6In_b HI _).mono ?_; rintro e w' ⟨rfl, rfl⟩))
    go_ret
    exact ⟨_, rfl, by rw [HG.out]; exact O1.made _ _ _, (Below.refl _ _).alloc (Nat.le_refl _) _⟩
  obtain ⟨h16, hd⟩ := leavesOk_true.1 HL.out
  have hi := inB_true.1 HI.out
  obtain ⟨k, rfl⟩ : ∃ k : Nat, m = k := ⟨m.toNat, by omega⟩
  have hk : k ≤ l.length := by omega
  have HG := Lib.hid (grow_yes HL.out hk)
  have HD := Lib.hid hd
  have HD2 := Lib.hid (digs_take hd k)
  have HK : Hid ((l.take k).length = k) := Lib.hid (by simp; omega)
  have HV2 := Lib.hid (R1.take HV.out hk)
  have HLC := Lib.hid (cover_len (l.take k) l 0 k)
  clear hd hi
  go_enter Try.func126, Try.ntmps126
  go_wp2_with (first
    | (go_at_call 136; refine (l2Leaves_b HL _ _ HV.out).mono ?_; rintro e w' ⟨rfl, rfl⟩)
    | (go_at_call 66; refine (l6In_b HI _).mono ?_; rintro e w' ⟨rfl, rfl⟩)
    | (go_at_call_of 152 (Value.slice A k c); refine (l2Cover_any (l.take k) 0 _ _ HD2.out (by rw [HK.out]; omega) (Nat.zero_le _) HV2.out).mono ?_; rintro e w1 ⟨v1, rfl, ho1, hb1⟩)
    | (go_at_call_of 152 (Value.slice A l.length c); refine (l2Cover_any l k _ _ HD.out h16 hk (HV.out.below hb1)).mono ?_; rintro e w2 ⟨v2, rfl, ho2, hb2⟩; have ho1' := ho1.below hb2; have hb12 := below_bb hb1 hb2)
    | (at_builtin; refine app_ints ho1' ho2.r1 HLC.out hb12.size rfl rfl rfl rfl ?_; intro v3 w3 ho3 hb3))
  go_ret
  exact ⟨_, rfl, by rw [HG.out]; exact ho3, hb12.trans hb3⟩
theorem areLeaves_b {l : List Int} {b : Bool} (h : Hid (leavesOk l = b)) (v : Value) (w : World) (hv : RI w v l) : Calls Try.prog 94 #[v] w fun e w' => e = .returned (.bool b) ∧ w = w' := by
  rw [← h.out]; exact areLeaves_any l v w hv
set_option maxHeartbeats 800000 in
theorem TreeGrowth_i (l : List Int) (m : Int) (v : Value) (w : World) (hv : RI w v l) :
    Calls Try.prog 37 #[v, .int .i64 m] w fun e w' => ∃ v', e = .returned v' ∧ O1 (Value.int .i64) w.heap.size 3 w' v' (growOf l m) ∧ Below w.heap.size w w' := by
  have HV := Lib.hid hv
  obtain ⟨A, c, rfl, h1, h2, h3⟩ := hv
  unfold maxLen at h2
  have hlc := h1.1
  obtain ⟨b1, HL⟩ : ∃ b, Hid (leavesOk l = b) := ⟨_, Lib.hid rfl⟩
  obtain ⟨b2, HI⟩ : ∃ b, Hid (inB m 0 (l.length : Int) = b) := ⟨_, Lib.hid rfl⟩
  clear h1 h3
  cases b1
  · have HG := Lib.hid (grow_no (l := l) (m := m) (by rw [HL.out]; rfl))
    go_enter Try.func37, Try.ntmps37
    go_wp2_with (go_at_call 94; refine (areLeaves_b HL _ _ HV.out).mono ?_; rintro e w' ⟨rfl, rfl⟩)
    go_ret
    exact ⟨_, rfl, by rw [HG.out]; exact O1.nil _ _ _ _, Below.refl _ _⟩
  cases b2
  · have HG := Lib.hid (grow_no (l := l) (m := m) (by rw [HL.out, HI.out]; rfl))
    go_enter Try.func37, Try.ntmps37
    go_wp2_with (first
      | (go_at_call 94; refine (areLeaves_b HL _ _ HV.out).mono ?_; rintro e w' ⟨rfl, rfl⟩)
      | (go_at_call 72; refine (within_b HI _).mono ?_; rintro e w' ⟨rfl, rfl⟩))
    go_ret
    exact ⟨_, rfl, by rw [HG.out]; exact O1.nil _ _ _ _, Below.refl _ _⟩
  obtain ⟨h16, hd⟩ := leavesOk_true.1 HL.out
  have hi := inB_true.1 HI.out
  obtain ⟨k, rfl⟩ : ∃ k : Nat, m = k := ⟨m.toNat, by omega⟩
  have hk : k ≤ l.length := by omega
  have HG : Hid (growOf l k = (gtrees k l.length).map (rootT l)) := Lib.hid (by unfold growOf; rw [HL.out, HI.out]; rfl)
  have HD := Lib.hid hd
  have HOK := Lib.hid (gtrees_ok l.length (by omega) k (by omega))
  have HTL : Hid ((trees 0 k).length + (trees k l.length).length ≤ 100000000000) := Lib.hid (Nat.le_trans (Nat.add_le_add (trees_len 0 k) (trees_len k l.length)) (by omega))
  have HGL : Hid ((gtrees k l.length).length ≤ 40) := Lib.hid (Nat.le_trans (gtrees_len k l.length) (by omega))
  clear hd hi
  go_enter Try.func37, Try.ntmps37
  go_wp2_with (first
    | (go_at_call 94; refine (areLeaves_b HL _ _ HV.out).mono ?_; rintro e w' ⟨rfl, rfl⟩)
    | (go_at_call 72; refine (within_b HI _).mono ?_; rintro e w' ⟨rfl, rfl⟩)
    | (go_at_call_of 89 (Value.int .i64 0); refine (treesFrom_any 0 k _ (by omega) (by omega)).mono ?_; rintro e w1 ⟨v1, rfl, ho1, hb1⟩)
    | (go_at_call_of 89 (Value.int .i64 k); refine (treesFrom_any k l.length _ (by omega) h16).mono ?_; rintro e w2 ⟨v2, rfl, ho2, hb2⟩; have ho1' := ho1.below hb2; have hb12 := below_bb hb1 hb2)
    | (at_builtin; refine app_trees ho1' ho2.r2 HTL.out hb12.size rfl rfl rfl rfl ?_; intro v3 w3 ho3 hb3; have hb13 := hb12.trans hb3)
    | (go_at_call 95; refine (roots_i l HD.out (gtrees k l.length) _ _ _ HOK.out HGL.out ho3.r2 (HV.out.below hb13)).mono ?_; rintro e w4 ⟨v4, rfl, ho4, hb4⟩))
  go_ret
  exact ⟨_, rfl, by rw [HG.out]; exact ho4.mono hb13.size, hb13.trans (hb4.mono hb13.size)⟩


theorem l2Digests_b {l : List Int} {b : Bool} (h : Hid (digs l = b)) (v : Value) (w : World) (hv : RI w v l) : Calls Try.prog 150 #[v] w fun e w' => e = .returned (.bool b) ∧ w = w' := by
  rw [← h.out]; exact l2Digests_any l v w hv
theorem l2Fold_b {n r : Int} {l : List Int} (h : Hid (fold n l = r)) (v : Value) (w : World) (hn : dig n = true) (hl : digs l = true) (hv : RI w v l) : Calls Try.prog 155 #[.int .i64 n, v] w fun e w' => e = .returned (.int .i64 r) ∧ w = w' := by
  rw [← h.out]; exact l2Fold_any n l v w hn hl hv
theorem szs_zs (ts : List (Nat × Nat)) : szs ts = (ts.map Prod.snd).map fun (z : Nat) => (z : Int) := by simp [szs]
theorem gtrees_sz : ∀ n, n < 17 → ∀ m, m < n + 1 → ∀ z ∈ (gtrees m n).map Prod.snd, 1 ≤ z ∧ z ≤ 16 := by decide +kernel
theorem grow_check_no {m old n dg : Int} {l : List Int} (h : inB n 0 16 = false ∨ inB m 0 n = false ∨ digs l = false) : growCheck m old n dg l = false := by
  unfold growCheck
  rcases h with h | h | h <;> rw [h] <;> simp
theorem grow_check_yes {a b : Nat} {old dg : Int} {l : List Int} (h1 : inB (b : Int) 0 16 = true) (h2 : inB (a : Int) 0 (b : Int) = true) (h3 : digs l = true) : growCheck a old b dg l = growAt a old b dg l := by
  unfold growCheck
  rw [h1, h2, h3]; rfl
set_option maxHeartbeats 1600000 in
theorem TreeGrowthCheck_s (m old n dg : Int) (l : List Int) (v : Value) (w : World) (hv : RI w v l) :
    Calls Try.prog 153 #[.int .i64 m, .int .i64 old, .int .i64 n, .int .i64 dg, v] w fun e w' => e = .returned (.bool (growCheck m old n dg l)) ∧ Below w.heap.size w w' := by
  have HV := Lib.hid hv
  have hlen := hv.len
  obtain ⟨A, c, rfl, h1, h2, h3⟩ := hv
  unfold maxLen at h2 hlen
  have hlc := h1.1
  clear h1 h3
  obtain ⟨b1, H1⟩ : ∃ b, Hid (inB n 0 16 = b) := ⟨_, Lib.hid rfl⟩
  obtain ⟨b2, H2⟩ : ∃ b, Hid (inB m 0 n = b) := ⟨_, Lib.hid rfl⟩
  obtain ⟨b3, H3⟩ : ∃ b, Hid (digs l = b) := ⟨_, Lib.hid rfl⟩
  cases b1
  · have HG := Lib.hid (grow_check_no (m := m) (old := old) (n := n) (dg := dg) (l := l) (.inl H1.out))
    go_enter Try.func153, Try.ntmps153
    go_wp2_with (go_at_call 66; refine (l6In_b H1 _).mono ?_; rintro e w' ⟨rfl, rfl⟩)
    go_ret
    exact ⟨retb HG.out.symm, Below.refl _ _⟩
  cases b2
  · have HG := Lib.hid (grow_check_no (m := m) (old := old) (n := n) (dg := dg) (l := l) (.inr (.inl H2.out)))
    go_enter Try.func153, Try.ntmps153
    go_wp2_with (first
      | (go_at_call_of 66 (Value.int .i64 m); refine (l6In_b H2 _).mono ?_; rintro e w' ⟨rfl, rfl⟩)
      | (go_at_call 66; refine (l6In_b H1 _).mono ?_; rintro e w' ⟨rfl, rfl⟩))
    go_ret
    exact ⟨retb HG.out.symm, Below.refl _ _⟩
  cases b3
  · have HG := Lib.hid (grow_check_no (m := m) (old := old) (n := n) (dg := dg) (l := l) (.inr (.inr H3.out)))
    go_enter Try.func153, Try.ntmps153
    go_wp2_with (first
      | (go_at_call_of 66 (Value.int .i64 m); refine (l6In_b H2 _).mono ?_; rintro e w' ⟨rfl, rfl⟩)
      | (go_at_call 66; refine (l6In_b H1 _).mono ?_; rintro e w' ⟨rfl, rfl⟩)
      | (go_at_call 150; refine (l2Digests_b H3 _ _ HV.out).mono ?_; rintro e w' ⟨rfl, rfl⟩))
    go_ret
    exact ⟨retb HG.out.symm, Below.refl _ _⟩
  have i1 := inB_true.1 H1.out
  have i2 := inB_true.1 H2.out
  obtain ⟨b, rfl⟩ : ∃ b : Nat, n = b := ⟨n.toNat, by omega⟩
  obtain ⟨a, rfl⟩ : ∃ a : Nat, m = a := ⟨m.toNat, by omega⟩
  have hb16 : b ≤ 16 := by omega
  have hab : a ≤ b := by omega
  have HG := Lib.hid (grow_check_yes (old := old) (dg := dg) H1.out H2.out H3.out)
  rw [HG.out]
  have HDA : Hid (dig (a : Int) = true) := Lib.hid (dig_true.2 (by omega))
  have HDB : Hid (dig (b : Int) = true) := Lib.hid (dig_true.2 (by omega))
  have HSZ := Lib.hid (gtrees_sz b (by omega) a (by omega))
  have HGL := Lib.hid (gtrees_len a b)
  have HFL : Hid ((trees 0 a).length ≤ (gtrees a b).length) := Lib.hid (by unfold gtrees; simp)
  obtain ⟨ts, HTS⟩ : ∃ ts, Hid (gtrees a b = ts) := ⟨_, Lib.hid rfl⟩
  obtain ⟨fl, HFF⟩ : ∃ fl, Hid ((trees 0 a).length = fl) := ⟨_, Lib.hid rfl⟩
  rw [HTS.out] at HGL HSZ HFL
  rw [HFF.out] at HFL
  have hgl := HGL.out
  have hfl := HFL.out
  have HLS : Hid ((szs ts).length = ts.length) := Lib.hid (by simp [szs])
  clear i1 i2
  go_enter Try.func153, Try.ntmps153
  go_wp2_with (first
    | (go_at_call_of 66 (Value.int .i64 a); refine (l6In_b H2 _).mono ?_; rintro e w' ⟨rfl, rfl⟩)
    | (go_at_call 66; refine (l6In_b H1 _).mono ?_; rintro e w' ⟨rfl, rfl⟩)
    | (go_at_call 150; refine (l2Digests_b H3 _ _ HV.out).mono ?_; rintro e w' ⟨rfl, rfl⟩))
  refine (l2Sizes_any a b w (by omega) hb16).mono ?_
  rintro e w1 ⟨v1, rfl, ho1, hb1⟩
  rw [HTS.out] at ho1
  rw [HFF.out]
  obtain ⟨A1, c1, rfl⟩ := ho1.sl
  rw [HLS.out] at ho1 ⊢
  have HV1 := Lib.hid (HV.out.below hb1)
  by_cases hle : l.length = ts.length
  · have hle' : ((l.length : Int) != (ts.length : Int)) = false := by simp [hle]
    have HLE := Lib.hid hle
    have hfl2 : (fl : Int) ≤ (c : Int) := by omega
    have hfl3 : fl ≤ l.length := by omega
    have HV2 := Lib.hid (R1.take HV1.out hfl3)
    have HD2 := Lib.hid (digs_take H3.out fl)
    obtain ⟨r1, HR1⟩ : ∃ r, Hid (fold a (l.take fl) = r) := ⟨_, Lib.hid rfl⟩
    have HRI : Hid (RI w1 (.slice A1 ts.length c1) ((ts.map Prod.snd).map fun (z : Nat) => (z : Int))) := Lib.hid (by rw [← szs_zs]; exact ho1.r1)
    clear hle ho1
    by_cases he : r1 = old
    · have he' : (r1 == old) = true := by simp [he]
      have HE := Lib.hid he
      clear he
      go_wp2_with (first
        | (go_at_call_of 155 (Value.int .i64 a); refine (l2Fold_b HR1 _ _ HDA.out HD2.out HV2.out).mono ?_; rintro e w' ⟨rfl, rfl⟩)
        | (go_at_call 158; refine (l2Merge_any (ts.map Prod.snd) l _ _ _ HRI.out HV1.out (by rw [List.length_map]; exact HLE.out) (by rw [List.length_map]; exact HGL.out) HSZ.out H3.out).mono ?_; rintro e w2 ⟨v2, rfl, ho2, hd2, hb2⟩))
      have HM : Hid (mergedL (ts.map Prod.snd) l = merged pair a b l) := Lib.hid (by rw [← HTS.out]; rfl)
      rw [HM.out] at ho2 hd2
      obtain ⟨xs, HXS⟩ : ∃ xs, Hid (merged pair a b l = xs) := ⟨_, Lib.hid rfl⟩
      rw [HXS.out] at ho2 hd2
      obtain ⟨r2, HR2⟩ : ∃ r, Hid (fold b xs = r) := ⟨_, Lib.hid rfl⟩
      have HGA : Hid (growAt a old b dg l = (r2 == dg)) := Lib.hid (by
        unfold growAt
        rw [HFF.out, HR1.out, he', HTS.out, decide_eq_true HLE.out, HXS.out, HR2.out]; rfl)
      obtain ⟨A2, c2, rfl⟩ := ho2.sl
      go_wp2_with (go_at_call 155; refine (l2Fold_b HR2 _ _ HDB.out hd2 ho2.r1).mono ?_; rintro e w' ⟨rfl, rfl⟩)
      go_ret
      exact ⟨retb HGA.out.symm, below_bb hb1 hb2⟩
    · have he' : (r1 == old) = false := by rw [beq_eq_false_iff_ne]; exact he
      have HGA : Hid (growAt a old b dg l = false) := Lib.hid (by
        unfold growAt
        rw [HFF.out, HR1.out, he']; simp)
      clear he
      go_wp2_with (go_at_call 155; refine (l2Fold_b HR1 _ _ HDA.out HD2.out HV2.out).mono ?_; rintro e w' ⟨rfl, rfl⟩)
      go_ret
      exact ⟨retb HGA.out.symm, hb1⟩
  · have hle' : ((l.length : Int) != (ts.length : Int)) = true := by simp; omega
    have HGA : Hid (growAt a old b dg l = false) := Lib.hid (by
      unfold growAt
      rw [HTS.out, decide_eq_false hle]; simp)
    clear hle
    go_wp2
    go_ret
    exact ⟨retb HGA.out.symm, hb1⟩
end Go.Proofs.Ytlhiabnablbkpaa
