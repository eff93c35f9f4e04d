/- Walks: growth in the program: a map from trees to numbers. -/
import Derived.Test.YtlhiabnablbkpaaTa
import Derived.Maps.OwnSet
import Derived.Maps.OwnOps
import Derived.DeepKeys4
import Derived.MapViews
namespace Go.Proofs.Ytlhiabnablbkpaa

open Go.RowKit
open Go.Maps (Keyed)

theorem tr_laid : laidOutB Try.prog = true := by kernel_rfl
theorem tr_row : (103 : TypeId) < Try.prog.types.size := of_decide_eq_true (by kernel_rfl)
theorem tr_cells : Try.prog.cellsOf 103 = 2 := by kernel_rfl
theorem tr_deep : Try.prog.keyTypeAt (Try.prog.types.size + 1) 103 = true := by kernel_rfl
theorem tr_wide : (match Try.prog.underlying 103 with | some (.array _ _) | some (.struct _) => true | _ => false) = true := by kernel_rfl
theorem tr_at2 : Try.prog.keyTypeAt 2 103 = true := by kernel_rfl
theorem tr_law : WideMaps.KeyLaw Try.prog 103 := deep_law_laid tr_laid (m := 2) (by omega) tr_row tr_at2 (by rw [Try.underlying103])
theorem tr_keyed : Keyed Try.prog 103 := Keyed.of_law tr_law
theorem int_cells : Try.prog.cellsOf 3 = 1 := by kernel_rfl
theorem int_zero (w : World) : (zeroValue 3).run Try.prog w = .ok (.int .i64 0) w := by kernel_rfl
def tv (t : Nat × Nat) : Value := .agg #[.int .i64 t.1, .int .i64 t.2]
theorem wf_nat {n : Nat} (h : n ≤ 1000) : (Lit.int .i64 (n : Int)).wf = true := by
  simp [Lit.wf, IntKind.min, IntKind.max, IntKind.signed, IntKind.bits]; omega
theorem tv_formed (t : Nat × Nat) : (tv t).formed Try.prog 103 = true := by simp [tv, Value.formed, Try.underlying103, tr_cells]
theorem tv_key (w : World) (t : Nat × Nat) (h1 : t.1 ≤ 1000) (h2 : t.2 ≤ 1000) : ∃ l, keyOf Try.prog 103 (tv t) = some l := by
  have := keyOf_asKey (P := Try.prog) (H := Unit) (enc := fun _ => ()) (w := w) (base := 0) (sp := fun _ => true) (held := true) tr_deep (by rw [Try.underlying103]) (tv_formed t) (d := .agg [.lit (.int .i64 t.1), .lit (.int .i64 t.2)]) (ps := []) ⟨3, by
    simp [DataW.trod, tv, Value.cells, Try.underlying103, Try.underlying3, tr_cells, int_cells, wf_nat h1, wf_nat h2]⟩
  exact ⟨_, this.1⟩
/-- The key of a tree. -/
@[irreducible] noncomputable def kl (t : Nat × Nat) : Lit := (keyOf Try.prog 103 (tv t)).getD (.bool false)
theorem key_kl (w : World) {t : Nat × Nat} (h1 : t.1 ≤ 1000) (h2 : t.2 ≤ 1000) : keyOf Try.prog 103 (tv t) = some (kl t) := by
  obtain ⟨l, hl⟩ := tv_key w t h1 h2
  unfold kl; rw [hl]; rfl
theorem tv_inj {t u : Nat × Nat} (h : tv t = tv u) : t = u := by
  cases t; cases u
  simp [tv] at h
  rw [Prod.mk.injEq]; omega
theorem kl_ne (w : World) {t u : Nat × Nat} (h1 : t.1 ≤ 1000) (h2 : t.2 ≤ 1000) (h3 : u.1 ≤ 1000) (h4 : u.2 ≤ 1000) (hne : t ≠ u) : kl t ≠ kl u := by
  intro e
  have k1 := key_kl w h1 h2
  rw [e] at k1
  exact hne (tv_inj (tr_keyed.inj k1 (key_kl w h3 h4)))
theorem keylit {v : Value} {l : Lit} (h : keyOf Try.prog 103 v = some l) : WideAt.IsKeyLit l := tr_keyed.key h
/-- The map's datum says what lies at each tree. -/
def DL (look : Nat × Nat → Option Int) (D : DataW Unit) : Prop :=
  ∀ t : Nat × Nat, t.1 ≤ 1000 → t.2 ≤ 1000 → match look t with
    | none => Maps.has D (kl t) = false
    | some r => Maps.has D (kl t) = true ∧ D.atKey (kl t) (.lit (.int .i64 0)) = .lit (.int .i64 r)
theorem DL.nil : DL (fun _ => none) (.map []) := fun t _ _ => by
  show Maps.has (.map []) (kl t) = false
  rw [Maps.has_eq, List.any_nil]
theorem DL.put (w : World) {look : Nat × Nat → Option Int} {D : DataW Unit} (h : DL look D) (hD : Maps.IsMap D) {t : Nat × Nat} (h1 : t.1 ≤ 1000) (h2 : t.2 ≤ 1000) (r : Int) :
    DL (fun u => if t = u then some r else look u) (D.put (kl t) (.lit (.int .i64 r))) := by
  have hk := keylit (key_kl w h1 h2)
  intro u u1 u2
  by_cases e : t = u
  · subst e
    simp only [if_true]
    exact ⟨Maps.has_put_same hD hk _, Maps.atKey_put_same hD hk _ _⟩
  · have hne := kl_ne w u1 u2 h1 h2 (fun e2 => e e2.symm)
    simp only [if_neg e]
    rw [Maps.has_put_other hne]
    simp only [Maps.atKey_put_other hne]
    exact h u u1 u2
abbrev OM (w : World) (b n : Nat) (D : DataW Unit) : Prop := w.ownsMap Try.prog 103 (plainElem Try.prog 3) b n D
theorem OM.below {w w' : World} {b n : Nat} {D : DataW Unit} (h : OM w b n D) (hb : Below w.heap.size w w') : OM w' b n D := World.ownsMap.kept h (grow_below hb (row := none)) (by simp)


theorem OM.alloc {w : World} {b n : Nat} {D : DataW Unit} (h : OM w b n D) (o : Obj) : OM (w.alloc o) b n D := World.ownsMap.alloc h o
theorem OM.up {w : World} {b n : Nat} {D : DataW Unit} (h : OM w b n D) (X : World) : OM (up w X) b n D := h.below (up_below w X)
theorem DL.hit {look : Nat × Nat → Option Int} {D : DataW Unit} (h : DL look D) {t : Nat × Nat} (h1 : t.1 ≤ 1000) (h2 : t.2 ≤ 1000) {r : Int} (hl : look t = some r) : Maps.has D (kl t) = true ∧ D.atKey (kl t) (.lit (.int .i64 0)) = .lit (.int .i64 r) := by
  have := h t h1 h2; rw [hl] at this; exact this
theorem DL.miss {look : Nat × Nat → Option Int} {D : DataW Unit} (h : DL look D) {t : Nat × Nat} (h1 : t.1 ≤ 1000) (h2 : t.2 ≤ 1000) (hl : look t = none) : Maps.has D (kl t) = false := by
  have := h t h1 h2; rw [hl] at this; exact this
theorem lit_inj {a b : Int} {d : DataW Unit} (h1 : d = .lit (.int .i64 a)) (h2 : d = .lit (.int .i64 b)) : a = b := by
  rw [h1] at h2; simpa using h2
set_option maxHeartbeats 800000 in
theorem joined_hit {look : Nat × Nat → Option Int} {D : DataW Unit} (b n : Nat) (HD : Hid (DL look D)) (s z : Nat) (r : Int) (w : World) (hs : s ≤ 1000) (hz : z ≤ 1000) (hown : OM w b n D) (hl : look (s, z) = some r) :
    Calls Try.prog 96 #[.agg #[.int .i64 s, .int .i64 z], .map (some b)] w fun e w' => e = .returned (.int .i64 r) ∧ Below w.heap.size w w' := by
  obtain ⟨hh, ha⟩ := HD.out.hit (t := (s, z)) hs hz hl
  have HA := Lib.hid ha
  have HK := Lib.hid (key_kl w (t := (s, z)) hs hz)
  have HO := Lib.hid hown
  clear ha hl hown
  generalize kl (s, z) = K at *
  go_enter Try.func96, Try.ntmps96
  go_wp2_with (at_lookup; refine wpList_lookup_own_ok_int _ rfl _ _ 107 rfl 103 3 .i64 tr_keyed Try.underlying107 Try.underlying3 (int_zero _) b n D rfl (HO.out.alloc _) _ K rfl HK.out ?_; intro c hat hwc; have HC := Lib.hid (lit_inj hat HA.out); clear hat hwc)
  go_ret
  exact ⟨reti HC.out, (Below.refl _ _).alloc (Nat.le_refl _) _⟩
set_option maxHeartbeats 800000 in
theorem joined_i {look : Nat × Nat → Option Int} {D : DataW Unit} (b n : Nat) (HD : Hid (DL look D)) (HG : Hid (∀ k s r, joinF pair look k s = some r → dig r = true)) : ∀ (k s : Nat) (s0 z0 : Int) (r : Int) (w : World), s0 = s → z0 = ((2 ^ k : Nat) : Int) → k ≤ 4 → s + 2 ^ k ≤ 32 → OM w b n D → joinF pair look k s = some r →
    Calls Try.prog 96 #[.agg #[.int .i64 s0, .int .i64 z0], .map (some b)] w fun e w' => e = .returned (.int .i64 r) ∧ Below w.heap.size w w' := by
  intro k
  induction k with
  | zero =>
    intro s s0 z0 r w h0 hz _ hs hown hj
    subst h0
    have hz1 : z0 = ((1 : Nat) : Int) := by simpa using hz
    subst hz1
    exact joined_hit b n HD s 1 r w (by omega) (by omega) hown hj
  | succ k ih =>
    intro s s0 z0 r w h0 hz hk hs hown hj
    subst h0
    have hp16 : 2 ^ (k + 1) ≤ 32 := by omega
    have hs32 : s ≤ 32 := by have := Nat.le_trans (Nat.le_add_right s _) hs; exact this
    cases hlk : look (s, 2 ^ (k + 1)) with
    | some r' =>
      have hr : r' = r := by simp only [joinF, hlk] at hj; exact Option.some.inj hj
      subst hr hz
      exact joined_hit b n HD s (2 ^ (k + 1)) r' w (Nat.le_trans hs32 (by omega)) (Nat.le_trans hp16 (by omega)) hown hlk
    | none =>
      obtain ⟨x, y, hx, hy, hr⟩ : ∃ x y, joinF pair look k s = some x ∧ joinF pair look k (s + 2 ^ k) = some y ∧ pair x y = r := by
        simp only [joinF, hlk] at hj
        cases h1 : joinF pair look k s with
        | none => rw [h1] at hj; cases hj
        | some x =>
          cases h2 : joinF pair look k (s + 2 ^ k) with
          | none => rw [h1, h2] at hj; cases hj
          | some y => rw [h1, h2] at hj; exact ⟨x, y, rfl, rfl, Option.some.inj hj⟩
      have hmiss := HD.out.miss (t := (s, 2 ^ (k + 1))) (Nat.le_trans hs32 (by omega)) (Nat.le_trans hp16 (by omega)) hlk
      have HKL := key_kl w (t := (s, 2 ^ (k + 1))) (Nat.le_trans hs32 (by omega)) (Nat.le_trans hp16 (by omega))
      have HK : Hid (keyOf Try.prog 103 (.agg #[.int .i64 s, .int .i64 z0]) = some (kl (s, 2 ^ (k + 1)))) := Lib.hid (by rw [hz]; exact HKL)
      clear HKL
      have hz' : z0 = 2 * ((2 ^ k : Nat) : Int) := by rw [hz, Nat.pow_succ]; omega
      have hy1 : 1 ≤ 2 ^ k := Nat.one_le_two_pow
      have hs2 : s + 2 ^ k + 2 ^ k ≤ 32 := by rw [Nat.pow_succ] at hs; omega
      have D1 := Lib.hid (HG.out k s x hx)
      have D2 := Lib.hid (HG.out k (s + 2 ^ k) y hy)
      have HR := Lib.hid hr
      have HX := Lib.hid hx
      have HY := Lib.hid hy
      have IH : Hid (∀ (s : Nat) (s0 z0 : Int) (r : Int) (w : World), s0 = s → z0 = ((2 ^ k : Nat) : Int) → k ≤ 4 → s + 2 ^ k ≤ 32 → OM w b n D → joinF pair look k s = some r →
        Calls Try.prog 96 #[.agg #[.int .i64 s0, .int .i64 z0], .map (some b)] w fun e w' => e = .returned (.int .i64 r) ∧ Below w.heap.size w w') := ih
      clear ih hz hs hj hr hx hy hlk hp16
      generalize kl (s, 2 ^ (k + 1)) = K at *
      obtain ⟨u, HU⟩ : ∃ u, Hid ((2 ^ k : Nat) = u) := ⟨_, Lib.hid rfl⟩
      rw [HU.out] at hz' hy1 hs2 HY
      subst hz'
      have HO := Lib.hid hown
      clear hown
      have hq : 2 * (u : Int) / 2 = u := by omega
      go_enter Try.func96, Try.ntmps96
      go_wp2_with (at_lookup; refine wpList_lookup_own_ok_int _ rfl _ _ 107 rfl 103 3 .i64 tr_keyed Try.underlying107 Try.underlying3 (int_zero _) b n D rfl (HO.out.alloc _) _ K rfl HK.out ?_; intro c hat hwc; clear hat hwc)
      have c0 : (w.alloc (.cells #[.int .i64 s, .int .i64 (2 * (u : Int))] 103)).cell? ⟨w.heap.size, 0, none⟩ = some (.int .i64 s) := cell_of_row _ _ 0 _ _ _ (heap_alloc_new w _)
      have hW : w.heap.size < (w.alloc (.cells #[.int .i64 s, .int .i64 (2 * (u : Int))] 103)).heap.size := by simp
      have hv' := HO.out.alloc (.cells #[.int .i64 s, .int .i64 (2 * (u : Int))] 103)
      have hbW := (Below.refl w.heap.size w).alloc (Nat.le_refl _) (.cells #[.int .i64 s, .int .i64 (2 * (u : Int))] 103)
      generalize w.alloc (.cells #[.int .i64 s, .int .i64 (2 * (u : Int))] 103) = W at *
      have hup := up_cell W
      refine wp_region_up (by kernel_rfl) (by kernel_rfl) ?_
      repeat (go_big_quiet_step (first
        | (go_at_call_of 96 (Value.agg #[.int .i64 s, .int .i64 u]); refine up_call (IH.out s _ _ x _ rfl (by rw [HU.out]) (by omega) (by rw [HU.out]; omega) (hv'.up _) HX.out))
        | (go_at_call 96; refine up_call (IH.out (s + u) _ _ y _ (by simp) (by rw [HU.out]) (by omega) (by rw [HU.out]; omega) (hv'.up _) HY.out))
        | (go_at_call 91; refine up_same (DigestPair_any _ _ _ D1.out D2.out))))
      refine wpQuiet_nil ?_
      intro w1 hw1
      have hb1 := of_up hw1
      clear hw1 hup
      go_wp2
      go_ret
      exact ⟨reti HR.out, hbW.trans (hb1.mono (by omega))⟩


theorem lookP_snoc {α : Type} (ps : List ((Nat × Nat) × α)) (p : (Nat × Nat) × α) : lookP (ps ++ [p]) = fun u => if p.1 = u then some p.2 else lookP ps u := by
  funext u; simp [lookP, List.foldl_append]
theorem lookP_mem {α : Type} (t : Nat × Nat) (r : α) : ∀ (ps : List ((Nat × Nat) × α)) (u : Option α), ps.foldl (fun u p => if p.1 = t then some p.2 else u) u = some r → u = some r ∨ ∃ p ∈ ps, p.2 = r
  | [], u, h => .inl h
  | p :: ps, u, h => by
    rw [List.foldl_cons] at h
    rcases lookP_mem t r ps _ h with h1 | ⟨q, hq, h1⟩
    · split at h1
      · exact .inr ⟨p, List.mem_cons_self, Option.some.inj h1⟩
      · exact .inl h1
    · exact .inr ⟨q, List.mem_cons_of_mem _ hq, h1⟩
theorem look_dig {m n : Nat} {l : List Int} (h : digs l = true) {t : Nat × Nat} {r : Int} (hl : lookOf m n l t = some r) : dig r = true := by
  rcases lookP_mem t r _ none hl with h1 | ⟨p, hp, h1⟩
  · cases h1
  · rw [← h1]
    exact List.all_eq_true.1 h p.2 (List.of_mem_zip hp).2
theorem joinF_dig {m n : Nat} {l : List Int} (h : digs l = true) : ∀ k s r, joinF pair (lookOf m n l) k s = some r → dig r = true
  | 0, s, r, hj => look_dig h hj
  | k + 1, s, r, hj => by
    simp only [joinF] at hj
    cases h1 : lookOf m n l (s, 2 ^ (k + 1)) with
    | some r' => rw [h1] at hj; rw [← Option.some.inj hj]; exact look_dig h h1
    | none =>
      rw [h1] at hj
      cases h2 : joinF pair (lookOf m n l) k s with
      | none => rw [h2] at hj; cases hj
      | some a =>
        cases h3 : joinF pair (lookOf m n l) k (s + 2 ^ k) with
        | none => rw [h2, h3] at hj; cases hj
        | some b => rw [h2, h3] at hj; rw [← Option.some.inj hj]; exact pair_dig _ _
theorem areDigests_b {l : List Int} {b : Bool} (h : Hid (digs l = b)) (v : Value) (w : World) (hv : RI w v l) : Calls Try.prog 88 #[v] w fun e w' => e = .returned (.bool b) ∧ w = w' := by
  rw [← h.out]; exact areDigests_any l v w hv
theorem digestOf_b {n r : Int} {l : List Int} (h : Hid (fold n l = r)) (v : Value) (w : World) (hn : dig n = true) (hl : digs l = true) (hv : RI w v l) : Calls Try.prog 93 #[.int .i64 n, v] w fun e w' => e = .returned (.int .i64 r) ∧ w = w' := by
  rw [← h.out]; exact digestOf_any n l v w hn hl hv
theorem take_zip {α : Type} (ts : List (Nat × Nat)) (l : List α) {k : Nat} (h1 : k < ts.length) (h2 : k < l.length) : (ts.zip l).take (k + 1) = (ts.zip l).take k ++ [(ts[k], l[k])] := by
  rw [List.take_succ_eq_append_getElem (by simp; omega)]; simp
theorem O2.sl {α : Type} {e1 e2 : α → Value} {B : Nat} {e : TypeId} {w : World} {v : Value} {l : List α} (h : O2 e1 e2 B e w v l) : ∃ A c, v = .slice A l.length c := by
  obtain ⟨A, c, h, _⟩ := h.r2; exact ⟨A, c, h⟩
theorem Only.grown2 {g : Nat} {a b c : World} {row : Option Nat} (h : Only g a b) (k : b.grownBy c row) (hr : ∀ r, row = some r → r = g ∨ a.heap.size ≤ r) : Only g a c :=
  ⟨k.os.trans h.os, k.tape.trans h.tape, k.output.trans h.output, Nat.le_trans h.size k.size, fun i hi hne => (k.block i (Nat.lt_of_lt_of_le hi h.size) (fun e => by
    rcases hr i e.symm with h1 | h1
    · exact hne (by rw [h1])
    · omega)).trans (h.block i hi hne)⟩
theorem O2.only {α : Type} {e1 e2 : α → Value} {B g : Nat} {e : TypeId} {w w' : World} {v : Value} {l : List α} (h : O2 e1 e2 B e w v l) (ho : Only g w w') (hg : g < B) : O2 e1 e2 B e w' v l := by
  refine ⟨h.1, ?_⟩
  rcases h.2 with hn | ⟨k, cap, cur, hv, hk, hh, r⟩
  · exact .inl hn
  · exact .inr ⟨k, cap, cur, hv, hk, (ho.block k (Array.getElem?_eq_some_iff.1 hh).1 (fun e => by have := Option.some.inj e; omega)).trans hh, r⟩
theorem OM.only {w w' : World} {b n g : Nat} {D : DataW Unit} (h : OM w b n D) (ho : Only g w w') (hg : b ≠ g) : OM w' b n D :=
  World.ownsMap.kept h (row := some g) ⟨ho.os, ho.tape, ho.output, ho.size, ho.block⟩ (fun e => hg (Option.some.inj e))
theorem wf_dig {x : Int} (h : dig x = true) : (Lit.int .i64 x).wf = true := by
  have := dig_true.1 h
  simp [Lit.wf, IntKind.min, IntKind.max, IntKind.signed, IntKind.bits]; omega
theorem peak_at {a b : Nat} (hb : b ≤ 16) (ha : a ≤ b) {l : List Int} (hl : l.length = (gtrees a b).length) {k : Nat} (h1 : k < (trees 0 b).length) :
    ∃ h2 : k < (merged pair a b l).length, joinF pair (lookOf a b l) (trees 0 b)[k].2.log2 (trees 0 b)[k].1 = some (merged pair a b l)[k] := by
  have h := joined_law hb ha hl
  have hlen := congrArg List.length h
  simp only [List.length_map] at hlen
  refine ⟨by omega, ?_⟩
  have h3 := congrArg (fun z => z[k]?) h
  simp only [List.getElem?_map] at h3
  rw [List.getElem?_eq_getElem h1, List.getElem?_eq_getElem (by omega)] at h3
  simpa using h3
theorem merged_len {a b : Nat} (hb : b ≤ 16) (ha : a ≤ b) {l : List Int} (hl : l.length = (gtrees a b).length) : (merged pair a b l).length = (trees 0 b).length := by
  have hlen := congrArg List.length (joined_law hb ha hl)
  simpa using hlen.symm
theorem merged_digs {a b : Nat} (hb : b ≤ 16) (ha : a ≤ b) {l : List Int} (hl : l.length = (gtrees a b).length) (hd : digs l = true) : digs (merged pair a b l) = true := by
  unfold digs
  rw [List.all_eq_true]
  intro x hx
  obtain ⟨k, hk, rfl⟩ := List.getElem_of_mem hx
  obtain ⟨_, h⟩ := peak_at hb ha hl (k := k) (by rw [← merged_len hb ha hl]; exact hk)
  exact joinF_dig hd _ _ _ h
set_option maxHeartbeats 1600000 in
set_option maxRecDepth 100000 in
theorem TreeGrowthCheck_i (m old n dg : Int) (l : List Int) (v : Value) (w : World) (hv : RI w v l) :
    Calls Try.prog 38 #[.int .i64 m, .int .i64 old, .int .i64 n, .int .i64 dg, v] w fun e w' => e = .returned (.bool (growCheck m old n dg l)) ∧ Below w.heap.size w w' := by
  have HV := Lib.hid hv
  have hlen := hv.len
  obtain ⟨A, c, rfl, h1, h2, h3⟩ := hv
  unfold maxLen at h2 hlen
  have hlc := h1.1
  clear h1 h3
  obtain ⟨b1, H1⟩ : ∃ b, Hid (inB n 0 16 = b) := ⟨_, Lib.hid rfl⟩
  obtain ⟨b2, H2⟩ : ∃ b, Hid (inB m 0 n = b) := ⟨_, Lib.hid rfl⟩
  obtain ⟨b3, H3⟩ : ∃ b, Hid (digs l = b) := ⟨_, Lib.hid rfl⟩
  cases b1
  · have HG := Lib.hid (grow_check_no (m := m) (old := old) (n := n) (dg := dg) (l := l) (.inl H1.out))
    go_enter Try.func38, Try.ntmps38
    go_wp2_with (go_at_call 72; refine (within_b H1 _).mono ?_; rintro e w' ⟨rfl, rfl⟩)
    go_ret
    exact ⟨retb HG.out.symm, Below.refl _ _⟩
  cases b2
  · have HG := Lib.hid (grow_check_no (m := m) (old := old) (n := n) (dg := dg) (l := l) (.inr (.inl H2.out)))
    go_enter Try.func38, Try.ntmps38
    go_wp2_with (first
      | (go_at_call_of 72 (Value.int .i64 m); refine (within_b H2 _).mono ?_; rintro e w' ⟨rfl, rfl⟩)
      | (go_at_call 72; refine (within_b H1 _).mono ?_; rintro e w' ⟨rfl, rfl⟩))
    go_ret
    exact ⟨retb HG.out.symm, Below.refl _ _⟩
  cases b3
  · have HG := Lib.hid (grow_check_no (m := m) (old := old) (n := n) (dg := dg) (l := l) (.inr (.inr H3.out)))
    go_enter Try.func38, Try.ntmps38
    go_wp2_with (first
      | (go_at_call_of 72 (Value.int .i64 m); refine (within_b H2 _).mono ?_; rintro e w' ⟨rfl, rfl⟩)
      | (go_at_call 72; refine (within_b H1 _).mono ?_; rintro e w' ⟨rfl, rfl⟩)
      | (go_at_call 88; refine (areDigests_b H3 _ _ HV.out).mono ?_; rintro e w' ⟨rfl, rfl⟩))
    go_ret
    exact ⟨retb HG.out.symm, Below.refl _ _⟩
  have i1 := inB_true.1 H1.out
  have i2 := inB_true.1 H2.out
  obtain ⟨b, rfl⟩ : ∃ b : Nat, n = b := ⟨n.toNat, by omega⟩
  obtain ⟨a, rfl⟩ : ∃ a : Nat, m = a := ⟨m.toNat, by omega⟩
  have hb16 : b ≤ 16 := by omega
  have hab : a ≤ b := by omega
  have HG := Lib.hid (grow_check_yes (old := old) (dg := dg) H1.out H2.out H3.out)
  rw [HG.out]
  have HDA : Hid (dig (a : Int) = true) := Lib.hid (dig_true.2 (by omega))
  have HDB : Hid (dig (b : Int) = true) := Lib.hid (dig_true.2 (by omega))
  have HOK := Lib.hid (gtrees_ok b (by omega) a (by omega))
  have HTL : Hid ((trees 0 a).length + (trees a b).length ≤ 100000000000) := Lib.hid (Nat.le_trans (Nat.add_le_add (trees_len 0 a) (trees_len a b)) (by omega))
  have hgl := gtrees_len a b
  have hfl : (trees 0 a).length ≤ (gtrees a b).length := by unfold gtrees; simp
  have hfl17 := trees_len 0 a
  have HGT : Hid (trees 0 a ++ trees a b = gtrees a b) := Lib.hid rfl
  have HLK : Hid (lookOf a b l = lookP ((gtrees a b).zip l)) := Lib.hid rfl
  have HGA0 : Hid (growAt a old b dg l = (decide (l.length = (gtrees a b).length) && (fold a (l.take (trees 0 a).length) == old) && (fold b (merged pair a b l) == dg))) := Lib.hid rfl
  clear i1 i2
  go_enter Try.func38, Try.ntmps38
  go_wp2_with (first
    | (go_at_call_of 72 (Value.int .i64 a); refine (within_b H2 _).mono ?_; rintro e w' ⟨rfl, rfl⟩)
    | (go_at_call 72; refine (within_b H1 _).mono ?_; rintro e w' ⟨rfl, rfl⟩)
    | (go_at_call 88; refine (areDigests_b H3 _ _ HV.out).mono ?_; rintro e w' ⟨rfl, rfl⟩))
  refine (treesFrom_any 0 a w (by omega) (by omega)).mono ?_
  rintro e w1 ⟨v1, rfl, ho1, hb1⟩
  obtain ⟨A1, c1, rfl⟩ : ∃ A c, v1 = .slice A (trees 0 a).length c := by obtain ⟨A, c, h, _⟩ := ho1.r2; exact ⟨A, c, h⟩
  generalize hfe : (trees 0 a).length = fl at *
  have HFE := Lib.hid hfe
  clear hfe
  go_wp2_with fail
  refine (treesFrom_any a b w1 (by omega) hb16).mono ?_
  rintro e w2 ⟨v2, rfl, ho2, hb2⟩
  have ho1' := ho1.below hb2
  have hb12 := below_bb hb1 hb2
  obtain ⟨ts, HTS⟩ : ∃ ts, Hid (gtrees a b = ts) := ⟨_, Lib.hid rfl⟩
  have HT3 : Hid (trees 0 a ++ trees a b = ts) := Lib.hid (by rw [HGT.out, HTS.out])
  rw [HTS.out] at HOK hgl hfl HLK HGA0
  have hts : ts.length ≤ 34 := hgl
  by_cases hle : l.length = ts.length
  rotate_left
  · have hle' : ((l.length : Int) != (ts.length : Int)) = true := by simp; omega
    have HGA : Hid (growAt a old b dg l = false) := Lib.hid (by rw [HGA0.out, decide_eq_false hle]; simp)
    clear hle
    go_wp2_with (at_builtin; refine app_trees ho1' ho2.r2 (by rw [HFE.out]; exact HTL.out) hb12.size rfl rfl rfl rfl ?_; intro v3 w3 ho3 hb3; rw [HT3.out] at ho3; obtain ⟨A3, c3, rfl⟩ := O2.sl ho3)
    go_ret
    exact ⟨retb HGA.out.symm, hb12.trans hb3⟩
  have hle' : ((l.length : Int) != (ts.length : Int)) = false := by simp [hle]
  have HLE := Lib.hid hle
  have hfl2 : (fl : Int) ≤ (c : Int) := by omega
  have hfl3 : fl ≤ l.length := by omega
  have HV2 := Lib.hid (R1.take HV.out hfl3)
  have HD2 := Lib.hid (digs_take H3.out fl)
  obtain ⟨r1, HR1⟩ : ∃ r, Hid (fold a (l.take fl) = r) := ⟨_, Lib.hid rfl⟩
  by_cases he : r1 = old
  rotate_left
  · have he' : (r1 != old) = true := by rw [bne_iff_ne]; exact he
    have HGA : Hid (growAt a old b dg l = false) := Lib.hid (by rw [HGA0.out, HR1.out, beq_eq_false_iff_ne.2 he]; simp)
    clear he hle
    go_wp2_with (first
      | (at_builtin; refine app_trees ho1' ho2.r2 (by rw [HFE.out]; exact HTL.out) hb12.size rfl rfl rfl rfl ?_; intro v3 w3 ho3 hb3; rw [HT3.out] at ho3; obtain ⟨A3, c3, rfl⟩ := O2.sl ho3; have hb13 := hb12.trans hb3)
      | (go_at_call 93; refine (digestOf_b HR1 _ _ HDA.out HD2.out (HV2.out.below hb13)).mono ?_; rintro e w' ⟨rfl, rfl⟩))
    go_ret
    exact ⟨retb HGA.out.symm, hb13⟩
  have he' : (r1 != old) = false := by simp [he]
  have HE := Lib.hid he
  clear he hle
  have hmm := @run_makeMap Try.prog
  go_wp2_with (first
    | (at_builtin; refine app_trees ho1' ho2.r2 (by rw [HFE.out]; exact HTL.out) hb12.size rfl rfl rfl rfl ?_; intro v3 w3 ho3 hb3; rw [HT3.out] at ho3; obtain ⟨A3, c3, rfl⟩ := O2.sl ho3; have hb13 := hb12.trans hb3)
    | (go_at_call 93; refine (digestOf_b HR1 _ _ HDA.out HD2.out (HV2.out.below hb13)).mono ?_; rintro e w' ⟨rfl, rfl⟩))
  have HRT := Lib.hid ho3.r2
  have HV3 := Lib.hid (HV.out.below hb13)
  have HB13 := Lib.hid hb13
  have hs3 := hb13.size
  have hll : l.length = ts.length := HLE.out
  clear ho1 ho2 ho1' hb1 hb2 hb12 ho3 hb3 hb13 hmm
  go_loopw [58] (fun i wr => ∃ (k : Nat) (D : DataW Unit), k ≤ ts.length ∧ i = .int .i64 k ∧ OM wr w3.heap.size k D ∧ Hid (DL (lookP ((ts.zip l).take k)) D) ∧ Below w3.heap.size w3 wr) (fun i _ => ts.length - (intOf i).toNat)
  case atStart => exact ⟨0, .map [], Nat.zero_le _, rfl, World.ownsMap_made _ _ _ _, Lib.hid DL.nil, (Below.refl _ _).alloc (Nat.le_refl _) _⟩
  case round =>
    obtain ⟨k, D, hk, rfl, hown, HDL, hb⟩ := hrel
    by_cases hlt : k < ts.length
    · have hlt' : (k : Int) < (ts.length : Int) := by omega
      have hkl : k < l.length := by omega
      have hkl' : (k : Int) < (l.length : Int) := by omega
      obtain ⟨_, _, hA, _, _, hc⟩ := HRT.out.below hb
      cases hA
      obtain ⟨tb, to, rfl, tlt, hc⟩ := hc (by omega)
      obtain ⟨c1, c2⟩ := hc k hlt
      obtain ⟨_, _, hA, _, _, hc'⟩ := HV3.out.below hb
      cases hA
      obtain ⟨pb, po, rfl, plt, hc'⟩ := hc' (by omega)
      have c3' := hc' k hkl
      clear hc hc'
      obtain ⟨g1, g2, g3⟩ := HOK.out _ (List.getElem_mem hlt)
      have hsz16 : ts[k].2 ≤ 16 := by omega
      have hst16 : ts[k].1 ≤ 16 := by omega
      have HZT := Lib.hid (take_zip ts l hlt hkl)
      have HXD := Lib.hid (digs_get H3.out hkl)
      simp only [t1, t2] at c1 c2
      clear g1 g2 g3
      generalize ts[k] = t at *
      obtain ⟨ta, tz⟩ := t
      simp only at c1 c2 hsz16 hst16
      generalize l[k] = x at *
      go_wp2_with fail
      have hba := (Below.refl wr.heap.size wr).alloc (Nat.le_refl _) (.cells #[.int .i64 ta, .int .i64 tz] 103)
      have k0 : (wr.alloc (.cells #[.int .i64 ta, .int .i64 tz] 103)).cell? ⟨wr.heap.size, 0, none⟩ = some (.int .i64 ta) := cell_of_row _ _ 0 _ _ _ (heap_alloc_new wr _)
      have k1 : (wr.alloc (.cells #[.int .i64 ta, .int .i64 tz] 103)).cell? ⟨wr.heap.size, 1, none⟩ = some (.int .i64 tz) := cell_of_row _ _ 1 _ _ _ (heap_alloc_new wr _)
      have k3 := (hba.cell (p := ⟨pb, po + k, none⟩) plt).trans c3'
      have hown4 := hown.alloc (.cells #[.int .i64 ta, .int .i64 tz] 103)
      obtain ⟨W4, HW4⟩ : ∃ W4, Hid (wr.alloc (.cells #[.int .i64 ta, .int .i64 tz] 103) = W4) := ⟨_, Lib.hid rfl⟩
      obtain ⟨q, HQ⟩ : ∃ q, Hid (wr.heap.size = q) := ⟨_, Lib.hid rfl⟩
      have hb4 := hb.trans (hba.mono hb.size)
      rw [HW4.out] at k0 k1 k3 hown4 hb4 ⊢
      rw [HQ.out] at k0 k1 ⊢
      obtain ⟨w5, hrun, ho5, hg5⟩ := World.ownsMap.update (w := W4.drew) (t := 107) (key := .agg #[.int .i64 ta, .int .i64 tz]) (val := .int .i64 x) (d := .lit (.int .i64 x)) (ps := []) (OM.below hown4 (below_drew (Below.refl _ _))) tr_keyed Try.underlying107 (by unfold maxLen; omega) (key_kl W4 (t := (ta, tz)) (by show ta ≤ 1000; omega) (by show tz ≤ 1000; omega)) (plainElem_int Try.underlying3 (wf_dig HXD.out))
      have HDP := Lib.hid (HDL.out.put W4 hown4.isMap (t := (ta, tz)) (by show ta ≤ 1000; omega) (by show tz ≤ 1000; omega) x)
      have HO5 := Lib.hid ho5
      have HB5 := Lib.hid (hb4.trans (((Below.refl W4.heap.size W4).drew).mono hb4.size |>.grown hg5 (by have := hb4.size; exact this) (fun r hr => by cases hr; exact Nat.le_refl _)))
      clear ho5 hg5 hown4 hb4 hown hb hba c1 c2 c3'
      go_region
      all_goals
        go_wp2
        go_roundw
        case rel => exact ⟨k + 1, _, by omega, by go_num, HO5.out, by rw [HZT.out, lookP_snoc]; exact HDP, HB5.out⟩
        case measure => simp [intOf]; omega
    · have hlt' : ¬ (k : Int) < (ts.length : Int) := by omega
      obtain ⟨wl, rfl⟩ : ∃ wl : World, wl = wr := ⟨_, rfl⟩
      have htk : (ts.zip l).take k = ts.zip l := List.take_of_length_le (by simp; omega)
      have HDL2 : Hid (DL (lookOf a b l) D) := Lib.hid (by rw [HLK.out, ← htk]; exact HDL.out)
      have HO := Lib.hid hown
      have HB := Lib.hid hb
      have HJD := Lib.hid (joinF_dig (m := a) (n := b) H3.out)
      have hll2 : l.length = (gtrees a b).length := by rw [HTS.out]; exact hll
      have HPK := Lib.hid (fun (k : Nat) (h : k < (trees 0 b).length) => peak_at hb16 hab hll2 h)
      have HML := Lib.hid (merged_len hb16 hab hll2)
      have HMD := Lib.hid (merged_digs hb16 hab hll2 H3.out)
      have HTB := Lib.hid (trees_ok b (by omega) 0 (by omega))
      have htb17 := trees_len 0 b
      obtain ⟨pk, HPKS⟩ : ∃ pk, Hid (trees 0 b = pk) := ⟨_, Lib.hid rfl⟩
      obtain ⟨ms, HMS⟩ : ∃ ms, Hid (merged pair a b l = ms) := ⟨_, Lib.hid rfl⟩
      rw [HPKS.out] at HPK HML HTB htb17
      rw [HMS.out] at HML HMD HGA0
      simp only [HMS.out] at HPK
      obtain ⟨r2, HR2⟩ : ∃ r, Hid (fold b ms = r) := ⟨_, Lib.hid rfl⟩
      have HGA : Hid (growAt a old b dg l = (r2 == dg)) := Lib.hid (by
        rw [HGA0.out, HR1.out, HR2.out, decide_eq_true hll, beq_iff_eq.2 HE.out]; rfl)
      clear hown hb hll2 htk HDL
      obtain ⟨wB, HWB⟩ : ∃ wB, Hid (wl.alloc (.cells #[] 3) = wB) := ⟨_, Lib.hid rfl⟩
      have hbB : Below wl.heap.size wl wB := by rw [← HWB.out]; exact (Below.refl _ _).alloc (Nat.le_refl _) _
      have hOB : O1 (Value.int .i64) wl.heap.size 3 wB (.slice (some ⟨wl.heap.size, 0, none⟩) 0 0) [] := by rw [← HWB.out]; exact O1.made _ _ _
      go_wp2_with fail
      rw [HWB.out]
      refine (treesFrom_any 0 b wB (by omega) hb16).mono ?_
      rintro e w6 ⟨v6, rfl, ho6, hb6⟩
      rw [HPKS.out] at ho6
      obtain ⟨A6, c6, rfl⟩ := O2.sl ho6
      have HT6 := Lib.hid ho6
      have hO6 := hOB.below hb6
      have HB6 := Lib.hid (below_bb hbB hb6)
      have HM6 := Lib.hid (HO.out.below HB6.out)
      have hbr := HB6.out.size
      have hgB : wl.heap.size < wB.heap.size := by rw [← HWB.out]; simp
      have hml := HO.out.lt
      have hBE := Lib.hid (HB13.out.trans (HB.out.mono hs3))
      have hsB := HB.out.size
      have hw6 := hb6.size
      clear ho6 hb6 hbB hOB
      go_wp2_with fail
      go_loopw [16, 74] (fun out i wr => ∃ k : Nat, k ≤ pk.length ∧ i = .int .i64 k ∧ O1 (Value.int .i64) wl.heap.size 3 wr out (ms.take k) ∧ Only wl.heap.size w6 wr ∧ (∀ r, out.ownBlock = some r → r = wl.heap.size ∨ w6.heap.size ≤ r)) (fun _ i _ => pk.length - (intOf i).toNat)
      case atStart => exact ⟨0, Nat.zero_le _, rfl, hO6, Only.of_below (Below.refl _ _), fun r hr => .inl (Option.some.inj hr).symm⟩
      case round =>
        clear hO6
        obtain ⟨j, hj, rfl, hown, hb, hrow⟩ := hrel
        have HROW := Lib.hid hrow
        clear hrow
        by_cases hltj : j < pk.length
        · have hltj' : (j : Int) < (pk.length : Int) := by omega
          obtain ⟨_, _, hA, _, _, hc⟩ := (HT6.out.only hb hgB).r2
          cases hA
          obtain ⟨tb, to, rfl, tlt, hc⟩ := hc (by omega)
          obtain ⟨c1, c2⟩ := hc j hltj
          obtain ⟨g1, g2, g3⟩ := HTB.out _ (List.getElem_mem hltj)
          obtain ⟨hjm, hJ⟩ := HPK.out j hltj
          have HJ := Lib.hid hJ
          have HTK := Lib.hid (take_snocI hjm)
          have HG2 := Lib.hid g2
          have hbx : pk[j].1 + pk[j].2 ≤ 16 := by omega
          have hlj : (ms.take j).length = j := by simp; omega
          have HLJ := Lib.hid hlj
          simp only [t1, t2] at c1 c2
          clear hc hJ g1 g2 hlj
          generalize pk[j] = t at *
          obtain ⟨ta, tz⟩ := t
          simp only at c1 c2 hbx g3
          generalize ms[j] = x at *
          have hMQ := (HM6.out.only hb (by omega)).alloc (.cells #[.int .i64 ta, .int .i64 tz] 103)
          have hba := (Below.refl wr.heap.size wr).alloc (Nat.le_refl _) (.cells #[.int .i64 ta, .int .i64 tz] 103)
          have hown1 := hown.alloc (.cells #[.int .i64 ta, .int .i64 tz] 103)
          have hbs := hb.size
          go_wp2_with (first
            | (go_at_call 96; refine (joined_i w3.heap.size k HDL2 HJD tz.log2 ta _ _ x _ rfl (by rw [HG2.out]) g3 (by rw [HG2.out]; show ta + tz ≤ 32; omega) hMQ HJ.out).mono ?_; rintro e w7 ⟨rfl, hb7⟩; have hown2 := hown1.below hb7; have hb27 := hba.trans (hb7.mono hba.size); have hs27 := hb27.size)
            | (at_builtin; refine app_intL hown2 (by rw [HLJ.out]; omega) (by omega) rfl rfl rfl rfl ?_; intro v8 w8 hown8 hg8 hl8))
          go_roundw
          case rel =>
            refine ⟨j + 1, by omega, by go_num, by rw [HTK.out]; exact hown8, (hb.thenB hb27).grown2 hg8 HROW.out, fun r hr => ?_⟩
            rcases hl8 r hr with h1 | h1
            · exact HROW.out r h1
            · exact .inr (by omega)
          case measure => simp [intOf]; omega
        · have hltj' : ¬ (j : Int) < (pk.length : Int) := by omega
          have hmsj : ms.take j = ms := List.take_of_length_le (by have := HML.out; omega)
          rw [hmsj] at hown
          clear hmsj
          have hR := Lib.hid hown.r1
          obtain ⟨A9, c9, rfl⟩ := hown.sl
          have HBO := Lib.hid hb
          clear hb
          go_wp2_with (go_at_call 93; refine (digestOf_b HR2 _ _ HDB.out HMD.out hR.out).mono ?_; rintro e w' ⟨rfl, rfl⟩)
          go_ret
          exact ⟨retb HGA.out.symm, hBE.out.trans ((HB6.out.trans (HBO.out.below (Nat.le_refl _) (by omega))).mono hBE.out.size)⟩
theorem TreeDigest_ib {l : List Int} {d : Int} (h : Hid (treeD l = d)) (v : Value) (w : World) (hv : RI w v l) : Calls Try.prog 39 #[v] w fun e w' => e = .returned (.int .i64 d) ∧ Below w.heap.size w w' := by
  rw [← h.out]; exact TreeDigest_i l v w hv
theorem TreeGrowthCheck_ib {m old n dg : Int} {l : List Int} {b : Bool} (h : Hid (growCheck m old n dg l = b)) (v : Value) (w : World) (hv : RI w v l) :
    Calls Try.prog 38 #[.int .i64 m, .int .i64 old, .int .i64 n, .int .i64 dg, v] w fun e w' => e = .returned (.bool b) ∧ Below w.heap.size w w' := by
  rw [← h.out]; exact TreeGrowthCheck_i m old n dg l v w hv
theorem TreeGrowth_ib {l g : List Int} {m : Int} (h : Hid (growOf l m = g)) (v : Value) (w : World) (hv : RI w v l) :
    Calls Try.prog 37 #[v, .int .i64 m] w fun e w' => ∃ v', e = .returned v' ∧ O1 (Value.int .i64) w.heap.size 3 w' v' g ∧ Below w.heap.size w w' := by
  rw [← h.out]; exact TreeGrowth_i l m v w hv
end Go.Proofs.Ytlhiabnablbkpaa
