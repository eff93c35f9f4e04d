/- Walk: a proof is bent. -/
import Derived.Test.YtlhiabnablbkpaaVb
namespace Go.Proofs.Ytlhiabnablbkpaa
open Go.RowKit

theorem O1.takeN {α : Type} {enc : α → Value} {B : Nat} {e : TypeId} {w : World} {A : Option Addr} {n c m : Nat} {l : List α} (h : O1 enc B e w (.slice A n c) l) (hm : m ≤ l.length) : O1 enc B e w (.slice A m c) (l.take m) := by
  have hl : (l.take m).length = m := by simp; omega
  refine ⟨by simp, ?_⟩
  rcases h.2 with ⟨hv, h0⟩ | ⟨g, cap, cur, hv, hg, hh, hn, hc, hs, ht⟩
  · injection hv with h1 h2 h3
    have hm0 : m = 0 := by omega
    refine .inl ⟨?_, by rw [hl]; exact hm0⟩
    rw [h1, h3, hm0]
  · injection hv with h1 h2 h3
    refine .inr ⟨g, cap, cur, by rw [h1, h3, hl], hg, hh, by omega, hc, hs, ?_⟩
    rw [hl]
    have := congrArg (List.take m) ht
    rw [List.take_take] at this
    rw [List.map_take, ← this]
    congr 1
    rw [Nat.mul_one, Nat.mul_one, Nat.min_eq_left (by omega)]
theorem Only.thenBase {g : Nat} {a b c : World} (h : Only g a b) (k : Below a.heap.size b c) : Only g a c :=
  ⟨k.os.trans h.os, k.tape.trans h.tape, k.output.trans h.output, Nat.le_trans h.size k.size, fun i hi hne => (k.block i hi).trans (h.block i hi hne)⟩
/-- What l91Bend leaves. -/
def BendPost (n g P : Nat) (w : World) (e : Ending) (w' : World) : Prop :=
  ∃ v l, e = .returned v ∧ O1 (Value.int .i64) w.heap.size 3 w' v l ∧ l.length ≤ n ∧ Rdr w' g P ∧ Only g w w'
set_option maxHeartbeats 1600000 in
set_option maxRecDepth 100000 in
theorem l91Bend_any (g P B' : Nat) (l : List Int) (v : Value) (w : World) (hr : Rdr w g P) (hP : P ≤ 200000) (hv : O1 (Value.int .i64) B' 3 w v l) (hl : l.length ≤ 100) : Calls Try.prog 123 #[.pointer (some ⟨g, 0, none⟩), v] w (BendPost (l.length + 1) g (P + 10) w) := by
  have hgl := hr.lt
  have HB0 := Lib.hid ((Below.refl w.heap.size w).alloc (Nat.le_refl _) (.cells #[] 3))
  have HM0 := Lib.hid (O1.made (Value.int .i64) w 3)
  have HV := Lib.hid ((hv.below HB0.out).r1)
  have HR := Lib.hid hr
  obtain ⟨A, c, rfl⟩ := hv.sl
  clear hv hr
  go_enter Try.func123, Try.ntmps123
  go_wp2_with (first
    | (at_builtin; refine app_ints HM0.out HV.out (by simp; omega) (by simp) rfl rfl rfl rfl ?_; intro v1 w1 ho1 hb1))
  have ho1 : O1 (Value.int .i64) w.heap.size 3 w1 v1 l := ho1
  have hb01 := HB0.out.trans hb1
  have r1 := HR.out.below hb01
  obtain ⟨uA, uc, rfl⟩ := ho1.sl
  clear hb1
  refine (pick_any g P 4 w1 r1 (by omega) (by omega) (by omega)).mono ?_
  rintro e w2 ⟨x, rfl, x1, x2, r2, o2⟩
  have ho2 := ho1.only o2 hgl
  have oo2 := (Only.of_below hb01 (g := g)).trans o2
  have hs2 := oo2.size
  clear ho1 hb01 r1 o2
  have hx : x = 0 ∨ x = 1 ∨ 2 ≤ x := by omega
  rcases hx with rfl | rfl | hx
  · go_wp2_with fail
    refine (l91Digest_any g (P + 1) w2 r2 (by omega)).mono ?_
    rintro e w3 ⟨y, rfl, y1, y2, r3, o3⟩
    have ho3 := ho2.only o3 hgl
    have oo3 := oo2.trans o3
    go_wp2_with (at_builtin; refine app_int ho3 (by omega) oo3.size rfl rfl rfl rfl ?_; intro v4 w4 ho4 hb4)
    go_ret
    exact ⟨_, _, rfl, ho4, by simp, (r3.keep fun k hk => hb4.block k (by omega)).mono (by omega), oo3.thenBase hb4⟩
  · by_cases h0 : l.length = 0
    · have h0' : ¬ (0 : Int) < (l.length : Int) := by omega
      clear h0
      go_wp2
      go_ret
      exact ⟨_, l, rfl, ho2, by omega, r2.mono (by omega), oo2⟩
    · have h0' : (0 : Int) < (l.length : Int) := by omega
      have hcap : (l.length : Int) ≤ (uc : Int) := by obtain ⟨_, _, hA, hc, _⟩ := ho2.r1; cases hA; omega
      have hcm : (uc : Int) ≤ 9223372036854775807 := by obtain ⟨_, _, hA, _, hc, _⟩ := ho2.r1; cases hA; unfold maxLen at hc; omega
      obtain ⟨gb, cb, hA, hgb1, hgb2⟩ := ho2.form (by omega)
      cases hA
      go_wp2
      go_ret
      exact ⟨_, l.take (l.length - 1), rfl, ho2.takeN (by omega), by simp; omega, r2.mono (by omega), oo2⟩
  · have n0 : (x == 0) = false := by rw [beq_eq_false_iff_ne]; omega
    have n1 : (x == 1) = false := by rw [beq_eq_false_iff_ne]; omega
    by_cases h0 : l.length = 0
    · have h0' : ¬ (0 : Int) < (l.length : Int) := by omega
      clear h0
      go_wp2
      go_ret
      exact ⟨_, l, rfl, ho2, by omega, r2.mono (by omega), oo2⟩
    · have h0' : (0 : Int) < (l.length : Int) := by omega
      obtain ⟨gb, cb, hA, hgb1, hgb2⟩ := ho2.form (by omega)
      cases hA
      go_wp2_with fail
      refine (pick_any g (P + 1) l.length w2 r2 (by omega) (by omega) (by omega)).mono ?_
      rintro e w3 ⟨u, rfl, z1, z2, r3, o3⟩
      obtain ⟨m, rfl⟩ : ∃ m : Nat, u = m := ⟨u.toNat, by omega⟩
      have ho3 := ho2.only o3 hgl
      have oo3 := oo2.trans o3
      go_wp2_with fail
      refine (l91Digest_any g (P + 2) w3 r3 (by omega)).mono ?_
      rintro e w4 ⟨y, rfl, y1, y2, r4, o4⟩
      have ho4 := ho3.only o4 hgl
      have oo4 := oo3.trans o4
      obtain ⟨e1, e2⟩ := ho4.at_ (j := m) (by omega)
      have hset := ho4.setAt (j := m) (by omega) y
      have HSET := Lib.hid hset
      have e1' : ∃ u, w4.cell? ⟨gb, m, none⟩ = some u := ⟨_, e1⟩
      clear e1 hset
      obtain ⟨ue, e1⟩ := e1'
      go_wp2
      go_ret
      exact ⟨_, l.set m y, rfl, HSET.out.1, by simp, (r4.set (p := ⟨gb, m, none⟩) (by show g < gb; omega) _).mono (by omega), oo4.set (p := ⟨gb, m, none⟩) hgb1 _⟩
end Go.Proofs.Ytlhiabnablbkpaa
