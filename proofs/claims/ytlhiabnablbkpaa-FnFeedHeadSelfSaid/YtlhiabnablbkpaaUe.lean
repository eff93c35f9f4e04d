/- Words: maps from trees to numbers. -/
import Derived.Test.YtlhiabnablbkpaaUd
import Derived.Maps.OwnSet
import Derived.Maps.OwnOps
import Derived.DeepKeys4
import Derived.MapViews
namespace Go.Proofs.Ytlhiabnablbkpaa
open Go.RowKit
open Go.Maps (Keyed)

theorem tr_laid : laidOutB Try.prog = true := by kernel_rfl
theorem tr_row : (103 : TypeId) < Try.prog.types.size := of_decide_eq_true (by kernel_rfl)
theorem tr_cells : Try.prog.cellsOf 103 = 2 := by kernel_rfl
theorem tr_deep : Try.prog.keyTypeAt (Try.prog.types.size + 1) 103 = true := by kernel_rfl
theorem tr_wide : (match Try.prog.underlying 103 with | some (.array _ _) | some (.struct _) => true | _ => false) = true := by kernel_rfl
theorem tr_at2 : Try.prog.keyTypeAt 2 103 = true := by kernel_rfl
theorem tr_law : WideMaps.KeyLaw Try.prog 103 := deep_law_laid tr_laid (m := 2) (by omega) tr_row tr_at2 (by rw [Try.underlying103])
theorem tr_keyed : Keyed Try.prog 103 := Keyed.of_law tr_law
theorem int_cells : Try.prog.cellsOf 3 = 1 := by kernel_rfl
theorem int_zero (w : World) : (zeroValue 3).run Try.prog w = .ok (.int .i64 0) w := by kernel_rfl
def tv (t : Nat × Nat) : Value := .agg #[.int .i64 t.1, .int .i64 t.2]
theorem wf_nat {n : Nat} (h : n ≤ 1000) : (Lit.int .i64 (n : Int)).wf = true := by
  simp [Lit.wf, IntKind.min, IntKind.max, IntKind.signed, IntKind.bits]; omega
theorem tv_formed (t : Nat × Nat) : (tv t).formed Try.prog 103 = true := by simp [tv, Value.formed, Try.underlying103, tr_cells]
theorem tv_key (w : World) (t : Nat × Nat) (h1 : t.1 ≤ 1000) (h2 : t.2 ≤ 1000) : ∃ l, keyOf Try.prog 103 (tv t) = some l := by
  have := keyOf_asKey (P := Try.prog) (H := Unit) (enc := fun _ => ()) (w := w) (base := 0) (sp := fun _ => true) (held := true) tr_deep (by rw [Try.underlying103]) (tv_formed t) (d := .agg [.lit (.int .i64 t.1), .lit (.int .i64 t.2)]) (ps := []) ⟨3, by
    simp [DataW.trod, tv, Value.cells, Try.underlying103, Try.underlying3, tr_cells, int_cells, wf_nat h1, wf_nat h2]⟩
  exact ⟨_, this.1⟩
/-- The key of a tree. -/
@[irreducible] noncomputable def kl (t : Nat × Nat) : Lit := (keyOf Try.prog 103 (tv t)).getD (.bool false)
theorem key_kl (w : World) {t : Nat × Nat} (h1 : t.1 ≤ 1000) (h2 : t.2 ≤ 1000) : keyOf Try.prog 103 (tv t) = some (kl t) := by
  obtain ⟨l, hl⟩ := tv_key w t h1 h2
  unfold kl; rw [hl]; rfl
theorem tv_inj {t u : Nat × Nat} (h : tv t = tv u) : t = u := by
  cases t; cases u
  simp [tv] at h
  rw [Prod.mk.injEq]; omega
theorem kl_ne (w : World) {t u : Nat × Nat} (h1 : t.1 ≤ 1000) (h2 : t.2 ≤ 1000) (h3 : u.1 ≤ 1000) (h4 : u.2 ≤ 1000) (hne : t ≠ u) : kl t ≠ kl u := by
  intro e
  have k1 := key_kl w h1 h2
  rw [e] at k1
  exact hne (tv_inj (tr_keyed.inj k1 (key_kl w h3 h4)))
theorem keylit {v : Value} {l : Lit} (h : keyOf Try.prog 103 v = some l) : WideAt.IsKeyLit l := tr_keyed.key h
/-- The map's datum says what lies at each tree. -/
def DL (look : Nat × Nat → Option Int) (D : DataW Unit) : Prop :=
  ∀ t : Nat × Nat, t.1 ≤ 1000 → t.2 ≤ 1000 → match look t with
    | none => Maps.has D (kl t) = false
    | some r => Maps.has D (kl t) = true ∧ D.atKey (kl t) (.lit (.int .i64 0)) = .lit (.int .i64 r)
theorem DL.nil : DL (fun _ => none) (.map []) := fun t _ _ => by
  show Maps.has (.map []) (kl t) = false
  rw [Maps.has_eq, List.any_nil]
theorem DL.put (w : World) {look : Nat × Nat → Option Int} {D : DataW Unit} (h : DL look D) (hD : Maps.IsMap D) {t : Nat × Nat} (h1 : t.1 ≤ 1000) (h2 : t.2 ≤ 1000) (r : Int) :
    DL (fun u => if t = u then some r else look u) (D.put (kl t) (.lit (.int .i64 r))) := by
  have hk := keylit (key_kl w h1 h2)
  intro u u1 u2
  by_cases e : t = u
  · subst e
    simp only [if_true]
    exact ⟨Maps.has_put_same hD hk _, Maps.atKey_put_same hD hk _ _⟩
  · have hne := kl_ne w u1 u2 h1 h2 (fun e2 => e e2.symm)
    simp only [if_neg e]
    rw [Maps.has_put_other hne]
    simp only [Maps.atKey_put_other hne]
    exact h u u1 u2
abbrev OM (w : World) (b n : Nat) (D : DataW Unit) : Prop := w.ownsMap Try.prog 103 (plainElem Try.prog 3) b n D
theorem OM.below {w w' : World} {b n : Nat} {D : DataW Unit} (h : OM w b n D) (hb : Below w.heap.size w w') : OM w' b n D := World.ownsMap.kept h (grow_below hb (row := none)) (by simp)
end Go.Proofs.Ytlhiabnablbkpaa
