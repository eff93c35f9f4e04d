/- PROVED HERE: the given statement Rows.FnCalmTwiceSaid, whole: for every code the law answers true and the code reads as it did. -/
import Derived.Test.YtcplnfmcefkehaaGreatKn
import Derived.Test.YtcplnfmcefkehaaGreatCodeArg
import Derived.WalkKit
import Derived.ProofKit
set_option linter.unusedVariables false
set_option linter.unusedSimpArgs false
namespace Go.Proofs.YtcplnfmcefkehaaGreat
open Go.ChangeShapes Go.WideShapes Go.ChangeAt Go.RowKit

theorem own_FnCalmTwice : ownKnob Tryz.prog.godebug = none := by kernel_rfl
set_option maxRecDepth 100000 in
theorem FnCalmTwice_lifted (os : Os) (started : os.Started) (H : Type) (enc : TypeId × Value → H) :
 ReturnsInHanded {} Tryz.checked os 9 .any (Rows.fnCalmTwiceSpec.pre6 enc Tryz.prog Tryz.f9 Rows.fnCalmTwiceRow.domain false) (Rows.fnCalmTwiceSpec.post enc Tryz.prog Tryz.f9 false true false false) := by
 refine returnsInHanded_of_change (C := Tryz.checked) own_FnCalmTwice started (by kernel_rfl) Tryz.func9
  (ChangeSpec.witness6 (enc := enc) (C := Tryz.checked) false ⟨#[], #[.slice none 0 0], []⟩ 8 (by kernel_rfl) (by kernel_rfl) (by kernel_rfl) (by kernel_rfl)) ?_
 intro W base args ds gs before hval hW _ _
 have hW' := hW
 obtain ⟨p, q, hA0, hV, rfl, hfz, hnd⟩ := hW
 have hA : DataW.TrodAll enc Tryz.prog W 0 (fun _ => true) true Tryz.f9.params.toList args.toList ds p := hA0
 rw [Tryz.params9] at hA
 have hval' : ∀ (j : Nat) t v, Tryz.f9.params[j]? = some t → args[j]? = some v → Value.okWide Tryz.prog W .any base t v := hval
 rw [Tryz.params9] at hval'
 obtain ⟨v0, vs0, d0, ds0, p0, q0, hargs, rfl, rfl, h0, r0⟩ := trodAll_cons hA
 obtain ⟨rfl, rfl, rfl⟩ := trodAll_nil r0
 obtain rfl : args = #[v0] := by cases args; simp_all
 obtain ⟨rfl, rfl⟩ := trodVars_none hV
 obtain ⟨bs, hbs⟩ := qiE (hval' 0 _ v0 rfl rfl) h0
 refine (FnCalmTwice_any bs v0 W hbs).mono fun e W' ⟨he, hb⟩ => ?_
 subst he
 exact ⟨_, rfl, qj0 (tb := 4) hW' rfl rfl fact_laid (by kernel_rfl) (by kernel_rfl) Tryz.underlying4 hb⟩
theorem FnCalmTwice_closed : joinedFacts Tryz.prog 9 Tryz.f9 Rows.fnCalmTwiceSpec Rows.fnCalmTwiceRow = true :=
 qim (by kernel_rfl) fact_laid fact_rows (by kernel_rfl) (by kernel_rfl) rfl fact_stops rfl fact_knobs (by kernel_rfl) (by kernel_rfl) (by kernel_rfl) (by kernel_rfl) (by kernel_rfl) (by kernel_rfl)
  (by kernel_rfl) (by kernel_rfl) (by kernel_rfl) (by kernel_rfl) (by kernel_rfl) (by kernel_rfl) (by kernel_rfl) (by rw [fact_keys]; rfl) rfl fact_heard fact_enter (by rw [fact_final]; rfl) (by rw [fact_make]; rfl)
  rfl rfl (by kernel_rfl) (by kernel_rfl) (by kernel_rfl)
theorem FnCalmTwice_holds : Rows.FnCalmTwiceSaid :=
 OpenClaim.holds_of_wide 9 Tryz.f9 rfl rfl rfl rfl rfl rfl rfl ⟨rfl, rfl, rfl, rfl, rfl⟩ rfl rfl rfl rfl rfl (by kernel_rfl) Tryz.func9 FnCalmTwice_closed
  (of_decide_eq_true (by kernel_rfl)) (by unfold Func.isWrapper; first | (rw [if_pos (by decide +kernel)]; kernel_rfl) | (rw [if_neg (by decide +kernel)]; exact ⟨rfl, rfl⟩))
  (fun os started H enc _ => FnCalmTwice_lifted os started H enc)
#print axioms FnCalmTwice_holds
end Go.Proofs.YtcplnfmcefkehaaGreat
