/- PROVED HERE: the given statement Rows.FnExactWorldCalmSaid, whole: for every World the law answers true and what came in reads as it did. -/
import Derived.Test.YtcplnfmcefkehaaGreatLu
import Derived.Test.YtcplnfmcefkehaaGreatWorldArg
import Derived.WalkKit
import Derived.ProofKit
set_option linter.unusedVariables false
set_option linter.unusedSimpArgs false
namespace Go.Proofs.YtcplnfmcefkehaaGreat
open Go.ChangeShapes Go.WideShapes Go.ChangeAt Go.RowKit Go.Deep

set_option maxRecDepth 100000 in
theorem FnExactWorldCalm_lifted (os : Os) (started : os.Started) (H : Type) (enc : TypeId × Value → H) :
 ReturnsInHanded {} Tryz.checked os 11 .any (Rows.fnExactWorldReachSpec.pre6 enc Tryz.prog Tryz.f11 Rows.fnExactWorldReachRow.domain false) (Rows.fnExactWorldReachSpec.post enc Tryz.prog Tryz.f11 false true false false) := by
 refine returnsInHanded_of_change (C := Tryz.checked) own started (by kernel_rfl) Tryz.func11
  (ChangeSpec.witness6 (enc := enc) (C := Tryz.checked) false ⟨#[], #[.agg #[.int .i64 0, .int .i64 0, .slice none 0 0, .slice none 0 0, .slice none 0 0, .slice none 0 0]], []⟩ 8 (by kernel_rfl) (by kernel_rfl) (by kernel_rfl) (by kernel_rfl)) ?_
 intro W base args ds gs before hval hW _ _
 have hW' := hW
 obtain ⟨p, q, hA0, hV, rfl, hfz, hnd⟩ := hW
 have hA : DataW.TrodAll enc Tryz.prog W 0 (fun _ => true) true Tryz.f11.params.toList args.toList ds p := hA0
 rw [Tryz.params11] at hA
 have hval' : ∀ (j : Nat) t v, Tryz.f11.params[j]? = some t → args[j]? = some v → Value.okWide Tryz.prog W .any base t v := hval
 rw [Tryz.params11] at hval'
 obtain ⟨v0, vs0, d0, ds0, p0, q0, hargs, rfl, rfl, h0, r0⟩ := trodAll_cons hA
 obtain ⟨rfl, rfl, rfl⟩ := trodAll_nil r0
 obtain rfl : args = #[v0] := by cases args; simp_all
 obtain ⟨rfl, rfl⟩ := trodVars_none hV
 obtain ⟨x, vF, vL, vK, vN, rfl, hx, ht⟩ := qqV (hval' 0 _ v0 rfl rfl) h0
 refine (FnExactWorldCalm_any x vF vL vK vN W hx ht).mono fun e W' ⟨he, hb⟩ => ?_
 subst he
 exact ⟨_, rfl, qj0 (tb := 4) hW' rfl rfl laid (by kernel_rfl) (by kernel_rfl) Tryz.underlying4 hb⟩
theorem FnExactWorldCalm_closed : joinedFacts Tryz.prog 11 Tryz.f11 Rows.fnExactWorldCalmSpec Rows.fnExactWorldCalmRow = true :=
 qim (by kernel_rfl) fact_laid fact_rows (by kernel_rfl) (by kernel_rfl) rfl fact_stops rfl fact_knobs (by kernel_rfl) (by kernel_rfl) (by kernel_rfl) (by kernel_rfl) (by kernel_rfl) (by kernel_rfl)
  (by kernel_rfl) (by kernel_rfl) (by kernel_rfl) (by kernel_rfl) (by kernel_rfl) (by kernel_rfl) (by kernel_rfl) (by rw [fact_keys]; rfl) rfl fact_heard fact_enter (by rw [fact_final]; rfl) (by rw [fact_make]; rfl)
  rfl rfl (by kernel_rfl) (by kernel_rfl) (by kernel_rfl)
theorem FnExactWorldCalm_holds : Rows.FnExactWorldCalmSaid :=
 OpenClaim.holds_of_wide 11 Tryz.f11 rfl rfl rfl rfl rfl rfl rfl ⟨rfl, rfl, rfl, rfl, rfl⟩ rfl rfl rfl rfl rfl (by kernel_rfl) Tryz.func11 FnExactWorldCalm_closed
  (of_decide_eq_true (by kernel_rfl)) (by unfold Func.isWrapper; first | (rw [if_pos (by decide +kernel)]; kernel_rfl) | (rw [if_neg (by decide +kernel)]; exact ⟨rfl, rfl⟩))
  (fun os started H enc _ => FnExactWorldCalm_lifted os started H enc)
#print axioms FnExactWorldCalm_holds
end Go.Proofs.YtcplnfmcefkehaaGreat
