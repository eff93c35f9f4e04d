/- PROVED HERE: the given statement Rows.FnExactWorldNewSaid, whole: for all three ints the law answers true and what came in reads as it did. -/
import Derived.Test.YtcplnfmcefkehaaXj
import Derived.Test.YtcplnfmcefkehaaFeedArg
import Derived.Test.YtcplnfmcefkehaaFacts
import Derived.WalkKit
import Derived.ProofKit
namespace Go.Proofs.Ytcplnfmcefkehaa
open Go.ChangeShapes Go.WideShapes Go.ChangeAt Go.RowKit Go.Deep

set_option maxRecDepth 100000 in
theorem FnExactWorldNew_lifted (os : Os) (started : os.Started) (H : Type) (enc : TypeId × Value → H) :
    ReturnsInHanded {} Try.checked os 3 .any (Rows.fnExactWorldNewSpec.pre6 enc Try.prog Try.f3 Rows.fnExactWorldNewRow.domain false) (Rows.fnExactWorldNewSpec.post enc Try.prog Try.f3 false true false false) := by
  refine returnsInHanded_of_change (C := Try.checked) own started (by kernel_rfl) Try.func3
    (ChangeSpec.witness6 (enc := enc) (C := Try.checked) false ⟨#[], #[.int .i64 0, .int .i64 0, .int .i64 0], []⟩ 8 (by kernel_rfl) (by kernel_rfl) (by kernel_rfl) (by kernel_rfl)) ?_
  intro W base args ds gs before hval hW _ _
  have hW' := hW
  obtain ⟨p, q, hA0, hV, rfl, hfz, hnd⟩ := hW
  have hA : DataW.TrodAll enc Try.prog W 0 (fun _ => true) true Try.f3.params.toList args.toList ds p := hA0
  rw [Try.params3] at hA
  have hval' : ∀ (j : Nat) t v, Try.f3.params[j]? = some t → args[j]? = some v → Value.okWide Try.prog W .any base t v := hval
  rw [Try.params3] at hval'
  obtain ⟨v0, vs0, d0, ds0, p0, q0, hargs, rfl, rfl, h0, r0⟩ := trodAll_cons hA
  obtain ⟨v1, vs1, d1, ds1, p1, q1, rfl, rfl, rfl, h1, r1⟩ := trodAll_cons r0
  obtain ⟨v2, vs2, d2, ds2, p2, q2, rfl, rfl, rfl, h2, r2⟩ := trodAll_cons r1
  obtain ⟨rfl, rfl, rfl⟩ := trodAll_nil r2
  obtain rfl : args = #[v0, v1, v2] := by cases args; simp_all
  obtain ⟨rfl, rfl⟩ := trodVars_none hV
  obtain ⟨s, rfl, _⟩ := open_i64 h0 (hval' 0 _ v0 rfl rfl)
  obtain ⟨n, rfl, _⟩ := open_i64 h1 (hval' 1 _ v1 rfl rfl)
  obtain ⟨b, rfl, _⟩ := open_i64 h2 (hval' 2 _ v2 rfl rfl)
  refine (FnExactWorldNew_any s n b W).mono fun e W' ⟨he, hb⟩ => ?_
  subst he
  exact ⟨_, rfl, law_post (tb := 4) hW' rfl rfl laid (by kernel_rfl) (by kernel_rfl) Try.underlying4 hb⟩
theorem FnExactWorldNew_closed : joinedFacts Try.prog 3 Try.f3 Rows.fnExactWorldNewSpec Rows.fnExactWorldNewRow = true :=
  joined_of (by kernel_rfl) fact_laid fact_rows (by kernel_rfl) (by kernel_rfl) rfl fact_stops rfl fact_knobs (by kernel_rfl) (by kernel_rfl) (by kernel_rfl) (by kernel_rfl) (by kernel_rfl) (by kernel_rfl)
    (by kernel_rfl) (by kernel_rfl) (by kernel_rfl) (by kernel_rfl) (by kernel_rfl) (by kernel_rfl) (by kernel_rfl) (by rw [fact_keys]; rfl) rfl fact_heard fact_enter (by rw [fact_final]; rfl) (by rw [fact_make]; rfl)
    rfl rfl (by kernel_rfl) (by kernel_rfl) (by kernel_rfl)
theorem FnExactWorldNew_holds : Rows.FnExactWorldNewSaid :=
  OpenClaim.holds_of_wide 3 Try.f3 rfl rfl rfl rfl rfl rfl rfl ⟨rfl, rfl, rfl, rfl, rfl⟩ rfl rfl rfl rfl rfl (by kernel_rfl) Try.func3 FnExactWorldNew_closed
    (of_decide_eq_true (by kernel_rfl)) (by unfold Func.isWrapper; first | (rw [if_pos (by decide +kernel)]; kernel_rfl) | (rw [if_neg (by decide +kernel)]; exact ⟨rfl, rfl⟩))
    (fun os started H enc _ => FnExactWorldNew_lifted os started H enc)
#print axioms FnExactWorldNew_holds
end Go.Proofs.Ytcplnfmcefkehaa
