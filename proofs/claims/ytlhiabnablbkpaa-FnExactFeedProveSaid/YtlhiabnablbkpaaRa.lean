/- PROVED HERE: the given statement Rows.FnExactFeedProveSaid, whole: for every Feed and every int the law answers true and the Feed reads as it did. -/
import Derived.Test.YtlhiabnablbkpaaWu
import Derived.Test.YtlhiabnablbkpaaFeedArg
import Derived.Test.YtlhiabnablbkpaaFacts
import Derived.WalkKit
import Derived.ProofKit
namespace Go.Proofs.Ytlhiabnablbkpaa
open Go.ChangeShapes Go.WideShapes Go.ChangeAt Go.RowKit

set_option maxRecDepth 100000 in
theorem FnExactFeedProve_lifted (os : Os) (started : os.Started) (H : Type) (enc : TypeId × Value → H) :
    ReturnsInHanded {} Try.checked os 3 .any (Rows.fnExactFeedProveSpec.pre6 enc Try.prog Try.f3 Rows.fnExactFeedProveRow.domain false) (Rows.fnExactFeedProveSpec.post enc Try.prog Try.f3 false true false false) := by
  refine returnsInHanded_of_change (C := Try.checked) own started (by kernel_rfl) Try.func3
    (ChangeSpec.witness6 (enc := enc) (C := Try.checked) false ⟨#[], #[.agg #[.int .i64 0, .int .i64 0, .int .i64 0, .int .i64 0, .slice none 0 0, .slice none 0 0], .int .i64 0], []⟩ 8 (by kernel_rfl) (by kernel_rfl) (by kernel_rfl) (by kernel_rfl)) ?_
  intro W base args ds gs before hval hW _ _
  have hW' := hW
  obtain ⟨p, q, hA0, hV, rfl, hfz, hnd⟩ := hW
  have hA : DataW.TrodAll enc Try.prog W 0 (fun _ => true) true Try.f3.params.toList args.toList ds p := hA0
  rw [Try.params3] at hA
  have hval' : ∀ (j : Nat) t v, Try.f3.params[j]? = some t → args[j]? = some v → Value.okWide Try.prog W .any base t v := hval
  rw [Try.params3] at hval'
  obtain ⟨v0, vs0, d0, ds0, p0, q0, hargs, rfl, rfl, h0, r0⟩ := trodAll_cons hA
  obtain ⟨v1, vs1, d1, ds1, p1, q1, rfl, rfl, rfl, h1, r1⟩ := trodAll_cons r0
  obtain ⟨rfl, rfl, rfl⟩ := trodAll_nil r1
  obtain rfl : args = #[v0, v1] := by cases args; simp_all
  obtain ⟨rfl, rfl⟩ := trodVars_none hV
  obtain ⟨f, va, vh, rfl, hf, hs⟩ := open_feed (hval' 0 _ v0 rfl rfl) h0
  obtain ⟨i, rfl, _⟩ := open_i64 h1 (hval' 1 _ v1 rfl rfl)
  refine (FnExactFeedProve_any f va vh i W hf hs).mono fun e W' ⟨he, hb⟩ => ?_
  subst he
  exact ⟨_, rfl, law_post (tb := 4) hW' rfl rfl laid (by kernel_rfl) (by kernel_rfl) Try.underlying4 hb⟩

theorem FnExactFeedProve_closed : joinedFacts Try.prog 3 Try.f3 Rows.fnExactFeedProveSpec Rows.fnExactFeedProveRow = true :=
  joined_of (by kernel_rfl) fact_laid fact_rows (by kernel_rfl) (by kernel_rfl) rfl fact_stops rfl fact_knobs (by kernel_rfl) (by kernel_rfl) (by kernel_rfl) (by kernel_rfl) (by kernel_rfl) (by kernel_rfl)
    (by kernel_rfl) (by kernel_rfl) (by kernel_rfl) (by kernel_rfl) (by kernel_rfl) (by kernel_rfl) (by kernel_rfl) (by rw [fact_keys]; rfl) rfl fact_heard fact_enter (by rw [fact_final]; rfl) (by rw [fact_make]; rfl)
    rfl rfl (by kernel_rfl) (by kernel_rfl) (by kernel_rfl)
theorem FnExactFeedProve_holds : Rows.FnExactFeedProveSaid :=
  OpenClaim.holds_of_wide 3 Try.f3 rfl rfl rfl rfl rfl rfl rfl ⟨rfl, rfl, rfl, rfl, rfl⟩ rfl rfl rfl rfl rfl (by kernel_rfl) Try.func3 FnExactFeedProve_closed
    (of_decide_eq_true (by kernel_rfl)) (by unfold Func.isWrapper; first | (rw [if_pos (by decide +kernel)]; kernel_rfl) | (rw [if_neg (by decide +kernel)]; exact ⟨rfl, rfl⟩))
    (fun os started H enc _ => FnExactFeedProve_lifted os started H enc)
#print axioms FnExactFeedProve_holds
end Go.Proofs.Ytlhiabnablbkpaa
