/- PROVED HERE: the given statement Rows.FnExactFeedPutSaid, whole: for every Feed, int, string and slice of ints the law answers true and what came in reads as it did. -/
import Derived.Test.YtlhiabnablbkpaaVr
import Derived.Test.YtlhiabnablbkpaaFeedArg
import Derived.Test.YtlhiabnablbkpaaFacts
import Derived.WalkKit
import Derived.ProofKit
namespace Go.Proofs.Ytlhiabnablbkpaa
open Go.ChangeShapes Go.WideShapes Go.ChangeAt Go.RowKit Go.Deep

set_option maxRecDepth 100000 in
theorem open_text {H : Type} {enc : TypeId × Value → H} {w : World} {base : Nat} {held : Bool} {r : Reach} {b0 : Nat} {v : Value} {d : DataW H} {p : List MemPlace} (hv : Value.okWide Try.prog w r b0 9 v) (h : DataW.Trod enc Try.prog w base (fun _ => true) held 9 v d p) : ∃ s : ByteArray, v = .string s ∧ s.size ≤ maxLen := by
  obtain ⟨s, rfl⟩ := okWide_string Try.underlying9 hv
  obtain ⟨fuel, hf⟩ := h
  obtain ⟨s', h1, _, h3⟩ := DataW.trod_string Try.underlying9 hf
  have h1' : [Value.string s] = [Value.string s'] := h1
  obtain rfl : s = s' := by injection h1' with h _; injection h
  exact ⟨s, rfl, h3⟩
set_option maxRecDepth 100000 in
theorem open_nums {H : Type} {enc : TypeId × Value → H} {w : World} {base : Nat} {held : Bool} {r : Reach} {b0 : Nat} {v : Value} {d : DataW H} {p : List MemPlace} (hv : Value.okWide Try.prog w r b0 29 v) (h : DataW.Trod enc Try.prog w base (fun _ => true) held 29 v d p) : ∃ l, RI w v l := by
  obtain ⟨a, n, c, rfl⟩ := okWide_slice Try.underlying29 hv
  obtain ⟨fuel, hf⟩ := h
  obtain ⟨l, h1, _⟩ := open_RI Try.underlying29 Try.underlying3 (by kernel_rfl) hf
  exact ⟨l, h1⟩
set_option maxRecDepth 100000 in
theorem FnExactFeedPut_lifted (os : Os) (started : os.Started) (H : Type) (enc : TypeId × Value → H) :
    ReturnsInHanded {} Try.checked os 9 .any (Rows.fnExactFeedPutSpec.pre6 enc Try.prog Try.f9 Rows.fnExactFeedPutRow.domain false) (Rows.fnExactFeedPutSpec.post enc Try.prog Try.f9 false true false false) := by
  refine returnsInHanded_of_change (C := Try.checked) own started (by kernel_rfl) Try.func9
    (ChangeSpec.witness6 (enc := enc) (C := Try.checked) false ⟨#[], #[.agg #[.int .i64 0, .int .i64 0, .int .i64 0, .int .i64 0, .slice none 0 0, .slice none 0 0], .int .i64 0, .string ⟨#[]⟩, .slice none 0 0], []⟩ 8 (by kernel_rfl) (by kernel_rfl) (by kernel_rfl) (by kernel_rfl)) ?_
  intro W base args ds gs before hval hW _ _
  have hW' := hW
  obtain ⟨p, q, hA0, hV, rfl, hfz, hnd⟩ := hW
  have hA : DataW.TrodAll enc Try.prog W 0 (fun _ => true) true Try.f9.params.toList args.toList ds p := hA0
  rw [Try.params9] at hA
  have hval' : ∀ (j : Nat) t v, Try.f9.params[j]? = some t → args[j]? = some v → Value.okWide Try.prog W .any base t v := hval
  rw [Try.params9] at hval'
  obtain ⟨v0, vs0, d0, ds0, p0, q0, hargs, rfl, rfl, h0, r0⟩ := trodAll_cons hA
  obtain ⟨v1, vs1, d1, ds1, p1, q1, rfl, rfl, rfl, h1, r1⟩ := trodAll_cons r0
  obtain ⟨v2, vs2, d2, ds2, p2, q2, rfl, rfl, rfl, h2, r2⟩ := trodAll_cons r1
  obtain ⟨v3, vs3, d3, ds3, p3, q3, rfl, rfl, rfl, h3, r3⟩ := trodAll_cons r2
  obtain ⟨rfl, rfl, rfl⟩ := trodAll_nil r3
  obtain rfl : args = #[v0, v1, v2, v3] := by cases args; simp_all
  obtain ⟨rfl, rfl⟩ := trodVars_none hV
  obtain ⟨f, va, vh, rfl, hf, hs⟩ := open_feed (hval' 0 _ v0 rfl rfl) h0
  obtain ⟨i, rfl, _⟩ := open_i64 h1 (hval' 1 _ v1 rfl rfl)
  obtain ⟨t, rfl, ht⟩ := open_text (hval' 2 _ v2 rfl rfl) h2
  obtain ⟨l, hl⟩ := open_nums (hval' 3 _ v3 rfl rfl) h3
  refine (FnExactFeedPut_any f va vh i t v3 l W hf hs ht hl).mono fun e W' ⟨he, hb⟩ => ?_
  subst he
  exact ⟨_, rfl, law_post (tb := 4) hW' rfl rfl laid (by kernel_rfl) (by kernel_rfl) Try.underlying4 hb⟩
theorem FnExactFeedPut_closed : joinedFacts Try.prog 9 Try.f9 Rows.fnExactFeedPutSpec Rows.fnExactFeedPutRow = true :=
  joined_of (by kernel_rfl) fact_laid fact_rows (by kernel_rfl) (by kernel_rfl) rfl fact_stops rfl fact_knobs (by kernel_rfl) (by kernel_rfl) (by kernel_rfl) (by kernel_rfl) (by kernel_rfl) (by kernel_rfl)
    (by kernel_rfl) (by kernel_rfl) (by kernel_rfl) (by kernel_rfl) (by kernel_rfl) (by kernel_rfl) (by kernel_rfl) (by rw [fact_keys]; rfl) rfl fact_heard fact_enter (by rw [fact_final]; rfl) (by rw [fact_make]; rfl)
    rfl rfl (by kernel_rfl) (by kernel_rfl) (by kernel_rfl)
theorem FnExactFeedPut_holds : Rows.FnExactFeedPutSaid :=
  OpenClaim.holds_of_wide 9 Try.f9 rfl rfl rfl rfl rfl rfl rfl ⟨rfl, rfl, rfl, rfl, rfl⟩ rfl rfl rfl rfl rfl (by kernel_rfl) Try.func9 FnExactFeedPut_closed
    (of_decide_eq_true (by kernel_rfl)) (by unfold Func.isWrapper; first | (rw [if_pos (by decide +kernel)]; kernel_rfl) | (rw [if_neg (by decide +kernel)]; exact ⟨rfl, rfl⟩))
    (fun os started H enc _ => FnExactFeedPut_lifted os started H enc)
#print axioms FnExactFeedPut_holds
end Go.Proofs.Ytlhiabnablbkpaa
