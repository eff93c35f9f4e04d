/- PROVED HERE: the given statement Rows.FnExactFeedHeadSaid, whole: for every Feed, Head and slice of ints the law answers true and what came in reads as it did. -/
import Derived.Test.YtlhiabnablbkpaaUv
import Derived.Test.YtlhiabnablbkpaaFeedArg
import Derived.Test.YtlhiabnablbkpaaFacts
import Derived.WalkKit
import Derived.ProofKit
namespace Go.Proofs.Ytlhiabnablbkpaa
open Go.ChangeShapes Go.WideShapes Go.ChangeAt Go.RowKit Go.Deep

set_option maxRecDepth 100000 in
theorem open_head {H : Type} {enc : TypeId × Value → H} {w : World} {base : Nat} {held : Bool} {r : Reach} {b0 : Nat} {v : Value} {d : DataW H} {p : List MemPlace} (hv : Value.okWide Try.prog w r b0 23 v) (h : DataW.Trod enc Try.prog w base (fun _ => true) held 23 v d p) :
    ∃ h : Hd, v = .agg #[.int .i64 h.len, .int .i64 h.dg, .int .i64 h.sg] := by
  have C1 : Try.prog.cellsOf 3 = 1 := by kernel_rfl
  have C3 : Try.prog.cellsOf 23 = 3 := by kernel_rfl
  obtain ⟨cs, n, rfl, hl, hf⟩ := open_struct Try.underlying23 hv h
  rw [C3] at hl
  match cs, hl with
  | [c0, c1, c2], _ =>
    obtain ⟨y0, h0⟩ := hf 0 _ rfl
    obtain ⟨y1, h1⟩ := hf 1 _ rfl
    obtain ⟨y2, h2⟩ := hf 2 _ rfl
    simp [C1] at h0 h1 h2
    obtain ⟨n0, e0, -, -⟩ := DataW.trod_int Try.underlying3 h0
    obtain ⟨n1, e1, -, -⟩ := DataW.trod_int Try.underlying3 h1
    obtain ⟨n2, e2, -, -⟩ := DataW.trod_int Try.underlying3 h2
    obtain rfl : c0 = .int .i64 n0 := by simpa using e0
    obtain rfl : c1 = .int .i64 n1 := by simpa using e1
    obtain rfl : c2 = .int .i64 n2 := by simpa using e2
    exact ⟨⟨n0, n1, n2⟩, rfl⟩
set_option maxRecDepth 100000 in
theorem open_nums {H : Type} {enc : TypeId × Value → H} {w : World} {base : Nat} {held : Bool} {r : Reach} {b0 : Nat} {v : Value} {d : DataW H} {p : List MemPlace} (hv : Value.okWide Try.prog w r b0 29 v) (h : DataW.Trod enc Try.prog w base (fun _ => true) held 29 v d p) : ∃ l, RI w v l := by
  obtain ⟨a, n, c, rfl⟩ := okWide_slice Try.underlying29 hv
  obtain ⟨fuel, hf⟩ := h
  obtain ⟨l, h1, _⟩ := open_RI Try.underlying29 Try.underlying3 (by kernel_rfl) hf
  exact ⟨l, h1⟩
set_option maxRecDepth 100000 in
theorem FnExactFeedHead_lifted (os : Os) (started : os.Started) (H : Type) (enc : TypeId × Value → H) :
    ReturnsInHanded {} Try.checked os 20 .any (Rows.fnExactFeedHeadSpec.pre6 enc Try.prog Try.f20 Rows.fnExactFeedHeadRow.domain false) (Rows.fnExactFeedHeadSpec.post enc Try.prog Try.f20 false true false false) := by
  refine returnsInHanded_of_change (C := Try.checked) own started (by kernel_rfl) Try.func20
    (ChangeSpec.witness6 (enc := enc) (C := Try.checked) false ⟨#[], #[.agg #[.int .i64 0, .int .i64 0, .int .i64 0, .int .i64 0, .slice none 0 0, .slice none 0 0], .agg #[.int .i64 0, .int .i64 0, .int .i64 0], .slice none 0 0], []⟩ 8 (by kernel_rfl) (by kernel_rfl) (by kernel_rfl) (by kernel_rfl)) ?_
  intro W base args ds gs before hval hW _ _
  have hW' := hW
  obtain ⟨p, q, hA0, hV, rfl, hfz, hnd⟩ := hW
  have hA : DataW.TrodAll enc Try.prog W 0 (fun _ => true) true Try.f20.params.toList args.toList ds p := hA0
  rw [Try.params20] at hA
  have hval' : ∀ (j : Nat) t v, Try.f20.params[j]? = some t → args[j]? = some v → Value.okWide Try.prog W .any base t v := hval
  rw [Try.params20] at hval'
  obtain ⟨v0, vs0, d0, ds0, p0, q0, hargs, rfl, rfl, h0, r0⟩ := trodAll_cons hA
  obtain ⟨v1, vs1, d1, ds1, p1, q1, rfl, rfl, rfl, h1, r1⟩ := trodAll_cons r0
  obtain ⟨v2, vs2, d2, ds2, p2, q2, rfl, rfl, rfl, h2, r2⟩ := trodAll_cons r1
  obtain ⟨rfl, rfl, rfl⟩ := trodAll_nil r2
  obtain rfl : args = #[v0, v1, v2] := by cases args; simp_all
  obtain ⟨rfl, rfl⟩ := trodVars_none hV
  obtain ⟨f, va, vh, rfl, hf, hs⟩ := open_feed (hval' 0 _ v0 rfl rfl) h0
  obtain ⟨h, rfl⟩ := open_head (hval' 1 _ v1 rfl rfl) h1
  obtain ⟨l, hl⟩ := open_nums (hval' 2 _ v2 rfl rfl) h2
  refine (FnExactFeedHead_any f va vh h v2 l W hf hs hl).mono fun e W' ⟨he, hb⟩ => ?_
  subst he
  exact ⟨_, rfl, law_post (tb := 4) hW' rfl rfl laid (by kernel_rfl) (by kernel_rfl) Try.underlying4 hb⟩
theorem FnExactFeedHead_closed : joinedFacts Try.prog 20 Try.f20 Rows.fnExactFeedHeadSpec Rows.fnExactFeedHeadRow = true :=
  joined_of (by kernel_rfl) fact_laid fact_rows (by kernel_rfl) (by kernel_rfl) rfl fact_stops rfl fact_knobs (by kernel_rfl) (by kernel_rfl) (by kernel_rfl) (by kernel_rfl) (by kernel_rfl) (by kernel_rfl)
    (by kernel_rfl) (by kernel_rfl) (by kernel_rfl) (by kernel_rfl) (by kernel_rfl) (by kernel_rfl) (by kernel_rfl) (by rw [fact_keys]; rfl) rfl fact_heard fact_enter (by rw [fact_final]; rfl) (by rw [fact_make]; rfl)
    rfl rfl (by kernel_rfl) (by kernel_rfl) (by kernel_rfl)
theorem FnExactFeedHead_holds : Rows.FnExactFeedHeadSaid :=
  OpenClaim.holds_of_wide 20 Try.f20 rfl rfl rfl rfl rfl rfl rfl ⟨rfl, rfl, rfl, rfl, rfl⟩ rfl rfl rfl rfl rfl (by kernel_rfl) Try.func20 FnExactFeedHead_closed
    (of_decide_eq_true (by kernel_rfl)) (by unfold Func.isWrapper; first | (rw [if_pos (by decide +kernel)]; kernel_rfl) | (rw [if_neg (by decide +kernel)]; exact ⟨rfl, rfl⟩))
    (fun os started H enc _ => FnExactFeedHead_lifted os started H enc)
#print axioms FnExactFeedHead_holds
end Go.Proofs.Ytlhiabnablbkpaa
