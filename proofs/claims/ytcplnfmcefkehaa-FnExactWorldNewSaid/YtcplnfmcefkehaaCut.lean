/- Words for a seat with a long list of roots: the head of the program's own line decides how the program was made; the roots behind it are never read. No condition. -/
import Derived.Test.YtcplnfmcefkehaaRows
import Derived.JoinedOf
import Derived.WalkKit
import Derived.ProofKit
namespace Go.Proofs.Ytcplnfmcefkehaa
open Go

theorem words_cons : ∀ (w r : List Char), (∀ c ∈ w, c ≠ Char.ofNat 32) → wordsSigns (w ++ Char.ofNat 32 :: r) = w :: wordsSigns r
  | [], r, _ => rfl
  | c :: w, r, h => by
    have hc : c ≠ Char.ofNat 32 := h c List.mem_cons_self
    have ih := words_cons w r fun x hx => h x (List.mem_cons_of_mem _ hx)
    rw [List.cons_append, wordsSigns.eq_3 _ _ (fun e => hc e), ih]
/-- Does the line begin with the words harness, a sum, cut? -/
def headOk (l : List Char) : Bool :=
  (l.take 8 == "harness ".toList) && (((l.drop 8).take 64).all fun c => !(c == Char.ofNat 32)) && isSumSigns ((l.drop 8).take 64) && ((l.drop 72).take 5 == " cut ".toList)
theorem head_cut {l : List Char} (h : headOk l = true) : ∃ r, behindMainWord (wordsSigns l) = "cut".toList :: r := by
  simp only [headOk, Bool.and_eq_true, beq_iff_eq, List.all_eq_true] at h
  obtain ⟨⟨⟨h1, h2⟩, h3⟩, h4⟩ := h
  have e1 : l = l.take 8 ++ ((l.drop 8).take 64 ++ ((l.drop 72).take 5 ++ l.drop 77)) := by
    have a : (l.drop 8).drop 64 = l.drop 72 := by rw [List.drop_drop]
    have b : (l.drop 72).drop 5 = l.drop 77 := by rw [List.drop_drop]
    rw [← b, List.take_append_drop, ← a, List.take_append_drop, List.take_append_drop]
  generalize (l.drop 8).take 64 = s at *
  generalize l.drop 77 = r at *
  rw [h1, h4] at e1
  have e2 : l = "harness".toList ++ Char.ofNat 32 :: (s ++ Char.ofNat 32 :: ("cut".toList ++ Char.ofNat 32 :: r)) := by
    rw [e1]; simp
  refine ⟨wordsSigns r, ?_⟩
  rw [e2, words_cons _ _ (by decide), words_cons _ _ (fun c hc e => by have := h2 c hc; rw [e] at this; exact absurd this (by decide)), words_cons _ _ (by decide)]
  show (if (("harness".toList == "harness".toList || "harness".toList == "ownmain".toList) && isSumSigns s) = true then _ else _) = _
  rw [if_pos (by rw [h3]; decide)]
theorem head_of {P : Program} (h : ∃ l, P.initOrder = String.ofList l ∧ headOk l = true) : ∃ r, behindMainWord (wordsSigns P.initOrder.toList) = "cut".toList :: r := by
  obtain ⟨l, e, h⟩ := h
  rw [e, String.toList_ofList]
  exact head_cut h
theorem cut_strip {r : List (List Char)} : stripLifts liftWords ("cut".toList :: r) = ([], "cut".toList :: r) := by
  simp only [liftWords, stripLifts]; rfl
section
variable {P : Program} {r : List (List Char)} (h : behindMainWord (wordsSigns P.initOrder.toList) = "cut".toList :: r)
include h
theorem cut_make : P.make = some .cut := by unfold Program.make; rw [h]; rfl
theorem cut_lifts : P.headLifts = [] := by unfold Program.headLifts; rw [h, cut_strip]; rfl
theorem cut_final : P.liftsFinal = false := by unfold Program.liftsFinal; rw [h, cut_lifts h]; rfl
theorem cut_enter (h1 : P.laysLater = false) (h2 : P.bearsReflect = false) (h3 : P.doorFits [] = true) : P.mayEnter = true := by
  unfold Program.mayEnter; rw [h]
  simp only [cut_strip, h1, h2, h3]
  rfl
end
theorem joined_of {P : Program} {f : FuncId} {fn : Func} {s : ChangeSpec} {c : OpenClaim}
    (k1 : c.wf (OpenSpec.ofChange s) = true) (k2 : laidOutB P = true) (k3 : mapsRowed P = true) (k4 : fn.params.all (P.readableRec ·) = true) (k5 : namedTie P c.named s.vars = true)
    (k6 : (c.stops == []) = true) (k7 : (P.stops == []) = true) (k8 : (c.knobs == []) = true) (k9 : (P.stopKnobs == []) = true) (k10 : (c.inPlace == P.inPlace f) = true) (k11 : (c.unfollowed == P.unfollowed f) = true)
    (k12 : (c.recurses == P.recurses f) = true) (k13 : (c.named == P.varsNamed f) = true) (k14 : (c.maps == (fn.params.toList ++ s.plain.varTypes P).any (P.mapsRec ·)) = true) (k15 : (c.ifaces == (fn.params.toList ++ s.plain.varTypes P).any (P.ifacesRec ·)) = true)
    (k16 : (c.mapsOut == P.mapsAmong fn.resultTypes.toList) = true) (k17 : (c.loops == (fn.params.toList ++ s.plain.varTypes P).any (P.loopsFrom ·)) = true) (k17b : (c.wideKeys == (fn.params.toList ++ s.plain.varTypes P ++ fn.resultTypes.toList).any (P.wideKeysFrom ·)) = true)
    (k18 : s.vars.all (P.varReadable ·) = true) (k19 : fn.resultTypes.all (fun t => P.readableRec t && decide (t < P.types.size)) = true) (k20 : (c.ifacesOut == fn.resultTypes.toList.any (P.ifacesRec ·)) = true) (k21 : (c.loopsOut == fn.resultTypes.toList.any (P.loopsFrom ·)) = true)
    (k22 : (c.plainKeys == P.plainKeys) = true) (k23 : c.shortTexts.isNone = true) (k23b : P.stopsHeard = true) (k24 : P.mayEnter = true) (k24b : (c.lifted == P.liftsFinal) = true) (k24c : (P.make == some c.make) = true)
    (k25 : c.domain.isEmpty = true) (k25b : c.kinds = []) (k26 : (c.pinned == c.pinnedBy) = true)
    (k27 : (c.veiled == (fn.params.toList ++ s.plain.varTypes P ++ fn.resultTypes.toList).any (P.veiledRec ·)) = true) (k28 : c.veiledFits P fn.params.toList (fn.params.toList ++ s.plain.varTypes P ++ fn.resultTypes.toList) = true) : joinedFacts P f fn s c = true := by
  unfold joinedFacts
  rw [k1, k2, k3, k4, k5, k6, k7, k8, k9, k10, k11, k12, k13, k14, k15, k16, k17, k17b, k18, k19, k20, k21, k22, k23, k23b, k24, k24b, k24c, k25, k25b, if_pos rfl, k26, k27, k28]
  rfl
end Go.Proofs.Ytcplnfmcefkehaa
