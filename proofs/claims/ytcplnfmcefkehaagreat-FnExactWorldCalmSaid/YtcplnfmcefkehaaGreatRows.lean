/-
  No cell of these rows narrows 'for every input' (looked for: loops, veiled, ifaces, maps, wideKeys, modest, calm, conditions, laid).
  DERIVED. THE GIVEN ROWS OF THIS SEAT. 9 by the template 'for every input the law returns true; each argument reads behind the call as it read before'; 0 by the template 'total and deterministic' (their statements: YtcplnfmcefkehaaGreatTotals.lean).
  GIVEN WITH THE SEED: the statements are not yours to turn. If you find one false, say at which input.
  Laid BY PROGRAM, IN A SANDBOX (cutbox-rows.mjs): the forced cells as the released guide's own fill.sh prints them over the translation 453787b759d9eaa5… (all of the seat's roots in one cut). By AI agents, Wed Nov 11 2026. No macro, syntax, notation, axiom, sorry.
-/
import Derived.Test.YtcplnfmcefkehaaGreatChecked
import GoSem.Claim
import GoSem.ClaimJoined
import GoSem.ClaimMapViews
import Derived.JoinedTies
import Derived.KernelRfl
namespace Go.Proofs.YtcplnfmcefkehaaGreat
/- THE CELL 'sum', in the pinned program and in every row, IS THE sha256 OF THE DUMP (.gsa) THAT YtcplnfmcefkehaaGreatProg.lean LOADS. Nothing in Lean hashes anything: it is a label: what it is worth is what the hold of that sum in a sandbox is worth. -/
noncomputable def Tryz.pinned : Pinned := { name := "ytcplnfmcefkehaagreat", sum := "453787b759d9eaa5c4b854fc45e9dac93f9ece36c0ef2db54f38478373f1944a", checked := Tryz.checked }
namespace Rows
def none {H : Type} : Left H := { results := [], args := [] }

/-- 'laws.FnExactWorldValid': WHATEVER THE INPUT: true; the input reads as it did. -/
def fnExactWorldValidSpec : ChangeSpec := { name := "fnExactWorldValid", fn := fun _ => fun
  | [d] => { results := [.lit (.bool true)], args := [d] }
  | _ => none }
def fnExactWorldValidRow : OpenClaim := { program := "ytcplnfmcefkehaagreat", sum := "453787b759d9eaa5c4b854fc45e9dac93f9ece36c0ef2db54f38478373f1944a", func := "loop.example/feedswarm/laws.FnExactWorldValid", spec := "fnExactWorldValid", recurses := true, plainKeys := false, apart := false }
def FnExactWorldValidSaid : Prop := fnExactWorldValidRow.holds Tryz.pinned (OpenSpec.ofChange fnExactWorldValidSpec)

/-- ITS FALSE NEIGHBOUR: 'it returns false'. Refute it at one input. -/
def fnExactWorldValidWrong : ChangeSpec := { name := "fnExactWorldValid", fn := fun _ => fun
  | [d] => { results := [.lit (.bool false)], args := [d] }
  | _ => none }
def FnExactWorldValidWrongFalsely : Prop := fnExactWorldValidRow.holds Tryz.pinned (OpenSpec.ofChange fnExactWorldValidWrong)

/-- 'laws.FnExactWorldReach': WHATEVER THE INPUT: true; the input reads as it did. -/
def fnExactWorldReachSpec : ChangeSpec := { name := "fnExactWorldReach", fn := fun _ => fun
  | [d] => { results := [.lit (.bool true)], args := [d] }
  | _ => none }
def fnExactWorldReachRow : OpenClaim := { program := "ytcplnfmcefkehaagreat", sum := "453787b759d9eaa5c4b854fc45e9dac93f9ece36c0ef2db54f38478373f1944a", func := "loop.example/feedswarm/laws.FnExactWorldReach", spec := "fnExactWorldReach", recurses := true, plainKeys := false, apart := false }
def FnExactWorldReachSaid : Prop := fnExactWorldReachRow.holds Tryz.pinned (OpenSpec.ofChange fnExactWorldReachSpec)

/-- ITS FALSE NEIGHBOUR: 'it returns false'. Refute it at one input. -/
def fnExactWorldReachWrong : ChangeSpec := { name := "fnExactWorldReach", fn := fun _ => fun
  | [d] => { results := [.lit (.bool false)], args := [d] }
  | _ => none }
def FnExactWorldReachWrongFalsely : Prop := fnExactWorldReachRow.holds Tryz.pinned (OpenSpec.ofChange fnExactWorldReachWrong)

/-- 'laws.FnReachReason': WHATEVER THE INPUT: true; the input reads as it did. -/
def fnReachReasonSpec : ChangeSpec := { name := "fnReachReason", fn := fun _ => fun
  | [d] => { results := [.lit (.bool true)], args := [d] }
  | _ => none }
def fnReachReasonRow : OpenClaim := { program := "ytcplnfmcefkehaagreat", sum := "453787b759d9eaa5c4b854fc45e9dac93f9ece36c0ef2db54f38478373f1944a", func := "loop.example/feedswarm/laws.FnReachReason", spec := "fnReachReason", recurses := true, plainKeys := false, apart := false }
def FnReachReasonSaid : Prop := fnReachReasonRow.holds Tryz.pinned (OpenSpec.ofChange fnReachReasonSpec)

/-- ITS FALSE NEIGHBOUR: 'it returns false'. Refute it at one input. -/
def fnReachReasonWrong : ChangeSpec := { name := "fnReachReason", fn := fun _ => fun
  | [d] => { results := [.lit (.bool false)], args := [d] }
  | _ => none }
def FnReachReasonWrongFalsely : Prop := fnReachReasonRow.holds Tryz.pinned (OpenSpec.ofChange fnReachReasonWrong)

/-- 'laws.FnReach': WHATEVER THE INPUT: true; the input reads as it did. -/
def fnReachSpec : ChangeSpec := { name := "fnReach", fn := fun _ => fun
  | [d] => { results := [.lit (.bool true)], args := [d] }
  | _ => none }
def fnReachRow : OpenClaim := { program := "ytcplnfmcefkehaagreat", sum := "453787b759d9eaa5c4b854fc45e9dac93f9ece36c0ef2db54f38478373f1944a", func := "loop.example/feedswarm/laws.FnReach", spec := "fnReach", recurses := true, plainKeys := false, apart := false }
def FnReachSaid : Prop := fnReachRow.holds Tryz.pinned (OpenSpec.ofChange fnReachSpec)

/-- ITS FALSE NEIGHBOUR: 'it returns false'. Refute it at one input. -/
def fnReachWrong : ChangeSpec := { name := "fnReach", fn := fun _ => fun
  | [d] => { results := [.lit (.bool false)], args := [d] }
  | _ => none }
def FnReachWrongFalsely : Prop := fnReachRow.holds Tryz.pinned (OpenSpec.ofChange fnReachWrong)

/-- 'laws.FnCalmKeeps': WHATEVER THE INPUT: true; the input reads as it did. -/
def fnCalmKeepsSpec : ChangeSpec := { name := "fnCalmKeeps", fn := fun _ => fun
  | [d] => { results := [.lit (.bool true)], args := [d] }
  | _ => none }
def fnCalmKeepsRow : OpenClaim := { program := "ytcplnfmcefkehaagreat", sum := "453787b759d9eaa5c4b854fc45e9dac93f9ece36c0ef2db54f38478373f1944a", func := "loop.example/feedswarm/laws.FnCalmKeeps", spec := "fnCalmKeeps", recurses := true, plainKeys := false, apart := false }
def FnCalmKeepsSaid : Prop := fnCalmKeepsRow.holds Tryz.pinned (OpenSpec.ofChange fnCalmKeepsSpec)

/-- ITS FALSE NEIGHBOUR: 'it returns false'. Refute it at one input. -/
def fnCalmKeepsWrong : ChangeSpec := { name := "fnCalmKeeps", fn := fun _ => fun
  | [d] => { results := [.lit (.bool false)], args := [d] }
  | _ => none }
def FnCalmKeepsWrongFalsely : Prop := fnCalmKeepsRow.holds Tryz.pinned (OpenSpec.ofChange fnCalmKeepsWrong)

/-- 'laws.FnCalmTrue': WHATEVER THE INPUT: true; the input reads as it did. -/
def fnCalmTrueSpec : ChangeSpec := { name := "fnCalmTrue", fn := fun _ => fun
  | [d] => { results := [.lit (.bool true)], args := [d] }
  | _ => none }
def fnCalmTrueRow : OpenClaim := { program := "ytcplnfmcefkehaagreat", sum := "453787b759d9eaa5c4b854fc45e9dac93f9ece36c0ef2db54f38478373f1944a", func := "loop.example/feedswarm/laws.FnCalmTrue", spec := "fnCalmTrue", recurses := true, plainKeys := false, apart := false }
def FnCalmTrueSaid : Prop := fnCalmTrueRow.holds Tryz.pinned (OpenSpec.ofChange fnCalmTrueSpec)

/-- ITS FALSE NEIGHBOUR: 'it returns false'. Refute it at one input. -/
def fnCalmTrueWrong : ChangeSpec := { name := "fnCalmTrue", fn := fun _ => fun
  | [d] => { results := [.lit (.bool false)], args := [d] }
  | _ => none }
def FnCalmTrueWrongFalsely : Prop := fnCalmTrueRow.holds Tryz.pinned (OpenSpec.ofChange fnCalmTrueWrong)

/-- 'laws.FnCalmTwice': WHATEVER THE INPUT: true; the input reads as it did. -/
def fnCalmTwiceSpec : ChangeSpec := { name := "fnCalmTwice", fn := fun _ => fun
  | [d] => { results := [.lit (.bool true)], args := [d] }
  | _ => none }
def fnCalmTwiceRow : OpenClaim := { program := "ytcplnfmcefkehaagreat", sum := "453787b759d9eaa5c4b854fc45e9dac93f9ece36c0ef2db54f38478373f1944a", func := "loop.example/feedswarm/laws.FnCalmTwice", spec := "fnCalmTwice", recurses := true, plainKeys := false, apart := false }
def FnCalmTwiceSaid : Prop := fnCalmTwiceRow.holds Tryz.pinned (OpenSpec.ofChange fnCalmTwiceSpec)

/-- ITS FALSE NEIGHBOUR: 'it returns false'. Refute it at one input. -/
def fnCalmTwiceWrong : ChangeSpec := { name := "fnCalmTwice", fn := fun _ => fun
  | [d] => { results := [.lit (.bool false)], args := [d] }
  | _ => none }
def FnCalmTwiceWrongFalsely : Prop := fnCalmTwiceRow.holds Tryz.pinned (OpenSpec.ofChange fnCalmTwiceWrong)

/-- 'laws.FnCalmWhole': WHATEVER THE INPUT: true; the input reads as it did. -/
def fnCalmWholeSpec : ChangeSpec := { name := "fnCalmWhole", fn := fun _ => fun
  | [d] => { results := [.lit (.bool true)], args := [d] }
  | _ => none }
def fnCalmWholeRow : OpenClaim := { program := "ytcplnfmcefkehaagreat", sum := "453787b759d9eaa5c4b854fc45e9dac93f9ece36c0ef2db54f38478373f1944a", func := "loop.example/feedswarm/laws.FnCalmWhole", spec := "fnCalmWhole", recurses := true, plainKeys := false, apart := false }
def FnCalmWholeSaid : Prop := fnCalmWholeRow.holds Tryz.pinned (OpenSpec.ofChange fnCalmWholeSpec)

/-- ITS FALSE NEIGHBOUR: 'it returns false'. Refute it at one input. -/
def fnCalmWholeWrong : ChangeSpec := { name := "fnCalmWhole", fn := fun _ => fun
  | [d] => { results := [.lit (.bool false)], args := [d] }
  | _ => none }
def FnCalmWholeWrongFalsely : Prop := fnCalmWholeRow.holds Tryz.pinned (OpenSpec.ofChange fnCalmWholeWrong)

/-- 'laws.FnExactWorldCalm': WHATEVER THE INPUT: true; the input reads as it did. -/
def fnExactWorldCalmSpec : ChangeSpec := { name := "fnExactWorldCalm", fn := fun _ => fun
  | [d] => { results := [.lit (.bool true)], args := [d] }
  | _ => none }
def fnExactWorldCalmRow : OpenClaim := { program := "ytcplnfmcefkehaagreat", sum := "453787b759d9eaa5c4b854fc45e9dac93f9ece36c0ef2db54f38478373f1944a", func := "loop.example/feedswarm/laws.FnExactWorldCalm", spec := "fnExactWorldCalm", recurses := true, plainKeys := false, apart := false }
def FnExactWorldCalmSaid : Prop := fnExactWorldCalmRow.holds Tryz.pinned (OpenSpec.ofChange fnExactWorldCalmSpec)

/-- ITS FALSE NEIGHBOUR: 'it returns false'. Refute it at one input. -/
def fnExactWorldCalmWrong : ChangeSpec := { name := "fnExactWorldCalm", fn := fun _ => fun
  | [d] => { results := [.lit (.bool false)], args := [d] }
  | _ => none }
def FnExactWorldCalmWrongFalsely : Prop := fnExactWorldCalmRow.holds Tryz.pinned (OpenSpec.ofChange fnExactWorldCalmWrong)

/- THE SECOND FORM. 'bulk': how many values and letters a reading holds, each counted each time it is reached (what is shared counts as often as it is met; a slice's spare places count too). A statement '..UptoSaid' is the law's where the arguments, and the package variables that the reading takes, are together of bulk at most 1048576: NARROWER than '..Said'. Prove '..Said' where nothing that the law and all that it calls make is longer than what came in: it says more and counts as full. Else prove '..UptoSaid'. A law counts once. -/
mutual
def uptoBulk {H : Type} : DataW H → Nat
  | .lit (.string bytes) => bytes.length + 1
  | .lit _ => 1
  | .nil => 1
  | .ptr d => uptoBulk d + 1
  | .slice elems spare => uptoBulkAll elems + uptoBulkAll spare + 1
  | .agg parts => uptoBulkAll parts + 1
  | .iface _ d => uptoBulk d + 1
  | .map entries => uptoBulkEntries entries + 1
  | .held _ => 1
def uptoBulkAll {H : Type} : List (DataW H) → Nat
  | [] => 0
  | d :: r => uptoBulk d + uptoBulkAll r
def uptoBulkEntries {H : Type} : List (Lit × DataW H) → Nat
  | [] => 0
  | x :: r => uptoBulkEntry x + uptoBulkEntries r
def uptoBulkEntry {H : Type} : Lit × DataW H → Nat
  | (.string bytes, d) => bytes.length + uptoBulk d + 1
  | (_, d) => uptoBulk d + 1
 end
def uptoSmall : (H : Type) → List (DataW H) → Bool := fun _ ds => decide (uptoBulkAll ds ≤ 1048576)
def OpenSpec.upto (s : _root_.Go.ChangeSpec) : _root_.Go.OpenSpec := { _root_.Go.OpenSpec.ofChange s with cond := some uptoSmall }

/-- 'laws.FnExactWorldValid', WHERE WHAT IT READS IS OF BULK AT MOST 1048576: true; the input reads as it did. -/
def fnExactWorldValidUptoRow : OpenClaim := { program := "ytcplnfmcefkehaagreat", sum := "453787b759d9eaa5c4b854fc45e9dac93f9ece36c0ef2db54f38478373f1944a", func := "loop.example/feedswarm/laws.FnExactWorldValid", spec := "fnExactWorldValid", recurses := true, plainKeys := false, apart := false, narrowed := true }
def FnExactWorldValidUptoSaid : Prop := fnExactWorldValidUptoRow.holds Tryz.pinned (OpenSpec.upto fnExactWorldValidSpec)

/-- 'laws.FnExactWorldReach', WHERE WHAT IT READS IS OF BULK AT MOST 1048576: true; the input reads as it did. -/
def fnExactWorldReachUptoRow : OpenClaim := { program := "ytcplnfmcefkehaagreat", sum := "453787b759d9eaa5c4b854fc45e9dac93f9ece36c0ef2db54f38478373f1944a", func := "loop.example/feedswarm/laws.FnExactWorldReach", spec := "fnExactWorldReach", recurses := true, plainKeys := false, apart := false, narrowed := true }
def FnExactWorldReachUptoSaid : Prop := fnExactWorldReachUptoRow.holds Tryz.pinned (OpenSpec.upto fnExactWorldReachSpec)

/-- 'laws.FnReachReason', WHERE WHAT IT READS IS OF BULK AT MOST 1048576: true; the input reads as it did. -/
def fnReachReasonUptoRow : OpenClaim := { program := "ytcplnfmcefkehaagreat", sum := "453787b759d9eaa5c4b854fc45e9dac93f9ece36c0ef2db54f38478373f1944a", func := "loop.example/feedswarm/laws.FnReachReason", spec := "fnReachReason", recurses := true, plainKeys := false, apart := false, narrowed := true }
def FnReachReasonUptoSaid : Prop := fnReachReasonUptoRow.holds Tryz.pinned (OpenSpec.upto fnReachReasonSpec)

/-- 'laws.FnReach', WHERE WHAT IT READS IS OF BULK AT MOST 1048576: true; the input reads as it did. -/
def fnReachUptoRow : OpenClaim := { program := "ytcplnfmcefkehaagreat", sum := "453787b759d9eaa5c4b854fc45e9dac93f9ece36c0ef2db54f38478373f1944a", func := "loop.example/feedswarm/laws.FnReach", spec := "fnReach", recurses := true, plainKeys := false, apart := false, narrowed := true }
def FnReachUptoSaid : Prop := fnReachUptoRow.holds Tryz.pinned (OpenSpec.upto fnReachSpec)

/-- 'laws.FnCalmKeeps', WHERE WHAT IT READS IS OF BULK AT MOST 1048576: true; the input reads as it did. -/
def fnCalmKeepsUptoRow : OpenClaim := { program := "ytcplnfmcefkehaagreat", sum := "453787b759d9eaa5c4b854fc45e9dac93f9ece36c0ef2db54f38478373f1944a", func := "loop.example/feedswarm/laws.FnCalmKeeps", spec := "fnCalmKeeps", recurses := true, plainKeys := false, apart := false, narrowed := true }
def FnCalmKeepsUptoSaid : Prop := fnCalmKeepsUptoRow.holds Tryz.pinned (OpenSpec.upto fnCalmKeepsSpec)

/-- 'laws.FnCalmTrue', WHERE WHAT IT READS IS OF BULK AT MOST 1048576: true; the input reads as it did. -/
def fnCalmTrueUptoRow : OpenClaim := { program := "ytcplnfmcefkehaagreat", sum := "453787b759d9eaa5c4b854fc45e9dac93f9ece36c0ef2db54f38478373f1944a", func := "loop.example/feedswarm/laws.FnCalmTrue", spec := "fnCalmTrue", recurses := true, plainKeys := false, apart := false, narrowed := true }
def FnCalmTrueUptoSaid : Prop := fnCalmTrueUptoRow.holds Tryz.pinned (OpenSpec.upto fnCalmTrueSpec)

/-- 'laws.FnCalmTwice', WHERE WHAT IT READS IS OF BULK AT MOST 1048576: true; the input reads as it did. -/
def fnCalmTwiceUptoRow : OpenClaim := { program := "ytcplnfmcefkehaagreat", sum := "453787b759d9eaa5c4b854fc45e9dac93f9ece36c0ef2db54f38478373f1944a", func := "loop.example/feedswarm/laws.FnCalmTwice", spec := "fnCalmTwice", recurses := true, plainKeys := false, apart := false, narrowed := true }
def FnCalmTwiceUptoSaid : Prop := fnCalmTwiceUptoRow.holds Tryz.pinned (OpenSpec.upto fnCalmTwiceSpec)

/-- 'laws.FnCalmWhole', WHERE WHAT IT READS IS OF BULK AT MOST 1048576: true; the input reads as it did. -/
def fnCalmWholeUptoRow : OpenClaim := { program := "ytcplnfmcefkehaagreat", sum := "453787b759d9eaa5c4b854fc45e9dac93f9ece36c0ef2db54f38478373f1944a", func := "loop.example/feedswarm/laws.FnCalmWhole", spec := "fnCalmWhole", recurses := true, plainKeys := false, apart := false, narrowed := true }
def FnCalmWholeUptoSaid : Prop := fnCalmWholeUptoRow.holds Tryz.pinned (OpenSpec.upto fnCalmWholeSpec)

/-- 'laws.FnExactWorldCalm', WHERE WHAT IT READS IS OF BULK AT MOST 1048576: true; the input reads as it did. -/
def fnExactWorldCalmUptoRow : OpenClaim := { program := "ytcplnfmcefkehaagreat", sum := "453787b759d9eaa5c4b854fc45e9dac93f9ece36c0ef2db54f38478373f1944a", func := "loop.example/feedswarm/laws.FnExactWorldCalm", spec := "fnExactWorldCalm", recurses := true, plainKeys := false, apart := false, narrowed := true }
def FnExactWorldCalmUptoSaid : Prop := fnExactWorldCalmUptoRow.holds Tryz.pinned (OpenSpec.upto fnExactWorldCalmSpec)

end Rows
end Go.Proofs.YtcplnfmcefkehaaGreat
