/-
  No cell of these rows narrows 'for every input' (looked for: loops, veiled, ifaces, maps, wideKeys, modest, calm, conditions, laid).
  DERIVED. THE GIVEN ROWS OF THIS SEAT. 20 by the template 'for every input the law returns true; each argument reads behind the call as it read before'; 0 by the template 'total and deterministic' (their statements: YtlhiabnablbkpaaTotals.lean).
  GIVEN WITH THE SEED: the statements are not yours to turn. If you find one false, say at which input.
  Laid BY PROGRAM, IN A SANDBOX (cutbox-rows.mjs): the forced cells as the released guide's own fill.sh prints them over the translation cf56aa6fa583b4a3… (all of the seat's roots in one cut). By AI agents, Wed Nov 11 2026. No macro, syntax, notation, axiom, sorry.
-/
import Derived.Test.YtlhiabnablbkpaaChecked
import GoSem.Claim
import GoSem.ClaimJoined
import GoSem.ClaimMapViews
import Derived.JoinedTies
import Derived.KernelRfl
namespace Go.Proofs.Ytlhiabnablbkpaa
/- THE CELL 'sum', in the pinned program and in every row, IS THE sha256 OF THE DUMP (.gsa) THAT YtlhiabnablbkpaaProg.lean LOADS. Nothing in Lean hashes anything: it is a label: what it is worth is what the hold of that sum in a sandbox is worth. -/
noncomputable def Try.pinned : Pinned := { name := "ytlhiabnablbkpaa", sum := "cf56aa6fa583b4a301ccecda3280b8ba1dc5bd2f955cfe3582424993c5c1b796", checked := Try.checked }
namespace Rows
def none {H : Type} : Left H := { results := [], args := [] }

/-- 'laws.FnExactFeedProve': WHATEVER THE INPUT: true; the input reads as it did. -/
def fnExactFeedProveSpec : ChangeSpec := { name := "fnExactFeedProve", fn := fun _ => fun
  | [d1, d2] => { results := [.lit (.bool true)], args := [d1, d2] }
  | _ => none }
def fnExactFeedProveRow : OpenClaim := { program := "ytlhiabnablbkpaa", sum := "cf56aa6fa583b4a301ccecda3280b8ba1dc5bd2f955cfe3582424993c5c1b796", func := "loop.example/feedswarm/laws.FnExactFeedProve", spec := "fnExactFeedProve", recurses := true, plainKeys := false, apart := false }
def FnExactFeedProveSaid : Prop := fnExactFeedProveRow.holds Try.pinned (OpenSpec.ofChange fnExactFeedProveSpec)

/-- ITS FALSE NEIGHBOUR: 'it returns false'. Refute it at one input. -/
def fnExactFeedProveWrong : ChangeSpec := { name := "fnExactFeedProve", fn := fun _ => fun
  | [d1, d2] => { results := [.lit (.bool false)], args := [d1, d2] }
  | _ => none }
def FnExactFeedProveWrongFalsely : Prop := fnExactFeedProveRow.holds Try.pinned (OpenSpec.ofChange fnExactFeedProveWrong)

/-- 'laws.FnProve': WHATEVER THE INPUT: true; the input reads as it did. -/
def fnProveSpec : ChangeSpec := { name := "fnProve", fn := fun _ => fun
  | [d] => { results := [.lit (.bool true)], args := [d] }
  | _ => none }
def fnProveRow : OpenClaim := { program := "ytlhiabnablbkpaa", sum := "cf56aa6fa583b4a301ccecda3280b8ba1dc5bd2f955cfe3582424993c5c1b796", func := "loop.example/feedswarm/laws.FnProve", spec := "fnProve", recurses := true, plainKeys := false, apart := false }
def FnProveSaid : Prop := fnProveRow.holds Try.pinned (OpenSpec.ofChange fnProveSpec)

/-- ITS FALSE NEIGHBOUR: 'it returns false'. Refute it at one input. -/
def fnProveWrong : ChangeSpec := { name := "fnProve", fn := fun _ => fun
  | [d] => { results := [.lit (.bool false)], args := [d] }
  | _ => none }
def FnProveWrongFalsely : Prop := fnProveRow.holds Try.pinned (OpenSpec.ofChange fnProveWrong)

/-- 'laws.FnFeedHeadSelf': WHATEVER THE INPUT: true; the input reads as it did. -/
def fnFeedHeadSelfSpec : ChangeSpec := { name := "fnFeedHeadSelf", fn := fun _ => fun
  | [d1, d2] => { results := [.lit (.bool true)], args := [d1, d2] }
  | _ => none }
def fnFeedHeadSelfRow : OpenClaim := { program := "ytlhiabnablbkpaa", sum := "cf56aa6fa583b4a301ccecda3280b8ba1dc5bd2f955cfe3582424993c5c1b796", func := "loop.example/feedswarm/laws.FnFeedHeadSelf", spec := "fnFeedHeadSelf", recurses := true, plainKeys := false, apart := false }
def FnFeedHeadSelfSaid : Prop := fnFeedHeadSelfRow.holds Try.pinned (OpenSpec.ofChange fnFeedHeadSelfSpec)

/-- ITS FALSE NEIGHBOUR: 'it returns false'. Refute it at one input. -/
def fnFeedHeadSelfWrong : ChangeSpec := { name := "fnFeedHeadSelf", fn := fun _ => fun
  | [d1, d2] => { results := [.lit (.bool false)], args := [d1, d2] }
  | _ => none }
def FnFeedHeadSelfWrongFalsely : Prop := fnFeedHeadSelfRow.holds Try.pinned (OpenSpec.ofChange fnFeedHeadSelfWrong)

/-- 'laws.FnProvePut': WHATEVER THE INPUT: true; the input reads as it did. -/
def fnProvePutSpec : ChangeSpec := { name := "fnProvePut", fn := fun _ => fun
  | [d] => { results := [.lit (.bool true)], args := [d] }
  | _ => none }
def fnProvePutRow : OpenClaim := { program := "ytlhiabnablbkpaa", sum := "cf56aa6fa583b4a301ccecda3280b8ba1dc5bd2f955cfe3582424993c5c1b796", func := "loop.example/feedswarm/laws.FnProvePut", spec := "fnProvePut", recurses := true, plainKeys := false, apart := false }
def FnProvePutSaid : Prop := fnProvePutRow.holds Try.pinned (OpenSpec.ofChange fnProvePutSpec)

/-- ITS FALSE NEIGHBOUR: 'it returns false'. Refute it at one input. -/
def fnProvePutWrong : ChangeSpec := { name := "fnProvePut", fn := fun _ => fun
  | [d] => { results := [.lit (.bool false)], args := [d] }
  | _ => none }
def FnProvePutWrongFalsely : Prop := fnProvePutRow.holds Try.pinned (OpenSpec.ofChange fnProvePutWrong)

/-- 'laws.FnExactWorldNew': WHATEVER THE INPUT: true; the input reads as it did. -/
def fnExactWorldNewSpec : ChangeSpec := { name := "fnExactWorldNew", fn := fun _ => fun
  | [d1, d2, d3] => { results := [.lit (.bool true)], args := [d1, d2, d3] }
  | _ => none }
def fnExactWorldNewRow : OpenClaim := { program := "ytlhiabnablbkpaa", sum := "cf56aa6fa583b4a301ccecda3280b8ba1dc5bd2f955cfe3582424993c5c1b796", func := "loop.example/feedswarm/laws.FnExactWorldNew", spec := "fnExactWorldNew", plainKeys := false, apart := false }
def FnExactWorldNewSaid : Prop := fnExactWorldNewRow.holds Try.pinned (OpenSpec.ofChange fnExactWorldNewSpec)

/-- ITS FALSE NEIGHBOUR: 'it returns false'. Refute it at one input. -/
def fnExactWorldNewWrong : ChangeSpec := { name := "fnExactWorldNew", fn := fun _ => fun
  | [d1, d2, d3] => { results := [.lit (.bool false)], args := [d1, d2, d3] }
  | _ => none }
def FnExactWorldNewWrongFalsely : Prop := fnExactWorldNewRow.holds Try.pinned (OpenSpec.ofChange fnExactWorldNewWrong)

/-- 'laws.FnProveAll': WHATEVER THE INPUT: true; the input reads as it did. -/
def fnProveAllSpec : ChangeSpec := { name := "fnProveAll", fn := fun _ => fun
  | [d] => { results := [.lit (.bool true)], args := [d] }
  | _ => none }
def fnProveAllRow : OpenClaim := { program := "ytlhiabnablbkpaa", sum := "cf56aa6fa583b4a301ccecda3280b8ba1dc5bd2f955cfe3582424993c5c1b796", func := "loop.example/feedswarm/laws.FnProveAll", spec := "fnProveAll", recurses := true, plainKeys := false, apart := false }
def FnProveAllSaid : Prop := fnProveAllRow.holds Try.pinned (OpenSpec.ofChange fnProveAllSpec)

/-- ITS FALSE NEIGHBOUR: 'it returns false'. Refute it at one input. -/
def fnProveAllWrong : ChangeSpec := { name := "fnProveAll", fn := fun _ => fun
  | [d] => { results := [.lit (.bool false)], args := [d] }
  | _ => none }
def FnProveAllWrongFalsely : Prop := fnProveAllRow.holds Try.pinned (OpenSpec.ofChange fnProveAllWrong)

/-- 'laws.FnExactFeedPut': WHATEVER THE INPUT: true; the input reads as it did. -/
def fnExactFeedPutSpec : ChangeSpec := { name := "fnExactFeedPut", fn := fun _ => fun
  | [d1, d2, d3, d4] => { results := [.lit (.bool true)], args := [d1, d2, d3, d4] }
  | _ => none }
def fnExactFeedPutRow : OpenClaim := { program := "ytlhiabnablbkpaa", sum := "cf56aa6fa583b4a301ccecda3280b8ba1dc5bd2f955cfe3582424993c5c1b796", func := "loop.example/feedswarm/laws.FnExactFeedPut", spec := "fnExactFeedPut", recurses := true, plainKeys := false, apart := false }
def FnExactFeedPutSaid : Prop := fnExactFeedPutRow.holds Try.pinned (OpenSpec.ofChange fnExactFeedPutSpec)

/-- ITS FALSE NEIGHBOUR: 'it returns false'. Refute it at one input. -/
def fnExactFeedPutWrong : ChangeSpec := { name := "fnExactFeedPut", fn := fun _ => fun
  | [d1, d2, d3, d4] => { results := [.lit (.bool false)], args := [d1, d2, d3, d4] }
  | _ => none }
def FnExactFeedPutWrongFalsely : Prop := fnExactFeedPutRow.holds Try.pinned (OpenSpec.ofChange fnExactFeedPutWrong)

/-- 'laws.FnPut': WHATEVER THE INPUT: true; the input reads as it did. -/
def fnPutSpec : ChangeSpec := { name := "fnPut", fn := fun _ => fun
  | [d] => { results := [.lit (.bool true)], args := [d] }
  | _ => none }
def fnPutRow : OpenClaim := { program := "ytlhiabnablbkpaa", sum := "cf56aa6fa583b4a301ccecda3280b8ba1dc5bd2f955cfe3582424993c5c1b796", func := "loop.example/feedswarm/laws.FnPut", spec := "fnPut", recurses := true, plainKeys := false, apart := false }
def FnPutSaid : Prop := fnPutRow.holds Try.pinned (OpenSpec.ofChange fnPutSpec)

/-- ITS FALSE NEIGHBOUR: 'it returns false'. Refute it at one input. -/
def fnPutWrong : ChangeSpec := { name := "fnPut", fn := fun _ => fun
  | [d] => { results := [.lit (.bool false)], args := [d] }
  | _ => none }
def FnPutWrongFalsely : Prop := fnPutRow.holds Try.pinned (OpenSpec.ofChange fnPutWrong)

/-- 'laws.FnPutCount': WHATEVER THE INPUT: true; the input reads as it did. -/
def fnPutCountSpec : ChangeSpec := { name := "fnPutCount", fn := fun _ => fun
  | [d] => { results := [.lit (.bool true)], args := [d] }
  | _ => none }
def fnPutCountRow : OpenClaim := { program := "ytlhiabnablbkpaa", sum := "cf56aa6fa583b4a301ccecda3280b8ba1dc5bd2f955cfe3582424993c5c1b796", func := "loop.example/feedswarm/laws.FnPutCount", spec := "fnPutCount", recurses := true, plainKeys := false, apart := false }
def FnPutCountSaid : Prop := fnPutCountRow.holds Try.pinned (OpenSpec.ofChange fnPutCountSpec)

/-- ITS FALSE NEIGHBOUR: 'it returns false'. Refute it at one input. -/
def fnPutCountWrong : ChangeSpec := { name := "fnPutCount", fn := fun _ => fun
  | [d] => { results := [.lit (.bool false)], args := [d] }
  | _ => none }
def FnPutCountWrongFalsely : Prop := fnPutCountRow.holds Try.pinned (OpenSpec.ofChange fnPutCountWrong)

/-- 'laws.FnPutProof': WHATEVER THE INPUT: true; the input reads as it did. -/
def fnPutProofSpec : ChangeSpec := { name := "fnPutProof", fn := fun _ => fun
  | [d] => { results := [.lit (.bool true)], args := [d] }
  | _ => none }
def fnPutProofRow : OpenClaim := { program := "ytlhiabnablbkpaa", sum := "cf56aa6fa583b4a301ccecda3280b8ba1dc5bd2f955cfe3582424993c5c1b796", func := "loop.example/feedswarm/laws.FnPutProof", spec := "fnPutProof", recurses := true, plainKeys := false, apart := false }
def FnPutProofSaid : Prop := fnPutProofRow.holds Try.pinned (OpenSpec.ofChange fnPutProofSpec)

/-- ITS FALSE NEIGHBOUR: 'it returns false'. Refute it at one input. -/
def fnPutProofWrong : ChangeSpec := { name := "fnPutProof", fn := fun _ => fun
  | [d] => { results := [.lit (.bool false)], args := [d] }
  | _ => none }
def FnPutProofWrongFalsely : Prop := fnPutProofRow.holds Try.pinned (OpenSpec.ofChange fnPutProofWrong)

/-- 'laws.FnPutTwice': WHATEVER THE INPUT: true; the input reads as it did. -/
def fnPutTwiceSpec : ChangeSpec := { name := "fnPutTwice", fn := fun _ => fun
  | [d1, d2] => { results := [.lit (.bool true)], args := [d1, d2] }
  | _ => none }
def fnPutTwiceRow : OpenClaim := { program := "ytlhiabnablbkpaa", sum := "cf56aa6fa583b4a301ccecda3280b8ba1dc5bd2f955cfe3582424993c5c1b796", func := "loop.example/feedswarm/laws.FnPutTwice", spec := "fnPutTwice", recurses := true, plainKeys := false, apart := false }
def FnPutTwiceSaid : Prop := fnPutTwiceRow.holds Try.pinned (OpenSpec.ofChange fnPutTwiceSpec)

/-- ITS FALSE NEIGHBOUR: 'it returns false'. Refute it at one input. -/
def fnPutTwiceWrong : ChangeSpec := { name := "fnPutTwice", fn := fun _ => fun
  | [d1, d2] => { results := [.lit (.bool false)], args := [d1, d2] }
  | _ => none }
def FnPutTwiceWrongFalsely : Prop := fnPutTwiceRow.holds Try.pinned (OpenSpec.ofChange fnPutTwiceWrong)

/-- 'laws.FnHeadCodes': WHATEVER THE INPUT: true; the input reads as it did. -/
def fnHeadCodesSpec : ChangeSpec := { name := "fnHeadCodes", fn := fun _ => fun
  | [d] => { results := [.lit (.bool true)], args := [d] }
  | _ => none }
def fnHeadCodesRow : OpenClaim := { program := "ytlhiabnablbkpaa", sum := "cf56aa6fa583b4a301ccecda3280b8ba1dc5bd2f955cfe3582424993c5c1b796", func := "loop.example/feedswarm/laws.FnHeadCodes", spec := "fnHeadCodes", recurses := true, plainKeys := false, apart := false }
def FnHeadCodesSaid : Prop := fnHeadCodesRow.holds Try.pinned (OpenSpec.ofChange fnHeadCodesSpec)

/-- ITS FALSE NEIGHBOUR: 'it returns false'. Refute it at one input. -/
def fnHeadCodesWrong : ChangeSpec := { name := "fnHeadCodes", fn := fun _ => fun
  | [d] => { results := [.lit (.bool false)], args := [d] }
  | _ => none }
def FnHeadCodesWrongFalsely : Prop := fnHeadCodesRow.holds Try.pinned (OpenSpec.ofChange fnHeadCodesWrong)

/-- 'laws.FnHeadDone': WHATEVER THE INPUT: true; the input reads as it did. -/
def fnHeadDoneSpec : ChangeSpec := { name := "fnHeadDone", fn := fun _ => fun
  | [d] => { results := [.lit (.bool true)], args := [d] }
  | _ => none }
def fnHeadDoneRow : OpenClaim := { program := "ytlhiabnablbkpaa", sum := "cf56aa6fa583b4a301ccecda3280b8ba1dc5bd2f955cfe3582424993c5c1b796", func := "loop.example/feedswarm/laws.FnHeadDone", spec := "fnHeadDone", recurses := true, plainKeys := false, apart := false }
def FnHeadDoneSaid : Prop := fnHeadDoneRow.holds Try.pinned (OpenSpec.ofChange fnHeadDoneSpec)

/-- ITS FALSE NEIGHBOUR: 'it returns false'. Refute it at one input. -/
def fnHeadDoneWrong : ChangeSpec := { name := "fnHeadDone", fn := fun _ => fun
  | [d] => { results := [.lit (.bool false)], args := [d] }
  | _ => none }
def FnHeadDoneWrongFalsely : Prop := fnHeadDoneRow.holds Try.pinned (OpenSpec.ofChange fnHeadDoneWrong)

/-- 'laws.FnHeadGrown': WHATEVER THE INPUT: true; the input reads as it did. -/
def fnHeadGrownSpec : ChangeSpec := { name := "fnHeadGrown", fn := fun _ => fun
  | [d] => { results := [.lit (.bool true)], args := [d] }
  | _ => none }
def fnHeadGrownRow : OpenClaim := { program := "ytlhiabnablbkpaa", sum := "cf56aa6fa583b4a301ccecda3280b8ba1dc5bd2f955cfe3582424993c5c1b796", func := "loop.example/feedswarm/laws.FnHeadGrown", spec := "fnHeadGrown", recurses := true, plainKeys := false, apart := false }
def FnHeadGrownSaid : Prop := fnHeadGrownRow.holds Try.pinned (OpenSpec.ofChange fnHeadGrownSpec)

/-- ITS FALSE NEIGHBOUR: 'it returns false'. Refute it at one input. -/
def fnHeadGrownWrong : ChangeSpec := { name := "fnHeadGrown", fn := fun _ => fun
  | [d] => { results := [.lit (.bool false)], args := [d] }
  | _ => none }
def FnHeadGrownWrongFalsely : Prop := fnHeadGrownRow.holds Try.pinned (OpenSpec.ofChange fnHeadGrownWrong)

/-- 'laws.FnHeadTwice': WHATEVER THE INPUT: true; the input reads as it did. -/
def fnHeadTwiceSpec : ChangeSpec := { name := "fnHeadTwice", fn := fun _ => fun
  | [d] => { results := [.lit (.bool true)], args := [d] }
  | _ => none }
def fnHeadTwiceRow : OpenClaim := { program := "ytlhiabnablbkpaa", sum := "cf56aa6fa583b4a301ccecda3280b8ba1dc5bd2f955cfe3582424993c5c1b796", func := "loop.example/feedswarm/laws.FnHeadTwice", spec := "fnHeadTwice", recurses := true, plainKeys := false, apart := false }
def FnHeadTwiceSaid : Prop := fnHeadTwiceRow.holds Try.pinned (OpenSpec.ofChange fnHeadTwiceSpec)

/-- ITS FALSE NEIGHBOUR: 'it returns false'. Refute it at one input. -/
def fnHeadTwiceWrong : ChangeSpec := { name := "fnHeadTwice", fn := fun _ => fun
  | [d] => { results := [.lit (.bool false)], args := [d] }
  | _ => none }
def FnHeadTwiceWrongFalsely : Prop := fnHeadTwiceRow.holds Try.pinned (OpenSpec.ofChange fnHeadTwiceWrong)

/-- 'laws.FnHeadUnsigned': WHATEVER THE INPUT: true; the input reads as it did. -/
def fnHeadUnsignedSpec : ChangeSpec := { name := "fnHeadUnsigned", fn := fun _ => fun
  | [d] => { results := [.lit (.bool true)], args := [d] }
  | _ => none }
def fnHeadUnsignedRow : OpenClaim := { program := "ytlhiabnablbkpaa", sum := "cf56aa6fa583b4a301ccecda3280b8ba1dc5bd2f955cfe3582424993c5c1b796", func := "loop.example/feedswarm/laws.FnHeadUnsigned", spec := "fnHeadUnsigned", recurses := true, plainKeys := false, apart := false }
def FnHeadUnsignedSaid : Prop := fnHeadUnsignedRow.holds Try.pinned (OpenSpec.ofChange fnHeadUnsignedSpec)

/-- ITS FALSE NEIGHBOUR: 'it returns false'. Refute it at one input. -/
def fnHeadUnsignedWrong : ChangeSpec := { name := "fnHeadUnsigned", fn := fun _ => fun
  | [d] => { results := [.lit (.bool false)], args := [d] }
  | _ => none }
def FnHeadUnsignedWrongFalsely : Prop := fnHeadUnsignedRow.holds Try.pinned (OpenSpec.ofChange fnHeadUnsignedWrong)

/-- 'laws.FnForkHead': WHATEVER THE INPUT: true; the input reads as it did. -/
def fnForkHeadSpec : ChangeSpec := { name := "fnForkHead", fn := fun _ => fun
  | [d] => { results := [.lit (.bool true)], args := [d] }
  | _ => none }
def fnForkHeadRow : OpenClaim := { program := "ytlhiabnablbkpaa", sum := "cf56aa6fa583b4a301ccecda3280b8ba1dc5bd2f955cfe3582424993c5c1b796", func := "loop.example/feedswarm/laws.FnForkHead", spec := "fnForkHead", recurses := true, plainKeys := false, apart := false }
def FnForkHeadSaid : Prop := fnForkHeadRow.holds Try.pinned (OpenSpec.ofChange fnForkHeadSpec)

/-- ITS FALSE NEIGHBOUR: 'it returns false'. Refute it at one input. -/
def fnForkHeadWrong : ChangeSpec := { name := "fnForkHead", fn := fun _ => fun
  | [d] => { results := [.lit (.bool false)], args := [d] }
  | _ => none }
def FnForkHeadWrongFalsely : Prop := fnForkHeadRow.holds Try.pinned (OpenSpec.ofChange fnForkHeadWrong)

/-- 'laws.FnExactFeedHead': WHATEVER THE INPUT: true; the input reads as it did. -/
def fnExactFeedHeadSpec : ChangeSpec := { name := "fnExactFeedHead", fn := fun _ => fun
  | [d1, d2, d3] => { results := [.lit (.bool true)], args := [d1, d2, d3] }
  | _ => none }
def fnExactFeedHeadRow : OpenClaim := { program := "ytlhiabnablbkpaa", sum := "cf56aa6fa583b4a301ccecda3280b8ba1dc5bd2f955cfe3582424993c5c1b796", func := "loop.example/feedswarm/laws.FnExactFeedHead", spec := "fnExactFeedHead", recurses := true, plainKeys := false, apart := false }
def FnExactFeedHeadSaid : Prop := fnExactFeedHeadRow.holds Try.pinned (OpenSpec.ofChange fnExactFeedHeadSpec)

/-- ITS FALSE NEIGHBOUR: 'it returns false'. Refute it at one input. -/
def fnExactFeedHeadWrong : ChangeSpec := { name := "fnExactFeedHead", fn := fun _ => fun
  | [d1, d2, d3] => { results := [.lit (.bool false)], args := [d1, d2, d3] }
  | _ => none }
def FnExactFeedHeadWrongFalsely : Prop := fnExactFeedHeadRow.holds Try.pinned (OpenSpec.ofChange fnExactFeedHeadWrong)

/-- 'laws.FnHeadFirst': WHATEVER THE INPUT: true; the input reads as it did. -/
def fnHeadFirstSpec : ChangeSpec := { name := "fnHeadFirst", fn := fun _ => fun
  | [d] => { results := [.lit (.bool true)], args := [d] }
  | _ => none }
def fnHeadFirstRow : OpenClaim := { program := "ytlhiabnablbkpaa", sum := "cf56aa6fa583b4a301ccecda3280b8ba1dc5bd2f955cfe3582424993c5c1b796", func := "loop.example/feedswarm/laws.FnHeadFirst", spec := "fnHeadFirst", recurses := true, plainKeys := false, apart := false }
def FnHeadFirstSaid : Prop := fnHeadFirstRow.holds Try.pinned (OpenSpec.ofChange fnHeadFirstSpec)

/-- ITS FALSE NEIGHBOUR: 'it returns false'. Refute it at one input. -/
def fnHeadFirstWrong : ChangeSpec := { name := "fnHeadFirst", fn := fun _ => fun
  | [d] => { results := [.lit (.bool false)], args := [d] }
  | _ => none }
def FnHeadFirstWrongFalsely : Prop := fnHeadFirstRow.holds Try.pinned (OpenSpec.ofChange fnHeadFirstWrong)

/-- 'laws.FnPutWhole': WHATEVER THE INPUT: true; the input reads as it did. -/
def fnPutWholeSpec : ChangeSpec := { name := "fnPutWhole", fn := fun _ => fun
  | [d1, d2] => { results := [.lit (.bool true)], args := [d1, d2] }
  | _ => none }
def fnPutWholeRow : OpenClaim := { program := "ytlhiabnablbkpaa", sum := "cf56aa6fa583b4a301ccecda3280b8ba1dc5bd2f955cfe3582424993c5c1b796", func := "loop.example/feedswarm/laws.FnPutWhole", spec := "fnPutWhole", recurses := true, plainKeys := false, apart := false }
def FnPutWholeSaid : Prop := fnPutWholeRow.holds Try.pinned (OpenSpec.ofChange fnPutWholeSpec)

/-- ITS FALSE NEIGHBOUR: 'it returns false'. Refute it at one input. -/
def fnPutWholeWrong : ChangeSpec := { name := "fnPutWhole", fn := fun _ => fun
  | [d1, d2] => { results := [.lit (.bool false)], args := [d1, d2] }
  | _ => none }
def FnPutWholeWrongFalsely : Prop := fnPutWholeRow.holds Try.pinned (OpenSpec.ofChange fnPutWholeWrong)

/- THE SECOND FORM. 'bulk': how many values and letters a reading holds, each counted each time it is reached (what is shared counts as often as it is met; a slice's spare places count too). A statement '..UptoSaid' is the law's where the arguments, and the package variables that the reading takes, are together of bulk at most 1048576: NARROWER than '..Said'. Prove '..Said' where nothing that the law and all that it calls make is longer than what came in: it says more and counts as full. Else prove '..UptoSaid'. A law counts once. -/
mutual
def uptoBulk {H : Type} : DataW H → Nat
  | .lit (.string bytes) => bytes.length + 1
  | .lit _ => 1
  | .nil => 1
  | .ptr d => uptoBulk d + 1
  | .slice elems spare => uptoBulkAll elems + uptoBulkAll spare + 1
  | .agg parts => uptoBulkAll parts + 1
  | .iface _ d => uptoBulk d + 1
  | .map entries => uptoBulkEntries entries + 1
  | .held _ => 1
def uptoBulkAll {H : Type} : List (DataW H) → Nat
  | [] => 0
  | d :: r => uptoBulk d + uptoBulkAll r
def uptoBulkEntries {H : Type} : List (Lit × DataW H) → Nat
  | [] => 0
  | x :: r => uptoBulkEntry x + uptoBulkEntries r
def uptoBulkEntry {H : Type} : Lit × DataW H → Nat
  | (.string bytes, d) => bytes.length + uptoBulk d + 1
  | (_, d) => uptoBulk d + 1
 end
def uptoSmall : (H : Type) → List (DataW H) → Bool := fun _ ds => decide (uptoBulkAll ds ≤ 1048576)
def OpenSpec.upto (s : _root_.Go.ChangeSpec) : _root_.Go.OpenSpec := { _root_.Go.OpenSpec.ofChange s with cond := some uptoSmall }

/-- 'laws.FnExactFeedProve', WHERE WHAT IT READS IS OF BULK AT MOST 1048576: true; the input reads as it did. -/
def fnExactFeedProveUptoRow : OpenClaim := { program := "ytlhiabnablbkpaa", sum := "cf56aa6fa583b4a301ccecda3280b8ba1dc5bd2f955cfe3582424993c5c1b796", func := "loop.example/feedswarm/laws.FnExactFeedProve", spec := "fnExactFeedProve", recurses := true, plainKeys := false, apart := false, narrowed := true }
def FnExactFeedProveUptoSaid : Prop := fnExactFeedProveUptoRow.holds Try.pinned (OpenSpec.upto fnExactFeedProveSpec)

/-- 'laws.FnProve', WHERE WHAT IT READS IS OF BULK AT MOST 1048576: true; the input reads as it did. -/
def fnProveUptoRow : OpenClaim := { program := "ytlhiabnablbkpaa", sum := "cf56aa6fa583b4a301ccecda3280b8ba1dc5bd2f955cfe3582424993c5c1b796", func := "loop.example/feedswarm/laws.FnProve", spec := "fnProve", recurses := true, plainKeys := false, apart := false, narrowed := true }
def FnProveUptoSaid : Prop := fnProveUptoRow.holds Try.pinned (OpenSpec.upto fnProveSpec)

/-- 'laws.FnFeedHeadSelf', WHERE WHAT IT READS IS OF BULK AT MOST 1048576: true; the input reads as it did. -/
def fnFeedHeadSelfUptoRow : OpenClaim := { program := "ytlhiabnablbkpaa", sum := "cf56aa6fa583b4a301ccecda3280b8ba1dc5bd2f955cfe3582424993c5c1b796", func := "loop.example/feedswarm/laws.FnFeedHeadSelf", spec := "fnFeedHeadSelf", recurses := true, plainKeys := false, apart := false, narrowed := true }
def FnFeedHeadSelfUptoSaid : Prop := fnFeedHeadSelfUptoRow.holds Try.pinned (OpenSpec.upto fnFeedHeadSelfSpec)

/-- 'laws.FnProvePut', WHERE WHAT IT READS IS OF BULK AT MOST 1048576: true; the input reads as it did. -/
def fnProvePutUptoRow : OpenClaim := { program := "ytlhiabnablbkpaa", sum := "cf56aa6fa583b4a301ccecda3280b8ba1dc5bd2f955cfe3582424993c5c1b796", func := "loop.example/feedswarm/laws.FnProvePut", spec := "fnProvePut", recurses := true, plainKeys := false, apart := false, narrowed := true }
def FnProvePutUptoSaid : Prop := fnProvePutUptoRow.holds Try.pinned (OpenSpec.upto fnProvePutSpec)

/-- 'laws.FnExactWorldNew', WHERE WHAT IT READS IS OF BULK AT MOST 1048576: true; the input reads as it did. -/
def fnExactWorldNewUptoRow : OpenClaim := { program := "ytlhiabnablbkpaa", sum := "cf56aa6fa583b4a301ccecda3280b8ba1dc5bd2f955cfe3582424993c5c1b796", func := "loop.example/feedswarm/laws.FnExactWorldNew", spec := "fnExactWorldNew", plainKeys := false, apart := false, narrowed := true }
def FnExactWorldNewUptoSaid : Prop := fnExactWorldNewUptoRow.holds Try.pinned (OpenSpec.upto fnExactWorldNewSpec)

/-- 'laws.FnProveAll', WHERE WHAT IT READS IS OF BULK AT MOST 1048576: true; the input reads as it did. -/
def fnProveAllUptoRow : OpenClaim := { program := "ytlhiabnablbkpaa", sum := "cf56aa6fa583b4a301ccecda3280b8ba1dc5bd2f955cfe3582424993c5c1b796", func := "loop.example/feedswarm/laws.FnProveAll", spec := "fnProveAll", recurses := true, plainKeys := false, apart := false, narrowed := true }
def FnProveAllUptoSaid : Prop := fnProveAllUptoRow.holds Try.pinned (OpenSpec.upto fnProveAllSpec)

/-- 'laws.FnExactFeedPut', WHERE WHAT IT READS IS OF BULK AT MOST 1048576: true; the input reads as it did. -/
def fnExactFeedPutUptoRow : OpenClaim := { program := "ytlhiabnablbkpaa", sum := "cf56aa6fa583b4a301ccecda3280b8ba1dc5bd2f955cfe3582424993c5c1b796", func := "loop.example/feedswarm/laws.FnExactFeedPut", spec := "fnExactFeedPut", recurses := true, plainKeys := false, apart := false, narrowed := true }
def FnExactFeedPutUptoSaid : Prop := fnExactFeedPutUptoRow.holds Try.pinned (OpenSpec.upto fnExactFeedPutSpec)

/-- 'laws.FnPut', WHERE WHAT IT READS IS OF BULK AT MOST 1048576: true; the input reads as it did. -/
def fnPutUptoRow : OpenClaim := { program := "ytlhiabnablbkpaa", sum := "cf56aa6fa583b4a301ccecda3280b8ba1dc5bd2f955cfe3582424993c5c1b796", func := "loop.example/feedswarm/laws.FnPut", spec := "fnPut", recurses := true, plainKeys := false, apart := false, narrowed := true }
def FnPutUptoSaid : Prop := fnPutUptoRow.holds Try.pinned (OpenSpec.upto fnPutSpec)

/-- 'laws.FnPutCount', WHERE WHAT IT READS IS OF BULK AT MOST 1048576: true; the input reads as it did. -/
def fnPutCountUptoRow : OpenClaim := { program := "ytlhiabnablbkpaa", sum := "cf56aa6fa583b4a301ccecda3280b8ba1dc5bd2f955cfe3582424993c5c1b796", func := "loop.example/feedswarm/laws.FnPutCount", spec := "fnPutCount", recurses := true, plainKeys := false, apart := false, narrowed := true }
def FnPutCountUptoSaid : Prop := fnPutCountUptoRow.holds Try.pinned (OpenSpec.upto fnPutCountSpec)

/-- 'laws.FnPutProof', WHERE WHAT IT READS IS OF BULK AT MOST 1048576: true; the input reads as it did. -/
def fnPutProofUptoRow : OpenClaim := { program := "ytlhiabnablbkpaa", sum := "cf56aa6fa583b4a301ccecda3280b8ba1dc5bd2f955cfe3582424993c5c1b796", func := "loop.example/feedswarm/laws.FnPutProof", spec := "fnPutProof", recurses := true, plainKeys := false, apart := false, narrowed := true }
def FnPutProofUptoSaid : Prop := fnPutProofUptoRow.holds Try.pinned (OpenSpec.upto fnPutProofSpec)

/-- 'laws.FnPutTwice', WHERE WHAT IT READS IS OF BULK AT MOST 1048576: true; the input reads as it did. -/
def fnPutTwiceUptoRow : OpenClaim := { program := "ytlhiabnablbkpaa", sum := "cf56aa6fa583b4a301ccecda3280b8ba1dc5bd2f955cfe3582424993c5c1b796", func := "loop.example/feedswarm/laws.FnPutTwice", spec := "fnPutTwice", recurses := true, plainKeys := false, apart := false, narrowed := true }
def FnPutTwiceUptoSaid : Prop := fnPutTwiceUptoRow.holds Try.pinned (OpenSpec.upto fnPutTwiceSpec)

/-- 'laws.FnHeadCodes', WHERE WHAT IT READS IS OF BULK AT MOST 1048576: true; the input reads as it did. -/
def fnHeadCodesUptoRow : OpenClaim := { program := "ytlhiabnablbkpaa", sum := "cf56aa6fa583b4a301ccecda3280b8ba1dc5bd2f955cfe3582424993c5c1b796", func := "loop.example/feedswarm/laws.FnHeadCodes", spec := "fnHeadCodes", recurses := true, plainKeys := false, apart := false, narrowed := true }
def FnHeadCodesUptoSaid : Prop := fnHeadCodesUptoRow.holds Try.pinned (OpenSpec.upto fnHeadCodesSpec)

/-- 'laws.FnHeadDone', WHERE WHAT IT READS IS OF BULK AT MOST 1048576: true; the input reads as it did. -/
def fnHeadDoneUptoRow : OpenClaim := { program := "ytlhiabnablbkpaa", sum := "cf56aa6fa583b4a301ccecda3280b8ba1dc5bd2f955cfe3582424993c5c1b796", func := "loop.example/feedswarm/laws.FnHeadDone", spec := "fnHeadDone", recurses := true, plainKeys := false, apart := false, narrowed := true }
def FnHeadDoneUptoSaid : Prop := fnHeadDoneUptoRow.holds Try.pinned (OpenSpec.upto fnHeadDoneSpec)

/-- 'laws.FnHeadGrown', WHERE WHAT IT READS IS OF BULK AT MOST 1048576: true; the input reads as it did. -/
def fnHeadGrownUptoRow : OpenClaim := { program := "ytlhiabnablbkpaa", sum := "cf56aa6fa583b4a301ccecda3280b8ba1dc5bd2f955cfe3582424993c5c1b796", func := "loop.example/feedswarm/laws.FnHeadGrown", spec := "fnHeadGrown", recurses := true, plainKeys := false, apart := false, narrowed := true }
def FnHeadGrownUptoSaid : Prop := fnHeadGrownUptoRow.holds Try.pinned (OpenSpec.upto fnHeadGrownSpec)

/-- 'laws.FnHeadTwice', WHERE WHAT IT READS IS OF BULK AT MOST 1048576: true; the input reads as it did. -/
def fnHeadTwiceUptoRow : OpenClaim := { program := "ytlhiabnablbkpaa", sum := "cf56aa6fa583b4a301ccecda3280b8ba1dc5bd2f955cfe3582424993c5c1b796", func := "loop.example/feedswarm/laws.FnHeadTwice", spec := "fnHeadTwice", recurses := true, plainKeys := false, apart := false, narrowed := true }
def FnHeadTwiceUptoSaid : Prop := fnHeadTwiceUptoRow.holds Try.pinned (OpenSpec.upto fnHeadTwiceSpec)

/-- 'laws.FnHeadUnsigned', WHERE WHAT IT READS IS OF BULK AT MOST 1048576: true; the input reads as it did. -/
def fnHeadUnsignedUptoRow : OpenClaim := { program := "ytlhiabnablbkpaa", sum := "cf56aa6fa583b4a301ccecda3280b8ba1dc5bd2f955cfe3582424993c5c1b796", func := "loop.example/feedswarm/laws.FnHeadUnsigned", spec := "fnHeadUnsigned", recurses := true, plainKeys := false, apart := false, narrowed := true }
def FnHeadUnsignedUptoSaid : Prop := fnHeadUnsignedUptoRow.holds Try.pinned (OpenSpec.upto fnHeadUnsignedSpec)

/-- 'laws.FnForkHead', WHERE WHAT IT READS IS OF BULK AT MOST 1048576: true; the input reads as it did. -/
def fnForkHeadUptoRow : OpenClaim := { program := "ytlhiabnablbkpaa", sum := "cf56aa6fa583b4a301ccecda3280b8ba1dc5bd2f955cfe3582424993c5c1b796", func := "loop.example/feedswarm/laws.FnForkHead", spec := "fnForkHead", recurses := true, plainKeys := false, apart := false, narrowed := true }
def FnForkHeadUptoSaid : Prop := fnForkHeadUptoRow.holds Try.pinned (OpenSpec.upto fnForkHeadSpec)

/-- 'laws.FnExactFeedHead', WHERE WHAT IT READS IS OF BULK AT MOST 1048576: true; the input reads as it did. -/
def fnExactFeedHeadUptoRow : OpenClaim := { program := "ytlhiabnablbkpaa", sum := "cf56aa6fa583b4a301ccecda3280b8ba1dc5bd2f955cfe3582424993c5c1b796", func := "loop.example/feedswarm/laws.FnExactFeedHead", spec := "fnExactFeedHead", recurses := true, plainKeys := false, apart := false, narrowed := true }
def FnExactFeedHeadUptoSaid : Prop := fnExactFeedHeadUptoRow.holds Try.pinned (OpenSpec.upto fnExactFeedHeadSpec)

/-- 'laws.FnHeadFirst', WHERE WHAT IT READS IS OF BULK AT MOST 1048576: true; the input reads as it did. -/
def fnHeadFirstUptoRow : OpenClaim := { program := "ytlhiabnablbkpaa", sum := "cf56aa6fa583b4a301ccecda3280b8ba1dc5bd2f955cfe3582424993c5c1b796", func := "loop.example/feedswarm/laws.FnHeadFirst", spec := "fnHeadFirst", recurses := true, plainKeys := false, apart := false, narrowed := true }
def FnHeadFirstUptoSaid : Prop := fnHeadFirstUptoRow.holds Try.pinned (OpenSpec.upto fnHeadFirstSpec)

/-- 'laws.FnPutWhole', WHERE WHAT IT READS IS OF BULK AT MOST 1048576: true; the input reads as it did. -/
def fnPutWholeUptoRow : OpenClaim := { program := "ytlhiabnablbkpaa", sum := "cf56aa6fa583b4a301ccecda3280b8ba1dc5bd2f955cfe3582424993c5c1b796", func := "loop.example/feedswarm/laws.FnPutWhole", spec := "fnPutWhole", recurses := true, plainKeys := false, apart := false, narrowed := true }
def FnPutWholeUptoSaid : Prop := fnPutWholeUptoRow.holds Try.pinned (OpenSpec.upto fnPutWholeSpec)

end Rows
end Go.Proofs.Ytlhiabnablbkpaa
