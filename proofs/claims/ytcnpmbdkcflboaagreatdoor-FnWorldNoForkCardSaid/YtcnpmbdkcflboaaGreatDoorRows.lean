/-
  NARROWER THAN 'FOR EVERY INPUT', by the rows' own cells (each row's printed sentence says how): FnWorldHeads: laid · FnWorldWindow: laid · FnWorldTrue: laid · FnWorldNoFork: laid · FnWorldAnswer: laid · FnWorldAskTwice: laid · FnWorldGrow: laid · FnWorldHeadTwice: laid · FnWorldKeeps: laid · FnWorldKeepsBlocks: laid · FnWorldLose: laid · FnWorldOthers: laid.
  DERIVED. THE GIVEN ROWS OF THIS SEAT. 12 by the template 'for every input the law returns true; each argument reads behind the call as it read before'; 0 by the template 'total and deterministic' (their statements: YtcnpmbdkcflboaaGreatDoorTotals.lean).
  GIVEN WITH THE SEED: the statements are not yours to turn. If you find one false, say at which input.
  Laid BY PROGRAM, IN A SANDBOX (cutbox-rows.mjs): the forced cells as the released guide's own fill.sh prints them over the translation b083a0b5d7432ab4… (all of the seat's roots in one cut). By AI agents, Wed Nov 11 2026. No macro, syntax, notation, axiom, sorry.
-/
import Derived.Test.YtcnpmbdkcflboaaGreatDoorChecked
import GoSem.Claim
import GoSem.ClaimJoined
import GoSem.ClaimMapViews
import Derived.JoinedTies
import Derived.KernelRfl
namespace Go.Proofs.YtcnpmbdkcflboaaGreatDoor
/- THE CELL 'sum', in the pinned program and in every row, IS THE sha256 OF THE DUMP (.gsa) THAT YtcnpmbdkcflboaaGreatDoorProg.lean LOADS. Nothing in Lean hashes anything: it is a label: what it is worth is what the hold of that sum in a sandbox is worth. -/
noncomputable def Tryz.pinned : Pinned := { name := "ytcnpmbdkcflboaagreatdoor", sum := "b083a0b5d7432ab4e0efb441cd240a95a432814f85996079534a4dca946a5df8", checked := Tryz.checked }
namespace Rows
def none {H : Type} : Left H := { results := [], args := [] }

/- WHAT THE LISTED PACKAGE-LEVEL VARIABLES READ AS WHEN THE CALL BEGINS. Each datum BY PROGRAM (the guide's laid-datum.mjs) off the statement by which the dump's own 'gosem.cut.vars' lays the variable. In a bare row this is a premise. The card (YtcnpmbdkcflboaaGreatDoorCards.lean) ties it to the program's text. -/
def laid_errors_errorType {H : Type} : DataW H := .iface "internal/reflectlite.rtype" (.agg [.ptr (.lit (.string [101, 114, 114, 111, 114]))])

/-- 'laws.FnWorldHeads': WHATEVER THE INPUT: true; the input reads as it did. -/
def fnWorldHeadsSpec : ChangeSpec := { name := "fnWorldHeads", fn := fun _ => fun
  | [d] => { results := [.lit (.bool true)], args := [d] }
  | _ => none }
def fnWorldHeadsRow : OpenClaim := { program := "ytcnpmbdkcflboaagreatdoor", sum := "b083a0b5d7432ab4e0efb441cd240a95a432814f85996079534a4dca946a5df8", func := "loop.example/feedswarm/laws.FnWorldHeads", spec := "fnWorldHeads", inPlace := ["(*internal/sync.Mutex).Lock", "internal/race.Disable", "sync/atomic.CompareAndSwapInt32", "internal/race.Enable", "internal/race.Acquire", "(*internal/sync.Mutex).lockSlow", "internal/sync.runtime_canSpin", "internal/sync.runtime_doSpin", "internal/sync.throw", "internal/sync.runtime_nanotime", "internal/sync.runtime_SemacquireMutex", "sync/atomic.AddInt32", "(*internal/sync.Mutex).Unlock", "internal/race.ReleaseMerge", "(*internal/sync.Mutex).unlockSlow", "internal/sync.fatal", "internal/sync.runtime_Semrelease", "slices.overlaps[loop.example/feedswarm/impl.Link]", "internal/reflectlite.ValueOf", "(internal/reflectlite.Value).Type", "(internal/reflectlite.Value).IsNil", "internal/reflectlite.TypeOf", "(internal/reflectlite.Value).Elem", "(internal/reflectlite.Value).Set"], unfollowed := true, recurses := true, named := ["errors.errorType"], plainKeys := false, apart := false, laid := [("errors.errorType", laid_errors_errorType)] }
def FnWorldHeadsSaid : Prop := fnWorldHeadsRow.holds Tryz.pinned (OpenSpec.ofChange fnWorldHeadsSpec)

/-- ITS FALSE NEIGHBOUR: 'it returns false'. Refute it at one input. -/
def fnWorldHeadsWrong : ChangeSpec := { name := "fnWorldHeads", fn := fun _ => fun
  | [d] => { results := [.lit (.bool false)], args := [d] }
  | _ => none }
def FnWorldHeadsWrongFalsely : Prop := fnWorldHeadsRow.holds Tryz.pinned (OpenSpec.ofChange fnWorldHeadsWrong)

/-- 'laws.FnWorldWindow': WHATEVER THE INPUT: true; the input reads as it did. -/
def fnWorldWindowSpec : ChangeSpec := { name := "fnWorldWindow", fn := fun _ => fun
  | [d] => { results := [.lit (.bool true)], args := [d] }
  | _ => none }
def fnWorldWindowRow : OpenClaim := { program := "ytcnpmbdkcflboaagreatdoor", sum := "b083a0b5d7432ab4e0efb441cd240a95a432814f85996079534a4dca946a5df8", func := "loop.example/feedswarm/laws.FnWorldWindow", spec := "fnWorldWindow", inPlace := ["(*internal/sync.Mutex).Lock", "internal/race.Disable", "sync/atomic.CompareAndSwapInt32", "internal/race.Enable", "internal/race.Acquire", "(*internal/sync.Mutex).lockSlow", "internal/sync.runtime_canSpin", "internal/sync.runtime_doSpin", "internal/sync.throw", "internal/sync.runtime_nanotime", "internal/sync.runtime_SemacquireMutex", "sync/atomic.AddInt32", "(*internal/sync.Mutex).Unlock", "internal/race.ReleaseMerge", "(*internal/sync.Mutex).unlockSlow", "internal/sync.fatal", "internal/sync.runtime_Semrelease", "slices.overlaps[loop.example/feedswarm/impl.Link]", "internal/reflectlite.ValueOf", "(internal/reflectlite.Value).Type", "(internal/reflectlite.Value).IsNil", "internal/reflectlite.TypeOf", "(internal/reflectlite.Value).Elem", "(internal/reflectlite.Value).Set"], unfollowed := true, recurses := true, named := ["errors.errorType"], plainKeys := false, apart := false, laid := [("errors.errorType", laid_errors_errorType)] }
def FnWorldWindowSaid : Prop := fnWorldWindowRow.holds Tryz.pinned (OpenSpec.ofChange fnWorldWindowSpec)

/-- ITS FALSE NEIGHBOUR: 'it returns false'. Refute it at one input. -/
def fnWorldWindowWrong : ChangeSpec := { name := "fnWorldWindow", fn := fun _ => fun
  | [d] => { results := [.lit (.bool false)], args := [d] }
  | _ => none }
def FnWorldWindowWrongFalsely : Prop := fnWorldWindowRow.holds Tryz.pinned (OpenSpec.ofChange fnWorldWindowWrong)

/-- 'laws.FnWorldTrue': WHATEVER THE INPUT: true; the input reads as it did. -/
def fnWorldTrueSpec : ChangeSpec := { name := "fnWorldTrue", fn := fun _ => fun
  | [d] => { results := [.lit (.bool true)], args := [d] }
  | _ => none }
def fnWorldTrueRow : OpenClaim := { program := "ytcnpmbdkcflboaagreatdoor", sum := "b083a0b5d7432ab4e0efb441cd240a95a432814f85996079534a4dca946a5df8", func := "loop.example/feedswarm/laws.FnWorldTrue", spec := "fnWorldTrue", inPlace := ["(*internal/sync.Mutex).Lock", "internal/race.Disable", "sync/atomic.CompareAndSwapInt32", "internal/race.Enable", "internal/race.Acquire", "(*internal/sync.Mutex).lockSlow", "internal/sync.runtime_canSpin", "internal/sync.runtime_doSpin", "internal/sync.throw", "internal/sync.runtime_nanotime", "internal/sync.runtime_SemacquireMutex", "sync/atomic.AddInt32", "(*internal/sync.Mutex).Unlock", "internal/race.ReleaseMerge", "(*internal/sync.Mutex).unlockSlow", "internal/sync.fatal", "internal/sync.runtime_Semrelease", "slices.overlaps[loop.example/feedswarm/impl.Link]", "internal/reflectlite.ValueOf", "(internal/reflectlite.Value).Type", "(internal/reflectlite.Value).IsNil", "internal/reflectlite.TypeOf", "(internal/reflectlite.Value).Elem", "(internal/reflectlite.Value).Set"], unfollowed := true, recurses := true, named := ["errors.errorType"], plainKeys := false, apart := false, laid := [("errors.errorType", laid_errors_errorType)] }
def FnWorldTrueSaid : Prop := fnWorldTrueRow.holds Tryz.pinned (OpenSpec.ofChange fnWorldTrueSpec)

/-- ITS FALSE NEIGHBOUR: 'it returns false'. Refute it at one input. -/
def fnWorldTrueWrong : ChangeSpec := { name := "fnWorldTrue", fn := fun _ => fun
  | [d] => { results := [.lit (.bool false)], args := [d] }
  | _ => none }
def FnWorldTrueWrongFalsely : Prop := fnWorldTrueRow.holds Tryz.pinned (OpenSpec.ofChange fnWorldTrueWrong)

/-- 'laws.FnWorldNoFork': WHATEVER THE INPUT: true; the input reads as it did. -/
def fnWorldNoForkSpec : ChangeSpec := { name := "fnWorldNoFork", fn := fun _ => fun
  | [d] => { results := [.lit (.bool true)], args := [d] }
  | _ => none }
def fnWorldNoForkRow : OpenClaim := { program := "ytcnpmbdkcflboaagreatdoor", sum := "b083a0b5d7432ab4e0efb441cd240a95a432814f85996079534a4dca946a5df8", func := "loop.example/feedswarm/laws.FnWorldNoFork", spec := "fnWorldNoFork", inPlace := ["(*internal/sync.Mutex).Lock", "internal/race.Disable", "sync/atomic.CompareAndSwapInt32", "internal/race.Enable", "internal/race.Acquire", "(*internal/sync.Mutex).lockSlow", "internal/sync.runtime_canSpin", "internal/sync.runtime_doSpin", "internal/sync.throw", "internal/sync.runtime_nanotime", "internal/sync.runtime_SemacquireMutex", "sync/atomic.AddInt32", "(*internal/sync.Mutex).Unlock", "internal/race.ReleaseMerge", "(*internal/sync.Mutex).unlockSlow", "internal/sync.fatal", "internal/sync.runtime_Semrelease", "slices.overlaps[loop.example/feedswarm/impl.Link]", "internal/reflectlite.ValueOf", "(internal/reflectlite.Value).Type", "(internal/reflectlite.Value).IsNil", "internal/reflectlite.TypeOf", "(internal/reflectlite.Value).Elem", "(internal/reflectlite.Value).Set"], unfollowed := true, recurses := true, named := ["errors.errorType"], plainKeys := false, apart := false, laid := [("errors.errorType", laid_errors_errorType)] }
def FnWorldNoForkSaid : Prop := fnWorldNoForkRow.holds Tryz.pinned (OpenSpec.ofChange fnWorldNoForkSpec)

/-- ITS FALSE NEIGHBOUR: 'it returns false'. Refute it at one input. -/
def fnWorldNoForkWrong : ChangeSpec := { name := "fnWorldNoFork", fn := fun _ => fun
  | [d] => { results := [.lit (.bool false)], args := [d] }
  | _ => none }
def FnWorldNoForkWrongFalsely : Prop := fnWorldNoForkRow.holds Tryz.pinned (OpenSpec.ofChange fnWorldNoForkWrong)

/-- 'laws.FnWorldAnswer': WHATEVER THE INPUT: true; the input reads as it did. -/
def fnWorldAnswerSpec : ChangeSpec := { name := "fnWorldAnswer", fn := fun _ => fun
  | [d] => { results := [.lit (.bool true)], args := [d] }
  | _ => none }
def fnWorldAnswerRow : OpenClaim := { program := "ytcnpmbdkcflboaagreatdoor", sum := "b083a0b5d7432ab4e0efb441cd240a95a432814f85996079534a4dca946a5df8", func := "loop.example/feedswarm/laws.FnWorldAnswer", spec := "fnWorldAnswer", inPlace := ["(*internal/sync.Mutex).Lock", "internal/race.Disable", "sync/atomic.CompareAndSwapInt32", "internal/race.Enable", "internal/race.Acquire", "(*internal/sync.Mutex).lockSlow", "internal/sync.runtime_canSpin", "internal/sync.runtime_doSpin", "internal/sync.throw", "internal/sync.runtime_nanotime", "internal/sync.runtime_SemacquireMutex", "sync/atomic.AddInt32", "(*internal/sync.Mutex).Unlock", "internal/race.ReleaseMerge", "(*internal/sync.Mutex).unlockSlow", "internal/sync.fatal", "internal/sync.runtime_Semrelease", "slices.overlaps[loop.example/feedswarm/impl.Link]", "internal/reflectlite.ValueOf", "(internal/reflectlite.Value).Type", "(internal/reflectlite.Value).IsNil", "internal/reflectlite.TypeOf", "(internal/reflectlite.Value).Elem", "(internal/reflectlite.Value).Set"], unfollowed := true, recurses := true, named := ["errors.errorType"], plainKeys := false, apart := false, laid := [("errors.errorType", laid_errors_errorType)] }
def FnWorldAnswerSaid : Prop := fnWorldAnswerRow.holds Tryz.pinned (OpenSpec.ofChange fnWorldAnswerSpec)

/-- ITS FALSE NEIGHBOUR: 'it returns false'. Refute it at one input. -/
def fnWorldAnswerWrong : ChangeSpec := { name := "fnWorldAnswer", fn := fun _ => fun
  | [d] => { results := [.lit (.bool false)], args := [d] }
  | _ => none }
def FnWorldAnswerWrongFalsely : Prop := fnWorldAnswerRow.holds Tryz.pinned (OpenSpec.ofChange fnWorldAnswerWrong)

/-- 'laws.FnWorldAskTwice': WHATEVER THE INPUT: true; the input reads as it did. -/
def fnWorldAskTwiceSpec : ChangeSpec := { name := "fnWorldAskTwice", fn := fun _ => fun
  | [d] => { results := [.lit (.bool true)], args := [d] }
  | _ => none }
def fnWorldAskTwiceRow : OpenClaim := { program := "ytcnpmbdkcflboaagreatdoor", sum := "b083a0b5d7432ab4e0efb441cd240a95a432814f85996079534a4dca946a5df8", func := "loop.example/feedswarm/laws.FnWorldAskTwice", spec := "fnWorldAskTwice", inPlace := ["(*internal/sync.Mutex).Lock", "internal/race.Disable", "sync/atomic.CompareAndSwapInt32", "internal/race.Enable", "internal/race.Acquire", "(*internal/sync.Mutex).lockSlow", "internal/sync.runtime_canSpin", "internal/sync.runtime_doSpin", "internal/sync.throw", "internal/sync.runtime_nanotime", "internal/sync.runtime_SemacquireMutex", "sync/atomic.AddInt32", "(*internal/sync.Mutex).Unlock", "internal/race.ReleaseMerge", "(*internal/sync.Mutex).unlockSlow", "internal/sync.fatal", "internal/sync.runtime_Semrelease", "slices.overlaps[loop.example/feedswarm/impl.Link]", "internal/reflectlite.ValueOf", "(internal/reflectlite.Value).Type", "(internal/reflectlite.Value).IsNil", "internal/reflectlite.TypeOf", "(internal/reflectlite.Value).Elem", "(internal/reflectlite.Value).Set"], unfollowed := true, recurses := true, named := ["errors.errorType"], plainKeys := false, apart := false, laid := [("errors.errorType", laid_errors_errorType)] }
def FnWorldAskTwiceSaid : Prop := fnWorldAskTwiceRow.holds Tryz.pinned (OpenSpec.ofChange fnWorldAskTwiceSpec)

/-- ITS FALSE NEIGHBOUR: 'it returns false'. Refute it at one input. -/
def fnWorldAskTwiceWrong : ChangeSpec := { name := "fnWorldAskTwice", fn := fun _ => fun
  | [d] => { results := [.lit (.bool false)], args := [d] }
  | _ => none }
def FnWorldAskTwiceWrongFalsely : Prop := fnWorldAskTwiceRow.holds Tryz.pinned (OpenSpec.ofChange fnWorldAskTwiceWrong)

/-- 'laws.FnWorldGrow': WHATEVER THE INPUT: true; the input reads as it did. -/
def fnWorldGrowSpec : ChangeSpec := { name := "fnWorldGrow", fn := fun _ => fun
  | [d1, d2] => { results := [.lit (.bool true)], args := [d1, d2] }
  | _ => none }
def fnWorldGrowRow : OpenClaim := { program := "ytcnpmbdkcflboaagreatdoor", sum := "b083a0b5d7432ab4e0efb441cd240a95a432814f85996079534a4dca946a5df8", func := "loop.example/feedswarm/laws.FnWorldGrow", spec := "fnWorldGrow", inPlace := ["(*internal/sync.Mutex).Lock", "internal/race.Disable", "sync/atomic.CompareAndSwapInt32", "internal/race.Enable", "internal/race.Acquire", "(*internal/sync.Mutex).lockSlow", "internal/sync.runtime_canSpin", "internal/sync.runtime_doSpin", "internal/sync.throw", "internal/sync.runtime_nanotime", "internal/sync.runtime_SemacquireMutex", "sync/atomic.AddInt32", "(*internal/sync.Mutex).Unlock", "internal/race.ReleaseMerge", "(*internal/sync.Mutex).unlockSlow", "internal/sync.fatal", "internal/sync.runtime_Semrelease", "slices.overlaps[loop.example/feedswarm/impl.Link]", "internal/reflectlite.ValueOf", "(internal/reflectlite.Value).Type", "(internal/reflectlite.Value).IsNil", "internal/reflectlite.TypeOf", "(internal/reflectlite.Value).Elem", "(internal/reflectlite.Value).Set"], unfollowed := true, recurses := true, named := ["errors.errorType"], plainKeys := false, apart := false, laid := [("errors.errorType", laid_errors_errorType)] }
def FnWorldGrowSaid : Prop := fnWorldGrowRow.holds Tryz.pinned (OpenSpec.ofChange fnWorldGrowSpec)

/-- ITS FALSE NEIGHBOUR: 'it returns false'. Refute it at one input. -/
def fnWorldGrowWrong : ChangeSpec := { name := "fnWorldGrow", fn := fun _ => fun
  | [d1, d2] => { results := [.lit (.bool false)], args := [d1, d2] }
  | _ => none }
def FnWorldGrowWrongFalsely : Prop := fnWorldGrowRow.holds Tryz.pinned (OpenSpec.ofChange fnWorldGrowWrong)

/-- 'laws.FnWorldHeadTwice': WHATEVER THE INPUT: true; the input reads as it did. -/
def fnWorldHeadTwiceSpec : ChangeSpec := { name := "fnWorldHeadTwice", fn := fun _ => fun
  | [d] => { results := [.lit (.bool true)], args := [d] }
  | _ => none }
def fnWorldHeadTwiceRow : OpenClaim := { program := "ytcnpmbdkcflboaagreatdoor", sum := "b083a0b5d7432ab4e0efb441cd240a95a432814f85996079534a4dca946a5df8", func := "loop.example/feedswarm/laws.FnWorldHeadTwice", spec := "fnWorldHeadTwice", inPlace := ["(*internal/sync.Mutex).Lock", "internal/race.Disable", "sync/atomic.CompareAndSwapInt32", "internal/race.Enable", "internal/race.Acquire", "(*internal/sync.Mutex).lockSlow", "internal/sync.runtime_canSpin", "internal/sync.runtime_doSpin", "internal/sync.throw", "internal/sync.runtime_nanotime", "internal/sync.runtime_SemacquireMutex", "sync/atomic.AddInt32", "(*internal/sync.Mutex).Unlock", "internal/race.ReleaseMerge", "(*internal/sync.Mutex).unlockSlow", "internal/sync.fatal", "internal/sync.runtime_Semrelease", "slices.overlaps[loop.example/feedswarm/impl.Link]", "internal/reflectlite.ValueOf", "(internal/reflectlite.Value).Type", "(internal/reflectlite.Value).IsNil", "internal/reflectlite.TypeOf", "(internal/reflectlite.Value).Elem", "(internal/reflectlite.Value).Set"], unfollowed := true, recurses := true, named := ["errors.errorType"], plainKeys := false, apart := false, laid := [("errors.errorType", laid_errors_errorType)] }
def FnWorldHeadTwiceSaid : Prop := fnWorldHeadTwiceRow.holds Tryz.pinned (OpenSpec.ofChange fnWorldHeadTwiceSpec)

/-- ITS FALSE NEIGHBOUR: 'it returns false'. Refute it at one input. -/
def fnWorldHeadTwiceWrong : ChangeSpec := { name := "fnWorldHeadTwice", fn := fun _ => fun
  | [d] => { results := [.lit (.bool false)], args := [d] }
  | _ => none }
def FnWorldHeadTwiceWrongFalsely : Prop := fnWorldHeadTwiceRow.holds Tryz.pinned (OpenSpec.ofChange fnWorldHeadTwiceWrong)

/-- 'laws.FnWorldKeeps': WHATEVER THE INPUT: true; the input reads as it did. -/
def fnWorldKeepsSpec : ChangeSpec := { name := "fnWorldKeeps", fn := fun _ => fun
  | [d] => { results := [.lit (.bool true)], args := [d] }
  | _ => none }
def fnWorldKeepsRow : OpenClaim := { program := "ytcnpmbdkcflboaagreatdoor", sum := "b083a0b5d7432ab4e0efb441cd240a95a432814f85996079534a4dca946a5df8", func := "loop.example/feedswarm/laws.FnWorldKeeps", spec := "fnWorldKeeps", inPlace := ["(*internal/sync.Mutex).Lock", "internal/race.Disable", "sync/atomic.CompareAndSwapInt32", "internal/race.Enable", "internal/race.Acquire", "(*internal/sync.Mutex).lockSlow", "internal/sync.runtime_canSpin", "internal/sync.runtime_doSpin", "internal/sync.throw", "internal/sync.runtime_nanotime", "internal/sync.runtime_SemacquireMutex", "sync/atomic.AddInt32", "(*internal/sync.Mutex).Unlock", "internal/race.ReleaseMerge", "(*internal/sync.Mutex).unlockSlow", "internal/sync.fatal", "internal/sync.runtime_Semrelease", "slices.overlaps[loop.example/feedswarm/impl.Link]", "internal/reflectlite.ValueOf", "(internal/reflectlite.Value).Type", "(internal/reflectlite.Value).IsNil", "internal/reflectlite.TypeOf", "(internal/reflectlite.Value).Elem", "(internal/reflectlite.Value).Set"], unfollowed := true, recurses := true, named := ["errors.errorType"], plainKeys := false, apart := false, laid := [("errors.errorType", laid_errors_errorType)] }
def FnWorldKeepsSaid : Prop := fnWorldKeepsRow.holds Tryz.pinned (OpenSpec.ofChange fnWorldKeepsSpec)

/-- ITS FALSE NEIGHBOUR: 'it returns false'. Refute it at one input. -/
def fnWorldKeepsWrong : ChangeSpec := { name := "fnWorldKeeps", fn := fun _ => fun
  | [d] => { results := [.lit (.bool false)], args := [d] }
  | _ => none }
def FnWorldKeepsWrongFalsely : Prop := fnWorldKeepsRow.holds Tryz.pinned (OpenSpec.ofChange fnWorldKeepsWrong)

/-- 'laws.FnWorldKeepsBlocks': WHATEVER THE INPUT: true; the input reads as it did. -/
def fnWorldKeepsBlocksSpec : ChangeSpec := { name := "fnWorldKeepsBlocks", fn := fun _ => fun
  | [d] => { results := [.lit (.bool true)], args := [d] }
  | _ => none }
def fnWorldKeepsBlocksRow : OpenClaim := { program := "ytcnpmbdkcflboaagreatdoor", sum := "b083a0b5d7432ab4e0efb441cd240a95a432814f85996079534a4dca946a5df8", func := "loop.example/feedswarm/laws.FnWorldKeepsBlocks", spec := "fnWorldKeepsBlocks", inPlace := ["(*internal/sync.Mutex).Lock", "internal/race.Disable", "sync/atomic.CompareAndSwapInt32", "internal/race.Enable", "internal/race.Acquire", "(*internal/sync.Mutex).lockSlow", "internal/sync.runtime_canSpin", "internal/sync.runtime_doSpin", "internal/sync.throw", "internal/sync.runtime_nanotime", "internal/sync.runtime_SemacquireMutex", "sync/atomic.AddInt32", "(*internal/sync.Mutex).Unlock", "internal/race.ReleaseMerge", "(*internal/sync.Mutex).unlockSlow", "internal/sync.fatal", "internal/sync.runtime_Semrelease", "slices.overlaps[loop.example/feedswarm/impl.Link]", "internal/reflectlite.ValueOf", "(internal/reflectlite.Value).Type", "(internal/reflectlite.Value).IsNil", "internal/reflectlite.TypeOf", "(internal/reflectlite.Value).Elem", "(internal/reflectlite.Value).Set"], unfollowed := true, recurses := true, named := ["errors.errorType"], plainKeys := false, apart := false, laid := [("errors.errorType", laid_errors_errorType)] }
def FnWorldKeepsBlocksSaid : Prop := fnWorldKeepsBlocksRow.holds Tryz.pinned (OpenSpec.ofChange fnWorldKeepsBlocksSpec)

/-- ITS FALSE NEIGHBOUR: 'it returns false'. Refute it at one input. -/
def fnWorldKeepsBlocksWrong : ChangeSpec := { name := "fnWorldKeepsBlocks", fn := fun _ => fun
  | [d] => { results := [.lit (.bool false)], args := [d] }
  | _ => none }
def FnWorldKeepsBlocksWrongFalsely : Prop := fnWorldKeepsBlocksRow.holds Tryz.pinned (OpenSpec.ofChange fnWorldKeepsBlocksWrong)

/-- 'laws.FnWorldLose': WHATEVER THE INPUT: true; the input reads as it did. -/
def fnWorldLoseSpec : ChangeSpec := { name := "fnWorldLose", fn := fun _ => fun
  | [d1, d2] => { results := [.lit (.bool true)], args := [d1, d2] }
  | _ => none }
def fnWorldLoseRow : OpenClaim := { program := "ytcnpmbdkcflboaagreatdoor", sum := "b083a0b5d7432ab4e0efb441cd240a95a432814f85996079534a4dca946a5df8", func := "loop.example/feedswarm/laws.FnWorldLose", spec := "fnWorldLose", inPlace := ["(*internal/sync.Mutex).Lock", "internal/race.Disable", "sync/atomic.CompareAndSwapInt32", "internal/race.Enable", "internal/race.Acquire", "(*internal/sync.Mutex).lockSlow", "internal/sync.runtime_canSpin", "internal/sync.runtime_doSpin", "internal/sync.throw", "internal/sync.runtime_nanotime", "internal/sync.runtime_SemacquireMutex", "sync/atomic.AddInt32", "(*internal/sync.Mutex).Unlock", "internal/race.ReleaseMerge", "(*internal/sync.Mutex).unlockSlow", "internal/sync.fatal", "internal/sync.runtime_Semrelease", "slices.overlaps[loop.example/feedswarm/impl.Link]", "internal/reflectlite.ValueOf", "(internal/reflectlite.Value).Type", "(internal/reflectlite.Value).IsNil", "internal/reflectlite.TypeOf", "(internal/reflectlite.Value).Elem", "(internal/reflectlite.Value).Set"], unfollowed := true, recurses := true, named := ["errors.errorType"], plainKeys := false, apart := false, laid := [("errors.errorType", laid_errors_errorType)] }
def FnWorldLoseSaid : Prop := fnWorldLoseRow.holds Tryz.pinned (OpenSpec.ofChange fnWorldLoseSpec)

/-- ITS FALSE NEIGHBOUR: 'it returns false'. Refute it at one input. -/
def fnWorldLoseWrong : ChangeSpec := { name := "fnWorldLose", fn := fun _ => fun
  | [d1, d2] => { results := [.lit (.bool false)], args := [d1, d2] }
  | _ => none }
def FnWorldLoseWrongFalsely : Prop := fnWorldLoseRow.holds Tryz.pinned (OpenSpec.ofChange fnWorldLoseWrong)

/-- 'laws.FnWorldOthers': WHATEVER THE INPUT: true; the input reads as it did. -/
def fnWorldOthersSpec : ChangeSpec := { name := "fnWorldOthers", fn := fun _ => fun
  | [d1, d2] => { results := [.lit (.bool true)], args := [d1, d2] }
  | _ => none }
def fnWorldOthersRow : OpenClaim := { program := "ytcnpmbdkcflboaagreatdoor", sum := "b083a0b5d7432ab4e0efb441cd240a95a432814f85996079534a4dca946a5df8", func := "loop.example/feedswarm/laws.FnWorldOthers", spec := "fnWorldOthers", inPlace := ["(*internal/sync.Mutex).Lock", "internal/race.Disable", "sync/atomic.CompareAndSwapInt32", "internal/race.Enable", "internal/race.Acquire", "(*internal/sync.Mutex).lockSlow", "internal/sync.runtime_canSpin", "internal/sync.runtime_doSpin", "internal/sync.throw", "internal/sync.runtime_nanotime", "internal/sync.runtime_SemacquireMutex", "sync/atomic.AddInt32", "(*internal/sync.Mutex).Unlock", "internal/race.ReleaseMerge", "(*internal/sync.Mutex).unlockSlow", "internal/sync.fatal", "internal/sync.runtime_Semrelease", "slices.overlaps[loop.example/feedswarm/impl.Link]", "internal/reflectlite.ValueOf", "(internal/reflectlite.Value).Type", "(internal/reflectlite.Value).IsNil", "internal/reflectlite.TypeOf", "(internal/reflectlite.Value).Elem", "(internal/reflectlite.Value).Set"], unfollowed := true, recurses := true, named := ["errors.errorType"], plainKeys := false, apart := false, laid := [("errors.errorType", laid_errors_errorType)] }
def FnWorldOthersSaid : Prop := fnWorldOthersRow.holds Tryz.pinned (OpenSpec.ofChange fnWorldOthersSpec)

/-- ITS FALSE NEIGHBOUR: 'it returns false'. Refute it at one input. -/
def fnWorldOthersWrong : ChangeSpec := { name := "fnWorldOthers", fn := fun _ => fun
  | [d1, d2] => { results := [.lit (.bool false)], args := [d1, d2] }
  | _ => none }
def FnWorldOthersWrongFalsely : Prop := fnWorldOthersRow.holds Tryz.pinned (OpenSpec.ofChange fnWorldOthersWrong)

/- THE SECOND FORM. 'bulk': how many values and letters a reading holds, each counted each time it is reached (what is shared counts as often as it is met; a slice's spare places count too). A statement '..UptoSaid' is the law's where the arguments, and the package variables that the reading takes, are together of bulk at most 1048576: NARROWER than '..Said'. Prove '..Said' where nothing that the law and all that it calls make is longer than what came in: it says more and counts as full. Else prove '..UptoSaid'. A law counts once. -/
mutual
def uptoBulk {H : Type} : DataW H → Nat
  | .lit (.string bytes) => bytes.length + 1
  | .lit _ => 1
  | .nil => 1
  | .ptr d => uptoBulk d + 1
  | .slice elems spare => uptoBulkAll elems + uptoBulkAll spare + 1
  | .agg parts => uptoBulkAll parts + 1
  | .iface _ d => uptoBulk d + 1
  | .map entries => uptoBulkEntries entries + 1
  | .held _ => 1
def uptoBulkAll {H : Type} : List (DataW H) → Nat
  | [] => 0
  | d :: r => uptoBulk d + uptoBulkAll r
def uptoBulkEntries {H : Type} : List (Lit × DataW H) → Nat
  | [] => 0
  | x :: r => uptoBulkEntry x + uptoBulkEntries r
def uptoBulkEntry {H : Type} : Lit × DataW H → Nat
  | (.string bytes, d) => bytes.length + uptoBulk d + 1
  | (_, d) => uptoBulk d + 1
 end
def uptoSmall : (H : Type) → List (DataW H) → Bool := fun _ ds => decide (uptoBulkAll ds ≤ 1048576)
def OpenSpec.upto (s : _root_.Go.ChangeSpec) : _root_.Go.OpenSpec := { _root_.Go.OpenSpec.ofChange s with cond := some uptoSmall }

/-- 'laws.FnWorldHeads', WHERE WHAT IT READS IS OF BULK AT MOST 1048576: true; the input reads as it did. -/
def fnWorldHeadsUptoRow : OpenClaim := { program := "ytcnpmbdkcflboaagreatdoor", sum := "b083a0b5d7432ab4e0efb441cd240a95a432814f85996079534a4dca946a5df8", func := "loop.example/feedswarm/laws.FnWorldHeads", spec := "fnWorldHeads", inPlace := ["(*internal/sync.Mutex).Lock", "internal/race.Disable", "sync/atomic.CompareAndSwapInt32", "internal/race.Enable", "internal/race.Acquire", "(*internal/sync.Mutex).lockSlow", "internal/sync.runtime_canSpin", "internal/sync.runtime_doSpin", "internal/sync.throw", "internal/sync.runtime_nanotime", "internal/sync.runtime_SemacquireMutex", "sync/atomic.AddInt32", "(*internal/sync.Mutex).Unlock", "internal/race.ReleaseMerge", "(*internal/sync.Mutex).unlockSlow", "internal/sync.fatal", "internal/sync.runtime_Semrelease", "slices.overlaps[loop.example/feedswarm/impl.Link]", "internal/reflectlite.ValueOf", "(internal/reflectlite.Value).Type", "(internal/reflectlite.Value).IsNil", "internal/reflectlite.TypeOf", "(internal/reflectlite.Value).Elem", "(internal/reflectlite.Value).Set"], unfollowed := true, recurses := true, named := ["errors.errorType"], plainKeys := false, apart := false, laid := [("errors.errorType", laid_errors_errorType)], narrowed := true }
def FnWorldHeadsUptoSaid : Prop := fnWorldHeadsUptoRow.holds Tryz.pinned (OpenSpec.upto fnWorldHeadsSpec)

/-- 'laws.FnWorldWindow', WHERE WHAT IT READS IS OF BULK AT MOST 1048576: true; the input reads as it did. -/
def fnWorldWindowUptoRow : OpenClaim := { program := "ytcnpmbdkcflboaagreatdoor", sum := "b083a0b5d7432ab4e0efb441cd240a95a432814f85996079534a4dca946a5df8", func := "loop.example/feedswarm/laws.FnWorldWindow", spec := "fnWorldWindow", inPlace := ["(*internal/sync.Mutex).Lock", "internal/race.Disable", "sync/atomic.CompareAndSwapInt32", "internal/race.Enable", "internal/race.Acquire", "(*internal/sync.Mutex).lockSlow", "internal/sync.runtime_canSpin", "internal/sync.runtime_doSpin", "internal/sync.throw", "internal/sync.runtime_nanotime", "internal/sync.runtime_SemacquireMutex", "sync/atomic.AddInt32", "(*internal/sync.Mutex).Unlock", "internal/race.ReleaseMerge", "(*internal/sync.Mutex).unlockSlow", "internal/sync.fatal", "internal/sync.runtime_Semrelease", "slices.overlaps[loop.example/feedswarm/impl.Link]", "internal/reflectlite.ValueOf", "(internal/reflectlite.Value).Type", "(internal/reflectlite.Value).IsNil", "internal/reflectlite.TypeOf", "(internal/reflectlite.Value).Elem", "(internal/reflectlite.Value).Set"], unfollowed := true, recurses := true, named := ["errors.errorType"], plainKeys := false, apart := false, laid := [("errors.errorType", laid_errors_errorType)], narrowed := true }
def FnWorldWindowUptoSaid : Prop := fnWorldWindowUptoRow.holds Tryz.pinned (OpenSpec.upto fnWorldWindowSpec)

/-- 'laws.FnWorldTrue', WHERE WHAT IT READS IS OF BULK AT MOST 1048576: true; the input reads as it did. -/
def fnWorldTrueUptoRow : OpenClaim := { program := "ytcnpmbdkcflboaagreatdoor", sum := "b083a0b5d7432ab4e0efb441cd240a95a432814f85996079534a4dca946a5df8", func := "loop.example/feedswarm/laws.FnWorldTrue", spec := "fnWorldTrue", inPlace := ["(*internal/sync.Mutex).Lock", "internal/race.Disable", "sync/atomic.CompareAndSwapInt32", "internal/race.Enable", "internal/race.Acquire", "(*internal/sync.Mutex).lockSlow", "internal/sync.runtime_canSpin", "internal/sync.runtime_doSpin", "internal/sync.throw", "internal/sync.runtime_nanotime", "internal/sync.runtime_SemacquireMutex", "sync/atomic.AddInt32", "(*internal/sync.Mutex).Unlock", "internal/race.ReleaseMerge", "(*internal/sync.Mutex).unlockSlow", "internal/sync.fatal", "internal/sync.runtime_Semrelease", "slices.overlaps[loop.example/feedswarm/impl.Link]", "internal/reflectlite.ValueOf", "(internal/reflectlite.Value).Type", "(internal/reflectlite.Value).IsNil", "internal/reflectlite.TypeOf", "(internal/reflectlite.Value).Elem", "(internal/reflectlite.Value).Set"], unfollowed := true, recurses := true, named := ["errors.errorType"], plainKeys := false, apart := false, laid := [("errors.errorType", laid_errors_errorType)], narrowed := true }
def FnWorldTrueUptoSaid : Prop := fnWorldTrueUptoRow.holds Tryz.pinned (OpenSpec.upto fnWorldTrueSpec)

/-- 'laws.FnWorldNoFork', WHERE WHAT IT READS IS OF BULK AT MOST 1048576: true; the input reads as it did. -/
def fnWorldNoForkUptoRow : OpenClaim := { program := "ytcnpmbdkcflboaagreatdoor", sum := "b083a0b5d7432ab4e0efb441cd240a95a432814f85996079534a4dca946a5df8", func := "loop.example/feedswarm/laws.FnWorldNoFork", spec := "fnWorldNoFork", inPlace := ["(*internal/sync.Mutex).Lock", "internal/race.Disable", "sync/atomic.CompareAndSwapInt32", "internal/race.Enable", "internal/race.Acquire", "(*internal/sync.Mutex).lockSlow", "internal/sync.runtime_canSpin", "internal/sync.runtime_doSpin", "internal/sync.throw", "internal/sync.runtime_nanotime", "internal/sync.runtime_SemacquireMutex", "sync/atomic.AddInt32", "(*internal/sync.Mutex).Unlock", "internal/race.ReleaseMerge", "(*internal/sync.Mutex).unlockSlow", "internal/sync.fatal", "internal/sync.runtime_Semrelease", "slices.overlaps[loop.example/feedswarm/impl.Link]", "internal/reflectlite.ValueOf", "(internal/reflectlite.Value).Type", "(internal/reflectlite.Value).IsNil", "internal/reflectlite.TypeOf", "(internal/reflectlite.Value).Elem", "(internal/reflectlite.Value).Set"], unfollowed := true, recurses := true, named := ["errors.errorType"], plainKeys := false, apart := false, laid := [("errors.errorType", laid_errors_errorType)], narrowed := true }
def FnWorldNoForkUptoSaid : Prop := fnWorldNoForkUptoRow.holds Tryz.pinned (OpenSpec.upto fnWorldNoForkSpec)

/-- 'laws.FnWorldAnswer', WHERE WHAT IT READS IS OF BULK AT MOST 1048576: true; the input reads as it did. -/
def fnWorldAnswerUptoRow : OpenClaim := { program := "ytcnpmbdkcflboaagreatdoor", sum := "b083a0b5d7432ab4e0efb441cd240a95a432814f85996079534a4dca946a5df8", func := "loop.example/feedswarm/laws.FnWorldAnswer", spec := "fnWorldAnswer", inPlace := ["(*internal/sync.Mutex).Lock", "internal/race.Disable", "sync/atomic.CompareAndSwapInt32", "internal/race.Enable", "internal/race.Acquire", "(*internal/sync.Mutex).lockSlow", "internal/sync.runtime_canSpin", "internal/sync.runtime_doSpin", "internal/sync.throw", "internal/sync.runtime_nanotime", "internal/sync.runtime_SemacquireMutex", "sync/atomic.AddInt32", "(*internal/sync.Mutex).Unlock", "internal/race.ReleaseMerge", "(*internal/sync.Mutex).unlockSlow", "internal/sync.fatal", "internal/sync.runtime_Semrelease", "slices.overlaps[loop.example/feedswarm/impl.Link]", "internal/reflectlite.ValueOf", "(internal/reflectlite.Value).Type", "(internal/reflectlite.Value).IsNil", "internal/reflectlite.TypeOf", "(internal/reflectlite.Value).Elem", "(internal/reflectlite.Value).Set"], unfollowed := true, recurses := true, named := ["errors.errorType"], plainKeys := false, apart := false, laid := [("errors.errorType", laid_errors_errorType)], narrowed := true }
def FnWorldAnswerUptoSaid : Prop := fnWorldAnswerUptoRow.holds Tryz.pinned (OpenSpec.upto fnWorldAnswerSpec)

/-- 'laws.FnWorldAskTwice', WHERE WHAT IT READS IS OF BULK AT MOST 1048576: true; the input reads as it did. -/
def fnWorldAskTwiceUptoRow : OpenClaim := { program := "ytcnpmbdkcflboaagreatdoor", sum := "b083a0b5d7432ab4e0efb441cd240a95a432814f85996079534a4dca946a5df8", func := "loop.example/feedswarm/laws.FnWorldAskTwice", spec := "fnWorldAskTwice", inPlace := ["(*internal/sync.Mutex).Lock", "internal/race.Disable", "sync/atomic.CompareAndSwapInt32", "internal/race.Enable", "internal/race.Acquire", "(*internal/sync.Mutex).lockSlow", "internal/sync.runtime_canSpin", "internal/sync.runtime_doSpin", "internal/sync.throw", "internal/sync.runtime_nanotime", "internal/sync.runtime_SemacquireMutex", "sync/atomic.AddInt32", "(*internal/sync.Mutex).Unlock", "internal/race.ReleaseMerge", "(*internal/sync.Mutex).unlockSlow", "internal/sync.fatal", "internal/sync.runtime_Semrelease", "slices.overlaps[loop.example/feedswarm/impl.Link]", "internal/reflectlite.ValueOf", "(internal/reflectlite.Value).Type", "(internal/reflectlite.Value).IsNil", "internal/reflectlite.TypeOf", "(internal/reflectlite.Value).Elem", "(internal/reflectlite.Value).Set"], unfollowed := true, recurses := true, named := ["errors.errorType"], plainKeys := false, apart := false, laid := [("errors.errorType", laid_errors_errorType)], narrowed := true }
def FnWorldAskTwiceUptoSaid : Prop := fnWorldAskTwiceUptoRow.holds Tryz.pinned (OpenSpec.upto fnWorldAskTwiceSpec)

/-- 'laws.FnWorldGrow', WHERE WHAT IT READS IS OF BULK AT MOST 1048576: true; the input reads as it did. -/
def fnWorldGrowUptoRow : OpenClaim := { program := "ytcnpmbdkcflboaagreatdoor", sum := "b083a0b5d7432ab4e0efb441cd240a95a432814f85996079534a4dca946a5df8", func := "loop.example/feedswarm/laws.FnWorldGrow", spec := "fnWorldGrow", inPlace := ["(*internal/sync.Mutex).Lock", "internal/race.Disable", "sync/atomic.CompareAndSwapInt32", "internal/race.Enable", "internal/race.Acquire", "(*internal/sync.Mutex).lockSlow", "internal/sync.runtime_canSpin", "internal/sync.runtime_doSpin", "internal/sync.throw", "internal/sync.runtime_nanotime", "internal/sync.runtime_SemacquireMutex", "sync/atomic.AddInt32", "(*internal/sync.Mutex).Unlock", "internal/race.ReleaseMerge", "(*internal/sync.Mutex).unlockSlow", "internal/sync.fatal", "internal/sync.runtime_Semrelease", "slices.overlaps[loop.example/feedswarm/impl.Link]", "internal/reflectlite.ValueOf", "(internal/reflectlite.Value).Type", "(internal/reflectlite.Value).IsNil", "internal/reflectlite.TypeOf", "(internal/reflectlite.Value).Elem", "(internal/reflectlite.Value).Set"], unfollowed := true, recurses := true, named := ["errors.errorType"], plainKeys := false, apart := false, laid := [("errors.errorType", laid_errors_errorType)], narrowed := true }
def FnWorldGrowUptoSaid : Prop := fnWorldGrowUptoRow.holds Tryz.pinned (OpenSpec.upto fnWorldGrowSpec)

/-- 'laws.FnWorldHeadTwice', WHERE WHAT IT READS IS OF BULK AT MOST 1048576: true; the input reads as it did. -/
def fnWorldHeadTwiceUptoRow : OpenClaim := { program := "ytcnpmbdkcflboaagreatdoor", sum := "b083a0b5d7432ab4e0efb441cd240a95a432814f85996079534a4dca946a5df8", func := "loop.example/feedswarm/laws.FnWorldHeadTwice", spec := "fnWorldHeadTwice", inPlace := ["(*internal/sync.Mutex).Lock", "internal/race.Disable", "sync/atomic.CompareAndSwapInt32", "internal/race.Enable", "internal/race.Acquire", "(*internal/sync.Mutex).lockSlow", "internal/sync.runtime_canSpin", "internal/sync.runtime_doSpin", "internal/sync.throw", "internal/sync.runtime_nanotime", "internal/sync.runtime_SemacquireMutex", "sync/atomic.AddInt32", "(*internal/sync.Mutex).Unlock", "internal/race.ReleaseMerge", "(*internal/sync.Mutex).unlockSlow", "internal/sync.fatal", "internal/sync.runtime_Semrelease", "slices.overlaps[loop.example/feedswarm/impl.Link]", "internal/reflectlite.ValueOf", "(internal/reflectlite.Value).Type", "(internal/reflectlite.Value).IsNil", "internal/reflectlite.TypeOf", "(internal/reflectlite.Value).Elem", "(internal/reflectlite.Value).Set"], unfollowed := true, recurses := true, named := ["errors.errorType"], plainKeys := false, apart := false, laid := [("errors.errorType", laid_errors_errorType)], narrowed := true }
def FnWorldHeadTwiceUptoSaid : Prop := fnWorldHeadTwiceUptoRow.holds Tryz.pinned (OpenSpec.upto fnWorldHeadTwiceSpec)

/-- 'laws.FnWorldKeeps', WHERE WHAT IT READS IS OF BULK AT MOST 1048576: true; the input reads as it did. -/
def fnWorldKeepsUptoRow : OpenClaim := { program := "ytcnpmbdkcflboaagreatdoor", sum := "b083a0b5d7432ab4e0efb441cd240a95a432814f85996079534a4dca946a5df8", func := "loop.example/feedswarm/laws.FnWorldKeeps", spec := "fnWorldKeeps", inPlace := ["(*internal/sync.Mutex).Lock", "internal/race.Disable", "sync/atomic.CompareAndSwapInt32", "internal/race.Enable", "internal/race.Acquire", "(*internal/sync.Mutex).lockSlow", "internal/sync.runtime_canSpin", "internal/sync.runtime_doSpin", "internal/sync.throw", "internal/sync.runtime_nanotime", "internal/sync.runtime_SemacquireMutex", "sync/atomic.AddInt32", "(*internal/sync.Mutex).Unlock", "internal/race.ReleaseMerge", "(*internal/sync.Mutex).unlockSlow", "internal/sync.fatal", "internal/sync.runtime_Semrelease", "slices.overlaps[loop.example/feedswarm/impl.Link]", "internal/reflectlite.ValueOf", "(internal/reflectlite.Value).Type", "(internal/reflectlite.Value).IsNil", "internal/reflectlite.TypeOf", "(internal/reflectlite.Value).Elem", "(internal/reflectlite.Value).Set"], unfollowed := true, recurses := true, named := ["errors.errorType"], plainKeys := false, apart := false, laid := [("errors.errorType", laid_errors_errorType)], narrowed := true }
def FnWorldKeepsUptoSaid : Prop := fnWorldKeepsUptoRow.holds Tryz.pinned (OpenSpec.upto fnWorldKeepsSpec)

/-- 'laws.FnWorldKeepsBlocks', WHERE WHAT IT READS IS OF BULK AT MOST 1048576: true; the input reads as it did. -/
def fnWorldKeepsBlocksUptoRow : OpenClaim := { program := "ytcnpmbdkcflboaagreatdoor", sum := "b083a0b5d7432ab4e0efb441cd240a95a432814f85996079534a4dca946a5df8", func := "loop.example/feedswarm/laws.FnWorldKeepsBlocks", spec := "fnWorldKeepsBlocks", inPlace := ["(*internal/sync.Mutex).Lock", "internal/race.Disable", "sync/atomic.CompareAndSwapInt32", "internal/race.Enable", "internal/race.Acquire", "(*internal/sync.Mutex).lockSlow", "internal/sync.runtime_canSpin", "internal/sync.runtime_doSpin", "internal/sync.throw", "internal/sync.runtime_nanotime", "internal/sync.runtime_SemacquireMutex", "sync/atomic.AddInt32", "(*internal/sync.Mutex).Unlock", "internal/race.ReleaseMerge", "(*internal/sync.Mutex).unlockSlow", "internal/sync.fatal", "internal/sync.runtime_Semrelease", "slices.overlaps[loop.example/feedswarm/impl.Link]", "internal/reflectlite.ValueOf", "(internal/reflectlite.Value).Type", "(internal/reflectlite.Value).IsNil", "internal/reflectlite.TypeOf", "(internal/reflectlite.Value).Elem", "(internal/reflectlite.Value).Set"], unfollowed := true, recurses := true, named := ["errors.errorType"], plainKeys := false, apart := false, laid := [("errors.errorType", laid_errors_errorType)], narrowed := true }
def FnWorldKeepsBlocksUptoSaid : Prop := fnWorldKeepsBlocksUptoRow.holds Tryz.pinned (OpenSpec.upto fnWorldKeepsBlocksSpec)

/-- 'laws.FnWorldLose', WHERE WHAT IT READS IS OF BULK AT MOST 1048576: true; the input reads as it did. -/
def fnWorldLoseUptoRow : OpenClaim := { program := "ytcnpmbdkcflboaagreatdoor", sum := "b083a0b5d7432ab4e0efb441cd240a95a432814f85996079534a4dca946a5df8", func := "loop.example/feedswarm/laws.FnWorldLose", spec := "fnWorldLose", inPlace := ["(*internal/sync.Mutex).Lock", "internal/race.Disable", "sync/atomic.CompareAndSwapInt32", "internal/race.Enable", "internal/race.Acquire", "(*internal/sync.Mutex).lockSlow", "internal/sync.runtime_canSpin", "internal/sync.runtime_doSpin", "internal/sync.throw", "internal/sync.runtime_nanotime", "internal/sync.runtime_SemacquireMutex", "sync/atomic.AddInt32", "(*internal/sync.Mutex).Unlock", "internal/race.ReleaseMerge", "(*internal/sync.Mutex).unlockSlow", "internal/sync.fatal", "internal/sync.runtime_Semrelease", "slices.overlaps[loop.example/feedswarm/impl.Link]", "internal/reflectlite.ValueOf", "(internal/reflectlite.Value).Type", "(internal/reflectlite.Value).IsNil", "internal/reflectlite.TypeOf", "(internal/reflectlite.Value).Elem", "(internal/reflectlite.Value).Set"], unfollowed := true, recurses := true, named := ["errors.errorType"], plainKeys := false, apart := false, laid := [("errors.errorType", laid_errors_errorType)], narrowed := true }
def FnWorldLoseUptoSaid : Prop := fnWorldLoseUptoRow.holds Tryz.pinned (OpenSpec.upto fnWorldLoseSpec)

/-- 'laws.FnWorldOthers', WHERE WHAT IT READS IS OF BULK AT MOST 1048576: true; the input reads as it did. -/
def fnWorldOthersUptoRow : OpenClaim := { program := "ytcnpmbdkcflboaagreatdoor", sum := "b083a0b5d7432ab4e0efb441cd240a95a432814f85996079534a4dca946a5df8", func := "loop.example/feedswarm/laws.FnWorldOthers", spec := "fnWorldOthers", inPlace := ["(*internal/sync.Mutex).Lock", "internal/race.Disable", "sync/atomic.CompareAndSwapInt32", "internal/race.Enable", "internal/race.Acquire", "(*internal/sync.Mutex).lockSlow", "internal/sync.runtime_canSpin", "internal/sync.runtime_doSpin", "internal/sync.throw", "internal/sync.runtime_nanotime", "internal/sync.runtime_SemacquireMutex", "sync/atomic.AddInt32", "(*internal/sync.Mutex).Unlock", "internal/race.ReleaseMerge", "(*internal/sync.Mutex).unlockSlow", "internal/sync.fatal", "internal/sync.runtime_Semrelease", "slices.overlaps[loop.example/feedswarm/impl.Link]", "internal/reflectlite.ValueOf", "(internal/reflectlite.Value).Type", "(internal/reflectlite.Value).IsNil", "internal/reflectlite.TypeOf", "(internal/reflectlite.Value).Elem", "(internal/reflectlite.Value).Set"], unfollowed := true, recurses := true, named := ["errors.errorType"], plainKeys := false, apart := false, laid := [("errors.errorType", laid_errors_errorType)], narrowed := true }
def FnWorldOthersUptoSaid : Prop := fnWorldOthersUptoRow.holds Tryz.pinned (OpenSpec.upto fnWorldOthersSpec)

end Rows
end Go.Proofs.YtcnpmbdkcflboaaGreatDoor
