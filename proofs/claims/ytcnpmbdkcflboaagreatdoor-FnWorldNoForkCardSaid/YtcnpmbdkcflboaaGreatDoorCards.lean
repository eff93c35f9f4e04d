/-
  DERIVED. GIVEN WITH THE SEED: THE CARDS: each row of YtcnpmbdkcflboaaGreatDoorRows.lean that lists a variable, with what it lists TIED to the program's text (the seventh form; the later family's looks); each row that meets fmt, with fmt's text TOLD by the authors' own Lean function (tested against real Go, not proved from fmt's source: count such statements apart). THE CARD IS WHAT COUNTS. Prove the row's statement (the work); the ties are given (YtcnpmbdkcflboaaGreatDoorTie.lean); close each card by the builder's one call (the guide's Derived/Test/ToyasCard.lean, 'card_holds'). Laid BY PROGRAM, IN A SANDBOX (cutbox-door.mjs). By AI agents, Wed Nov 11 2026. No macro, syntax, notation, axiom, sorry.
-/
import Derived.Test.YtcnpmbdkcflboaaGreatDoorRows
import GoSem.ClaimSeven
namespace Go.Proofs.YtcnpmbdkcflboaaGreatDoor
namespace Rows

/-- THE TIED CARD OF 'laws.FnWorldHeads'. -/
def fnWorldHeadsCard : Claim7 := { stood := { row := fnWorldHeadsRow, standIns := [], harness := (true, "e463ed5b8b2ed493bce72ecf2fb0fd5fa54a81d43763b8464c459a5930124511"), looks := true }, kinds := [], alts := [], laidByText := true, laidKinds := [.handle], laidTests := true, laidLooks := .later }
def FnWorldHeadsCardSaid : Prop := Claim7.holds Tryz.pinned (.plain (OpenSpec.ofChange fnWorldHeadsSpec)) fnWorldHeadsCard

/-- THE TIED CARD OF 'laws.FnWorldWindow'. -/
def fnWorldWindowCard : Claim7 := { stood := { row := fnWorldWindowRow, standIns := [], harness := (true, "e463ed5b8b2ed493bce72ecf2fb0fd5fa54a81d43763b8464c459a5930124511"), looks := true }, kinds := [], alts := [], laidByText := true, laidKinds := [.handle], laidTests := true, laidLooks := .later }
def FnWorldWindowCardSaid : Prop := Claim7.holds Tryz.pinned (.plain (OpenSpec.ofChange fnWorldWindowSpec)) fnWorldWindowCard

/-- THE TIED CARD OF 'laws.FnWorldTrue'. -/
def fnWorldTrueCard : Claim7 := { stood := { row := fnWorldTrueRow, standIns := [], harness := (true, "e463ed5b8b2ed493bce72ecf2fb0fd5fa54a81d43763b8464c459a5930124511"), looks := true }, kinds := [], alts := [], laidByText := true, laidKinds := [.handle], laidTests := true, laidLooks := .later }
def FnWorldTrueCardSaid : Prop := Claim7.holds Tryz.pinned (.plain (OpenSpec.ofChange fnWorldTrueSpec)) fnWorldTrueCard

/-- THE TIED CARD OF 'laws.FnWorldNoFork'. -/
def fnWorldNoForkCard : Claim7 := { stood := { row := fnWorldNoForkRow, standIns := [], harness := (true, "e463ed5b8b2ed493bce72ecf2fb0fd5fa54a81d43763b8464c459a5930124511"), looks := true }, kinds := [], alts := [], laidByText := true, laidKinds := [.handle], laidTests := true, laidLooks := .later }
def FnWorldNoForkCardSaid : Prop := Claim7.holds Tryz.pinned (.plain (OpenSpec.ofChange fnWorldNoForkSpec)) fnWorldNoForkCard

/-- THE TIED CARD OF 'laws.FnWorldAnswer'. -/
def fnWorldAnswerCard : Claim7 := { stood := { row := fnWorldAnswerRow, standIns := [], harness := (true, "e463ed5b8b2ed493bce72ecf2fb0fd5fa54a81d43763b8464c459a5930124511"), looks := true }, kinds := [], alts := [], laidByText := true, laidKinds := [.handle], laidTests := true, laidLooks := .later }
def FnWorldAnswerCardSaid : Prop := Claim7.holds Tryz.pinned (.plain (OpenSpec.ofChange fnWorldAnswerSpec)) fnWorldAnswerCard

/-- THE TIED CARD OF 'laws.FnWorldAskTwice'. -/
def fnWorldAskTwiceCard : Claim7 := { stood := { row := fnWorldAskTwiceRow, standIns := [], harness := (true, "e463ed5b8b2ed493bce72ecf2fb0fd5fa54a81d43763b8464c459a5930124511"), looks := true }, kinds := [], alts := [], laidByText := true, laidKinds := [.handle], laidTests := true, laidLooks := .later }
def FnWorldAskTwiceCardSaid : Prop := Claim7.holds Tryz.pinned (.plain (OpenSpec.ofChange fnWorldAskTwiceSpec)) fnWorldAskTwiceCard

/-- THE TIED CARD OF 'laws.FnWorldGrow'. -/
def fnWorldGrowCard : Claim7 := { stood := { row := fnWorldGrowRow, standIns := [], harness := (true, "e463ed5b8b2ed493bce72ecf2fb0fd5fa54a81d43763b8464c459a5930124511"), looks := true }, kinds := [], alts := [], laidByText := true, laidKinds := [.handle], laidTests := true, laidLooks := .later }
def FnWorldGrowCardSaid : Prop := Claim7.holds Tryz.pinned (.plain (OpenSpec.ofChange fnWorldGrowSpec)) fnWorldGrowCard

/-- THE TIED CARD OF 'laws.FnWorldHeadTwice'. -/
def fnWorldHeadTwiceCard : Claim7 := { stood := { row := fnWorldHeadTwiceRow, standIns := [], harness := (true, "e463ed5b8b2ed493bce72ecf2fb0fd5fa54a81d43763b8464c459a5930124511"), looks := true }, kinds := [], alts := [], laidByText := true, laidKinds := [.handle], laidTests := true, laidLooks := .later }
def FnWorldHeadTwiceCardSaid : Prop := Claim7.holds Tryz.pinned (.plain (OpenSpec.ofChange fnWorldHeadTwiceSpec)) fnWorldHeadTwiceCard

/-- THE TIED CARD OF 'laws.FnWorldKeeps'. -/
def fnWorldKeepsCard : Claim7 := { stood := { row := fnWorldKeepsRow, standIns := [], harness := (true, "e463ed5b8b2ed493bce72ecf2fb0fd5fa54a81d43763b8464c459a5930124511"), looks := true }, kinds := [], alts := [], laidByText := true, laidKinds := [.handle], laidTests := true, laidLooks := .later }
def FnWorldKeepsCardSaid : Prop := Claim7.holds Tryz.pinned (.plain (OpenSpec.ofChange fnWorldKeepsSpec)) fnWorldKeepsCard

/-- THE TIED CARD OF 'laws.FnWorldKeepsBlocks'. -/
def fnWorldKeepsBlocksCard : Claim7 := { stood := { row := fnWorldKeepsBlocksRow, standIns := [], harness := (true, "e463ed5b8b2ed493bce72ecf2fb0fd5fa54a81d43763b8464c459a5930124511"), looks := true }, kinds := [], alts := [], laidByText := true, laidKinds := [.handle], laidTests := true, laidLooks := .later }
def FnWorldKeepsBlocksCardSaid : Prop := Claim7.holds Tryz.pinned (.plain (OpenSpec.ofChange fnWorldKeepsBlocksSpec)) fnWorldKeepsBlocksCard

/-- THE TIED CARD OF 'laws.FnWorldLose'. -/
def fnWorldLoseCard : Claim7 := { stood := { row := fnWorldLoseRow, standIns := [], harness := (true, "e463ed5b8b2ed493bce72ecf2fb0fd5fa54a81d43763b8464c459a5930124511"), looks := true }, kinds := [], alts := [], laidByText := true, laidKinds := [.handle], laidTests := true, laidLooks := .later }
def FnWorldLoseCardSaid : Prop := Claim7.holds Tryz.pinned (.plain (OpenSpec.ofChange fnWorldLoseSpec)) fnWorldLoseCard

/-- THE TIED CARD OF 'laws.FnWorldOthers'. -/
def fnWorldOthersCard : Claim7 := { stood := { row := fnWorldOthersRow, standIns := [], harness := (true, "e463ed5b8b2ed493bce72ecf2fb0fd5fa54a81d43763b8464c459a5930124511"), looks := true }, kinds := [], alts := [], laidByText := true, laidKinds := [.handle], laidTests := true, laidLooks := .later }
def FnWorldOthersCardSaid : Prop := Claim7.holds Tryz.pinned (.plain (OpenSpec.ofChange fnWorldOthersSpec)) fnWorldOthersCard

/-- THE SECOND FORM's CARD OF 'laws.FnWorldHeads'. -/
def fnWorldHeadsUptoCard : Claim7 := { stood := { row := fnWorldHeadsUptoRow, standIns := [], harness := (true, "e463ed5b8b2ed493bce72ecf2fb0fd5fa54a81d43763b8464c459a5930124511"), looks := true }, kinds := [], alts := [], laidByText := true, laidKinds := [.handle], laidTests := true, laidLooks := .later }
def FnWorldHeadsUptoCardSaid : Prop := Claim7.holds Tryz.pinned (.plain (OpenSpec.upto fnWorldHeadsSpec)) fnWorldHeadsUptoCard

/-- THE SECOND FORM's CARD OF 'laws.FnWorldWindow'. -/
def fnWorldWindowUptoCard : Claim7 := { stood := { row := fnWorldWindowUptoRow, standIns := [], harness := (true, "e463ed5b8b2ed493bce72ecf2fb0fd5fa54a81d43763b8464c459a5930124511"), looks := true }, kinds := [], alts := [], laidByText := true, laidKinds := [.handle], laidTests := true, laidLooks := .later }
def FnWorldWindowUptoCardSaid : Prop := Claim7.holds Tryz.pinned (.plain (OpenSpec.upto fnWorldWindowSpec)) fnWorldWindowUptoCard

/-- THE SECOND FORM's CARD OF 'laws.FnWorldTrue'. -/
def fnWorldTrueUptoCard : Claim7 := { stood := { row := fnWorldTrueUptoRow, standIns := [], harness := (true, "e463ed5b8b2ed493bce72ecf2fb0fd5fa54a81d43763b8464c459a5930124511"), looks := true }, kinds := [], alts := [], laidByText := true, laidKinds := [.handle], laidTests := true, laidLooks := .later }
def FnWorldTrueUptoCardSaid : Prop := Claim7.holds Tryz.pinned (.plain (OpenSpec.upto fnWorldTrueSpec)) fnWorldTrueUptoCard

/-- THE SECOND FORM's CARD OF 'laws.FnWorldNoFork'. -/
def fnWorldNoForkUptoCard : Claim7 := { stood := { row := fnWorldNoForkUptoRow, standIns := [], harness := (true, "e463ed5b8b2ed493bce72ecf2fb0fd5fa54a81d43763b8464c459a5930124511"), looks := true }, kinds := [], alts := [], laidByText := true, laidKinds := [.handle], laidTests := true, laidLooks := .later }
def FnWorldNoForkUptoCardSaid : Prop := Claim7.holds Tryz.pinned (.plain (OpenSpec.upto fnWorldNoForkSpec)) fnWorldNoForkUptoCard

/-- THE SECOND FORM's CARD OF 'laws.FnWorldAnswer'. -/
def fnWorldAnswerUptoCard : Claim7 := { stood := { row := fnWorldAnswerUptoRow, standIns := [], harness := (true, "e463ed5b8b2ed493bce72ecf2fb0fd5fa54a81d43763b8464c459a5930124511"), looks := true }, kinds := [], alts := [], laidByText := true, laidKinds := [.handle], laidTests := true, laidLooks := .later }
def FnWorldAnswerUptoCardSaid : Prop := Claim7.holds Tryz.pinned (.plain (OpenSpec.upto fnWorldAnswerSpec)) fnWorldAnswerUptoCard

/-- THE SECOND FORM's CARD OF 'laws.FnWorldAskTwice'. -/
def fnWorldAskTwiceUptoCard : Claim7 := { stood := { row := fnWorldAskTwiceUptoRow, standIns := [], harness := (true, "e463ed5b8b2ed493bce72ecf2fb0fd5fa54a81d43763b8464c459a5930124511"), looks := true }, kinds := [], alts := [], laidByText := true, laidKinds := [.handle], laidTests := true, laidLooks := .later }
def FnWorldAskTwiceUptoCardSaid : Prop := Claim7.holds Tryz.pinned (.plain (OpenSpec.upto fnWorldAskTwiceSpec)) fnWorldAskTwiceUptoCard

/-- THE SECOND FORM's CARD OF 'laws.FnWorldGrow'. -/
def fnWorldGrowUptoCard : Claim7 := { stood := { row := fnWorldGrowUptoRow, standIns := [], harness := (true, "e463ed5b8b2ed493bce72ecf2fb0fd5fa54a81d43763b8464c459a5930124511"), looks := true }, kinds := [], alts := [], laidByText := true, laidKinds := [.handle], laidTests := true, laidLooks := .later }
def FnWorldGrowUptoCardSaid : Prop := Claim7.holds Tryz.pinned (.plain (OpenSpec.upto fnWorldGrowSpec)) fnWorldGrowUptoCard

/-- THE SECOND FORM's CARD OF 'laws.FnWorldHeadTwice'. -/
def fnWorldHeadTwiceUptoCard : Claim7 := { stood := { row := fnWorldHeadTwiceUptoRow, standIns := [], harness := (true, "e463ed5b8b2ed493bce72ecf2fb0fd5fa54a81d43763b8464c459a5930124511"), looks := true }, kinds := [], alts := [], laidByText := true, laidKinds := [.handle], laidTests := true, laidLooks := .later }
def FnWorldHeadTwiceUptoCardSaid : Prop := Claim7.holds Tryz.pinned (.plain (OpenSpec.upto fnWorldHeadTwiceSpec)) fnWorldHeadTwiceUptoCard

/-- THE SECOND FORM's CARD OF 'laws.FnWorldKeeps'. -/
def fnWorldKeepsUptoCard : Claim7 := { stood := { row := fnWorldKeepsUptoRow, standIns := [], harness := (true, "e463ed5b8b2ed493bce72ecf2fb0fd5fa54a81d43763b8464c459a5930124511"), looks := true }, kinds := [], alts := [], laidByText := true, laidKinds := [.handle], laidTests := true, laidLooks := .later }
def FnWorldKeepsUptoCardSaid : Prop := Claim7.holds Tryz.pinned (.plain (OpenSpec.upto fnWorldKeepsSpec)) fnWorldKeepsUptoCard

/-- THE SECOND FORM's CARD OF 'laws.FnWorldKeepsBlocks'. -/
def fnWorldKeepsBlocksUptoCard : Claim7 := { stood := { row := fnWorldKeepsBlocksUptoRow, standIns := [], harness := (true, "e463ed5b8b2ed493bce72ecf2fb0fd5fa54a81d43763b8464c459a5930124511"), looks := true }, kinds := [], alts := [], laidByText := true, laidKinds := [.handle], laidTests := true, laidLooks := .later }
def FnWorldKeepsBlocksUptoCardSaid : Prop := Claim7.holds Tryz.pinned (.plain (OpenSpec.upto fnWorldKeepsBlocksSpec)) fnWorldKeepsBlocksUptoCard

/-- THE SECOND FORM's CARD OF 'laws.FnWorldLose'. -/
def fnWorldLoseUptoCard : Claim7 := { stood := { row := fnWorldLoseUptoRow, standIns := [], harness := (true, "e463ed5b8b2ed493bce72ecf2fb0fd5fa54a81d43763b8464c459a5930124511"), looks := true }, kinds := [], alts := [], laidByText := true, laidKinds := [.handle], laidTests := true, laidLooks := .later }
def FnWorldLoseUptoCardSaid : Prop := Claim7.holds Tryz.pinned (.plain (OpenSpec.upto fnWorldLoseSpec)) fnWorldLoseUptoCard

/-- THE SECOND FORM's CARD OF 'laws.FnWorldOthers'. -/
def fnWorldOthersUptoCard : Claim7 := { stood := { row := fnWorldOthersUptoRow, standIns := [], harness := (true, "e463ed5b8b2ed493bce72ecf2fb0fd5fa54a81d43763b8464c459a5930124511"), looks := true }, kinds := [], alts := [], laidByText := true, laidKinds := [.handle], laidTests := true, laidLooks := .later }
def FnWorldOthersUptoCardSaid : Prop := Claim7.holds Tryz.pinned (.plain (OpenSpec.upto fnWorldOthersSpec)) fnWorldOthersUptoCard
end Rows
end Go.Proofs.YtcnpmbdkcflboaaGreatDoor
