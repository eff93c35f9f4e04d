/-
  DERIVED. GIVEN WITH THE SEED: THE CARDS: each row of YtekaaekpdebloaaGreatDoorRows.lean that lists a variable, with what it lists TIED to the program's text (the seventh form; the later family's looks); each row that meets fmt, with fmt's text TOLD by the authors' own Lean function (tested against real Go, not proved from fmt's source: count such statements apart). THE CARD IS WHAT COUNTS. Prove the row's statement (the work); the ties are given (YtekaaekpdebloaaGreatDoorTie.lean); close each card by the builder's one call (the guide's Derived/Test/ToyasCard.lean, 'card_holds'). Laid BY PROGRAM, IN A SANDBOX (cutbox-door.mjs). By AI agents, Wed Nov 11 2026. No macro, syntax, notation, axiom, sorry.
-/
import Derived.Test.YtekaaekpdebloaaGreatDoorRows
import GoSem.ClaimSeven
namespace Go.Proofs.YtekaaekpdebloaaGreatDoor
namespace Rows

/-- THE TIED CARD OF 'laws.FnWorldUnknown'. -/
def fnWorldUnknownCard : Claim7 := { stood := { row := fnWorldUnknownRow, standIns := [], harness := (true, "ebcbf37d782a0f13982e371d40bb5f38313c12a74d0900608be79593cce21fe8"), looks := true }, kinds := [], alts := [], laidByText := true, laidKinds := [.handle], laidTests := true, laidLooks := .later }
def FnWorldUnknownCardSaid : Prop := Claim7.holds Tryz.pinned (.plain (OpenSpec.ofChange fnWorldUnknownSpec)) fnWorldUnknownCard

/-- THE TIED CARD OF 'laws.FnWorldTrueCalm'. -/
def fnWorldTrueCalmCard : Claim7 := { stood := { row := fnWorldTrueCalmRow, standIns := [], harness := (true, "ebcbf37d782a0f13982e371d40bb5f38313c12a74d0900608be79593cce21fe8"), looks := true }, kinds := [], alts := [], laidByText := true, laidKinds := [.handle], laidTests := true, laidLooks := .later }
def FnWorldTrueCalmCardSaid : Prop := Claim7.holds Tryz.pinned (.plain (OpenSpec.ofChange fnWorldTrueCalmSpec)) fnWorldTrueCalmCard

/-- THE TIED CARD OF 'laws.FnWorldAsk'. -/
def fnWorldAskCard : Claim7 := { stood := { row := fnWorldAskRow, standIns := [], harness := (true, "ebcbf37d782a0f13982e371d40bb5f38313c12a74d0900608be79593cce21fe8"), looks := true }, kinds := [], alts := [], laidByText := true, laidKinds := [.handle], laidTests := true, laidLooks := .later }
def FnWorldAskCardSaid : Prop := Claim7.holds Tryz.pinned (.plain (OpenSpec.ofChange fnWorldAskSpec)) fnWorldAskCard

/-- THE TIED CARD OF 'laws.FnWorldHead'. -/
def fnWorldHeadCard : Claim7 := { stood := { row := fnWorldHeadRow, standIns := [], harness := (true, "ebcbf37d782a0f13982e371d40bb5f38313c12a74d0900608be79593cce21fe8"), looks := true }, kinds := [], alts := [], laidByText := true, laidKinds := [.handle], laidTests := true, laidLooks := .later }
def FnWorldHeadCardSaid : Prop := Claim7.holds Tryz.pinned (.plain (OpenSpec.ofChange fnWorldHeadSpec)) fnWorldHeadCard

/-- THE TIED CARD OF 'laws.FnWorldLink'. -/
def fnWorldLinkCard : Claim7 := { stood := { row := fnWorldLinkRow, standIns := [], harness := (true, "ebcbf37d782a0f13982e371d40bb5f38313c12a74d0900608be79593cce21fe8"), looks := true }, kinds := [], alts := [], laidByText := true, laidKinds := [.handle], laidTests := true, laidLooks := .later }
def FnWorldLinkCardSaid : Prop := Claim7.holds Tryz.pinned (.plain (OpenSpec.ofChange fnWorldLinkSpec)) fnWorldLinkCard

/-- THE TIED CARD OF 'laws.FnWorldWrong'. -/
def fnWorldWrongCard : Claim7 := { stood := { row := fnWorldWrongRow, standIns := [], harness := (true, "ebcbf37d782a0f13982e371d40bb5f38313c12a74d0900608be79593cce21fe8"), looks := true }, kinds := [], alts := [], laidByText := true, laidKinds := [.handle], laidTests := true, laidLooks := .later }
def FnWorldWrongCardSaid : Prop := Claim7.holds Tryz.pinned (.plain (OpenSpec.ofChange fnWorldWrongSpec)) fnWorldWrongCard

/-- THE TIED CARD OF 'laws.FnWorldDeliver'. -/
def fnWorldDeliverCard : Claim7 := { stood := { row := fnWorldDeliverRow, standIns := [], harness := (true, "ebcbf37d782a0f13982e371d40bb5f38313c12a74d0900608be79593cce21fe8"), looks := true }, kinds := [], alts := [], laidByText := true, laidKinds := [.handle], laidTests := true, laidLooks := .later }
def FnWorldDeliverCardSaid : Prop := Claim7.holds Tryz.pinned (.plain (OpenSpec.ofChange fnWorldDeliverSpec)) fnWorldDeliverCard

/-- THE TIED CARD OF 'laws.FnWorldPlay'. -/
def fnWorldPlayCard : Claim7 := { stood := { row := fnWorldPlayRow, standIns := [], harness := (true, "ebcbf37d782a0f13982e371d40bb5f38313c12a74d0900608be79593cce21fe8"), looks := true }, kinds := [], alts := [], laidByText := true, laidKinds := [.handle], laidTests := true, laidLooks := .later }
def FnWorldPlayCardSaid : Prop := Claim7.holds Tryz.pinned (.plain (OpenSpec.ofChange fnWorldPlaySpec)) fnWorldPlayCard

/-- THE TIED CARD OF 'laws.FnWorldInvalid'. -/
def fnWorldInvalidCard : Claim7 := { stood := { row := fnWorldInvalidRow, standIns := [], harness := (true, "ebcbf37d782a0f13982e371d40bb5f38313c12a74d0900608be79593cce21fe8"), looks := true }, kinds := [], alts := [], laidByText := true, laidKinds := [.handle], laidTests := true, laidLooks := .later }
def FnWorldInvalidCardSaid : Prop := Claim7.holds Tryz.pinned (.plain (OpenSpec.ofChange fnWorldInvalidSpec)) fnWorldInvalidCard

/-- THE TIED CARD OF 'laws.FnExactWorldDo'. -/
def fnExactWorldDoCard : Claim7 := { stood := { row := fnExactWorldDoRow, standIns := [], harness := (true, "ebcbf37d782a0f13982e371d40bb5f38313c12a74d0900608be79593cce21fe8"), looks := true }, kinds := [], alts := [], laidByText := true, laidKinds := [.handle], laidTests := true, laidLooks := .later }
def FnExactWorldDoCardSaid : Prop := Claim7.holds Tryz.pinned (.plain (OpenSpec.ofChange fnExactWorldDoSpec)) fnExactWorldDoCard

/-- THE TIED CARD OF 'laws.FnExactWorldPlay'. -/
def fnExactWorldPlayCard : Claim7 := { stood := { row := fnExactWorldPlayRow, standIns := [], harness := (true, "ebcbf37d782a0f13982e371d40bb5f38313c12a74d0900608be79593cce21fe8"), looks := true }, kinds := [], alts := [], laidByText := true, laidKinds := [.handle], laidTests := true, laidLooks := .later }
def FnExactWorldPlayCardSaid : Prop := Claim7.holds Tryz.pinned (.plain (OpenSpec.ofChange fnExactWorldPlaySpec)) fnExactWorldPlayCard

/-- THE SECOND FORM's CARD OF 'laws.FnWorldUnknown'. -/
def fnWorldUnknownUptoCard : Claim7 := { stood := { row := fnWorldUnknownUptoRow, standIns := [], harness := (true, "ebcbf37d782a0f13982e371d40bb5f38313c12a74d0900608be79593cce21fe8"), looks := true }, kinds := [], alts := [], laidByText := true, laidKinds := [.handle], laidTests := true, laidLooks := .later }
def FnWorldUnknownUptoCardSaid : Prop := Claim7.holds Tryz.pinned (.plain (OpenSpec.upto fnWorldUnknownSpec)) fnWorldUnknownUptoCard

/-- THE SECOND FORM's CARD OF 'laws.FnWorldTrueCalm'. -/
def fnWorldTrueCalmUptoCard : Claim7 := { stood := { row := fnWorldTrueCalmUptoRow, standIns := [], harness := (true, "ebcbf37d782a0f13982e371d40bb5f38313c12a74d0900608be79593cce21fe8"), looks := true }, kinds := [], alts := [], laidByText := true, laidKinds := [.handle], laidTests := true, laidLooks := .later }
def FnWorldTrueCalmUptoCardSaid : Prop := Claim7.holds Tryz.pinned (.plain (OpenSpec.upto fnWorldTrueCalmSpec)) fnWorldTrueCalmUptoCard

/-- THE SECOND FORM's CARD OF 'laws.FnWorldAsk'. -/
def fnWorldAskUptoCard : Claim7 := { stood := { row := fnWorldAskUptoRow, standIns := [], harness := (true, "ebcbf37d782a0f13982e371d40bb5f38313c12a74d0900608be79593cce21fe8"), looks := true }, kinds := [], alts := [], laidByText := true, laidKinds := [.handle], laidTests := true, laidLooks := .later }
def FnWorldAskUptoCardSaid : Prop := Claim7.holds Tryz.pinned (.plain (OpenSpec.upto fnWorldAskSpec)) fnWorldAskUptoCard

/-- THE SECOND FORM's CARD OF 'laws.FnWorldHead'. -/
def fnWorldHeadUptoCard : Claim7 := { stood := { row := fnWorldHeadUptoRow, standIns := [], harness := (true, "ebcbf37d782a0f13982e371d40bb5f38313c12a74d0900608be79593cce21fe8"), looks := true }, kinds := [], alts := [], laidByText := true, laidKinds := [.handle], laidTests := true, laidLooks := .later }
def FnWorldHeadUptoCardSaid : Prop := Claim7.holds Tryz.pinned (.plain (OpenSpec.upto fnWorldHeadSpec)) fnWorldHeadUptoCard

/-- THE SECOND FORM's CARD OF 'laws.FnWorldLink'. -/
def fnWorldLinkUptoCard : Claim7 := { stood := { row := fnWorldLinkUptoRow, standIns := [], harness := (true, "ebcbf37d782a0f13982e371d40bb5f38313c12a74d0900608be79593cce21fe8"), looks := true }, kinds := [], alts := [], laidByText := true, laidKinds := [.handle], laidTests := true, laidLooks := .later }
def FnWorldLinkUptoCardSaid : Prop := Claim7.holds Tryz.pinned (.plain (OpenSpec.upto fnWorldLinkSpec)) fnWorldLinkUptoCard

/-- THE SECOND FORM's CARD OF 'laws.FnWorldWrong'. -/
def fnWorldWrongUptoCard : Claim7 := { stood := { row := fnWorldWrongUptoRow, standIns := [], harness := (true, "ebcbf37d782a0f13982e371d40bb5f38313c12a74d0900608be79593cce21fe8"), looks := true }, kinds := [], alts := [], laidByText := true, laidKinds := [.handle], laidTests := true, laidLooks := .later }
def FnWorldWrongUptoCardSaid : Prop := Claim7.holds Tryz.pinned (.plain (OpenSpec.upto fnWorldWrongSpec)) fnWorldWrongUptoCard

/-- THE SECOND FORM's CARD OF 'laws.FnWorldDeliver'. -/
def fnWorldDeliverUptoCard : Claim7 := { stood := { row := fnWorldDeliverUptoRow, standIns := [], harness := (true, "ebcbf37d782a0f13982e371d40bb5f38313c12a74d0900608be79593cce21fe8"), looks := true }, kinds := [], alts := [], laidByText := true, laidKinds := [.handle], laidTests := true, laidLooks := .later }
def FnWorldDeliverUptoCardSaid : Prop := Claim7.holds Tryz.pinned (.plain (OpenSpec.upto fnWorldDeliverSpec)) fnWorldDeliverUptoCard

/-- THE SECOND FORM's CARD OF 'laws.FnWorldPlay'. -/
def fnWorldPlayUptoCard : Claim7 := { stood := { row := fnWorldPlayUptoRow, standIns := [], harness := (true, "ebcbf37d782a0f13982e371d40bb5f38313c12a74d0900608be79593cce21fe8"), looks := true }, kinds := [], alts := [], laidByText := true, laidKinds := [.handle], laidTests := true, laidLooks := .later }
def FnWorldPlayUptoCardSaid : Prop := Claim7.holds Tryz.pinned (.plain (OpenSpec.upto fnWorldPlaySpec)) fnWorldPlayUptoCard

/-- THE SECOND FORM's CARD OF 'laws.FnWorldInvalid'. -/
def fnWorldInvalidUptoCard : Claim7 := { stood := { row := fnWorldInvalidUptoRow, standIns := [], harness := (true, "ebcbf37d782a0f13982e371d40bb5f38313c12a74d0900608be79593cce21fe8"), looks := true }, kinds := [], alts := [], laidByText := true, laidKinds := [.handle], laidTests := true, laidLooks := .later }
def FnWorldInvalidUptoCardSaid : Prop := Claim7.holds Tryz.pinned (.plain (OpenSpec.upto fnWorldInvalidSpec)) fnWorldInvalidUptoCard

/-- THE SECOND FORM's CARD OF 'laws.FnExactWorldDo'. -/
def fnExactWorldDoUptoCard : Claim7 := { stood := { row := fnExactWorldDoUptoRow, standIns := [], harness := (true, "ebcbf37d782a0f13982e371d40bb5f38313c12a74d0900608be79593cce21fe8"), looks := true }, kinds := [], alts := [], laidByText := true, laidKinds := [.handle], laidTests := true, laidLooks := .later }
def FnExactWorldDoUptoCardSaid : Prop := Claim7.holds Tryz.pinned (.plain (OpenSpec.upto fnExactWorldDoSpec)) fnExactWorldDoUptoCard

/-- THE SECOND FORM's CARD OF 'laws.FnExactWorldPlay'. -/
def fnExactWorldPlayUptoCard : Claim7 := { stood := { row := fnExactWorldPlayUptoRow, standIns := [], harness := (true, "ebcbf37d782a0f13982e371d40bb5f38313c12a74d0900608be79593cce21fe8"), looks := true }, kinds := [], alts := [], laidByText := true, laidKinds := [.handle], laidTests := true, laidLooks := .later }
def FnExactWorldPlayUptoCardSaid : Prop := Claim7.holds Tryz.pinned (.plain (OpenSpec.upto fnExactWorldPlaySpec)) fnExactWorldPlayUptoCard
end Rows
end Go.Proofs.YtekaaekpdebloaaGreatDoor
