/-
  DERIVED. GIVEN WITH THE SEED: THE CARDS: each row of YtpeiomhgaembaaaDoorRows.lean that lists a variable, with what it lists TIED to the program's text (the seventh form; the later family's looks); each row that meets fmt, with fmt's text TOLD by the authors' own Lean function (tested against real Go, not proved from fmt's source: count such statements apart). THE CARD IS WHAT COUNTS. Prove the row's statement (the work); the ties are given (YtpeiomhgaembaaaDoorTie.lean); close each card by the builder's one call (the guide's Derived/Test/ToyasCard.lean, 'card_holds'). Laid BY PROGRAM, IN A SANDBOX (cutbox-door.mjs). By AI agents, Wed Nov 11 2026. No macro, syntax, notation, axiom, sorry.
-/
import Derived.Test.YtpeiomhgaembaaaDoorRows
import GoSem.ClaimSeven
namespace Go.Proofs.YtpeiomhgaembaaaDoor
namespace Rows

/-- THE TIED CARD OF 'smithyardlaw8.WireBatchesHoldAll'. -/
def wireBatchesHoldAllCard : Claim7 := { stood := { row := wireBatchesHoldAllRow, standIns := [], harness := (true, "e39929bad2eab1783ee56fd07625803768cd0b14b7dff25f9ddf956a9ecc1117"), looks := false }, kinds := [], alts := [], laidByText := true, laidKinds := [.data, .pinned], laidTests := true, laidLooks := .later }
def WireBatchesHoldAllCardSaid : Prop := Claim7.holds Tryd.pinned (.plain (OpenSpec.ofChange wireBatchesHoldAllSpec)) wireBatchesHoldAllCard

/-- THE TIED CARD OF 'smithyardlaw8.WireMessagesMatchSpec'. -/
def wireMessagesMatchSpecCard : Claim7 := { stood := { row := wireMessagesMatchSpecRow, standIns := [], harness := (true, "e39929bad2eab1783ee56fd07625803768cd0b14b7dff25f9ddf956a9ecc1117"), looks := false }, kinds := [], alts := [], laidByText := true, laidKinds := [.data, .pinned], laidTests := true, laidLooks := .later }
def WireMessagesMatchSpecCardSaid : Prop := Claim7.holds Tryd.pinned (.plain (OpenSpec.ofChange wireMessagesMatchSpecSpec)) wireMessagesMatchSpecCard

/-- THE TIED CARD OF 'smithyardlaw8.WireWantedMatchesSpec'. -/
def wireWantedMatchesSpecCard : Claim7 := { stood := { row := wireWantedMatchesSpecRow, standIns := [], harness := (true, "e39929bad2eab1783ee56fd07625803768cd0b14b7dff25f9ddf956a9ecc1117"), looks := false }, kinds := [], alts := [], laidByText := true, laidKinds := [.data, .pinned], laidTests := true, laidLooks := .later }
def WireWantedMatchesSpecCardSaid : Prop := Claim7.holds Tryd.pinned (.plain (OpenSpec.ofChange wireWantedMatchesSpecSpec)) wireWantedMatchesSpecCard

/-- THE TIED CARD OF 'smithyardlaw8.WireFeedMatchesSpec'. -/
def wireFeedMatchesSpecCard : Claim7 := { stood := { row := wireFeedMatchesSpecRow, standIns := [], harness := (true, "e39929bad2eab1783ee56fd07625803768cd0b14b7dff25f9ddf956a9ecc1117"), looks := false }, kinds := [], alts := [], laidByText := true, laidKinds := [.data, .pinned], laidTests := true, laidLooks := .later }
def WireFeedMatchesSpecCardSaid : Prop := Claim7.holds Tryd.pinned (.plain (OpenSpec.ofChange wireFeedMatchesSpecSpec)) wireFeedMatchesSpecCard

/-- THE TIED CARD OF 'smithyardlaw8.WireFramesMatchSpec'. -/
def wireFramesMatchSpecCard : Claim7 := { stood := { row := wireFramesMatchSpecRow, standIns := [], harness := (true, "e39929bad2eab1783ee56fd07625803768cd0b14b7dff25f9ddf956a9ecc1117"), looks := false }, kinds := [], alts := [], laidByText := true, laidKinds := [.data, .pinned], laidTests := true, laidLooks := .later }
def WireFramesMatchSpecCardSaid : Prop := Claim7.holds Tryd.pinned (.plain (OpenSpec.ofChange wireFramesMatchSpecSpec)) wireFramesMatchSpecCard

/-- THE TIED CARD OF 'smithyardlaw8.WireFeedInPieces'. -/
def wireFeedInPiecesCard : Claim7 := { stood := { row := wireFeedInPiecesRow, standIns := [], harness := (true, "e39929bad2eab1783ee56fd07625803768cd0b14b7dff25f9ddf956a9ecc1117"), looks := false }, kinds := [], alts := [], laidByText := true, laidKinds := [.data, .pinned], laidTests := true, laidLooks := .later }
def WireFeedInPiecesCardSaid : Prop := Claim7.holds Tryd.pinned (.plain (OpenSpec.ofChange wireFeedInPiecesSpec)) wireFeedInPiecesCard

/-- THE TIED CARD OF 'smithyardlaw8.WireTakesAgain'. -/
def wireTakesAgainCard : Claim7 := { stood := { row := wireTakesAgainRow, standIns := [], harness := (true, "e39929bad2eab1783ee56fd07625803768cd0b14b7dff25f9ddf956a9ecc1117"), looks := false }, kinds := [], alts := [], laidByText := true, laidKinds := [.data, .pinned], laidTests := true, laidLooks := .later }
def WireTakesAgainCardSaid : Prop := Claim7.holds Tryd.pinned (.plain (OpenSpec.ofChange wireTakesAgainSpec)) wireTakesAgainCard

/-- THE TIED CARD OF 'smithyardlaw8.WireTakesStayRight'. -/
def wireTakesStayRightCard : Claim7 := { stood := { row := wireTakesStayRightRow, standIns := [], harness := (true, "e39929bad2eab1783ee56fd07625803768cd0b14b7dff25f9ddf956a9ecc1117"), looks := false }, kinds := [], alts := [], laidByText := true, laidKinds := [.data, .pinned], laidTests := true, laidLooks := .later }
def WireTakesStayRightCardSaid : Prop := Claim7.holds Tryd.pinned (.plain (OpenSpec.ofChange wireTakesStayRightSpec)) wireTakesStayRightCard

/-- THE TIED CARD OF 'smithyardlaw8.WireMessagesArrive'. -/
def wireMessagesArriveCard : Claim7 := { stood := { row := wireMessagesArriveRow, standIns := [], harness := (true, "e39929bad2eab1783ee56fd07625803768cd0b14b7dff25f9ddf956a9ecc1117"), looks := false }, kinds := [], alts := [], laidByText := true, laidKinds := [.data, .pinned], laidTests := true, laidLooks := .later }
def WireMessagesArriveCardSaid : Prop := Claim7.holds Tryd.pinned (.plain (OpenSpec.ofChange wireMessagesArriveSpec)) wireMessagesArriveCard

/-- THE TIED CARD OF 'smithyardlaw8.WireTakesMatchSpec'. -/
def wireTakesMatchSpecCard : Claim7 := { stood := { row := wireTakesMatchSpecRow, standIns := [], harness := (true, "e39929bad2eab1783ee56fd07625803768cd0b14b7dff25f9ddf956a9ecc1117"), looks := false }, kinds := [], alts := [], laidByText := true, laidKinds := [.data, .pinned], laidTests := true, laidLooks := .later }
def WireTakesMatchSpecCardSaid : Prop := Claim7.holds Tryd.pinned (.plain (OpenSpec.ofChange wireTakesMatchSpecSpec)) wireTakesMatchSpecCard

/-- THE TIED CARD OF 'smithyardlaw8.WireDeliversArrive'. -/
def wireDeliversArriveCard : Claim7 := { stood := { row := wireDeliversArriveRow, standIns := [], harness := (true, "e39929bad2eab1783ee56fd07625803768cd0b14b7dff25f9ddf956a9ecc1117"), looks := false }, kinds := [], alts := [], laidByText := true, laidKinds := [.data, .pinned], laidTests := true, laidLooks := .later }
def WireDeliversArriveCardSaid : Prop := Claim7.holds Tryd.pinned (.plain (OpenSpec.ofChange wireDeliversArriveSpec)) wireDeliversArriveCard

/-- THE TIED CARD OF 'smithyardlaw8.WireDeliversMatchSpec'. -/
def wireDeliversMatchSpecCard : Claim7 := { stood := { row := wireDeliversMatchSpecRow, standIns := [], harness := (true, "e39929bad2eab1783ee56fd07625803768cd0b14b7dff25f9ddf956a9ecc1117"), looks := false }, kinds := [], alts := [], laidByText := true, laidKinds := [.data, .pinned], laidTests := true, laidLooks := .later }
def WireDeliversMatchSpecCardSaid : Prop := Claim7.holds Tryd.pinned (.plain (OpenSpec.ofChange wireDeliversMatchSpecSpec)) wireDeliversMatchSpecCard

/-- THE TIED CARD OF 'smithyardlaw8.WireResultsAreNew'. -/
def wireResultsAreNewCard : Claim7 := { stood := { row := wireResultsAreNewRow, standIns := [], harness := (true, "e39929bad2eab1783ee56fd07625803768cd0b14b7dff25f9ddf956a9ecc1117"), looks := false }, kinds := [], alts := [], laidByText := true, laidKinds := [.data, .pinned], laidTests := true, laidLooks := .later }
def WireResultsAreNewCardSaid : Prop := Claim7.holds Tryd.pinned (.plain (OpenSpec.ofChange wireResultsAreNewSpec)) wireResultsAreNewCard

/-- THE SECOND FORM's CARD OF 'smithyardlaw8.WireBatchesHoldAll'. -/
def wireBatchesHoldAllUptoCard : Claim7 := { stood := { row := wireBatchesHoldAllUptoRow, standIns := [], harness := (true, "e39929bad2eab1783ee56fd07625803768cd0b14b7dff25f9ddf956a9ecc1117"), looks := false }, kinds := [], alts := [], laidByText := true, laidKinds := [.data, .pinned], laidTests := true, laidLooks := .later }
def WireBatchesHoldAllUptoCardSaid : Prop := Claim7.holds Tryd.pinned (.plain (OpenSpec.upto wireBatchesHoldAllSpec)) wireBatchesHoldAllUptoCard

/-- THE SECOND FORM's CARD OF 'smithyardlaw8.WireMessagesMatchSpec'. -/
def wireMessagesMatchSpecUptoCard : Claim7 := { stood := { row := wireMessagesMatchSpecUptoRow, standIns := [], harness := (true, "e39929bad2eab1783ee56fd07625803768cd0b14b7dff25f9ddf956a9ecc1117"), looks := false }, kinds := [], alts := [], laidByText := true, laidKinds := [.data, .pinned], laidTests := true, laidLooks := .later }
def WireMessagesMatchSpecUptoCardSaid : Prop := Claim7.holds Tryd.pinned (.plain (OpenSpec.upto wireMessagesMatchSpecSpec)) wireMessagesMatchSpecUptoCard

/-- THE SECOND FORM's CARD OF 'smithyardlaw8.WireWantedMatchesSpec'. -/
def wireWantedMatchesSpecUptoCard : Claim7 := { stood := { row := wireWantedMatchesSpecUptoRow, standIns := [], harness := (true, "e39929bad2eab1783ee56fd07625803768cd0b14b7dff25f9ddf956a9ecc1117"), looks := false }, kinds := [], alts := [], laidByText := true, laidKinds := [.data, .pinned], laidTests := true, laidLooks := .later }
def WireWantedMatchesSpecUptoCardSaid : Prop := Claim7.holds Tryd.pinned (.plain (OpenSpec.upto wireWantedMatchesSpecSpec)) wireWantedMatchesSpecUptoCard

/-- THE SECOND FORM's CARD OF 'smithyardlaw8.WireFeedMatchesSpec'. -/
def wireFeedMatchesSpecUptoCard : Claim7 := { stood := { row := wireFeedMatchesSpecUptoRow, standIns := [], harness := (true, "e39929bad2eab1783ee56fd07625803768cd0b14b7dff25f9ddf956a9ecc1117"), looks := false }, kinds := [], alts := [], laidByText := true, laidKinds := [.data, .pinned], laidTests := true, laidLooks := .later }
def WireFeedMatchesSpecUptoCardSaid : Prop := Claim7.holds Tryd.pinned (.plain (OpenSpec.upto wireFeedMatchesSpecSpec)) wireFeedMatchesSpecUptoCard

/-- THE SECOND FORM's CARD OF 'smithyardlaw8.WireFramesMatchSpec'. -/
def wireFramesMatchSpecUptoCard : Claim7 := { stood := { row := wireFramesMatchSpecUptoRow, standIns := [], harness := (true, "e39929bad2eab1783ee56fd07625803768cd0b14b7dff25f9ddf956a9ecc1117"), looks := false }, kinds := [], alts := [], laidByText := true, laidKinds := [.data, .pinned], laidTests := true, laidLooks := .later }
def WireFramesMatchSpecUptoCardSaid : Prop := Claim7.holds Tryd.pinned (.plain (OpenSpec.upto wireFramesMatchSpecSpec)) wireFramesMatchSpecUptoCard

/-- THE SECOND FORM's CARD OF 'smithyardlaw8.WireFeedInPieces'. -/
def wireFeedInPiecesUptoCard : Claim7 := { stood := { row := wireFeedInPiecesUptoRow, standIns := [], harness := (true, "e39929bad2eab1783ee56fd07625803768cd0b14b7dff25f9ddf956a9ecc1117"), looks := false }, kinds := [], alts := [], laidByText := true, laidKinds := [.data, .pinned], laidTests := true, laidLooks := .later }
def WireFeedInPiecesUptoCardSaid : Prop := Claim7.holds Tryd.pinned (.plain (OpenSpec.upto wireFeedInPiecesSpec)) wireFeedInPiecesUptoCard

/-- THE SECOND FORM's CARD OF 'smithyardlaw8.WireTakesAgain'. -/
def wireTakesAgainUptoCard : Claim7 := { stood := { row := wireTakesAgainUptoRow, standIns := [], harness := (true, "e39929bad2eab1783ee56fd07625803768cd0b14b7dff25f9ddf956a9ecc1117"), looks := false }, kinds := [], alts := [], laidByText := true, laidKinds := [.data, .pinned], laidTests := true, laidLooks := .later }
def WireTakesAgainUptoCardSaid : Prop := Claim7.holds Tryd.pinned (.plain (OpenSpec.upto wireTakesAgainSpec)) wireTakesAgainUptoCard

/-- THE SECOND FORM's CARD OF 'smithyardlaw8.WireTakesStayRight'. -/
def wireTakesStayRightUptoCard : Claim7 := { stood := { row := wireTakesStayRightUptoRow, standIns := [], harness := (true, "e39929bad2eab1783ee56fd07625803768cd0b14b7dff25f9ddf956a9ecc1117"), looks := false }, kinds := [], alts := [], laidByText := true, laidKinds := [.data, .pinned], laidTests := true, laidLooks := .later }
def WireTakesStayRightUptoCardSaid : Prop := Claim7.holds Tryd.pinned (.plain (OpenSpec.upto wireTakesStayRightSpec)) wireTakesStayRightUptoCard

/-- THE SECOND FORM's CARD OF 'smithyardlaw8.WireMessagesArrive'. -/
def wireMessagesArriveUptoCard : Claim7 := { stood := { row := wireMessagesArriveUptoRow, standIns := [], harness := (true, "e39929bad2eab1783ee56fd07625803768cd0b14b7dff25f9ddf956a9ecc1117"), looks := false }, kinds := [], alts := [], laidByText := true, laidKinds := [.data, .pinned], laidTests := true, laidLooks := .later }
def WireMessagesArriveUptoCardSaid : Prop := Claim7.holds Tryd.pinned (.plain (OpenSpec.upto wireMessagesArriveSpec)) wireMessagesArriveUptoCard

/-- THE SECOND FORM's CARD OF 'smithyardlaw8.WireTakesMatchSpec'. -/
def wireTakesMatchSpecUptoCard : Claim7 := { stood := { row := wireTakesMatchSpecUptoRow, standIns := [], harness := (true, "e39929bad2eab1783ee56fd07625803768cd0b14b7dff25f9ddf956a9ecc1117"), looks := false }, kinds := [], alts := [], laidByText := true, laidKinds := [.data, .pinned], laidTests := true, laidLooks := .later }
def WireTakesMatchSpecUptoCardSaid : Prop := Claim7.holds Tryd.pinned (.plain (OpenSpec.upto wireTakesMatchSpecSpec)) wireTakesMatchSpecUptoCard

/-- THE SECOND FORM's CARD OF 'smithyardlaw8.WireDeliversArrive'. -/
def wireDeliversArriveUptoCard : Claim7 := { stood := { row := wireDeliversArriveUptoRow, standIns := [], harness := (true, "e39929bad2eab1783ee56fd07625803768cd0b14b7dff25f9ddf956a9ecc1117"), looks := false }, kinds := [], alts := [], laidByText := true, laidKinds := [.data, .pinned], laidTests := true, laidLooks := .later }
def WireDeliversArriveUptoCardSaid : Prop := Claim7.holds Tryd.pinned (.plain (OpenSpec.upto wireDeliversArriveSpec)) wireDeliversArriveUptoCard

/-- THE SECOND FORM's CARD OF 'smithyardlaw8.WireDeliversMatchSpec'. -/
def wireDeliversMatchSpecUptoCard : Claim7 := { stood := { row := wireDeliversMatchSpecUptoRow, standIns := [], harness := (true, "e39929bad2eab1783ee56fd07625803768cd0b14b7dff25f9ddf956a9ecc1117"), looks := false }, kinds := [], alts := [], laidByText := true, laidKinds := [.data, .pinned], laidTests := true, laidLooks := .later }
def WireDeliversMatchSpecUptoCardSaid : Prop := Claim7.holds Tryd.pinned (.plain (OpenSpec.upto wireDeliversMatchSpecSpec)) wireDeliversMatchSpecUptoCard

/-- THE SECOND FORM's CARD OF 'smithyardlaw8.WireResultsAreNew'. -/
def wireResultsAreNewUptoCard : Claim7 := { stood := { row := wireResultsAreNewUptoRow, standIns := [], harness := (true, "e39929bad2eab1783ee56fd07625803768cd0b14b7dff25f9ddf956a9ecc1117"), looks := false }, kinds := [], alts := [], laidByText := true, laidKinds := [.data, .pinned], laidTests := true, laidLooks := .later }
def WireResultsAreNewUptoCardSaid : Prop := Claim7.holds Tryd.pinned (.plain (OpenSpec.upto wireResultsAreNewSpec)) wireResultsAreNewUptoCard
end Rows
end Go.Proofs.YtpeiomhgaembaaaDoor
