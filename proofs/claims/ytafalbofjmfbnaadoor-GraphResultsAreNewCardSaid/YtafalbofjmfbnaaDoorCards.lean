/-
  DERIVED. GIVEN WITH THE SEED: THE CARDS: each row of YtafalbofjmfbnaaDoorRows.lean that lists a variable, with what it lists TIED to the program's text (the seventh form; the later family's looks); each row that meets fmt, with fmt's text TOLD by the authors' own Lean function (tested against real Go, not proved from fmt's source: count such statements apart). THE CARD IS WHAT COUNTS. Prove the row's statement (the work); the ties are given (YtafalbofjmfbnaaDoorTie.lean); close each card by the builder's one call (the guide's Derived/Test/ToyasCard.lean, 'card_holds'). Laid BY PROGRAM, IN A SANDBOX (cutbox-door.mjs). By AI agents, Wed Nov 11 2026. No macro, syntax, notation, axiom, sorry.
-/
import Derived.Test.YtafalbofjmfbnaaDoorRows
import GoSem.ClaimSeven
namespace Go.Proofs.YtafalbofjmfbnaaDoor
namespace Rows

/-- THE TIED CARD OF 'smithyardlaw4.GraphOrdersStand'. -/
def graphOrdersStandCard : Claim7 := { stood := { row := graphOrdersStandRow, standIns := [], harness := (true, "1092b4553f88940e8c582512ebac33dffa2401166445bdfd8d1fed2006d5252b"), looks := false }, kinds := [], alts := [], laidByText := true, laidKinds := [.data, .pinned], laidTests := true, laidLooks := .later }
def GraphOrdersStandCardSaid : Prop := Claim7.holds Tryd.pinned (.plain (OpenSpec.ofChange graphOrdersStandSpec)) graphOrdersStandCard

/-- THE TIED CARD OF 'smithyardlaw4.GraphLongestIsHeaviest'. -/
def graphLongestIsHeaviestCard : Claim7 := { stood := { row := graphLongestIsHeaviestRow, standIns := [], harness := (true, "1092b4553f88940e8c582512ebac33dffa2401166445bdfd8d1fed2006d5252b"), looks := false }, kinds := [], alts := [], laidByText := true, laidKinds := [.data, .pinned], laidTests := true, laidLooks := .later }
def GraphLongestIsHeaviestCardSaid : Prop := Claim7.holds Tryd.pinned (.plain (OpenSpec.ofChange graphLongestIsHeaviestSpec)) graphLongestIsHeaviestCard

/-- THE TIED CARD OF 'smithyardlaw4.GraphLoopsAreLoops'. -/
def graphLoopsAreLoopsCard : Claim7 := { stood := { row := graphLoopsAreLoopsRow, standIns := [], harness := (true, "1092b4553f88940e8c582512ebac33dffa2401166445bdfd8d1fed2006d5252b"), looks := false }, kinds := [], alts := [], laidByText := true, laidKinds := [.data, .pinned], laidTests := true, laidLooks := .later }
def GraphLoopsAreLoopsCardSaid : Prop := Claim7.holds Tryd.pinned (.plain (OpenSpec.ofChange graphLoopsAreLoopsSpec)) graphLoopsAreLoopsCard

/-- THE TIED CARD OF 'smithyardlaw4.GraphNeedsTurn'. -/
def graphNeedsTurnCard : Claim7 := { stood := { row := graphNeedsTurnRow, standIns := [], harness := (true, "1092b4553f88940e8c582512ebac33dffa2401166445bdfd8d1fed2006d5252b"), looks := false }, kinds := [], alts := [], laidByText := true, laidKinds := [.data, .pinned], laidTests := true, laidLooks := .later }
def GraphNeedsTurnCardSaid : Prop := Claim7.holds Tryd.pinned (.plain (OpenSpec.ofChange graphNeedsTurnSpec)) graphNeedsTurnCard

/-- THE TIED CARD OF 'smithyardlaw4.GraphOrdersMatchSpec'. -/
def graphOrdersMatchSpecCard : Claim7 := { stood := { row := graphOrdersMatchSpecRow, standIns := [], harness := (true, "1092b4553f88940e8c582512ebac33dffa2401166445bdfd8d1fed2006d5252b"), looks := false }, kinds := [], alts := [], laidByText := true, laidKinds := [.data, .pinned], laidTests := true, laidLooks := .later }
def GraphOrdersMatchSpecCardSaid : Prop := Claim7.holds Tryd.pinned (.plain (OpenSpec.ofChange graphOrdersMatchSpecSpec)) graphOrdersMatchSpecCard

/-- THE TIED CARD OF 'smithyardlaw4.GraphLoopsMatchSpec'. -/
def graphLoopsMatchSpecCard : Claim7 := { stood := { row := graphLoopsMatchSpecRow, standIns := [], harness := (true, "1092b4553f88940e8c582512ebac33dffa2401166445bdfd8d1fed2006d5252b"), looks := false }, kinds := [], alts := [], laidByText := true, laidKinds := [.data, .pinned], laidTests := true, laidLooks := .later }
def GraphLoopsMatchSpecCardSaid : Prop := Claim7.holds Tryd.pinned (.plain (OpenSpec.ofChange graphLoopsMatchSpecSpec)) graphLoopsMatchSpecCard

/-- THE TIED CARD OF 'smithyardlaw4.GraphAffectedMatchSpec'. -/
def graphAffectedMatchSpecCard : Claim7 := { stood := { row := graphAffectedMatchSpecRow, standIns := [], harness := (true, "1092b4553f88940e8c582512ebac33dffa2401166445bdfd8d1fed2006d5252b"), looks := false }, kinds := [], alts := [], laidByText := true, laidKinds := [.data, .pinned], laidTests := true, laidLooks := .later }
def GraphAffectedMatchSpecCardSaid : Prop := Claim7.holds Tryd.pinned (.plain (OpenSpec.ofChange graphAffectedMatchSpecSpec)) graphAffectedMatchSpecCard

/-- THE TIED CARD OF 'smithyardlaw4.GraphNeedsMatchSpec'. -/
def graphNeedsMatchSpecCard : Claim7 := { stood := { row := graphNeedsMatchSpecRow, standIns := [], harness := (true, "1092b4553f88940e8c582512ebac33dffa2401166445bdfd8d1fed2006d5252b"), looks := false }, kinds := [], alts := [], laidByText := true, laidKinds := [.data, .pinned], laidTests := true, laidLooks := .later }
def GraphNeedsMatchSpecCardSaid : Prop := Claim7.holds Tryd.pinned (.plain (OpenSpec.ofChange graphNeedsMatchSpecSpec)) graphNeedsMatchSpecCard

/-- THE TIED CARD OF 'smithyardlaw4.GraphWaysMatchSpec'. -/
def graphWaysMatchSpecCard : Claim7 := { stood := { row := graphWaysMatchSpecRow, standIns := [], harness := (true, "1092b4553f88940e8c582512ebac33dffa2401166445bdfd8d1fed2006d5252b"), looks := false }, kinds := [], alts := [], laidByText := true, laidKinds := [.data, .pinned], laidTests := true, laidLooks := .later }
def GraphWaysMatchSpecCardSaid : Prop := Claim7.holds Tryd.pinned (.plain (OpenSpec.ofChange graphWaysMatchSpecSpec)) graphWaysMatchSpecCard

/-- THE TIED CARD OF 'smithyardlaw4.GraphWaysAreWays'. -/
def graphWaysAreWaysCard : Claim7 := { stood := { row := graphWaysAreWaysRow, standIns := [], harness := (true, "1092b4553f88940e8c582512ebac33dffa2401166445bdfd8d1fed2006d5252b"), looks := false }, kinds := [], alts := [], laidByText := true, laidKinds := [.data, .pinned], laidTests := true, laidLooks := .later }
def GraphWaysAreWaysCardSaid : Prop := Claim7.holds Tryd.pinned (.plain (OpenSpec.ofChange graphWaysAreWaysSpec)) graphWaysAreWaysCard

/-- THE TIED CARD OF 'smithyardlaw4.GraphNeedlessCanGo'. -/
def graphNeedlessCanGoCard : Claim7 := { stood := { row := graphNeedlessCanGoRow, standIns := [], harness := (true, "1092b4553f88940e8c582512ebac33dffa2401166445bdfd8d1fed2006d5252b"), looks := false }, kinds := [], alts := [], laidByText := true, laidKinds := [.data, .pinned], laidTests := true, laidLooks := .later }
def GraphNeedlessCanGoCardSaid : Prop := Claim7.holds Tryd.pinned (.plain (OpenSpec.ofChange graphNeedlessCanGoSpec)) graphNeedlessCanGoCard

/-- THE TIED CARD OF 'smithyardlaw4.GraphResultsAreNew'. -/
def graphResultsAreNewCard : Claim7 := { stood := { row := graphResultsAreNewRow, standIns := [], harness := (true, "1092b4553f88940e8c582512ebac33dffa2401166445bdfd8d1fed2006d5252b"), looks := false }, kinds := [], alts := [], laidByText := true, laidKinds := [.data, .pinned], laidTests := true, laidLooks := .later }
def GraphResultsAreNewCardSaid : Prop := Claim7.holds Tryd.pinned (.plain (OpenSpec.ofChange graphResultsAreNewSpec)) graphResultsAreNewCard

/-- THE TIED CARD OF 'smithyardlaw4.QueriesAreSets'. -/
def queriesAreSetsCard : Claim7 := { stood := { row := queriesAreSetsRow, standIns := [], harness := (true, "1092b4553f88940e8c582512ebac33dffa2401166445bdfd8d1fed2006d5252b"), looks := false }, kinds := [], alts := [], laidByText := true, laidKinds := [.data, .pinned], laidTests := true, laidLooks := .later }
def QueriesAreSetsCardSaid : Prop := Claim7.holds Tryd.pinned (.plain (OpenSpec.ofChange queriesAreSetsSpec)) queriesAreSetsCard

/-- THE TIED CARD OF 'smithyardlaw4.GraphAffectedSpreads'. -/
def graphAffectedSpreadsCard : Claim7 := { stood := { row := graphAffectedSpreadsRow, standIns := [], harness := (true, "1092b4553f88940e8c582512ebac33dffa2401166445bdfd8d1fed2006d5252b"), looks := false }, kinds := [], alts := [], laidByText := true, laidKinds := [.data, .pinned], laidTests := true, laidLooks := .later }
def GraphAffectedSpreadsCardSaid : Prop := Claim7.holds Tryd.pinned (.plain (OpenSpec.ofChange graphAffectedSpreadsSpec)) graphAffectedSpreadsCard

/-- THE SECOND FORM's CARD OF 'smithyardlaw4.GraphOrdersStand'. -/
def graphOrdersStandUptoCard : Claim7 := { stood := { row := graphOrdersStandUptoRow, standIns := [], harness := (true, "1092b4553f88940e8c582512ebac33dffa2401166445bdfd8d1fed2006d5252b"), looks := false }, kinds := [], alts := [], laidByText := true, laidKinds := [.data, .pinned], laidTests := true, laidLooks := .later }
def GraphOrdersStandUptoCardSaid : Prop := Claim7.holds Tryd.pinned (.plain (OpenSpec.upto graphOrdersStandSpec)) graphOrdersStandUptoCard

/-- THE SECOND FORM's CARD OF 'smithyardlaw4.GraphLongestIsHeaviest'. -/
def graphLongestIsHeaviestUptoCard : Claim7 := { stood := { row := graphLongestIsHeaviestUptoRow, standIns := [], harness := (true, "1092b4553f88940e8c582512ebac33dffa2401166445bdfd8d1fed2006d5252b"), looks := false }, kinds := [], alts := [], laidByText := true, laidKinds := [.data, .pinned], laidTests := true, laidLooks := .later }
def GraphLongestIsHeaviestUptoCardSaid : Prop := Claim7.holds Tryd.pinned (.plain (OpenSpec.upto graphLongestIsHeaviestSpec)) graphLongestIsHeaviestUptoCard

/-- THE SECOND FORM's CARD OF 'smithyardlaw4.GraphLoopsAreLoops'. -/
def graphLoopsAreLoopsUptoCard : Claim7 := { stood := { row := graphLoopsAreLoopsUptoRow, standIns := [], harness := (true, "1092b4553f88940e8c582512ebac33dffa2401166445bdfd8d1fed2006d5252b"), looks := false }, kinds := [], alts := [], laidByText := true, laidKinds := [.data, .pinned], laidTests := true, laidLooks := .later }
def GraphLoopsAreLoopsUptoCardSaid : Prop := Claim7.holds Tryd.pinned (.plain (OpenSpec.upto graphLoopsAreLoopsSpec)) graphLoopsAreLoopsUptoCard

/-- THE SECOND FORM's CARD OF 'smithyardlaw4.GraphNeedsTurn'. -/
def graphNeedsTurnUptoCard : Claim7 := { stood := { row := graphNeedsTurnUptoRow, standIns := [], harness := (true, "1092b4553f88940e8c582512ebac33dffa2401166445bdfd8d1fed2006d5252b"), looks := false }, kinds := [], alts := [], laidByText := true, laidKinds := [.data, .pinned], laidTests := true, laidLooks := .later }
def GraphNeedsTurnUptoCardSaid : Prop := Claim7.holds Tryd.pinned (.plain (OpenSpec.upto graphNeedsTurnSpec)) graphNeedsTurnUptoCard

/-- THE SECOND FORM's CARD OF 'smithyardlaw4.GraphOrdersMatchSpec'. -/
def graphOrdersMatchSpecUptoCard : Claim7 := { stood := { row := graphOrdersMatchSpecUptoRow, standIns := [], harness := (true, "1092b4553f88940e8c582512ebac33dffa2401166445bdfd8d1fed2006d5252b"), looks := false }, kinds := [], alts := [], laidByText := true, laidKinds := [.data, .pinned], laidTests := true, laidLooks := .later }
def GraphOrdersMatchSpecUptoCardSaid : Prop := Claim7.holds Tryd.pinned (.plain (OpenSpec.upto graphOrdersMatchSpecSpec)) graphOrdersMatchSpecUptoCard

/-- THE SECOND FORM's CARD OF 'smithyardlaw4.GraphLoopsMatchSpec'. -/
def graphLoopsMatchSpecUptoCard : Claim7 := { stood := { row := graphLoopsMatchSpecUptoRow, standIns := [], harness := (true, "1092b4553f88940e8c582512ebac33dffa2401166445bdfd8d1fed2006d5252b"), looks := false }, kinds := [], alts := [], laidByText := true, laidKinds := [.data, .pinned], laidTests := true, laidLooks := .later }
def GraphLoopsMatchSpecUptoCardSaid : Prop := Claim7.holds Tryd.pinned (.plain (OpenSpec.upto graphLoopsMatchSpecSpec)) graphLoopsMatchSpecUptoCard

/-- THE SECOND FORM's CARD OF 'smithyardlaw4.GraphAffectedMatchSpec'. -/
def graphAffectedMatchSpecUptoCard : Claim7 := { stood := { row := graphAffectedMatchSpecUptoRow, standIns := [], harness := (true, "1092b4553f88940e8c582512ebac33dffa2401166445bdfd8d1fed2006d5252b"), looks := false }, kinds := [], alts := [], laidByText := true, laidKinds := [.data, .pinned], laidTests := true, laidLooks := .later }
def GraphAffectedMatchSpecUptoCardSaid : Prop := Claim7.holds Tryd.pinned (.plain (OpenSpec.upto graphAffectedMatchSpecSpec)) graphAffectedMatchSpecUptoCard

/-- THE SECOND FORM's CARD OF 'smithyardlaw4.GraphNeedsMatchSpec'. -/
def graphNeedsMatchSpecUptoCard : Claim7 := { stood := { row := graphNeedsMatchSpecUptoRow, standIns := [], harness := (true, "1092b4553f88940e8c582512ebac33dffa2401166445bdfd8d1fed2006d5252b"), looks := false }, kinds := [], alts := [], laidByText := true, laidKinds := [.data, .pinned], laidTests := true, laidLooks := .later }
def GraphNeedsMatchSpecUptoCardSaid : Prop := Claim7.holds Tryd.pinned (.plain (OpenSpec.upto graphNeedsMatchSpecSpec)) graphNeedsMatchSpecUptoCard

/-- THE SECOND FORM's CARD OF 'smithyardlaw4.GraphWaysMatchSpec'. -/
def graphWaysMatchSpecUptoCard : Claim7 := { stood := { row := graphWaysMatchSpecUptoRow, standIns := [], harness := (true, "1092b4553f88940e8c582512ebac33dffa2401166445bdfd8d1fed2006d5252b"), looks := false }, kinds := [], alts := [], laidByText := true, laidKinds := [.data, .pinned], laidTests := true, laidLooks := .later }
def GraphWaysMatchSpecUptoCardSaid : Prop := Claim7.holds Tryd.pinned (.plain (OpenSpec.upto graphWaysMatchSpecSpec)) graphWaysMatchSpecUptoCard

/-- THE SECOND FORM's CARD OF 'smithyardlaw4.GraphWaysAreWays'. -/
def graphWaysAreWaysUptoCard : Claim7 := { stood := { row := graphWaysAreWaysUptoRow, standIns := [], harness := (true, "1092b4553f88940e8c582512ebac33dffa2401166445bdfd8d1fed2006d5252b"), looks := false }, kinds := [], alts := [], laidByText := true, laidKinds := [.data, .pinned], laidTests := true, laidLooks := .later }
def GraphWaysAreWaysUptoCardSaid : Prop := Claim7.holds Tryd.pinned (.plain (OpenSpec.upto graphWaysAreWaysSpec)) graphWaysAreWaysUptoCard

/-- THE SECOND FORM's CARD OF 'smithyardlaw4.GraphNeedlessCanGo'. -/
def graphNeedlessCanGoUptoCard : Claim7 := { stood := { row := graphNeedlessCanGoUptoRow, standIns := [], harness := (true, "1092b4553f88940e8c582512ebac33dffa2401166445bdfd8d1fed2006d5252b"), looks := false }, kinds := [], alts := [], laidByText := true, laidKinds := [.data, .pinned], laidTests := true, laidLooks := .later }
def GraphNeedlessCanGoUptoCardSaid : Prop := Claim7.holds Tryd.pinned (.plain (OpenSpec.upto graphNeedlessCanGoSpec)) graphNeedlessCanGoUptoCard

/-- THE SECOND FORM's CARD OF 'smithyardlaw4.GraphResultsAreNew'. -/
def graphResultsAreNewUptoCard : Claim7 := { stood := { row := graphResultsAreNewUptoRow, standIns := [], harness := (true, "1092b4553f88940e8c582512ebac33dffa2401166445bdfd8d1fed2006d5252b"), looks := false }, kinds := [], alts := [], laidByText := true, laidKinds := [.data, .pinned], laidTests := true, laidLooks := .later }
def GraphResultsAreNewUptoCardSaid : Prop := Claim7.holds Tryd.pinned (.plain (OpenSpec.upto graphResultsAreNewSpec)) graphResultsAreNewUptoCard

/-- THE SECOND FORM's CARD OF 'smithyardlaw4.QueriesAreSets'. -/
def queriesAreSetsUptoCard : Claim7 := { stood := { row := queriesAreSetsUptoRow, standIns := [], harness := (true, "1092b4553f88940e8c582512ebac33dffa2401166445bdfd8d1fed2006d5252b"), looks := false }, kinds := [], alts := [], laidByText := true, laidKinds := [.data, .pinned], laidTests := true, laidLooks := .later }
def QueriesAreSetsUptoCardSaid : Prop := Claim7.holds Tryd.pinned (.plain (OpenSpec.upto queriesAreSetsSpec)) queriesAreSetsUptoCard

/-- THE SECOND FORM's CARD OF 'smithyardlaw4.GraphAffectedSpreads'. -/
def graphAffectedSpreadsUptoCard : Claim7 := { stood := { row := graphAffectedSpreadsUptoRow, standIns := [], harness := (true, "1092b4553f88940e8c582512ebac33dffa2401166445bdfd8d1fed2006d5252b"), looks := false }, kinds := [], alts := [], laidByText := true, laidKinds := [.data, .pinned], laidTests := true, laidLooks := .later }
def GraphAffectedSpreadsUptoCardSaid : Prop := Claim7.holds Tryd.pinned (.plain (OpenSpec.upto graphAffectedSpreadsSpec)) graphAffectedSpreadsUptoCard
end Rows
end Go.Proofs.YtafalbofjmfbnaaDoor
