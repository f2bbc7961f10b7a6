/-
  DERIVED. GIVEN WITH THE SEED: THE CARDS: each row of YtnehieeplbgaiaaDoorRows.lean that lists a variable, with what it lists TIED to the program's text (the seventh form; the later family's looks); each row that meets fmt, with fmt's text TOLD by the authors' own Lean function (tested against real Go, not proved from fmt's source: count such statements apart). THE CARD IS WHAT COUNTS. Prove the row's statement (the work); the ties are given (YtnehieeplbgaiaaDoorTie.lean); close each card by the builder's one call (the guide's Derived/Test/ToyasCard.lean, 'card_holds'). Laid BY PROGRAM, IN A SANDBOX (cutbox-door.mjs). By AI agents, Wed Nov 11 2026. No macro, syntax, notation, axiom, sorry.
-/
import Derived.Test.YtnehieeplbgaiaaDoorRows
import GoSem.ClaimSeven
namespace Go.Proofs.YtnehieeplbgaiaaDoor
namespace Rows

/-- THE TIED CARD OF 'smithyardlaw8.WireTakesAgain'. -/
def wireTakesAgainCard : Claim7 := { stood := { row := wireTakesAgainRow, standIns := [], harness := (true, "9c25c018fa5bb47a672eefc30760978ad2124d802f060c4c162fa8bf6310e2e5"), looks := false }, kinds := [], alts := [], laidByText := true, laidKinds := [.data, .pinned], laidTests := true, laidLooks := .later }
def WireTakesAgainCardSaid : Prop := Claim7.holds Tryd.pinned (.plain (OpenSpec.ofChange wireTakesAgainSpec)) wireTakesAgainCard

/-- THE SECOND FORM's CARD OF 'smithyardlaw8.WireTakesAgain'. -/
def wireTakesAgainUptoCard : Claim7 := { stood := { row := wireTakesAgainUptoRow, standIns := [], harness := (true, "9c25c018fa5bb47a672eefc30760978ad2124d802f060c4c162fa8bf6310e2e5"), looks := false }, kinds := [], alts := [], laidByText := true, laidKinds := [.data, .pinned], laidTests := true, laidLooks := .later }
def WireTakesAgainUptoCardSaid : Prop := Claim7.holds Tryd.pinned (.plain (OpenSpec.upto wireTakesAgainSpec)) wireTakesAgainUptoCard
end Rows
end Go.Proofs.YtnehieeplbgaiaaDoor
