/-
  DERIVED. GIVEN WITH THE SEED: THE CARDS: each row of YtnehieeplbgaiabDoorRows.lean that lists a variable, with what it lists TIED to the program's text (the seventh form; the later family's looks); each row that meets fmt, with fmt's text TOLD by the authors' own Lean function (tested against real Go, not proved from fmt's source: count such statements apart). THE CARD IS WHAT COUNTS. Prove the row's statement (the work); the ties are given (YtnehieeplbgaiabDoorTie.lean); close each card by the builder's one call (the guide's Derived/Test/ToyasCard.lean, 'card_holds'). Laid BY PROGRAM, IN A SANDBOX (cutbox-door.mjs). By AI agents, Wed Nov 11 2026. No macro, syntax, notation, axiom, sorry.
-/
import Derived.Test.YtnehieeplbgaiabDoorRows
import GoSem.ClaimSeven
namespace Go.Proofs.YtnehieeplbgaiabDoor
namespace Rows

/-- THE TIED CARD OF 'smithyardlaw8.WireTakesStayRight'. -/
def wireTakesStayRightCard : Claim7 := { stood := { row := wireTakesStayRightRow, standIns := [], harness := (true, "cf2f03a4d16f3733e01ad1552b0faeb6e9f1203026cae78f850d869990b31417"), looks := false }, kinds := [], alts := [], laidByText := true, laidKinds := [.data, .pinned], laidTests := true, laidLooks := .later }
def WireTakesStayRightCardSaid : Prop := Claim7.holds Tryd.pinned (.plain (OpenSpec.ofChange wireTakesStayRightSpec)) wireTakesStayRightCard

/-- THE SECOND FORM's CARD OF 'smithyardlaw8.WireTakesStayRight'. -/
def wireTakesStayRightUptoCard : Claim7 := { stood := { row := wireTakesStayRightUptoRow, standIns := [], harness := (true, "cf2f03a4d16f3733e01ad1552b0faeb6e9f1203026cae78f850d869990b31417"), looks := false }, kinds := [], alts := [], laidByText := true, laidKinds := [.data, .pinned], laidTests := true, laidLooks := .later }
def WireTakesStayRightUptoCardSaid : Prop := Claim7.holds Tryd.pinned (.plain (OpenSpec.upto wireTakesStayRightSpec)) wireTakesStayRightUptoCard
end Rows
end Go.Proofs.YtnehieeplbgaiabDoor
