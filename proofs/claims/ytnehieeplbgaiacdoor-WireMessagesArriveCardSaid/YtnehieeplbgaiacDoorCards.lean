/-
  DERIVED. GIVEN WITH THE SEED: THE CARDS: each row of YtnehieeplbgaiacDoorRows.lean that lists a variable, with what it lists TIED to the program's text (the seventh form; the later family's looks); each row that meets fmt, with fmt's text TOLD by the authors' own Lean function (tested against real Go, not proved from fmt's source: count such statements apart). THE CARD IS WHAT COUNTS. Prove the row's statement (the work); the ties are given (YtnehieeplbgaiacDoorTie.lean); close each card by the builder's one call (the guide's Derived/Test/ToyasCard.lean, 'card_holds'). Laid BY PROGRAM, IN A SANDBOX (cutbox-door.mjs). By AI agents, Wed Nov 11 2026. No macro, syntax, notation, axiom, sorry.
-/
import Derived.Test.YtnehieeplbgaiacDoorRows
import GoSem.ClaimSeven
namespace Go.Proofs.YtnehieeplbgaiacDoor
namespace Rows

/-- THE TIED CARD OF 'smithyardlaw8.WireMessagesArrive'. -/
def wireMessagesArriveCard : Claim7 := { stood := { row := wireMessagesArriveRow, standIns := [], harness := (true, "7713f35b31f6a322ed9460c2cc1ae9b755e11601b0fddfc3bfd366cf493c35c0"), looks := false }, kinds := [], alts := [], laidByText := true, laidKinds := [.data, .pinned], laidTests := true, laidLooks := .later }
def WireMessagesArriveCardSaid : Prop := Claim7.holds Tryd.pinned (.plain (OpenSpec.ofChange wireMessagesArriveSpec)) wireMessagesArriveCard

/-- THE SECOND FORM's CARD OF 'smithyardlaw8.WireMessagesArrive'. -/
def wireMessagesArriveUptoCard : Claim7 := { stood := { row := wireMessagesArriveUptoRow, standIns := [], harness := (true, "7713f35b31f6a322ed9460c2cc1ae9b755e11601b0fddfc3bfd366cf493c35c0"), looks := false }, kinds := [], alts := [], laidByText := true, laidKinds := [.data, .pinned], laidTests := true, laidLooks := .later }
def WireMessagesArriveUptoCardSaid : Prop := Claim7.holds Tryd.pinned (.plain (OpenSpec.upto wireMessagesArriveSpec)) wireMessagesArriveUptoCard
end Rows
end Go.Proofs.YtnehieeplbgaiacDoor
