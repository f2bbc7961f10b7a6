/-
  DERIVED. GIVEN WITH THE SEED: THE CARDS: each row of YtplgphblmeceoaaGreatDoorRows.lean that lists a variable, with what it lists TIED to the program's text (the seventh form; the later family's looks); each row that meets fmt, with fmt's text TOLD by the authors' own Lean function (tested against real Go, not proved from fmt's source: count such statements apart). THE CARD IS WHAT COUNTS. Prove the row's statement (the work); the ties are given (YtplgphblmeceoaaGreatDoorTie.lean); close each card by the builder's one call (the guide's Derived/Test/ToyasCard.lean, 'card_holds'). Laid BY PROGRAM, IN A SANDBOX (cutbox-door.mjs). By AI agents, Wed Nov 11 2026. No macro, syntax, notation, axiom, sorry.
-/
import Derived.Test.YtplgphblmeceoaaGreatDoorRows
import GoSem.ClaimSeven
namespace Go.Proofs.YtplgphblmeceoaaGreatDoor
namespace Rows

/-- THE TIED CARD OF 'smithyardlaw11.TrustTrustedMatchesSpec'. -/
def trustTrustedMatchesSpecCard : Claim7 := { stood := { row := trustTrustedMatchesSpecRow, standIns := [], harness := (true, "c37215bea8a1aaa7770cce6b32acf12658eab284e651d3c8c2f80b9a962246fb"), looks := false }, kinds := [], alts := [], laidByText := true, laidKinds := [.data, .data, .data, .data, .pinned], laidTests := true, laidLooks := .later }
def TrustTrustedMatchesSpecCardSaid : Prop := Claim7.holds Tryz.pinned (.plain (OpenSpec.ofChange trustTrustedMatchesSpecSpec)) trustTrustedMatchesSpecCard

/-- THE SECOND FORM's CARD OF 'smithyardlaw11.TrustTrustedMatchesSpec'. -/
def trustTrustedMatchesSpecUptoCard : Claim7 := { stood := { row := trustTrustedMatchesSpecUptoRow, standIns := [], harness := (true, "c37215bea8a1aaa7770cce6b32acf12658eab284e651d3c8c2f80b9a962246fb"), looks := false }, kinds := [], alts := [], laidByText := true, laidKinds := [.data, .data, .data, .data, .pinned], laidTests := true, laidLooks := .later }
def TrustTrustedMatchesSpecUptoCardSaid : Prop := Claim7.holds Tryz.pinned (.plain (OpenSpec.upto trustTrustedMatchesSpecSpec)) trustTrustedMatchesSpecUptoCard
end Rows
end Go.Proofs.YtplgphblmeceoaaGreatDoor
