/-
  DERIVED. GIVEN WITH THE SEED: THE CARDS: each row of YtahlodpolggeiaaDoorRows.lean that lists a variable, with what it lists TIED to the program's text (the seventh form; the later family's looks); each row that meets fmt, with fmt's text TOLD by the authors' own Lean function (tested against real Go, not proved from fmt's source: count such statements apart). THE CARD IS WHAT COUNTS. Prove the row's statement (the work); the ties are given (YtahlodpolggeiaaDoorTie.lean); close each card by the builder's one call (the guide's Derived/Test/ToyasCard.lean, 'card_holds'). Laid BY PROGRAM, IN A SANDBOX (cutbox-door.mjs). By AI agents, Wed Nov 11 2026. No macro, syntax, notation, axiom, sorry.
-/
import Derived.Test.YtahlodpolggeiaaDoorRows
import GoSem.ClaimSeven
namespace Go.Proofs.YtahlodpolggeiaaDoor
namespace Rows

/-- THE TIED CARD OF 'smithyardlaw11.TrustWritersMatchSpec'. -/
def trustWritersMatchSpecCard : Claim7 := { stood := { row := trustWritersMatchSpecRow, standIns := [], harness := (true, "6136380b7ba6d4922a8d3685df87326f57c2e568d7b70079681a7bb5b43e332a"), looks := false }, kinds := [], alts := [], laidByText := true, laidKinds := [.data, .pinned], laidTests := true, laidLooks := .later }
def TrustWritersMatchSpecCardSaid : Prop := Claim7.holds Tryd.pinned (.plain (OpenSpec.ofChange trustWritersMatchSpecSpec)) trustWritersMatchSpecCard

/-- THE TIED CARD OF 'smithyardlaw11.TrustRightAuditsClear'. -/
def trustRightAuditsClearCard : Claim7 := { stood := { row := trustRightAuditsClearRow, standIns := [], harness := (true, "6136380b7ba6d4922a8d3685df87326f57c2e568d7b70079681a7bb5b43e332a"), looks := false }, kinds := [], alts := [], laidByText := true, laidKinds := [.data, .pinned], laidTests := true, laidLooks := .later }
def TrustRightAuditsClearCardSaid : Prop := Claim7.holds Tryd.pinned (.plain (OpenSpec.ofChange trustRightAuditsClearSpec)) trustRightAuditsClearCard

/-- THE SECOND FORM's CARD OF 'smithyardlaw11.TrustWritersMatchSpec'. -/
def trustWritersMatchSpecUptoCard : Claim7 := { stood := { row := trustWritersMatchSpecUptoRow, standIns := [], harness := (true, "6136380b7ba6d4922a8d3685df87326f57c2e568d7b70079681a7bb5b43e332a"), looks := false }, kinds := [], alts := [], laidByText := true, laidKinds := [.data, .pinned], laidTests := true, laidLooks := .later }
def TrustWritersMatchSpecUptoCardSaid : Prop := Claim7.holds Tryd.pinned (.plain (OpenSpec.upto trustWritersMatchSpecSpec)) trustWritersMatchSpecUptoCard

/-- THE SECOND FORM's CARD OF 'smithyardlaw11.TrustRightAuditsClear'. -/
def trustRightAuditsClearUptoCard : Claim7 := { stood := { row := trustRightAuditsClearUptoRow, standIns := [], harness := (true, "6136380b7ba6d4922a8d3685df87326f57c2e568d7b70079681a7bb5b43e332a"), looks := false }, kinds := [], alts := [], laidByText := true, laidKinds := [.data, .pinned], laidTests := true, laidLooks := .later }
def TrustRightAuditsClearUptoCardSaid : Prop := Claim7.holds Tryd.pinned (.plain (OpenSpec.upto trustRightAuditsClearSpec)) trustRightAuditsClearUptoCard
end Rows
end Go.Proofs.YtahlodpolggeiaaDoor
