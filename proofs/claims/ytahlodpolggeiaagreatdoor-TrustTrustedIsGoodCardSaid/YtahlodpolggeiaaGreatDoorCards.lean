/-
  DERIVED. GIVEN WITH THE SEED: THE CARDS: each row of YtahlodpolggeiaaGreatDoorRows.lean that lists a variable, with what it lists TIED to the program's text (the seventh form; the later family's looks); each row that meets fmt, with fmt's text TOLD by the authors' own Lean function (tested against real Go, not proved from fmt's source: count such statements apart). THE CARD IS WHAT COUNTS. Prove the row's statement (the work); the ties are given (YtahlodpolggeiaaGreatDoorTie.lean); close each card by the builder's one call (the guide's Derived/Test/ToyasCard.lean, 'card_holds'). Laid BY PROGRAM, IN A SANDBOX (cutbox-door.mjs). By AI agents, Wed Nov 11 2026. No macro, syntax, notation, axiom, sorry.
-/
import Derived.Test.YtahlodpolggeiaaGreatDoorRows
import GoSem.ClaimSeven
namespace Go.Proofs.YtahlodpolggeiaaGreatDoor
namespace Rows

/-- THE TIED CARD OF 'smithyardlaw11.TrustLogsGrow'. -/
def trustLogsGrowCard : Claim7 := { stood := { row := trustLogsGrowRow, standIns := [], harness := (true, "4c2a29d8307cedcb9c26d51ef8550f1670b9771bb971b1afa8a65e1e8616db36"), looks := true }, kinds := [], alts := [], laidByText := true, laidKinds := [.data, .data, .data, .data, .pinned], laidTests := true, laidLooks := .later }
def TrustLogsGrowCardSaid : Prop := Claim7.holds Tryz.pinned (.plain (OpenSpec.ofChange trustLogsGrowSpec)) trustLogsGrowCard

/-- THE TIED CARD OF 'smithyardlaw11.TrustSignedIsGenuine'. -/
def trustSignedIsGenuineCard : Claim7 := { stood := { row := trustSignedIsGenuineRow, standIns := [], harness := (true, "4c2a29d8307cedcb9c26d51ef8550f1670b9771bb971b1afa8a65e1e8616db36"), looks := true }, kinds := [], alts := [], laidByText := true, laidKinds := [.data, .data, .data, .data, .pinned], laidTests := true, laidLooks := .later }
def TrustSignedIsGenuineCardSaid : Prop := Claim7.holds Tryz.pinned (.plain (OpenSpec.ofChange trustSignedIsGenuineSpec)) trustSignedIsGenuineCard

/-- THE TIED CARD OF 'smithyardlaw11.TrustSignsMatchSpec'. -/
def trustSignsMatchSpecCard : Claim7 := { stood := { row := trustSignsMatchSpecRow, standIns := [], harness := (true, "4c2a29d8307cedcb9c26d51ef8550f1670b9771bb971b1afa8a65e1e8616db36"), looks := true }, kinds := [], alts := [], laidByText := true, laidKinds := [.data, .data, .data, .data, .pinned], laidTests := true, laidLooks := .later }
def TrustSignsMatchSpecCardSaid : Prop := Claim7.holds Tryz.pinned (.plain (OpenSpec.ofChange trustSignsMatchSpecSpec)) trustSignsMatchSpecCard

/-- THE TIED CARD OF 'smithyardlaw11.TrustAgreedOfMore'. -/
def trustAgreedOfMoreCard : Claim7 := { stood := { row := trustAgreedOfMoreRow, standIns := [], harness := (true, "4c2a29d8307cedcb9c26d51ef8550f1670b9771bb971b1afa8a65e1e8616db36"), looks := true }, kinds := [], alts := [], laidByText := true, laidKinds := [.data, .data, .data, .data, .pinned], laidTests := true, laidLooks := .later }
def TrustAgreedOfMoreCardSaid : Prop := Claim7.holds Tryz.pinned (.plain (OpenSpec.ofChange trustAgreedOfMoreSpec)) trustAgreedOfMoreCard

/-- THE TIED CARD OF 'smithyardlaw11.TrustHeadsMatchSpec'. -/
def trustHeadsMatchSpecCard : Claim7 := { stood := { row := trustHeadsMatchSpecRow, standIns := [], harness := (true, "4c2a29d8307cedcb9c26d51ef8550f1670b9771bb971b1afa8a65e1e8616db36"), looks := true }, kinds := [], alts := [], laidByText := true, laidKinds := [.data, .data, .data, .data, .pinned], laidTests := true, laidLooks := .later }
def TrustHeadsMatchSpecCardSaid : Prop := Claim7.holds Tryz.pinned (.plain (OpenSpec.ofChange trustHeadsMatchSpecSpec)) trustHeadsMatchSpecCard

/-- THE TIED CARD OF 'smithyardlaw11.TrustTrustedIsGood'. -/
def trustTrustedIsGoodCard : Claim7 := { stood := { row := trustTrustedIsGoodRow, standIns := [], harness := (true, "4c2a29d8307cedcb9c26d51ef8550f1670b9771bb971b1afa8a65e1e8616db36"), looks := true }, kinds := [], alts := [], laidByText := true, laidKinds := [.data, .data, .data, .data, .pinned], laidTests := true, laidLooks := .later }
def TrustTrustedIsGoodCardSaid : Prop := Claim7.holds Tryz.pinned (.plain (OpenSpec.ofChange trustTrustedIsGoodSpec)) trustTrustedIsGoodCard

/-- THE TIED CARD OF 'smithyardlaw11.TrustDueIsEach'. -/
def trustDueIsEachCard : Claim7 := { stood := { row := trustDueIsEachRow, standIns := [], harness := (true, "4c2a29d8307cedcb9c26d51ef8550f1670b9771bb971b1afa8a65e1e8616db36"), looks := true }, kinds := [], alts := [], laidByText := true, laidKinds := [.data, .data, .data, .data, .sentinel, .sentinel, .pinned], laidTests := true, laidLooks := .later }
def TrustDueIsEachCardSaid : Prop := Claim7.holds Tryz.pinned (.plain (OpenSpec.ofChange trustDueIsEachSpec)) trustDueIsEachCard

/-- THE TIED CARD OF 'smithyardlaw11.TrustWrongIsTainted'. -/
def trustWrongIsTaintedCard : Claim7 := { stood := { row := trustWrongIsTaintedRow, standIns := [], harness := (true, "4c2a29d8307cedcb9c26d51ef8550f1670b9771bb971b1afa8a65e1e8616db36"), looks := true }, kinds := [], alts := [], laidByText := true, laidKinds := [.data, .pinned], laidTests := true, laidLooks := .later }
def TrustWrongIsTaintedCardSaid : Prop := Claim7.holds Tryz.pinned (.plain (OpenSpec.ofChange trustWrongIsTaintedSpec)) trustWrongIsTaintedCard

/-- THE TIED CARD OF 'smithyardlaw11.TrustTaintedMatchesSpec'. -/
def trustTaintedMatchesSpecCard : Claim7 := { stood := { row := trustTaintedMatchesSpecRow, standIns := [], harness := (true, "4c2a29d8307cedcb9c26d51ef8550f1670b9771bb971b1afa8a65e1e8616db36"), looks := true }, kinds := [], alts := [], laidByText := true, laidKinds := [.data, .pinned], laidTests := true, laidLooks := .later }
def TrustTaintedMatchesSpecCardSaid : Prop := Claim7.holds Tryz.pinned (.plain (OpenSpec.ofChange trustTaintedMatchesSpecSpec)) trustTaintedMatchesSpecCard

/-- THE TIED CARD OF 'smithyardlaw11.TrustReadsMatchSpec'. -/
def trustReadsMatchSpecCard : Claim7 := { stood := { row := trustReadsMatchSpecRow, standIns := [], harness := (true, "4c2a29d8307cedcb9c26d51ef8550f1670b9771bb971b1afa8a65e1e8616db36"), looks := true }, kinds := [], alts := [], laidByText := true, laidKinds := [.data, .data, .data, .data, .sentinel, .sentinel, .pinned], laidTests := true, laidLooks := .later }
def TrustReadsMatchSpecCardSaid : Prop := Claim7.holds Tryz.pinned (.plain (OpenSpec.ofChange trustReadsMatchSpecSpec)) trustReadsMatchSpecCard

/-- THE TIED CARD OF 'smithyardlaw11.TrustTextsMatchSpec'. -/
def trustTextsMatchSpecCard : Claim7 := { stood := { row := trustTextsMatchSpecRow, standIns := [], harness := (true, "4c2a29d8307cedcb9c26d51ef8550f1670b9771bb971b1afa8a65e1e8616db36"), looks := true }, kinds := [], alts := [], laidByText := true, laidKinds := [.data, .data, .data, .data, .sentinel, .sentinel, .pinned], laidTests := true, laidLooks := .later }
def TrustTextsMatchSpecCardSaid : Prop := Claim7.holds Tryz.pinned (.plain (OpenSpec.ofChange trustTextsMatchSpecSpec)) trustTextsMatchSpecCard

/-- THE TIED CARD OF 'smithyardlaw11.TrustResultsAreNew'. -/
def trustResultsAreNewCard : Claim7 := { stood := { row := trustResultsAreNewRow, standIns := [], harness := (true, "4c2a29d8307cedcb9c26d51ef8550f1670b9771bb971b1afa8a65e1e8616db36"), looks := true }, kinds := [], alts := [], laidByText := true, laidKinds := [.data, .data, .data, .data, .sentinel, .sentinel, .pinned], laidTests := true, laidLooks := .later }
def TrustResultsAreNewCardSaid : Prop := Claim7.holds Tryz.pinned (.plain (OpenSpec.ofChange trustResultsAreNewSpec)) trustResultsAreNewCard

/-- THE TIED CARD OF 'smithyardlaw11.TrustAgreedMatchesSpec'. -/
def trustAgreedMatchesSpecCard : Claim7 := { stood := { row := trustAgreedMatchesSpecRow, standIns := [], harness := (true, "4c2a29d8307cedcb9c26d51ef8550f1670b9771bb971b1afa8a65e1e8616db36"), looks := true }, kinds := [], alts := [], laidByText := true, laidKinds := [.data, .data, .data, .data, .pinned], laidTests := true, laidLooks := .later }
def TrustAgreedMatchesSpecCardSaid : Prop := Claim7.holds Tryz.pinned (.plain (OpenSpec.ofChange trustAgreedMatchesSpecSpec)) trustAgreedMatchesSpecCard

/-- THE TIED CARD OF 'smithyardlaw11.TrustTrustedMatchesSpec'. -/
def trustTrustedMatchesSpecCard : Claim7 := { stood := { row := trustTrustedMatchesSpecRow, standIns := [], harness := (true, "4c2a29d8307cedcb9c26d51ef8550f1670b9771bb971b1afa8a65e1e8616db36"), looks := true }, kinds := [], alts := [], laidByText := true, laidKinds := [.data, .data, .data, .data, .pinned], laidTests := true, laidLooks := .later }
def TrustTrustedMatchesSpecCardSaid : Prop := Claim7.holds Tryz.pinned (.plain (OpenSpec.ofChange trustTrustedMatchesSpecSpec)) trustTrustedMatchesSpecCard

/-- THE TIED CARD OF 'smithyardlaw11.TrustDueMatchesSpec'. -/
def trustDueMatchesSpecCard : Claim7 := { stood := { row := trustDueMatchesSpecRow, standIns := [], harness := (true, "4c2a29d8307cedcb9c26d51ef8550f1670b9771bb971b1afa8a65e1e8616db36"), looks := true }, kinds := [], alts := [], laidByText := true, laidKinds := [.data, .data, .data, .data, .sentinel, .sentinel, .pinned], laidTests := true, laidLooks := .later }
def TrustDueMatchesSpecCardSaid : Prop := Claim7.holds Tryz.pinned (.plain (OpenSpec.ofChange trustDueMatchesSpecSpec)) trustDueMatchesSpecCard

/-- THE SECOND FORM's CARD OF 'smithyardlaw11.TrustLogsGrow'. -/
def trustLogsGrowUptoCard : Claim7 := { stood := { row := trustLogsGrowUptoRow, standIns := [], harness := (true, "4c2a29d8307cedcb9c26d51ef8550f1670b9771bb971b1afa8a65e1e8616db36"), looks := true }, kinds := [], alts := [], laidByText := true, laidKinds := [.data, .data, .data, .data, .pinned], laidTests := true, laidLooks := .later }
def TrustLogsGrowUptoCardSaid : Prop := Claim7.holds Tryz.pinned (.plain (OpenSpec.upto trustLogsGrowSpec)) trustLogsGrowUptoCard

/-- THE SECOND FORM's CARD OF 'smithyardlaw11.TrustSignedIsGenuine'. -/
def trustSignedIsGenuineUptoCard : Claim7 := { stood := { row := trustSignedIsGenuineUptoRow, standIns := [], harness := (true, "4c2a29d8307cedcb9c26d51ef8550f1670b9771bb971b1afa8a65e1e8616db36"), looks := true }, kinds := [], alts := [], laidByText := true, laidKinds := [.data, .data, .data, .data, .pinned], laidTests := true, laidLooks := .later }
def TrustSignedIsGenuineUptoCardSaid : Prop := Claim7.holds Tryz.pinned (.plain (OpenSpec.upto trustSignedIsGenuineSpec)) trustSignedIsGenuineUptoCard

/-- THE SECOND FORM's CARD OF 'smithyardlaw11.TrustSignsMatchSpec'. -/
def trustSignsMatchSpecUptoCard : Claim7 := { stood := { row := trustSignsMatchSpecUptoRow, standIns := [], harness := (true, "4c2a29d8307cedcb9c26d51ef8550f1670b9771bb971b1afa8a65e1e8616db36"), looks := true }, kinds := [], alts := [], laidByText := true, laidKinds := [.data, .data, .data, .data, .pinned], laidTests := true, laidLooks := .later }
def TrustSignsMatchSpecUptoCardSaid : Prop := Claim7.holds Tryz.pinned (.plain (OpenSpec.upto trustSignsMatchSpecSpec)) trustSignsMatchSpecUptoCard

/-- THE SECOND FORM's CARD OF 'smithyardlaw11.TrustAgreedOfMore'. -/
def trustAgreedOfMoreUptoCard : Claim7 := { stood := { row := trustAgreedOfMoreUptoRow, standIns := [], harness := (true, "4c2a29d8307cedcb9c26d51ef8550f1670b9771bb971b1afa8a65e1e8616db36"), looks := true }, kinds := [], alts := [], laidByText := true, laidKinds := [.data, .data, .data, .data, .pinned], laidTests := true, laidLooks := .later }
def TrustAgreedOfMoreUptoCardSaid : Prop := Claim7.holds Tryz.pinned (.plain (OpenSpec.upto trustAgreedOfMoreSpec)) trustAgreedOfMoreUptoCard

/-- THE SECOND FORM's CARD OF 'smithyardlaw11.TrustHeadsMatchSpec'. -/
def trustHeadsMatchSpecUptoCard : Claim7 := { stood := { row := trustHeadsMatchSpecUptoRow, standIns := [], harness := (true, "4c2a29d8307cedcb9c26d51ef8550f1670b9771bb971b1afa8a65e1e8616db36"), looks := true }, kinds := [], alts := [], laidByText := true, laidKinds := [.data, .data, .data, .data, .pinned], laidTests := true, laidLooks := .later }
def TrustHeadsMatchSpecUptoCardSaid : Prop := Claim7.holds Tryz.pinned (.plain (OpenSpec.upto trustHeadsMatchSpecSpec)) trustHeadsMatchSpecUptoCard

/-- THE SECOND FORM's CARD OF 'smithyardlaw11.TrustTrustedIsGood'. -/
def trustTrustedIsGoodUptoCard : Claim7 := { stood := { row := trustTrustedIsGoodUptoRow, standIns := [], harness := (true, "4c2a29d8307cedcb9c26d51ef8550f1670b9771bb971b1afa8a65e1e8616db36"), looks := true }, kinds := [], alts := [], laidByText := true, laidKinds := [.data, .data, .data, .data, .pinned], laidTests := true, laidLooks := .later }
def TrustTrustedIsGoodUptoCardSaid : Prop := Claim7.holds Tryz.pinned (.plain (OpenSpec.upto trustTrustedIsGoodSpec)) trustTrustedIsGoodUptoCard

/-- THE SECOND FORM's CARD OF 'smithyardlaw11.TrustDueIsEach'. -/
def trustDueIsEachUptoCard : Claim7 := { stood := { row := trustDueIsEachUptoRow, standIns := [], harness := (true, "4c2a29d8307cedcb9c26d51ef8550f1670b9771bb971b1afa8a65e1e8616db36"), looks := true }, kinds := [], alts := [], laidByText := true, laidKinds := [.data, .data, .data, .data, .sentinel, .sentinel, .pinned], laidTests := true, laidLooks := .later }
def TrustDueIsEachUptoCardSaid : Prop := Claim7.holds Tryz.pinned (.plain (OpenSpec.upto trustDueIsEachSpec)) trustDueIsEachUptoCard

/-- THE SECOND FORM's CARD OF 'smithyardlaw11.TrustWrongIsTainted'. -/
def trustWrongIsTaintedUptoCard : Claim7 := { stood := { row := trustWrongIsTaintedUptoRow, standIns := [], harness := (true, "4c2a29d8307cedcb9c26d51ef8550f1670b9771bb971b1afa8a65e1e8616db36"), looks := true }, kinds := [], alts := [], laidByText := true, laidKinds := [.data, .pinned], laidTests := true, laidLooks := .later }
def TrustWrongIsTaintedUptoCardSaid : Prop := Claim7.holds Tryz.pinned (.plain (OpenSpec.upto trustWrongIsTaintedSpec)) trustWrongIsTaintedUptoCard

/-- THE SECOND FORM's CARD OF 'smithyardlaw11.TrustTaintedMatchesSpec'. -/
def trustTaintedMatchesSpecUptoCard : Claim7 := { stood := { row := trustTaintedMatchesSpecUptoRow, standIns := [], harness := (true, "4c2a29d8307cedcb9c26d51ef8550f1670b9771bb971b1afa8a65e1e8616db36"), looks := true }, kinds := [], alts := [], laidByText := true, laidKinds := [.data, .pinned], laidTests := true, laidLooks := .later }
def TrustTaintedMatchesSpecUptoCardSaid : Prop := Claim7.holds Tryz.pinned (.plain (OpenSpec.upto trustTaintedMatchesSpecSpec)) trustTaintedMatchesSpecUptoCard

/-- THE SECOND FORM's CARD OF 'smithyardlaw11.TrustReadsMatchSpec'. -/
def trustReadsMatchSpecUptoCard : Claim7 := { stood := { row := trustReadsMatchSpecUptoRow, standIns := [], harness := (true, "4c2a29d8307cedcb9c26d51ef8550f1670b9771bb971b1afa8a65e1e8616db36"), looks := true }, kinds := [], alts := [], laidByText := true, laidKinds := [.data, .data, .data, .data, .sentinel, .sentinel, .pinned], laidTests := true, laidLooks := .later }
def TrustReadsMatchSpecUptoCardSaid : Prop := Claim7.holds Tryz.pinned (.plain (OpenSpec.upto trustReadsMatchSpecSpec)) trustReadsMatchSpecUptoCard

/-- THE SECOND FORM's CARD OF 'smithyardlaw11.TrustTextsMatchSpec'. -/
def trustTextsMatchSpecUptoCard : Claim7 := { stood := { row := trustTextsMatchSpecUptoRow, standIns := [], harness := (true, "4c2a29d8307cedcb9c26d51ef8550f1670b9771bb971b1afa8a65e1e8616db36"), looks := true }, kinds := [], alts := [], laidByText := true, laidKinds := [.data, .data, .data, .data, .sentinel, .sentinel, .pinned], laidTests := true, laidLooks := .later }
def TrustTextsMatchSpecUptoCardSaid : Prop := Claim7.holds Tryz.pinned (.plain (OpenSpec.upto trustTextsMatchSpecSpec)) trustTextsMatchSpecUptoCard

/-- THE SECOND FORM's CARD OF 'smithyardlaw11.TrustResultsAreNew'. -/
def trustResultsAreNewUptoCard : Claim7 := { stood := { row := trustResultsAreNewUptoRow, standIns := [], harness := (true, "4c2a29d8307cedcb9c26d51ef8550f1670b9771bb971b1afa8a65e1e8616db36"), looks := true }, kinds := [], alts := [], laidByText := true, laidKinds := [.data, .data, .data, .data, .sentinel, .sentinel, .pinned], laidTests := true, laidLooks := .later }
def TrustResultsAreNewUptoCardSaid : Prop := Claim7.holds Tryz.pinned (.plain (OpenSpec.upto trustResultsAreNewSpec)) trustResultsAreNewUptoCard

/-- THE SECOND FORM's CARD OF 'smithyardlaw11.TrustAgreedMatchesSpec'. -/
def trustAgreedMatchesSpecUptoCard : Claim7 := { stood := { row := trustAgreedMatchesSpecUptoRow, standIns := [], harness := (true, "4c2a29d8307cedcb9c26d51ef8550f1670b9771bb971b1afa8a65e1e8616db36"), looks := true }, kinds := [], alts := [], laidByText := true, laidKinds := [.data, .data, .data, .data, .pinned], laidTests := true, laidLooks := .later }
def TrustAgreedMatchesSpecUptoCardSaid : Prop := Claim7.holds Tryz.pinned (.plain (OpenSpec.upto trustAgreedMatchesSpecSpec)) trustAgreedMatchesSpecUptoCard

/-- THE SECOND FORM's CARD OF 'smithyardlaw11.TrustTrustedMatchesSpec'. -/
def trustTrustedMatchesSpecUptoCard : Claim7 := { stood := { row := trustTrustedMatchesSpecUptoRow, standIns := [], harness := (true, "4c2a29d8307cedcb9c26d51ef8550f1670b9771bb971b1afa8a65e1e8616db36"), looks := true }, kinds := [], alts := [], laidByText := true, laidKinds := [.data, .data, .data, .data, .pinned], laidTests := true, laidLooks := .later }
def TrustTrustedMatchesSpecUptoCardSaid : Prop := Claim7.holds Tryz.pinned (.plain (OpenSpec.upto trustTrustedMatchesSpecSpec)) trustTrustedMatchesSpecUptoCard

/-- THE SECOND FORM's CARD OF 'smithyardlaw11.TrustDueMatchesSpec'. -/
def trustDueMatchesSpecUptoCard : Claim7 := { stood := { row := trustDueMatchesSpecUptoRow, standIns := [], harness := (true, "4c2a29d8307cedcb9c26d51ef8550f1670b9771bb971b1afa8a65e1e8616db36"), looks := true }, kinds := [], alts := [], laidByText := true, laidKinds := [.data, .data, .data, .data, .sentinel, .sentinel, .pinned], laidTests := true, laidLooks := .later }
def TrustDueMatchesSpecUptoCardSaid : Prop := Claim7.holds Tryz.pinned (.plain (OpenSpec.upto trustDueMatchesSpecSpec)) trustDueMatchesSpecUptoCard
end Rows
end Go.Proofs.YtahlodpolggeiaaGreatDoor
