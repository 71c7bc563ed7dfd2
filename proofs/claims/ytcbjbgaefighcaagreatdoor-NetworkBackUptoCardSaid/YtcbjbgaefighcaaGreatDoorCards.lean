/-
  DERIVED. GIVEN WITH THE SEED: THE CARDS: each row of YtcbjbgaefighcaaGreatDoorRows.lean that lists a variable, with what it lists TIED to the program's text (the seventh form; the later family's looks); each row that meets fmt, with fmt's text TOLD by the authors' own Lean function (tested against real Go, not proved from fmt's source: count such statements apart). THE CARD IS WHAT COUNTS. Prove the row's statement (the work); the ties are given (YtcbjbgaefighcaaGreatDoorTie.lean); close each card by the builder's one call (the guide's Derived/Test/ToyasCard.lean, 'card_holds'). Laid BY PROGRAM, IN A SANDBOX (cutbox-door.mjs). By AI agents, Wed Nov 11 2026. No macro, syntax, notation, axiom, sorry.
-/
import Derived.Test.YtcbjbgaefighcaaGreatDoorRows
import GoSem.ClaimSeven
namespace Go.Proofs.YtcbjbgaefighcaaGreatDoor
namespace Rows

/-- THE TIED CARD OF 'foliotlaw11.NetworkParses'. -/
def networkParsesCard : Claim7 := { stood := { row := networkParsesRow, standIns := [], harness := (true, "75fab5b513f7c84f1302407017b06474c3a5963234d00d969b21923f69cd9acd"), looks := true }, kinds := [], alts := [], laidByText := true, laidKinds := [.data, .data, .data, .sentinel, .sentinel], laidTests := true, laidLooks := .later }
def NetworkParsesCardSaid : Prop := Claim7.holds Tryz.pinned (.plain (OpenSpec.ofChange networkParsesSpec)) networkParsesCard

/-- THE TIED CARD OF 'foliotlaw11.NetworkPrints'. -/
def networkPrintsCard : Claim7 := { stood := { row := networkPrintsRow, standIns := [], harness := (true, "75fab5b513f7c84f1302407017b06474c3a5963234d00d969b21923f69cd9acd"), looks := true }, kinds := [], alts := [], laidByText := true, laidKinds := [.data, .data, .data, .sentinel, .sentinel], laidTests := true, laidLooks := .later }
def NetworkPrintsCardSaid : Prop := Claim7.holds Tryz.pinned (.plain (OpenSpec.ofChange networkPrintsSpec)) networkPrintsCard

/-- THE TIED CARD OF 'foliotlaw11.NetworkSame'. -/
def networkSameCard : Claim7 := { stood := { row := networkSameRow, standIns := [], harness := (true, "75fab5b513f7c84f1302407017b06474c3a5963234d00d969b21923f69cd9acd"), looks := true }, kinds := [], alts := [], laidByText := true, laidKinds := [.data, .data, .data, .sentinel, .sentinel], laidTests := true, laidLooks := .later }
def NetworkSameCardSaid : Prop := Claim7.holds Tryz.pinned (.plain (OpenSpec.ofChange networkSameSpec)) networkSameCard

/-- THE TIED CARD OF 'foliotlaw11.NetworkRound'. -/
def networkRoundCard : Claim7 := { stood := { row := networkRoundRow, standIns := [], harness := (true, "75fab5b513f7c84f1302407017b06474c3a5963234d00d969b21923f69cd9acd"), looks := true }, kinds := [], alts := [], laidByText := true, laidKinds := [.data, .data, .data, .sentinel, .sentinel], laidTests := true, laidLooks := .later }
def NetworkRoundCardSaid : Prop := Claim7.holds Tryz.pinned (.plain (OpenSpec.ofChange networkRoundSpec)) networkRoundCard

/-- THE TIED CARD OF 'foliotlaw11.NetworkBack'. -/
def networkBackCard : Claim7 := { stood := { row := networkBackRow, standIns := [], harness := (true, "75fab5b513f7c84f1302407017b06474c3a5963234d00d969b21923f69cd9acd"), looks := true }, kinds := [], alts := [], laidByText := true, laidKinds := [.data, .data, .data, .sentinel, .sentinel], laidTests := true, laidLooks := .later }
def NetworkBackCardSaid : Prop := Claim7.holds Tryz.pinned (.plain (OpenSpec.ofChange networkBackSpec)) networkBackCard

/-- THE SECOND FORM's CARD OF 'foliotlaw11.NetworkParses'. -/
def networkParsesUptoCard : Claim7 := { stood := { row := networkParsesUptoRow, standIns := [], harness := (true, "75fab5b513f7c84f1302407017b06474c3a5963234d00d969b21923f69cd9acd"), looks := true }, kinds := [], alts := [], laidByText := true, laidKinds := [.data, .data, .data, .sentinel, .sentinel], laidTests := true, laidLooks := .later }
def NetworkParsesUptoCardSaid : Prop := Claim7.holds Tryz.pinned (.plain (OpenSpec.upto networkParsesSpec)) networkParsesUptoCard

/-- THE SECOND FORM's CARD OF 'foliotlaw11.NetworkPrints'. -/
def networkPrintsUptoCard : Claim7 := { stood := { row := networkPrintsUptoRow, standIns := [], harness := (true, "75fab5b513f7c84f1302407017b06474c3a5963234d00d969b21923f69cd9acd"), looks := true }, kinds := [], alts := [], laidByText := true, laidKinds := [.data, .data, .data, .sentinel, .sentinel], laidTests := true, laidLooks := .later }
def NetworkPrintsUptoCardSaid : Prop := Claim7.holds Tryz.pinned (.plain (OpenSpec.upto networkPrintsSpec)) networkPrintsUptoCard

/-- THE SECOND FORM's CARD OF 'foliotlaw11.NetworkSame'. -/
def networkSameUptoCard : Claim7 := { stood := { row := networkSameUptoRow, standIns := [], harness := (true, "75fab5b513f7c84f1302407017b06474c3a5963234d00d969b21923f69cd9acd"), looks := true }, kinds := [], alts := [], laidByText := true, laidKinds := [.data, .data, .data, .sentinel, .sentinel], laidTests := true, laidLooks := .later }
def NetworkSameUptoCardSaid : Prop := Claim7.holds Tryz.pinned (.plain (OpenSpec.upto networkSameSpec)) networkSameUptoCard

/-- THE SECOND FORM's CARD OF 'foliotlaw11.NetworkRound'. -/
def networkRoundUptoCard : Claim7 := { stood := { row := networkRoundUptoRow, standIns := [], harness := (true, "75fab5b513f7c84f1302407017b06474c3a5963234d00d969b21923f69cd9acd"), looks := true }, kinds := [], alts := [], laidByText := true, laidKinds := [.data, .data, .data, .sentinel, .sentinel], laidTests := true, laidLooks := .later }
def NetworkRoundUptoCardSaid : Prop := Claim7.holds Tryz.pinned (.plain (OpenSpec.upto networkRoundSpec)) networkRoundUptoCard

/-- THE SECOND FORM's CARD OF 'foliotlaw11.NetworkBack'. -/
def networkBackUptoCard : Claim7 := { stood := { row := networkBackUptoRow, standIns := [], harness := (true, "75fab5b513f7c84f1302407017b06474c3a5963234d00d969b21923f69cd9acd"), looks := true }, kinds := [], alts := [], laidByText := true, laidKinds := [.data, .data, .data, .sentinel, .sentinel], laidTests := true, laidLooks := .later }
def NetworkBackUptoCardSaid : Prop := Claim7.holds Tryz.pinned (.plain (OpenSpec.upto networkBackSpec)) networkBackUptoCard
end Rows
end Go.Proofs.YtcbjbgaefighcaaGreatDoor
