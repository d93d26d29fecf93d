/-
  DERIVED. GIVEN WITH THE SEED: THE CARDS: each row of YtihpoecdnchioaaGreatDoorRows.lean that lists a variable, with what it lists TIED to the program's text (the seventh form; the later family's looks); each row that meets fmt, with fmt's text TOLD by the authors' own Lean function (tested against real Go, not proved from fmt's source: count such statements apart). THE CARD IS WHAT COUNTS. Prove the row's statement (the work); the ties are given (YtihpoecdnchioaaGreatDoorTie.lean); close each card by the builder's one call (the guide's Derived/Test/ToyasCard.lean, 'card_holds'). Laid BY PROGRAM, IN A SANDBOX (cutbox-door.mjs). By AI agents, Wed Nov 11 2026. No macro, syntax, notation, axiom, sorry.
-/
import Derived.Test.YtihpoecdnchioaaGreatDoorRows
import GoSem.ClaimSeven
namespace Go.Proofs.YtihpoecdnchioaaGreatDoor
namespace Rows

/-- THE TIED CARD OF 'pandectlaw14.NormMatchesReference'. -/
def normMatchesReferenceCard : Claim7 := { stood := { row := normMatchesReferenceRow, standIns := [], harness := (true, "542762a18bf871ad1b39b503933890a1e21b2b1e9f7eced2e686454d6146b3bb"), looks := true }, kinds := [], alts := [], laidByText := true, laidKinds := [.data, .data, .data, .sentinel, .sentinel], laidTests := true, laidLooks := .later }
def NormMatchesReferenceCardSaid : Prop := Claim7.holds Tryz.pinned (.plain (OpenSpec.ofChange normMatchesReferenceSpec)) normMatchesReferenceCard

/-- THE TIED CARD OF 'pandectlaw14.NormDecides'. -/
def normDecidesCard : Claim7 := { stood := { row := normDecidesRow, standIns := [], harness := (true, "542762a18bf871ad1b39b503933890a1e21b2b1e9f7eced2e686454d6146b3bb"), looks := true }, kinds := [], alts := [], laidByText := true, laidKinds := [.data, .data, .data, .sentinel, .sentinel], laidTests := true, laidLooks := .later }
def NormDecidesCardSaid : Prop := Claim7.holds Tryz.pinned (.plain (OpenSpec.ofChange normDecidesSpec)) normDecidesCard

/-- THE TIED CARD OF 'pandectlaw14.NormOrder'. -/
def normOrderCard : Claim7 := { stood := { row := normOrderRow, standIns := [], harness := (true, "542762a18bf871ad1b39b503933890a1e21b2b1e9f7eced2e686454d6146b3bb"), looks := true }, kinds := [], alts := [], laidByText := true, laidKinds := [.data, .data, .data, .sentinel, .sentinel], laidTests := true, laidLooks := .later }
def NormOrderCardSaid : Prop := Claim7.holds Tryz.pinned (.plain (OpenSpec.ofChange normOrderSpec)) normOrderCard

/-- THE TIED CARD OF 'pandectlaw14.NormOthers'. -/
def normOthersCard : Claim7 := { stood := { row := normOthersRow, standIns := [], harness := (true, "542762a18bf871ad1b39b503933890a1e21b2b1e9f7eced2e686454d6146b3bb"), looks := true }, kinds := [], alts := [], laidByText := true, laidKinds := [.data, .data, .data, .sentinel, .sentinel], laidTests := true, laidLooks := .later }
def NormOthersCardSaid : Prop := Claim7.holds Tryz.pinned (.plain (OpenSpec.ofChange normOthersSpec)) normOthersCard

/-- THE TIED CARD OF 'pandectlaw14.NormCircles'. -/
def normCirclesCard : Claim7 := { stood := { row := normCirclesRow, standIns := [], harness := (true, "542762a18bf871ad1b39b503933890a1e21b2b1e9f7eced2e686454d6146b3bb"), looks := true }, kinds := [], alts := [], laidByText := true, laidKinds := [.data, .data, .data, .sentinel, .sentinel], laidTests := true, laidLooks := .later }
def NormCirclesCardSaid : Prop := Claim7.holds Tryz.pinned (.plain (OpenSpec.ofChange normCirclesSpec)) normCirclesCard

/-- THE TIED CARD OF 'pandectlaw14.NormChanges'. -/
def normChangesCard : Claim7 := { stood := { row := normChangesRow, standIns := [], harness := (true, "542762a18bf871ad1b39b503933890a1e21b2b1e9f7eced2e686454d6146b3bb"), looks := true }, kinds := [], alts := [], laidByText := true, laidKinds := [.data, .data, .data, .sentinel, .sentinel], laidTests := true, laidLooks := .later }
def NormChangesCardSaid : Prop := Claim7.holds Tryz.pinned (.plain (OpenSpec.ofChange normChangesSpec)) normChangesCard

/-- THE TIED CARD OF 'pandectlaw14.NormFree'. -/
def normFreeCard : Claim7 := { stood := { row := normFreeRow, standIns := [], harness := (true, "542762a18bf871ad1b39b503933890a1e21b2b1e9f7eced2e686454d6146b3bb"), looks := true }, kinds := [], alts := [], laidByText := true, laidKinds := [.data, .data, .data, .sentinel, .sentinel], laidTests := true, laidLooks := .later }
def NormFreeCardSaid : Prop := Claim7.holds Tryz.pinned (.plain (OpenSpec.ofChange normFreeSpec)) normFreeCard

/-- THE SECOND FORM's CARD OF 'pandectlaw14.NormMatchesReference'. -/
def normMatchesReferenceUptoCard : Claim7 := { stood := { row := normMatchesReferenceUptoRow, standIns := [], harness := (true, "542762a18bf871ad1b39b503933890a1e21b2b1e9f7eced2e686454d6146b3bb"), looks := true }, kinds := [], alts := [], laidByText := true, laidKinds := [.data, .data, .data, .sentinel, .sentinel], laidTests := true, laidLooks := .later }
def NormMatchesReferenceUptoCardSaid : Prop := Claim7.holds Tryz.pinned (.plain (OpenSpec.upto normMatchesReferenceSpec)) normMatchesReferenceUptoCard

/-- THE SECOND FORM's CARD OF 'pandectlaw14.NormDecides'. -/
def normDecidesUptoCard : Claim7 := { stood := { row := normDecidesUptoRow, standIns := [], harness := (true, "542762a18bf871ad1b39b503933890a1e21b2b1e9f7eced2e686454d6146b3bb"), looks := true }, kinds := [], alts := [], laidByText := true, laidKinds := [.data, .data, .data, .sentinel, .sentinel], laidTests := true, laidLooks := .later }
def NormDecidesUptoCardSaid : Prop := Claim7.holds Tryz.pinned (.plain (OpenSpec.upto normDecidesSpec)) normDecidesUptoCard

/-- THE SECOND FORM's CARD OF 'pandectlaw14.NormOrder'. -/
def normOrderUptoCard : Claim7 := { stood := { row := normOrderUptoRow, standIns := [], harness := (true, "542762a18bf871ad1b39b503933890a1e21b2b1e9f7eced2e686454d6146b3bb"), looks := true }, kinds := [], alts := [], laidByText := true, laidKinds := [.data, .data, .data, .sentinel, .sentinel], laidTests := true, laidLooks := .later }
def NormOrderUptoCardSaid : Prop := Claim7.holds Tryz.pinned (.plain (OpenSpec.upto normOrderSpec)) normOrderUptoCard

/-- THE SECOND FORM's CARD OF 'pandectlaw14.NormOthers'. -/
def normOthersUptoCard : Claim7 := { stood := { row := normOthersUptoRow, standIns := [], harness := (true, "542762a18bf871ad1b39b503933890a1e21b2b1e9f7eced2e686454d6146b3bb"), looks := true }, kinds := [], alts := [], laidByText := true, laidKinds := [.data, .data, .data, .sentinel, .sentinel], laidTests := true, laidLooks := .later }
def NormOthersUptoCardSaid : Prop := Claim7.holds Tryz.pinned (.plain (OpenSpec.upto normOthersSpec)) normOthersUptoCard

/-- THE SECOND FORM's CARD OF 'pandectlaw14.NormCircles'. -/
def normCirclesUptoCard : Claim7 := { stood := { row := normCirclesUptoRow, standIns := [], harness := (true, "542762a18bf871ad1b39b503933890a1e21b2b1e9f7eced2e686454d6146b3bb"), looks := true }, kinds := [], alts := [], laidByText := true, laidKinds := [.data, .data, .data, .sentinel, .sentinel], laidTests := true, laidLooks := .later }
def NormCirclesUptoCardSaid : Prop := Claim7.holds Tryz.pinned (.plain (OpenSpec.upto normCirclesSpec)) normCirclesUptoCard

/-- THE SECOND FORM's CARD OF 'pandectlaw14.NormChanges'. -/
def normChangesUptoCard : Claim7 := { stood := { row := normChangesUptoRow, standIns := [], harness := (true, "542762a18bf871ad1b39b503933890a1e21b2b1e9f7eced2e686454d6146b3bb"), looks := true }, kinds := [], alts := [], laidByText := true, laidKinds := [.data, .data, .data, .sentinel, .sentinel], laidTests := true, laidLooks := .later }
def NormChangesUptoCardSaid : Prop := Claim7.holds Tryz.pinned (.plain (OpenSpec.upto normChangesSpec)) normChangesUptoCard

/-- THE SECOND FORM's CARD OF 'pandectlaw14.NormFree'. -/
def normFreeUptoCard : Claim7 := { stood := { row := normFreeUptoRow, standIns := [], harness := (true, "542762a18bf871ad1b39b503933890a1e21b2b1e9f7eced2e686454d6146b3bb"), looks := true }, kinds := [], alts := [], laidByText := true, laidKinds := [.data, .data, .data, .sentinel, .sentinel], laidTests := true, laidLooks := .later }
def NormFreeUptoCardSaid : Prop := Claim7.holds Tryz.pinned (.plain (OpenSpec.upto normFreeSpec)) normFreeUptoCard
end Rows
end Go.Proofs.YtihpoecdnchioaaGreatDoor
