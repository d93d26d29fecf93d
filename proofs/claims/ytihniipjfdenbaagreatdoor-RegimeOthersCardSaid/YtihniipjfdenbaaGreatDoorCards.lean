/-
  DERIVED. GIVEN WITH THE SEED: THE CARDS: each row of YtihniipjfdenbaaGreatDoorRows.lean that lists a variable, with what it lists TIED to the program's text (the seventh form; the later family's looks); each row that meets fmt, with fmt's text TOLD by the authors' own Lean function (tested against real Go, not proved from fmt's source: count such statements apart). THE CARD IS WHAT COUNTS. Prove the row's statement (the work); the ties are given (YtihniipjfdenbaaGreatDoorTie.lean); close each card by the builder's one call (the guide's Derived/Test/ToyasCard.lean, 'card_holds'). Laid BY PROGRAM, IN A SANDBOX (cutbox-door.mjs). By AI agents, Wed Nov 11 2026. No macro, syntax, notation, axiom, sorry.
-/
import Derived.Test.YtihniipjfdenbaaGreatDoorRows
import GoSem.ClaimSeven
namespace Go.Proofs.YtihniipjfdenbaaGreatDoor
namespace Rows

/-- THE TIED CARD OF 'pandectlaw33.RegimeMatchesReference'. -/
def regimeMatchesReferenceCard : Claim7 := { stood := { row := regimeMatchesReferenceRow, standIns := [], harness := (true, "1dc0354aee2e8b26fe5a873ad1dbd38b6ca373bf4f9414df6b8936da1f678682"), looks := true }, kinds := [], alts := [], laidByText := true, laidKinds := [.data, .data, .data, .sentinel, .sentinel], laidTests := true, laidLooks := .later }
def RegimeMatchesReferenceCardSaid : Prop := Claim7.holds Tryz.pinned (.plain (OpenSpec.ofChange regimeMatchesReferenceSpec)) regimeMatchesReferenceCard

/-- THE TIED CARD OF 'pandectlaw33.RegimeFinds'. -/
def regimeFindsCard : Claim7 := { stood := { row := regimeFindsRow, standIns := [], harness := (true, "1dc0354aee2e8b26fe5a873ad1dbd38b6ca373bf4f9414df6b8936da1f678682"), looks := true }, kinds := [], alts := [], laidByText := true, laidKinds := [.data, .data, .data, .sentinel, .sentinel], laidTests := true, laidLooks := .later }
def RegimeFindsCardSaid : Prop := Claim7.holds Tryz.pinned (.plain (OpenSpec.ofChange regimeFindsSpec)) regimeFindsCard

/-- THE TIED CARD OF 'pandectlaw33.RegimeComplete'. -/
def regimeCompleteCard : Claim7 := { stood := { row := regimeCompleteRow, standIns := [], harness := (true, "1dc0354aee2e8b26fe5a873ad1dbd38b6ca373bf4f9414df6b8936da1f678682"), looks := true }, kinds := [], alts := [], laidByText := true, laidKinds := [.data, .data, .data, .sentinel, .sentinel], laidTests := true, laidLooks := .later }
def RegimeCompleteCardSaid : Prop := Claim7.holds Tryz.pinned (.plain (OpenSpec.ofChange regimeCompleteSpec)) regimeCompleteCard

/-- THE TIED CARD OF 'pandectlaw33.RegimeDays'. -/
def regimeDaysCard : Claim7 := { stood := { row := regimeDaysRow, standIns := [], harness := (true, "1dc0354aee2e8b26fe5a873ad1dbd38b6ca373bf4f9414df6b8936da1f678682"), looks := true }, kinds := [], alts := [], laidByText := true, laidKinds := [.data, .data, .data, .sentinel, .sentinel], laidTests := true, laidLooks := .later }
def RegimeDaysCardSaid : Prop := Claim7.holds Tryz.pinned (.plain (OpenSpec.ofChange regimeDaysSpec)) regimeDaysCard

/-- THE TIED CARD OF 'pandectlaw33.RegimeOthers'. -/
def regimeOthersCard : Claim7 := { stood := { row := regimeOthersRow, standIns := [], harness := (true, "1dc0354aee2e8b26fe5a873ad1dbd38b6ca373bf4f9414df6b8936da1f678682"), looks := true }, kinds := [], alts := [], laidByText := true, laidKinds := [.data, .data, .data, .sentinel, .sentinel], laidTests := true, laidLooks := .later }
def RegimeOthersCardSaid : Prop := Claim7.holds Tryz.pinned (.plain (OpenSpec.ofChange regimeOthersSpec)) regimeOthersCard

/-- THE TIED CARD OF 'pandectlaw33.RegimeOrder'. -/
def regimeOrderCard : Claim7 := { stood := { row := regimeOrderRow, standIns := [], harness := (true, "1dc0354aee2e8b26fe5a873ad1dbd38b6ca373bf4f9414df6b8936da1f678682"), looks := true }, kinds := [], alts := [], laidByText := true, laidKinds := [.data, .data, .data, .sentinel, .sentinel], laidTests := true, laidLooks := .later }
def RegimeOrderCardSaid : Prop := Claim7.holds Tryz.pinned (.plain (OpenSpec.ofChange regimeOrderSpec)) regimeOrderCard

/-- THE SECOND FORM's CARD OF 'pandectlaw33.RegimeMatchesReference'. -/
def regimeMatchesReferenceUptoCard : Claim7 := { stood := { row := regimeMatchesReferenceUptoRow, standIns := [], harness := (true, "1dc0354aee2e8b26fe5a873ad1dbd38b6ca373bf4f9414df6b8936da1f678682"), looks := true }, kinds := [], alts := [], laidByText := true, laidKinds := [.data, .data, .data, .sentinel, .sentinel], laidTests := true, laidLooks := .later }
def RegimeMatchesReferenceUptoCardSaid : Prop := Claim7.holds Tryz.pinned (.plain (OpenSpec.upto regimeMatchesReferenceSpec)) regimeMatchesReferenceUptoCard

/-- THE SECOND FORM's CARD OF 'pandectlaw33.RegimeFinds'. -/
def regimeFindsUptoCard : Claim7 := { stood := { row := regimeFindsUptoRow, standIns := [], harness := (true, "1dc0354aee2e8b26fe5a873ad1dbd38b6ca373bf4f9414df6b8936da1f678682"), looks := true }, kinds := [], alts := [], laidByText := true, laidKinds := [.data, .data, .data, .sentinel, .sentinel], laidTests := true, laidLooks := .later }
def RegimeFindsUptoCardSaid : Prop := Claim7.holds Tryz.pinned (.plain (OpenSpec.upto regimeFindsSpec)) regimeFindsUptoCard

/-- THE SECOND FORM's CARD OF 'pandectlaw33.RegimeComplete'. -/
def regimeCompleteUptoCard : Claim7 := { stood := { row := regimeCompleteUptoRow, standIns := [], harness := (true, "1dc0354aee2e8b26fe5a873ad1dbd38b6ca373bf4f9414df6b8936da1f678682"), looks := true }, kinds := [], alts := [], laidByText := true, laidKinds := [.data, .data, .data, .sentinel, .sentinel], laidTests := true, laidLooks := .later }
def RegimeCompleteUptoCardSaid : Prop := Claim7.holds Tryz.pinned (.plain (OpenSpec.upto regimeCompleteSpec)) regimeCompleteUptoCard

/-- THE SECOND FORM's CARD OF 'pandectlaw33.RegimeDays'. -/
def regimeDaysUptoCard : Claim7 := { stood := { row := regimeDaysUptoRow, standIns := [], harness := (true, "1dc0354aee2e8b26fe5a873ad1dbd38b6ca373bf4f9414df6b8936da1f678682"), looks := true }, kinds := [], alts := [], laidByText := true, laidKinds := [.data, .data, .data, .sentinel, .sentinel], laidTests := true, laidLooks := .later }
def RegimeDaysUptoCardSaid : Prop := Claim7.holds Tryz.pinned (.plain (OpenSpec.upto regimeDaysSpec)) regimeDaysUptoCard

/-- THE SECOND FORM's CARD OF 'pandectlaw33.RegimeOthers'. -/
def regimeOthersUptoCard : Claim7 := { stood := { row := regimeOthersUptoRow, standIns := [], harness := (true, "1dc0354aee2e8b26fe5a873ad1dbd38b6ca373bf4f9414df6b8936da1f678682"), looks := true }, kinds := [], alts := [], laidByText := true, laidKinds := [.data, .data, .data, .sentinel, .sentinel], laidTests := true, laidLooks := .later }
def RegimeOthersUptoCardSaid : Prop := Claim7.holds Tryz.pinned (.plain (OpenSpec.upto regimeOthersSpec)) regimeOthersUptoCard

/-- THE SECOND FORM's CARD OF 'pandectlaw33.RegimeOrder'. -/
def regimeOrderUptoCard : Claim7 := { stood := { row := regimeOrderUptoRow, standIns := [], harness := (true, "1dc0354aee2e8b26fe5a873ad1dbd38b6ca373bf4f9414df6b8936da1f678682"), looks := true }, kinds := [], alts := [], laidByText := true, laidKinds := [.data, .data, .data, .sentinel, .sentinel], laidTests := true, laidLooks := .later }
def RegimeOrderUptoCardSaid : Prop := Claim7.holds Tryz.pinned (.plain (OpenSpec.upto regimeOrderSpec)) regimeOrderUptoCard
end Rows
end Go.Proofs.YtihniipjfdenbaaGreatDoor
