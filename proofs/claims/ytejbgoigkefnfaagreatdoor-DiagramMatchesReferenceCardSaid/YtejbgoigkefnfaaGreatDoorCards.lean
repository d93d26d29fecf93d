/-
  DERIVED. GIVEN WITH THE SEED: THE CARDS: each row of YtejbgoigkefnfaaGreatDoorRows.lean that lists a variable, with what it lists TIED to the program's text (the seventh form; the later family's looks); each row that meets fmt, with fmt's text TOLD by the authors' own Lean function (tested against real Go, not proved from fmt's source: count such statements apart). THE CARD IS WHAT COUNTS. Prove the row's statement (the work); the ties are given (YtejbgoigkefnfaaGreatDoorTie.lean); close each card by the builder's one call (the guide's Derived/Test/ToyasCard.lean, 'card_holds'). Laid BY PROGRAM, IN A SANDBOX (cutbox-door.mjs). By AI agents, Wed Nov 11 2026. No macro, syntax, notation, axiom, sorry.
-/
import Derived.Test.YtejbgoigkefnfaaGreatDoorRows
import GoSem.ClaimSeven
namespace Go.Proofs.YtejbgoigkefnfaaGreatDoor
namespace Rows

/-- THE TIED CARD OF 'pandectlaw11.DiagramMeans'. -/
def diagramMeansCard : Claim7 := { stood := { row := diagramMeansRow, standIns := [], harness := (true, "dbfb770137cd3a53e4568a461c6b3edeab2001f82372e9ca265d6da6bd306e12"), looks := true }, kinds := [], alts := [], laidByText := true, laidKinds := [.data, .data, .data, .sentinel, .sentinel], laidTests := true, laidLooks := .later }
def DiagramMeansCardSaid : Prop := Claim7.holds Tryz.pinned (.plain (OpenSpec.ofChange diagramMeansSpec)) diagramMeansCard

/-- THE TIED CARD OF 'pandectlaw11.DiagramLeast'. -/
def diagramLeastCard : Claim7 := { stood := { row := diagramLeastRow, standIns := [], harness := (true, "dbfb770137cd3a53e4568a461c6b3edeab2001f82372e9ca265d6da6bd306e12"), looks := true }, kinds := [], alts := [], laidByText := true, laidKinds := [.data, .data, .data, .sentinel, .sentinel], laidTests := true, laidLooks := .later }
def DiagramLeastCardSaid : Prop := Claim7.holds Tryz.pinned (.plain (OpenSpec.ofChange diagramLeastSpec)) diagramLeastCard

/-- THE TIED CARD OF 'pandectlaw11.DiagramMatchesReference'. -/
def diagramMatchesReferenceCard : Claim7 := { stood := { row := diagramMatchesReferenceRow, standIns := [], harness := (true, "dbfb770137cd3a53e4568a461c6b3edeab2001f82372e9ca265d6da6bd306e12"), looks := true }, kinds := [], alts := [], laidByText := true, laidKinds := [.data, .data, .data, .sentinel, .sentinel], laidTests := true, laidLooks := .later }
def DiagramMatchesReferenceCardSaid : Prop := Claim7.holds Tryz.pinned (.plain (OpenSpec.ofChange diagramMatchesReferenceSpec)) diagramMatchesReferenceCard

/-- THE TIED CARD OF 'pandectlaw11.DiagramForm'. -/
def diagramFormCard : Claim7 := { stood := { row := diagramFormRow, standIns := [], harness := (true, "dbfb770137cd3a53e4568a461c6b3edeab2001f82372e9ca265d6da6bd306e12"), looks := true }, kinds := [], alts := [], laidByText := true, laidKinds := [.data, .data, .data, .sentinel, .sentinel], laidTests := true, laidLooks := .later }
def DiagramFormCardSaid : Prop := Claim7.holds Tryz.pinned (.plain (OpenSpec.ofChange diagramFormSpec)) diagramFormCard

/-- THE TIED CARD OF 'pandectlaw11.DiagramRefuses'. -/
def diagramRefusesCard : Claim7 := { stood := { row := diagramRefusesRow, standIns := [], harness := (true, "dbfb770137cd3a53e4568a461c6b3edeab2001f82372e9ca265d6da6bd306e12"), looks := true }, kinds := [], alts := [], laidByText := true, laidKinds := [.data, .data, .data, .sentinel, .sentinel], laidTests := true, laidLooks := .later }
def DiagramRefusesCardSaid : Prop := Claim7.holds Tryz.pinned (.plain (OpenSpec.ofChange diagramRefusesSpec)) diagramRefusesCard

/-- THE TIED CARD OF 'pandectlaw11.DiagramJoins'. -/
def diagramJoinsCard : Claim7 := { stood := { row := diagramJoinsRow, standIns := [], harness := (true, "dbfb770137cd3a53e4568a461c6b3edeab2001f82372e9ca265d6da6bd306e12"), looks := true }, kinds := [], alts := [], laidByText := true, laidKinds := [.data, .data, .data, .sentinel, .sentinel], laidTests := true, laidLooks := .later }
def DiagramJoinsCardSaid : Prop := Claim7.holds Tryz.pinned (.plain (OpenSpec.ofChange diagramJoinsSpec)) diagramJoinsCard

/-- THE TIED CARD OF 'pandectlaw11.DiagramEquals'. -/
def diagramEqualsCard : Claim7 := { stood := { row := diagramEqualsRow, standIns := [], harness := (true, "dbfb770137cd3a53e4568a461c6b3edeab2001f82372e9ca265d6da6bd306e12"), looks := true }, kinds := [], alts := [], laidByText := true, laidKinds := [.data, .data, .data, .sentinel, .sentinel], laidTests := true, laidLooks := .later }
def DiagramEqualsCardSaid : Prop := Claim7.holds Tryz.pinned (.plain (OpenSpec.ofChange diagramEqualsSpec)) diagramEqualsCard

/-- THE SECOND FORM's CARD OF 'pandectlaw11.DiagramMeans'. -/
def diagramMeansUptoCard : Claim7 := { stood := { row := diagramMeansUptoRow, standIns := [], harness := (true, "dbfb770137cd3a53e4568a461c6b3edeab2001f82372e9ca265d6da6bd306e12"), looks := true }, kinds := [], alts := [], laidByText := true, laidKinds := [.data, .data, .data, .sentinel, .sentinel], laidTests := true, laidLooks := .later }
def DiagramMeansUptoCardSaid : Prop := Claim7.holds Tryz.pinned (.plain (OpenSpec.upto diagramMeansSpec)) diagramMeansUptoCard

/-- THE SECOND FORM's CARD OF 'pandectlaw11.DiagramLeast'. -/
def diagramLeastUptoCard : Claim7 := { stood := { row := diagramLeastUptoRow, standIns := [], harness := (true, "dbfb770137cd3a53e4568a461c6b3edeab2001f82372e9ca265d6da6bd306e12"), looks := true }, kinds := [], alts := [], laidByText := true, laidKinds := [.data, .data, .data, .sentinel, .sentinel], laidTests := true, laidLooks := .later }
def DiagramLeastUptoCardSaid : Prop := Claim7.holds Tryz.pinned (.plain (OpenSpec.upto diagramLeastSpec)) diagramLeastUptoCard

/-- THE SECOND FORM's CARD OF 'pandectlaw11.DiagramMatchesReference'. -/
def diagramMatchesReferenceUptoCard : Claim7 := { stood := { row := diagramMatchesReferenceUptoRow, standIns := [], harness := (true, "dbfb770137cd3a53e4568a461c6b3edeab2001f82372e9ca265d6da6bd306e12"), looks := true }, kinds := [], alts := [], laidByText := true, laidKinds := [.data, .data, .data, .sentinel, .sentinel], laidTests := true, laidLooks := .later }
def DiagramMatchesReferenceUptoCardSaid : Prop := Claim7.holds Tryz.pinned (.plain (OpenSpec.upto diagramMatchesReferenceSpec)) diagramMatchesReferenceUptoCard

/-- THE SECOND FORM's CARD OF 'pandectlaw11.DiagramForm'. -/
def diagramFormUptoCard : Claim7 := { stood := { row := diagramFormUptoRow, standIns := [], harness := (true, "dbfb770137cd3a53e4568a461c6b3edeab2001f82372e9ca265d6da6bd306e12"), looks := true }, kinds := [], alts := [], laidByText := true, laidKinds := [.data, .data, .data, .sentinel, .sentinel], laidTests := true, laidLooks := .later }
def DiagramFormUptoCardSaid : Prop := Claim7.holds Tryz.pinned (.plain (OpenSpec.upto diagramFormSpec)) diagramFormUptoCard

/-- THE SECOND FORM's CARD OF 'pandectlaw11.DiagramRefuses'. -/
def diagramRefusesUptoCard : Claim7 := { stood := { row := diagramRefusesUptoRow, standIns := [], harness := (true, "dbfb770137cd3a53e4568a461c6b3edeab2001f82372e9ca265d6da6bd306e12"), looks := true }, kinds := [], alts := [], laidByText := true, laidKinds := [.data, .data, .data, .sentinel, .sentinel], laidTests := true, laidLooks := .later }
def DiagramRefusesUptoCardSaid : Prop := Claim7.holds Tryz.pinned (.plain (OpenSpec.upto diagramRefusesSpec)) diagramRefusesUptoCard

/-- THE SECOND FORM's CARD OF 'pandectlaw11.DiagramJoins'. -/
def diagramJoinsUptoCard : Claim7 := { stood := { row := diagramJoinsUptoRow, standIns := [], harness := (true, "dbfb770137cd3a53e4568a461c6b3edeab2001f82372e9ca265d6da6bd306e12"), looks := true }, kinds := [], alts := [], laidByText := true, laidKinds := [.data, .data, .data, .sentinel, .sentinel], laidTests := true, laidLooks := .later }
def DiagramJoinsUptoCardSaid : Prop := Claim7.holds Tryz.pinned (.plain (OpenSpec.upto diagramJoinsSpec)) diagramJoinsUptoCard

/-- THE SECOND FORM's CARD OF 'pandectlaw11.DiagramEquals'. -/
def diagramEqualsUptoCard : Claim7 := { stood := { row := diagramEqualsUptoRow, standIns := [], harness := (true, "dbfb770137cd3a53e4568a461c6b3edeab2001f82372e9ca265d6da6bd306e12"), looks := true }, kinds := [], alts := [], laidByText := true, laidKinds := [.data, .data, .data, .sentinel, .sentinel], laidTests := true, laidLooks := .later }
def DiagramEqualsUptoCardSaid : Prop := Claim7.holds Tryz.pinned (.plain (OpenSpec.upto diagramEqualsSpec)) diagramEqualsUptoCard
end Rows
end Go.Proofs.YtejbgoigkefnfaaGreatDoor
