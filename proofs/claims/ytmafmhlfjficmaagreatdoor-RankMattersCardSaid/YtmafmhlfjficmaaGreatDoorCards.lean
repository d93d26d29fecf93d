/-
  DERIVED. GIVEN WITH THE SEED: THE CARDS: each row of YtmafmhlfjficmaaGreatDoorRows.lean that lists a variable, with what it lists TIED to the program's text (the seventh form; the later family's looks); each row that meets fmt, with fmt's text TOLD by the authors' own Lean function (tested against real Go, not proved from fmt's source: count such statements apart). THE CARD IS WHAT COUNTS. Prove the row's statement (the work); the ties are given (YtmafmhlfjficmaaGreatDoorTie.lean); close each card by the builder's one call (the guide's Derived/Test/ToyasCard.lean, 'card_holds'). Laid BY PROGRAM, IN A SANDBOX (cutbox-door.mjs). By AI agents, Wed Nov 11 2026. No macro, syntax, notation, axiom, sorry.
-/
import Derived.Test.YtmafmhlfjficmaaGreatDoorRows
import GoSem.ClaimSeven
namespace Go.Proofs.YtmafmhlfjficmaaGreatDoor
namespace Rows

/-- THE TIED CARD OF 'pandectlaw15.RankMatchesReference'. -/
def rankMatchesReferenceCard : Claim7 := { stood := { row := rankMatchesReferenceRow, standIns := [], harness := (true, "0b4fed6cddc5a272c75ec3ec46e1d8ee70ba1c3e553103cc2fe4e154f773ac8b"), looks := true }, kinds := [], alts := [], laidByText := true, laidKinds := [.data, .data, .data, .sentinel, .sentinel], laidTests := true, laidLooks := .later }
def RankMatchesReferenceCardSaid : Prop := Claim7.holds Tryz.pinned (.plain (OpenSpec.ofChange rankMatchesReferenceSpec)) rankMatchesReferenceCard

/-- THE TIED CARD OF 'pandectlaw15.RankOrder'. -/
def rankOrderCard : Claim7 := { stood := { row := rankOrderRow, standIns := [], harness := (true, "0b4fed6cddc5a272c75ec3ec46e1d8ee70ba1c3e553103cc2fe4e154f773ac8b"), looks := true }, kinds := [], alts := [], laidByText := true, laidKinds := [.data, .data, .data, .sentinel, .sentinel], laidTests := true, laidLooks := .later }
def RankOrderCardSaid : Prop := Claim7.holds Tryz.pinned (.plain (OpenSpec.ofChange rankOrderSpec)) rankOrderCard

/-- THE TIED CARD OF 'pandectlaw15.RankHigher'. -/
def rankHigherCard : Claim7 := { stood := { row := rankHigherRow, standIns := [], harness := (true, "0b4fed6cddc5a272c75ec3ec46e1d8ee70ba1c3e553103cc2fe4e154f773ac8b"), looks := true }, kinds := [], alts := [], laidByText := true, laidKinds := [.data, .data, .data, .sentinel, .sentinel], laidTests := true, laidLooks := .later }
def RankHigherCardSaid : Prop := Claim7.holds Tryz.pinned (.plain (OpenSpec.ofChange rankHigherSpec)) rankHigherCard

/-- THE TIED CARD OF 'pandectlaw15.RankBest'. -/
def rankBestCard : Claim7 := { stood := { row := rankBestRow, standIns := [], harness := (true, "0b4fed6cddc5a272c75ec3ec46e1d8ee70ba1c3e553103cc2fe4e154f773ac8b"), looks := true }, kinds := [], alts := [], laidByText := true, laidKinds := [.data, .data, .data, .sentinel, .sentinel], laidTests := true, laidLooks := .later }
def RankBestCardSaid : Prop := Claim7.holds Tryz.pinned (.plain (OpenSpec.ofChange rankBestSpec)) rankBestCard

/-- THE TIED CARD OF 'pandectlaw15.RankMatters'. -/
def rankMattersCard : Claim7 := { stood := { row := rankMattersRow, standIns := [], harness := (true, "0b4fed6cddc5a272c75ec3ec46e1d8ee70ba1c3e553103cc2fe4e154f773ac8b"), looks := true }, kinds := [], alts := [], laidByText := true, laidKinds := [.data, .data, .data, .sentinel, .sentinel], laidTests := true, laidLooks := .later }
def RankMattersCardSaid : Prop := Claim7.holds Tryz.pinned (.plain (OpenSpec.ofChange rankMattersSpec)) rankMattersCard

/-- THE TIED CARD OF 'pandectlaw15.RankSpecial'. -/
def rankSpecialCard : Claim7 := { stood := { row := rankSpecialRow, standIns := [], harness := (true, "0b4fed6cddc5a272c75ec3ec46e1d8ee70ba1c3e553103cc2fe4e154f773ac8b"), looks := true }, kinds := [], alts := [], laidByText := true, laidKinds := [.data, .data, .data, .sentinel, .sentinel], laidTests := true, laidLooks := .later }
def RankSpecialCardSaid : Prop := Claim7.holds Tryz.pinned (.plain (OpenSpec.ofChange rankSpecialSpec)) rankSpecialCard

/-- THE SECOND FORM's CARD OF 'pandectlaw15.RankMatchesReference'. -/
def rankMatchesReferenceUptoCard : Claim7 := { stood := { row := rankMatchesReferenceUptoRow, standIns := [], harness := (true, "0b4fed6cddc5a272c75ec3ec46e1d8ee70ba1c3e553103cc2fe4e154f773ac8b"), looks := true }, kinds := [], alts := [], laidByText := true, laidKinds := [.data, .data, .data, .sentinel, .sentinel], laidTests := true, laidLooks := .later }
def RankMatchesReferenceUptoCardSaid : Prop := Claim7.holds Tryz.pinned (.plain (OpenSpec.upto rankMatchesReferenceSpec)) rankMatchesReferenceUptoCard

/-- THE SECOND FORM's CARD OF 'pandectlaw15.RankOrder'. -/
def rankOrderUptoCard : Claim7 := { stood := { row := rankOrderUptoRow, standIns := [], harness := (true, "0b4fed6cddc5a272c75ec3ec46e1d8ee70ba1c3e553103cc2fe4e154f773ac8b"), looks := true }, kinds := [], alts := [], laidByText := true, laidKinds := [.data, .data, .data, .sentinel, .sentinel], laidTests := true, laidLooks := .later }
def RankOrderUptoCardSaid : Prop := Claim7.holds Tryz.pinned (.plain (OpenSpec.upto rankOrderSpec)) rankOrderUptoCard

/-- THE SECOND FORM's CARD OF 'pandectlaw15.RankHigher'. -/
def rankHigherUptoCard : Claim7 := { stood := { row := rankHigherUptoRow, standIns := [], harness := (true, "0b4fed6cddc5a272c75ec3ec46e1d8ee70ba1c3e553103cc2fe4e154f773ac8b"), looks := true }, kinds := [], alts := [], laidByText := true, laidKinds := [.data, .data, .data, .sentinel, .sentinel], laidTests := true, laidLooks := .later }
def RankHigherUptoCardSaid : Prop := Claim7.holds Tryz.pinned (.plain (OpenSpec.upto rankHigherSpec)) rankHigherUptoCard

/-- THE SECOND FORM's CARD OF 'pandectlaw15.RankBest'. -/
def rankBestUptoCard : Claim7 := { stood := { row := rankBestUptoRow, standIns := [], harness := (true, "0b4fed6cddc5a272c75ec3ec46e1d8ee70ba1c3e553103cc2fe4e154f773ac8b"), looks := true }, kinds := [], alts := [], laidByText := true, laidKinds := [.data, .data, .data, .sentinel, .sentinel], laidTests := true, laidLooks := .later }
def RankBestUptoCardSaid : Prop := Claim7.holds Tryz.pinned (.plain (OpenSpec.upto rankBestSpec)) rankBestUptoCard

/-- THE SECOND FORM's CARD OF 'pandectlaw15.RankMatters'. -/
def rankMattersUptoCard : Claim7 := { stood := { row := rankMattersUptoRow, standIns := [], harness := (true, "0b4fed6cddc5a272c75ec3ec46e1d8ee70ba1c3e553103cc2fe4e154f773ac8b"), looks := true }, kinds := [], alts := [], laidByText := true, laidKinds := [.data, .data, .data, .sentinel, .sentinel], laidTests := true, laidLooks := .later }
def RankMattersUptoCardSaid : Prop := Claim7.holds Tryz.pinned (.plain (OpenSpec.upto rankMattersSpec)) rankMattersUptoCard

/-- THE SECOND FORM's CARD OF 'pandectlaw15.RankSpecial'. -/
def rankSpecialUptoCard : Claim7 := { stood := { row := rankSpecialUptoRow, standIns := [], harness := (true, "0b4fed6cddc5a272c75ec3ec46e1d8ee70ba1c3e553103cc2fe4e154f773ac8b"), looks := true }, kinds := [], alts := [], laidByText := true, laidKinds := [.data, .data, .data, .sentinel, .sentinel], laidTests := true, laidLooks := .later }
def RankSpecialUptoCardSaid : Prop := Claim7.holds Tryz.pinned (.plain (OpenSpec.upto rankSpecialSpec)) rankSpecialUptoCard
end Rows
end Go.Proofs.YtmafmhlfjficmaaGreatDoor
