/-
  DERIVED. GIVEN WITH THE SEED: THE CARDS: each row of YtdipkbobalnilaaGreatDoorRows.lean that lists a variable, with what it lists TIED to the program's text (the seventh form; the later family's looks); each row that meets fmt, with fmt's text TOLD by the authors' own Lean function (tested against real Go, not proved from fmt's source: count such statements apart). THE CARD IS WHAT COUNTS. Prove the row's statement (the work); the ties are given (YtdipkbobalnilaaGreatDoorTie.lean); close each card by the builder's one call (the guide's Derived/Test/ToyasCard.lean, 'card_holds'). Laid BY PROGRAM, IN A SANDBOX (cutbox-door.mjs). By AI agents, Wed Nov 11 2026. No macro, syntax, notation, axiom, sorry.
-/
import Derived.Test.YtdipkbobalnilaaGreatDoorRows
import GoSem.ClaimSeven
namespace Go.Proofs.YtdipkbobalnilaaGreatDoor
namespace Rows

/-- THE TIED CARD OF 'pandectlaw16.JudgeOthers'. -/
def judgeOthersCard : Claim7 := { stood := { row := judgeOthersRow, standIns := [], harness := (true, "8e34ab3d0cab2b8912880b52121bf8216cc80c8880f53924f58f18eafe663808"), looks := true }, kinds := [], alts := [], laidByText := true, laidKinds := [.data, .data, .data, .sentinel, .sentinel], laidTests := true, laidLooks := .later }
def JudgeOthersCardSaid : Prop := Claim7.holds Tryz.pinned (.plain (OpenSpec.ofChange judgeOthersSpec)) judgeOthersCard

/-- THE TIED CARD OF 'pandectlaw16.JudgeAnswers'. -/
def judgeAnswersCard : Claim7 := { stood := { row := judgeAnswersRow, standIns := [], harness := (true, "8e34ab3d0cab2b8912880b52121bf8216cc80c8880f53924f58f18eafe663808"), looks := true }, kinds := [], alts := [], laidByText := true, laidKinds := [.data, .data, .data, .sentinel, .sentinel], laidTests := true, laidLooks := .later }
def JudgeAnswersCardSaid : Prop := Claim7.holds Tryz.pinned (.plain (OpenSpec.ofChange judgeAnswersSpec)) judgeAnswersCard

/-- THE TIED CARD OF 'pandectlaw16.JudgeRegions'. -/
def judgeRegionsCard : Claim7 := { stood := { row := judgeRegionsRow, standIns := [], harness := (true, "8e34ab3d0cab2b8912880b52121bf8216cc80c8880f53924f58f18eafe663808"), looks := true }, kinds := [], alts := [], laidByText := true, laidKinds := [.data, .data, .data, .sentinel, .sentinel], laidTests := true, laidLooks := .later }
def JudgeRegionsCardSaid : Prop := Claim7.holds Tryz.pinned (.plain (OpenSpec.ofChange judgeRegionsSpec)) judgeRegionsCard

/-- THE SECOND FORM's CARD OF 'pandectlaw16.JudgeOthers'. -/
def judgeOthersUptoCard : Claim7 := { stood := { row := judgeOthersUptoRow, standIns := [], harness := (true, "8e34ab3d0cab2b8912880b52121bf8216cc80c8880f53924f58f18eafe663808"), looks := true }, kinds := [], alts := [], laidByText := true, laidKinds := [.data, .data, .data, .sentinel, .sentinel], laidTests := true, laidLooks := .later }
def JudgeOthersUptoCardSaid : Prop := Claim7.holds Tryz.pinned (.plain (OpenSpec.upto judgeOthersSpec)) judgeOthersUptoCard

/-- THE SECOND FORM's CARD OF 'pandectlaw16.JudgeAnswers'. -/
def judgeAnswersUptoCard : Claim7 := { stood := { row := judgeAnswersUptoRow, standIns := [], harness := (true, "8e34ab3d0cab2b8912880b52121bf8216cc80c8880f53924f58f18eafe663808"), looks := true }, kinds := [], alts := [], laidByText := true, laidKinds := [.data, .data, .data, .sentinel, .sentinel], laidTests := true, laidLooks := .later }
def JudgeAnswersUptoCardSaid : Prop := Claim7.holds Tryz.pinned (.plain (OpenSpec.upto judgeAnswersSpec)) judgeAnswersUptoCard

/-- THE SECOND FORM's CARD OF 'pandectlaw16.JudgeRegions'. -/
def judgeRegionsUptoCard : Claim7 := { stood := { row := judgeRegionsUptoRow, standIns := [], harness := (true, "8e34ab3d0cab2b8912880b52121bf8216cc80c8880f53924f58f18eafe663808"), looks := true }, kinds := [], alts := [], laidByText := true, laidKinds := [.data, .data, .data, .sentinel, .sentinel], laidTests := true, laidLooks := .later }
def JudgeRegionsUptoCardSaid : Prop := Claim7.holds Tryz.pinned (.plain (OpenSpec.upto judgeRegionsSpec)) judgeRegionsUptoCard
end Rows
end Go.Proofs.YtdipkbobalnilaaGreatDoor
