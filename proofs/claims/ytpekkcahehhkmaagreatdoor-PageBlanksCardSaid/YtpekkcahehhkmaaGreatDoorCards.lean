/-
  DERIVED. GIVEN WITH THE SEED: THE CARDS: each row of YtpekkcahehhkmaaGreatDoorRows.lean that lists a variable, with what it lists TIED to the program's text (the seventh form; the later family's looks); each row that meets fmt, with fmt's text TOLD by the authors' own Lean function (tested against real Go, not proved from fmt's source: count such statements apart). THE CARD IS WHAT COUNTS. Prove the row's statement (the work); the ties are given (YtpekkcahehhkmaaGreatDoorTie.lean); close each card by the builder's one call (the guide's Derived/Test/ToyasCard.lean, 'card_holds'). Laid BY PROGRAM, IN A SANDBOX (cutbox-door.mjs). By AI agents, Wed Nov 11 2026. No macro, syntax, notation, axiom, sorry.
-/
import Derived.Test.YtpekkcahehhkmaaGreatDoorRows
import GoSem.ClaimSeven
namespace Go.Proofs.YtpekkcahehhkmaaGreatDoor
namespace Rows

/-- THE TIED CARD OF 'almucantarlaw13.PageForms'. -/
def pageFormsCard : Claim7 := { stood := { row := pageFormsRow, standIns := [], harness := (true, "efc686835cc4f1fddbbad7e7e6f397d5747d0422d5662c2d002a058727d72e89"), looks := true }, kinds := [], alts := [], laidByText := true, laidKinds := [.data, .data, .data, .sentinel, .sentinel], laidTests := true, laidLooks := .later }
def PageFormsCardSaid : Prop := Claim7.holds Tryz.pinned (.plain (OpenSpec.ofChange pageFormsSpec)) pageFormsCard

/-- THE TIED CARD OF 'almucantarlaw13.PageEntries'. -/
def pageEntriesCard : Claim7 := { stood := { row := pageEntriesRow, standIns := [], harness := (true, "efc686835cc4f1fddbbad7e7e6f397d5747d0422d5662c2d002a058727d72e89"), looks := true }, kinds := [], alts := [], laidByText := true, laidKinds := [.data, .data, .data, .sentinel, .sentinel], laidTests := true, laidLooks := .later }
def PageEntriesCardSaid : Prop := Claim7.holds Tryz.pinned (.plain (OpenSpec.ofChange pageEntriesSpec)) pageEntriesCard

/-- THE TIED CARD OF 'almucantarlaw13.PageContains'. -/
def pageContainsCard : Claim7 := { stood := { row := pageContainsRow, standIns := [], harness := (true, "efc686835cc4f1fddbbad7e7e6f397d5747d0422d5662c2d002a058727d72e89"), looks := true }, kinds := [], alts := [], laidByText := true, laidKinds := [.data, .data, .data, .sentinel, .sentinel], laidTests := true, laidLooks := .later }
def PageContainsCardSaid : Prop := Claim7.holds Tryz.pinned (.plain (OpenSpec.ofChange pageContainsSpec)) pageContainsCard

/-- THE TIED CARD OF 'almucantarlaw13.PageTexts'. -/
def pageTextsCard : Claim7 := { stood := { row := pageTextsRow, standIns := [], harness := (true, "efc686835cc4f1fddbbad7e7e6f397d5747d0422d5662c2d002a058727d72e89"), looks := true }, kinds := [], alts := [], laidByText := true, laidKinds := [.data, .data, .data, .sentinel, .sentinel], laidTests := true, laidLooks := .later }
def PageTextsCardSaid : Prop := Claim7.holds Tryz.pinned (.plain (OpenSpec.ofChange pageTextsSpec)) pageTextsCard

/-- THE TIED CARD OF 'almucantarlaw13.PageBlanks'. -/
def pageBlanksCard : Claim7 := { stood := { row := pageBlanksRow, standIns := [], harness := (true, "efc686835cc4f1fddbbad7e7e6f397d5747d0422d5662c2d002a058727d72e89"), looks := true }, kinds := [], alts := [], laidByText := true, laidKinds := [.data, .data, .data, .data, .sentinel, .sentinel, .pinned], laidTests := true, laidLooks := .later }
def PageBlanksCardSaid : Prop := Claim7.holds Tryz.pinned (.plain (OpenSpec.ofChange pageBlanksSpec)) pageBlanksCard

/-- THE SECOND FORM's CARD OF 'almucantarlaw13.PageForms'. -/
def pageFormsUptoCard : Claim7 := { stood := { row := pageFormsUptoRow, standIns := [], harness := (true, "efc686835cc4f1fddbbad7e7e6f397d5747d0422d5662c2d002a058727d72e89"), looks := true }, kinds := [], alts := [], laidByText := true, laidKinds := [.data, .data, .data, .sentinel, .sentinel], laidTests := true, laidLooks := .later }
def PageFormsUptoCardSaid : Prop := Claim7.holds Tryz.pinned (.plain (OpenSpec.upto pageFormsSpec)) pageFormsUptoCard

/-- THE SECOND FORM's CARD OF 'almucantarlaw13.PageEntries'. -/
def pageEntriesUptoCard : Claim7 := { stood := { row := pageEntriesUptoRow, standIns := [], harness := (true, "efc686835cc4f1fddbbad7e7e6f397d5747d0422d5662c2d002a058727d72e89"), looks := true }, kinds := [], alts := [], laidByText := true, laidKinds := [.data, .data, .data, .sentinel, .sentinel], laidTests := true, laidLooks := .later }
def PageEntriesUptoCardSaid : Prop := Claim7.holds Tryz.pinned (.plain (OpenSpec.upto pageEntriesSpec)) pageEntriesUptoCard

/-- THE SECOND FORM's CARD OF 'almucantarlaw13.PageContains'. -/
def pageContainsUptoCard : Claim7 := { stood := { row := pageContainsUptoRow, standIns := [], harness := (true, "efc686835cc4f1fddbbad7e7e6f397d5747d0422d5662c2d002a058727d72e89"), looks := true }, kinds := [], alts := [], laidByText := true, laidKinds := [.data, .data, .data, .sentinel, .sentinel], laidTests := true, laidLooks := .later }
def PageContainsUptoCardSaid : Prop := Claim7.holds Tryz.pinned (.plain (OpenSpec.upto pageContainsSpec)) pageContainsUptoCard

/-- THE SECOND FORM's CARD OF 'almucantarlaw13.PageTexts'. -/
def pageTextsUptoCard : Claim7 := { stood := { row := pageTextsUptoRow, standIns := [], harness := (true, "efc686835cc4f1fddbbad7e7e6f397d5747d0422d5662c2d002a058727d72e89"), looks := true }, kinds := [], alts := [], laidByText := true, laidKinds := [.data, .data, .data, .sentinel, .sentinel], laidTests := true, laidLooks := .later }
def PageTextsUptoCardSaid : Prop := Claim7.holds Tryz.pinned (.plain (OpenSpec.upto pageTextsSpec)) pageTextsUptoCard

/-- THE SECOND FORM's CARD OF 'almucantarlaw13.PageBlanks'. -/
def pageBlanksUptoCard : Claim7 := { stood := { row := pageBlanksUptoRow, standIns := [], harness := (true, "efc686835cc4f1fddbbad7e7e6f397d5747d0422d5662c2d002a058727d72e89"), looks := true }, kinds := [], alts := [], laidByText := true, laidKinds := [.data, .data, .data, .data, .sentinel, .sentinel, .pinned], laidTests := true, laidLooks := .later }
def PageBlanksUptoCardSaid : Prop := Claim7.holds Tryz.pinned (.plain (OpenSpec.upto pageBlanksSpec)) pageBlanksUptoCard
end Rows
end Go.Proofs.YtpekkcahehhkmaaGreatDoor
