/-
  DERIVED. GIVEN WITH THE SEED: THE CARDS: each row of YtaglecidaedjfaaDoorRows.lean that lists a variable, with what it lists TIED to the program's text (the seventh form; the later family's looks); each row that meets fmt, with fmt's text TOLD by the authors' own Lean function (tested against real Go, not proved from fmt's source: count such statements apart). THE CARD IS WHAT COUNTS. Prove the row's statement (the work); the ties are given (YtaglecidaedjfaaDoorTie.lean); close each card by the builder's one call (the guide's Derived/Test/ToyasCard.lean, 'card_holds'). Laid BY PROGRAM, IN A SANDBOX (cutbox-door.mjs). By AI agents, Wed Nov 11 2026. No macro, syntax, notation, axiom, sorry.
-/
import Derived.Test.YtaglecidaedjfaaDoorRows
import GoSem.ClaimSeven
namespace Go.Proofs.YtaglecidaedjfaaDoor
namespace Rows

/-- THE TIED CARD OF 'almucantarlaw16.CatalogueBright'. -/
def catalogueBrightCard : Claim7 := { stood := { row := catalogueBrightRow, standIns := [], harness := (true, "fed2f9260d30e381f29e52027cc4e07fe6d620a72d8ee8f89c14ee75a3a32c1e"), looks := true }, kinds := [], alts := [], laidByText := true, laidKinds := [.data, .data, .data], laidTests := true, laidLooks := .later }
def CatalogueBrightCardSaid : Prop := Claim7.holds Tryd.pinned (.plain (OpenSpec.ofChange catalogueBrightSpec)) catalogueBrightCard

/-- THE TIED CARD OF 'almucantarlaw16.CatalogueFinds'. -/
def catalogueFindsCard : Claim7 := { stood := { row := catalogueFindsRow, standIns := [], harness := (true, "fed2f9260d30e381f29e52027cc4e07fe6d620a72d8ee8f89c14ee75a3a32c1e"), looks := true }, kinds := [], alts := [], laidByText := true, laidKinds := [.data, .data, .data], laidTests := true, laidLooks := .later }
def CatalogueFindsCardSaid : Prop := Claim7.holds Tryd.pinned (.plain (OpenSpec.ofChange catalogueFindsSpec)) catalogueFindsCard

/-- THE TIED CARD OF 'almucantarlaw16.CatalogueBack'. -/
def catalogueBackCard : Claim7 := { stood := { row := catalogueBackRow, standIns := [], harness := (true, "fed2f9260d30e381f29e52027cc4e07fe6d620a72d8ee8f89c14ee75a3a32c1e"), looks := true }, kinds := [], alts := [], laidByText := true, laidKinds := [.data, .data, .data, .data, .pinned], laidTests := true, laidLooks := .later }
def CatalogueBackCardSaid : Prop := Claim7.holds Tryd.pinned (.plain (OpenSpec.ofChange catalogueBackSpec)) catalogueBackCard

/-- THE TIED CARD OF 'almucantarlaw11.ChronometerTexts'. -/
def chronometerTextsCard : Claim7 := { stood := { row := chronometerTextsRow, standIns := [], harness := (true, "fed2f9260d30e381f29e52027cc4e07fe6d620a72d8ee8f89c14ee75a3a32c1e"), looks := true }, kinds := [], alts := [], laidByText := true, laidKinds := [.data, .data, .data, .data, .sentinel, .sentinel, .pinned], laidTests := true, laidLooks := .later }
def ChronometerTextsCardSaid : Prop := Claim7.holds Tryd.pinned (.plain (OpenSpec.ofChange chronometerTextsSpec)) chronometerTextsCard

/-- THE SECOND FORM's CARD OF 'almucantarlaw16.CatalogueBright'. -/
def catalogueBrightUptoCard : Claim7 := { stood := { row := catalogueBrightUptoRow, standIns := [], harness := (true, "fed2f9260d30e381f29e52027cc4e07fe6d620a72d8ee8f89c14ee75a3a32c1e"), looks := true }, kinds := [], alts := [], laidByText := true, laidKinds := [.data, .data, .data], laidTests := true, laidLooks := .later }
def CatalogueBrightUptoCardSaid : Prop := Claim7.holds Tryd.pinned (.plain (OpenSpec.upto catalogueBrightSpec)) catalogueBrightUptoCard

/-- THE SECOND FORM's CARD OF 'almucantarlaw16.CatalogueFinds'. -/
def catalogueFindsUptoCard : Claim7 := { stood := { row := catalogueFindsUptoRow, standIns := [], harness := (true, "fed2f9260d30e381f29e52027cc4e07fe6d620a72d8ee8f89c14ee75a3a32c1e"), looks := true }, kinds := [], alts := [], laidByText := true, laidKinds := [.data, .data, .data], laidTests := true, laidLooks := .later }
def CatalogueFindsUptoCardSaid : Prop := Claim7.holds Tryd.pinned (.plain (OpenSpec.upto catalogueFindsSpec)) catalogueFindsUptoCard

/-- THE SECOND FORM's CARD OF 'almucantarlaw16.CatalogueBack'. -/
def catalogueBackUptoCard : Claim7 := { stood := { row := catalogueBackUptoRow, standIns := [], harness := (true, "fed2f9260d30e381f29e52027cc4e07fe6d620a72d8ee8f89c14ee75a3a32c1e"), looks := true }, kinds := [], alts := [], laidByText := true, laidKinds := [.data, .data, .data, .data, .pinned], laidTests := true, laidLooks := .later }
def CatalogueBackUptoCardSaid : Prop := Claim7.holds Tryd.pinned (.plain (OpenSpec.upto catalogueBackSpec)) catalogueBackUptoCard

/-- THE SECOND FORM's CARD OF 'almucantarlaw11.ChronometerTexts'. -/
def chronometerTextsUptoCard : Claim7 := { stood := { row := chronometerTextsUptoRow, standIns := [], harness := (true, "fed2f9260d30e381f29e52027cc4e07fe6d620a72d8ee8f89c14ee75a3a32c1e"), looks := true }, kinds := [], alts := [], laidByText := true, laidKinds := [.data, .data, .data, .data, .sentinel, .sentinel, .pinned], laidTests := true, laidLooks := .later }
def ChronometerTextsUptoCardSaid : Prop := Claim7.holds Tryd.pinned (.plain (OpenSpec.upto chronometerTextsSpec)) chronometerTextsUptoCard
end Rows
end Go.Proofs.YtaglecidaedjfaaDoor
