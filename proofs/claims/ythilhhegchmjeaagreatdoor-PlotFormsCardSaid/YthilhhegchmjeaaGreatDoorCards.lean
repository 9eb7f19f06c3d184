/-
  DERIVED. GIVEN WITH THE SEED: THE CARDS: each row of YthilhhegchmjeaaGreatDoorRows.lean that lists a variable, with what it lists TIED to the program's text (the seventh form; the later family's looks); each row that meets fmt, with fmt's text TOLD by the authors' own Lean function (tested against real Go, not proved from fmt's source: count such statements apart). THE CARD IS WHAT COUNTS. Prove the row's statement (the work); the ties are given (YthilhhegchmjeaaGreatDoorTie.lean); close each card by the builder's one call (the guide's Derived/Test/ToyasCard.lean, 'card_holds'). Laid BY PROGRAM, IN A SANDBOX (cutbox-door.mjs). By AI agents, Wed Nov 11 2026. No macro, syntax, notation, axiom, sorry.
-/
import Derived.Test.YthilhhegchmjeaaGreatDoorRows
import GoSem.ClaimSeven
namespace Go.Proofs.YthilhhegchmjeaaGreatDoor
namespace Rows

/-- THE TIED CARD OF 'almucantarlaw49.PlotPixels'. -/
def plotPixelsCard : Claim7 := { stood := { row := plotPixelsRow, standIns := [], harness := (true, "7ee92d92f72cc3109e4bc06f1e248167c7bdc1a560d9cff6e638f22392f77fd4"), looks := false }, kinds := [], alts := [], laidByText := true, laidKinds := [.data, .pinned], laidTests := true, laidLooks := .later }
def PlotPixelsCardSaid : Prop := Claim7.holds Tryz.pinned (.plain (OpenSpec.ofChange plotPixelsSpec)) plotPixelsCard

/-- THE TIED CARD OF 'almucantarlaw49.PlotForms'. -/
def plotFormsCard : Claim7 := { stood := { row := plotFormsRow, standIns := [], harness := (true, "7ee92d92f72cc3109e4bc06f1e248167c7bdc1a560d9cff6e638f22392f77fd4"), looks := false }, kinds := [], alts := [], laidByText := true, laidKinds := [.data, .data, .data], laidTests := true, laidLooks := .later }
def PlotFormsCardSaid : Prop := Claim7.holds Tryz.pinned (.plain (OpenSpec.ofChange plotFormsSpec)) plotFormsCard

/-- THE TIED CARD OF 'almucantarlaw49.PlotRegions'. -/
def plotRegionsCard : Claim7 := { stood := { row := plotRegionsRow, standIns := [], harness := (true, "7ee92d92f72cc3109e4bc06f1e248167c7bdc1a560d9cff6e638f22392f77fd4"), looks := false }, kinds := [], alts := [], laidByText := true, laidKinds := [.data, .pinned], laidTests := true, laidLooks := .later }
def PlotRegionsCardSaid : Prop := Claim7.holds Tryz.pinned (.plain (OpenSpec.ofChange plotRegionsSpec)) plotRegionsCard

/-- THE TIED CARD OF 'almucantarlaw49.PlotNone'. -/
def plotNoneCard : Claim7 := { stood := { row := plotNoneRow, standIns := [], harness := (true, "7ee92d92f72cc3109e4bc06f1e248167c7bdc1a560d9cff6e638f22392f77fd4"), looks := false }, kinds := [], alts := [], laidByText := true, laidKinds := [.data, .data, .data, .data, .pinned], laidTests := true, laidLooks := .later }
def PlotNoneCardSaid : Prop := Claim7.holds Tryz.pinned (.plain (OpenSpec.ofChange plotNoneSpec)) plotNoneCard

/-- THE SECOND FORM's CARD OF 'almucantarlaw49.PlotPixels'. -/
def plotPixelsUptoCard : Claim7 := { stood := { row := plotPixelsUptoRow, standIns := [], harness := (true, "7ee92d92f72cc3109e4bc06f1e248167c7bdc1a560d9cff6e638f22392f77fd4"), looks := false }, kinds := [], alts := [], laidByText := true, laidKinds := [.data, .pinned], laidTests := true, laidLooks := .later }
def PlotPixelsUptoCardSaid : Prop := Claim7.holds Tryz.pinned (.plain (OpenSpec.upto plotPixelsSpec)) plotPixelsUptoCard

/-- THE SECOND FORM's CARD OF 'almucantarlaw49.PlotForms'. -/
def plotFormsUptoCard : Claim7 := { stood := { row := plotFormsUptoRow, standIns := [], harness := (true, "7ee92d92f72cc3109e4bc06f1e248167c7bdc1a560d9cff6e638f22392f77fd4"), looks := false }, kinds := [], alts := [], laidByText := true, laidKinds := [.data, .data, .data], laidTests := true, laidLooks := .later }
def PlotFormsUptoCardSaid : Prop := Claim7.holds Tryz.pinned (.plain (OpenSpec.upto plotFormsSpec)) plotFormsUptoCard

/-- THE SECOND FORM's CARD OF 'almucantarlaw49.PlotRegions'. -/
def plotRegionsUptoCard : Claim7 := { stood := { row := plotRegionsUptoRow, standIns := [], harness := (true, "7ee92d92f72cc3109e4bc06f1e248167c7bdc1a560d9cff6e638f22392f77fd4"), looks := false }, kinds := [], alts := [], laidByText := true, laidKinds := [.data, .pinned], laidTests := true, laidLooks := .later }
def PlotRegionsUptoCardSaid : Prop := Claim7.holds Tryz.pinned (.plain (OpenSpec.upto plotRegionsSpec)) plotRegionsUptoCard

/-- THE SECOND FORM's CARD OF 'almucantarlaw49.PlotNone'. -/
def plotNoneUptoCard : Claim7 := { stood := { row := plotNoneUptoRow, standIns := [], harness := (true, "7ee92d92f72cc3109e4bc06f1e248167c7bdc1a560d9cff6e638f22392f77fd4"), looks := false }, kinds := [], alts := [], laidByText := true, laidKinds := [.data, .data, .data, .data, .pinned], laidTests := true, laidLooks := .later }
def PlotNoneUptoCardSaid : Prop := Claim7.holds Tryz.pinned (.plain (OpenSpec.upto plotNoneSpec)) plotNoneUptoCard
end Rows
end Go.Proofs.YthilhhegchmjeaaGreatDoor
