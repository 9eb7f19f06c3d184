/-
  DERIVED. GIVEN WITH THE SEED: THE CARDS: each row of YtgmolcobhehoeaaDoorRows.lean that lists a variable, with what it lists TIED to the program's text (the seventh form; the later family's looks); each row that meets fmt, with fmt's text TOLD by the authors' own Lean function (tested against real Go, not proved from fmt's source: count such statements apart). THE CARD IS WHAT COUNTS. Prove the row's statement (the work); the ties are given (YtgmolcobhehoeaaDoorTie.lean); close each card by the builder's one call (the guide's Derived/Test/ToyasCard.lean, 'card_holds'). Laid BY PROGRAM, IN A SANDBOX (cutbox-door.mjs). By AI agents, Wed Nov 11 2026. No macro, syntax, notation, axiom, sorry.
-/
import Derived.Test.YtgmolcobhehoeaaDoorRows
import GoSem.ClaimSeven
namespace Go.Proofs.YtgmolcobhehoeaaDoor
namespace Rows

/-- THE TIED CARD OF 'almucantarlaw49.PlotLines'. -/
def plotLinesCard : Claim7 := { stood := { row := plotLinesRow, standIns := [], harness := (true, "a360cd9b088dc1eb4d353a4d70deaae558a3b4b48aa01585215ceea4c6e44837"), looks := false }, kinds := [], alts := [], laidByText := true, laidKinds := [.data, .pinned], laidTests := true, laidLooks := .later }
def PlotLinesCardSaid : Prop := Claim7.holds Tryd.pinned (.plain (OpenSpec.ofChange plotLinesSpec)) plotLinesCard

/-- THE TIED CARD OF 'almucantarlaw16.CatalogueTriangles'. -/
def catalogueTrianglesCard : Claim7 := { stood := { row := catalogueTrianglesRow, standIns := [], harness := (true, "a360cd9b088dc1eb4d353a4d70deaae558a3b4b48aa01585215ceea4c6e44837"), looks := false }, kinds := [], alts := [], laidByText := true, laidKinds := [.data, .data, .data], laidTests := true, laidLooks := .later }
def CatalogueTrianglesCardSaid : Prop := Claim7.holds Tryd.pinned (.plain (OpenSpec.ofChange catalogueTrianglesSpec)) catalogueTrianglesCard

/-- THE SECOND FORM's CARD OF 'almucantarlaw49.PlotLines'. -/
def plotLinesUptoCard : Claim7 := { stood := { row := plotLinesUptoRow, standIns := [], harness := (true, "a360cd9b088dc1eb4d353a4d70deaae558a3b4b48aa01585215ceea4c6e44837"), looks := false }, kinds := [], alts := [], laidByText := true, laidKinds := [.data, .pinned], laidTests := true, laidLooks := .later }
def PlotLinesUptoCardSaid : Prop := Claim7.holds Tryd.pinned (.plain (OpenSpec.upto plotLinesSpec)) plotLinesUptoCard

/-- THE SECOND FORM's CARD OF 'almucantarlaw16.CatalogueTriangles'. -/
def catalogueTrianglesUptoCard : Claim7 := { stood := { row := catalogueTrianglesUptoRow, standIns := [], harness := (true, "a360cd9b088dc1eb4d353a4d70deaae558a3b4b48aa01585215ceea4c6e44837"), looks := false }, kinds := [], alts := [], laidByText := true, laidKinds := [.data, .data, .data], laidTests := true, laidLooks := .later }
def CatalogueTrianglesUptoCardSaid : Prop := Claim7.holds Tryd.pinned (.plain (OpenSpec.upto catalogueTrianglesSpec)) catalogueTrianglesUptoCard
end Rows
end Go.Proofs.YtgmolcobhehoeaaDoor
