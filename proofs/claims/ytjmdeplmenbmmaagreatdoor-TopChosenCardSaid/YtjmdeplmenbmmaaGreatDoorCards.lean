/-
  DERIVED. GIVEN WITH THE SEED: THE CARDS: each row of YtjmdeplmenbmmaaGreatDoorRows.lean that lists a variable, with what it lists TIED to the program's text (the seventh form; the later family's looks); each row that meets fmt, with fmt's text TOLD by the authors' own Lean function (tested against real Go, not proved from fmt's source: count such statements apart). THE CARD IS WHAT COUNTS. Prove the row's statement (the work); the ties are given (YtjmdeplmenbmmaaGreatDoorTie.lean); close each card by the builder's one call (the guide's Derived/Test/ToyasCard.lean, 'card_holds'). Laid BY PROGRAM, IN A SANDBOX (cutbox-door.mjs). By AI agents, Wed Nov 11 2026. No macro, syntax, notation, axiom, sorry.
-/
import Derived.Test.YtjmdeplmenbmmaaGreatDoorRows
import GoSem.ClaimSeven
namespace Go.Proofs.YtjmdeplmenbmmaaGreatDoor
namespace Rows

/-- THE TIED CARD OF 'almucantartop.TopComposite'. -/
def topCompositeCard : Claim7 := { stood := { row := topCompositeRow, standIns := [], harness := (true, "d6aeeabee35c4a1f1bc31151de57eef9c2621f8adfacd66f3f1b152081358534"), looks := false }, kinds := [], alts := [], laidByText := true, laidKinds := [.data, .data, .data], laidTests := true, laidLooks := .later }
def TopCompositeCardSaid : Prop := Claim7.holds Tryz.pinned (.plain (OpenSpec.ofChange topCompositeSpec)) topCompositeCard

/-- THE TIED CARD OF 'almucantartop.TopChosen'. -/
def topChosenCard : Claim7 := { stood := { row := topChosenRow, standIns := [], harness := (true, "d6aeeabee35c4a1f1bc31151de57eef9c2621f8adfacd66f3f1b152081358534"), looks := false }, kinds := [], alts := [], laidByText := true, laidKinds := [.data, .data, .data], laidTests := true, laidLooks := .later }
def TopChosenCardSaid : Prop := Claim7.holds Tryz.pinned (.plain (OpenSpec.ofChange topChosenSpec)) topChosenCard

/-- THE SECOND FORM's CARD OF 'almucantartop.TopComposite'. -/
def topCompositeUptoCard : Claim7 := { stood := { row := topCompositeUptoRow, standIns := [], harness := (true, "d6aeeabee35c4a1f1bc31151de57eef9c2621f8adfacd66f3f1b152081358534"), looks := false }, kinds := [], alts := [], laidByText := true, laidKinds := [.data, .data, .data], laidTests := true, laidLooks := .later }
def TopCompositeUptoCardSaid : Prop := Claim7.holds Tryz.pinned (.plain (OpenSpec.upto topCompositeSpec)) topCompositeUptoCard

/-- THE SECOND FORM's CARD OF 'almucantartop.TopChosen'. -/
def topChosenUptoCard : Claim7 := { stood := { row := topChosenUptoRow, standIns := [], harness := (true, "d6aeeabee35c4a1f1bc31151de57eef9c2621f8adfacd66f3f1b152081358534"), looks := false }, kinds := [], alts := [], laidByText := true, laidKinds := [.data, .data, .data], laidTests := true, laidLooks := .later }
def TopChosenUptoCardSaid : Prop := Claim7.holds Tryz.pinned (.plain (OpenSpec.upto topChosenSpec)) topChosenUptoCard
end Rows
end Go.Proofs.YtjmdeplmenbmmaaGreatDoor
