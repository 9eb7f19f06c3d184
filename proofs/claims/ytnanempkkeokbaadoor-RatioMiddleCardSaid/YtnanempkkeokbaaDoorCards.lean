/-
  DERIVED. GIVEN WITH THE SEED: THE CARDS: each row of YtnanempkkeokbaaDoorRows.lean that lists a variable, with what it lists TIED to the program's text (the seventh form; the later family's looks); each row that meets fmt, with fmt's text TOLD by the authors' own Lean function (tested against real Go, not proved from fmt's source: count such statements apart). THE CARD IS WHAT COUNTS. Prove the row's statement (the work); the ties are given (YtnanempkkeokbaaDoorTie.lean); close each card by the builder's one call (the guide's Derived/Test/ToyasCard.lean, 'card_holds'). Laid BY PROGRAM, IN A SANDBOX (cutbox-door.mjs). By AI agents, Wed Nov 11 2026. No macro, syntax, notation, axiom, sorry.
-/
import Derived.Test.YtnanempkkeokbaaDoorRows
import GoSem.ClaimSeven
namespace Go.Proofs.YtnanempkkeokbaaDoor
namespace Rows

/-- THE TIED CARD OF 'almucantarlaw03.RatioMakes'. -/
def ratioMakesCard : Claim7 := { stood := { row := ratioMakesRow, standIns := [], harness := (true, "e8f8f288492215074e91fa0b659faceec20eac4adcf2ab1c526c2e05fcaacab9"), looks := true }, kinds := [], alts := [], laidByText := true, laidKinds := [.data, .data, .data], laidTests := true, laidLooks := .later }
def RatioMakesCardSaid : Prop := Claim7.holds Tryd.pinned (.plain (OpenSpec.ofChange ratioMakesSpec)) ratioMakesCard

/-- THE TIED CARD OF 'almucantarlaw03.RatioRounds'. -/
def ratioRoundsCard : Claim7 := { stood := { row := ratioRoundsRow, standIns := [], harness := (true, "e8f8f288492215074e91fa0b659faceec20eac4adcf2ab1c526c2e05fcaacab9"), looks := true }, kinds := [], alts := [], laidByText := true, laidKinds := [.data, .data, .data], laidTests := true, laidLooks := .later }
def RatioRoundsCardSaid : Prop := Claim7.holds Tryd.pinned (.plain (OpenSpec.ofChange ratioRoundsSpec)) ratioRoundsCard

/-- THE TIED CARD OF 'almucantarlaw03.RatioOps'. -/
def ratioOpsCard : Claim7 := { stood := { row := ratioOpsRow, standIns := [], harness := (true, "e8f8f288492215074e91fa0b659faceec20eac4adcf2ab1c526c2e05fcaacab9"), looks := true }, kinds := [], alts := [], laidByText := true, laidKinds := [.data, .data, .data], laidTests := true, laidLooks := .later }
def RatioOpsCardSaid : Prop := Claim7.holds Tryd.pinned (.plain (OpenSpec.ofChange ratioOpsSpec)) ratioOpsCard

/-- THE TIED CARD OF 'almucantarlaw03.RatioField'. -/
def ratioFieldCard : Claim7 := { stood := { row := ratioFieldRow, standIns := [], harness := (true, "e8f8f288492215074e91fa0b659faceec20eac4adcf2ab1c526c2e05fcaacab9"), looks := true }, kinds := [], alts := [], laidByText := true, laidKinds := [.data, .data, .data], laidTests := true, laidLooks := .later }
def RatioFieldCardSaid : Prop := Claim7.holds Tryd.pinned (.plain (OpenSpec.ofChange ratioFieldSpec)) ratioFieldCard

/-- THE TIED CARD OF 'almucantarlaw03.RatioCompares'. -/
def ratioComparesCard : Claim7 := { stood := { row := ratioComparesRow, standIns := [], harness := (true, "e8f8f288492215074e91fa0b659faceec20eac4adcf2ab1c526c2e05fcaacab9"), looks := true }, kinds := [], alts := [], laidByText := true, laidKinds := [.data, .data, .data], laidTests := true, laidLooks := .later }
def RatioComparesCardSaid : Prop := Claim7.holds Tryd.pinned (.plain (OpenSpec.ofChange ratioComparesSpec)) ratioComparesCard

/-- THE TIED CARD OF 'almucantarlaw03.RatioOrder'. -/
def ratioOrderCard : Claim7 := { stood := { row := ratioOrderRow, standIns := [], harness := (true, "e8f8f288492215074e91fa0b659faceec20eac4adcf2ab1c526c2e05fcaacab9"), looks := true }, kinds := [], alts := [], laidByText := true, laidKinds := [.data, .data, .data], laidTests := true, laidLooks := .later }
def RatioOrderCardSaid : Prop := Claim7.holds Tryd.pinned (.plain (OpenSpec.ofChange ratioOrderSpec)) ratioOrderCard

/-- THE TIED CARD OF 'almucantarlaw03.RatioMiddle'. -/
def ratioMiddleCard : Claim7 := { stood := { row := ratioMiddleRow, standIns := [], harness := (true, "e8f8f288492215074e91fa0b659faceec20eac4adcf2ab1c526c2e05fcaacab9"), looks := true }, kinds := [], alts := [], laidByText := true, laidKinds := [.data, .data, .data], laidTests := true, laidLooks := .later }
def RatioMiddleCardSaid : Prop := Claim7.holds Tryd.pinned (.plain (OpenSpec.ofChange ratioMiddleSpec)) ratioMiddleCard

/-- THE TIED CARD OF 'almucantarlaw03.RatioLists'. -/
def ratioListsCard : Claim7 := { stood := { row := ratioListsRow, standIns := [], harness := (true, "e8f8f288492215074e91fa0b659faceec20eac4adcf2ab1c526c2e05fcaacab9"), looks := true }, kinds := [], alts := [], laidByText := true, laidKinds := [.data, .data, .data], laidTests := true, laidLooks := .later }
def RatioListsCardSaid : Prop := Claim7.holds Tryd.pinned (.plain (OpenSpec.ofChange ratioListsSpec)) ratioListsCard

/-- THE TIED CARD OF 'almucantarlaw03.RatioTexts'. -/
def ratioTextsCard : Claim7 := { stood := { row := ratioTextsRow, standIns := [], harness := (true, "e8f8f288492215074e91fa0b659faceec20eac4adcf2ab1c526c2e05fcaacab9"), looks := true }, kinds := [], alts := [], laidByText := true, laidKinds := [.data, .data, .data, .sentinel, .sentinel], laidTests := true, laidLooks := .later }
def RatioTextsCardSaid : Prop := Claim7.holds Tryd.pinned (.plain (OpenSpec.ofChange ratioTextsSpec)) ratioTextsCard

/-- THE SECOND FORM's CARD OF 'almucantarlaw03.RatioMakes'. -/
def ratioMakesUptoCard : Claim7 := { stood := { row := ratioMakesUptoRow, standIns := [], harness := (true, "e8f8f288492215074e91fa0b659faceec20eac4adcf2ab1c526c2e05fcaacab9"), looks := true }, kinds := [], alts := [], laidByText := true, laidKinds := [.data, .data, .data], laidTests := true, laidLooks := .later }
def RatioMakesUptoCardSaid : Prop := Claim7.holds Tryd.pinned (.plain (OpenSpec.upto ratioMakesSpec)) ratioMakesUptoCard

/-- THE SECOND FORM's CARD OF 'almucantarlaw03.RatioRounds'. -/
def ratioRoundsUptoCard : Claim7 := { stood := { row := ratioRoundsUptoRow, standIns := [], harness := (true, "e8f8f288492215074e91fa0b659faceec20eac4adcf2ab1c526c2e05fcaacab9"), looks := true }, kinds := [], alts := [], laidByText := true, laidKinds := [.data, .data, .data], laidTests := true, laidLooks := .later }
def RatioRoundsUptoCardSaid : Prop := Claim7.holds Tryd.pinned (.plain (OpenSpec.upto ratioRoundsSpec)) ratioRoundsUptoCard

/-- THE SECOND FORM's CARD OF 'almucantarlaw03.RatioOps'. -/
def ratioOpsUptoCard : Claim7 := { stood := { row := ratioOpsUptoRow, standIns := [], harness := (true, "e8f8f288492215074e91fa0b659faceec20eac4adcf2ab1c526c2e05fcaacab9"), looks := true }, kinds := [], alts := [], laidByText := true, laidKinds := [.data, .data, .data], laidTests := true, laidLooks := .later }
def RatioOpsUptoCardSaid : Prop := Claim7.holds Tryd.pinned (.plain (OpenSpec.upto ratioOpsSpec)) ratioOpsUptoCard

/-- THE SECOND FORM's CARD OF 'almucantarlaw03.RatioField'. -/
def ratioFieldUptoCard : Claim7 := { stood := { row := ratioFieldUptoRow, standIns := [], harness := (true, "e8f8f288492215074e91fa0b659faceec20eac4adcf2ab1c526c2e05fcaacab9"), looks := true }, kinds := [], alts := [], laidByText := true, laidKinds := [.data, .data, .data], laidTests := true, laidLooks := .later }
def RatioFieldUptoCardSaid : Prop := Claim7.holds Tryd.pinned (.plain (OpenSpec.upto ratioFieldSpec)) ratioFieldUptoCard

/-- THE SECOND FORM's CARD OF 'almucantarlaw03.RatioCompares'. -/
def ratioComparesUptoCard : Claim7 := { stood := { row := ratioComparesUptoRow, standIns := [], harness := (true, "e8f8f288492215074e91fa0b659faceec20eac4adcf2ab1c526c2e05fcaacab9"), looks := true }, kinds := [], alts := [], laidByText := true, laidKinds := [.data, .data, .data], laidTests := true, laidLooks := .later }
def RatioComparesUptoCardSaid : Prop := Claim7.holds Tryd.pinned (.plain (OpenSpec.upto ratioComparesSpec)) ratioComparesUptoCard

/-- THE SECOND FORM's CARD OF 'almucantarlaw03.RatioOrder'. -/
def ratioOrderUptoCard : Claim7 := { stood := { row := ratioOrderUptoRow, standIns := [], harness := (true, "e8f8f288492215074e91fa0b659faceec20eac4adcf2ab1c526c2e05fcaacab9"), looks := true }, kinds := [], alts := [], laidByText := true, laidKinds := [.data, .data, .data], laidTests := true, laidLooks := .later }
def RatioOrderUptoCardSaid : Prop := Claim7.holds Tryd.pinned (.plain (OpenSpec.upto ratioOrderSpec)) ratioOrderUptoCard

/-- THE SECOND FORM's CARD OF 'almucantarlaw03.RatioMiddle'. -/
def ratioMiddleUptoCard : Claim7 := { stood := { row := ratioMiddleUptoRow, standIns := [], harness := (true, "e8f8f288492215074e91fa0b659faceec20eac4adcf2ab1c526c2e05fcaacab9"), looks := true }, kinds := [], alts := [], laidByText := true, laidKinds := [.data, .data, .data], laidTests := true, laidLooks := .later }
def RatioMiddleUptoCardSaid : Prop := Claim7.holds Tryd.pinned (.plain (OpenSpec.upto ratioMiddleSpec)) ratioMiddleUptoCard

/-- THE SECOND FORM's CARD OF 'almucantarlaw03.RatioLists'. -/
def ratioListsUptoCard : Claim7 := { stood := { row := ratioListsUptoRow, standIns := [], harness := (true, "e8f8f288492215074e91fa0b659faceec20eac4adcf2ab1c526c2e05fcaacab9"), looks := true }, kinds := [], alts := [], laidByText := true, laidKinds := [.data, .data, .data], laidTests := true, laidLooks := .later }
def RatioListsUptoCardSaid : Prop := Claim7.holds Tryd.pinned (.plain (OpenSpec.upto ratioListsSpec)) ratioListsUptoCard

/-- THE SECOND FORM's CARD OF 'almucantarlaw03.RatioTexts'. -/
def ratioTextsUptoCard : Claim7 := { stood := { row := ratioTextsUptoRow, standIns := [], harness := (true, "e8f8f288492215074e91fa0b659faceec20eac4adcf2ab1c526c2e05fcaacab9"), looks := true }, kinds := [], alts := [], laidByText := true, laidKinds := [.data, .data, .data, .sentinel, .sentinel], laidTests := true, laidLooks := .later }
def RatioTextsUptoCardSaid : Prop := Claim7.holds Tryd.pinned (.plain (OpenSpec.upto ratioTextsSpec)) ratioTextsUptoCard
end Rows
end Go.Proofs.YtnanempkkeokbaaDoor
