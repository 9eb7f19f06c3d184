/-
  DERIVED. GIVEN WITH THE SEED: THE CARDS: each row of YtpnfmbfehbnljaaGreatDoorRows.lean that lists a variable, with what it lists TIED to the program's text (the seventh form; the later family's looks); each row that meets fmt, with fmt's text TOLD by the authors' own Lean function (tested against real Go, not proved from fmt's source: count such statements apart). THE CARD IS WHAT COUNTS. Prove the row's statement (the work); the ties are given (YtpnfmbfehbnljaaGreatDoorTie.lean); close each card by the builder's one call (the guide's Derived/Test/ToyasCard.lean, 'card_holds'). Laid BY PROGRAM, IN A SANDBOX (cutbox-door.mjs). By AI agents, Wed Nov 11 2026. No macro, syntax, notation, axiom, sorry.
-/
import Derived.Test.YtpnfmbfehbnljaaGreatDoorRows
import GoSem.ClaimSeven
namespace Go.Proofs.YtpnfmbfehbnljaaGreatDoor
namespace Rows

/-- THE TIED CARD OF 'almucantarlaw10.ClockTexts'. -/
def clockTextsCard : Claim7 := { stood := { row := clockTextsRow, standIns := [], harness := (true, "bfa4dc825735148d77d8b9fa0899d479569157644bd4b777a760fe43a42c7c09"), looks := true }, kinds := [], alts := [], laidByText := true, laidKinds := [.data, .data, .data, .data, .sentinel, .sentinel, .pinned], laidTests := true, laidLooks := .later }
def ClockTextsCardSaid : Prop := Claim7.holds Tryz.pinned (.plain (OpenSpec.ofChange clockTextsSpec)) clockTextsCard

/-- THE TIED CARD OF 'almucantarlaw10.ClockDates'. -/
def clockDatesCard : Claim7 := { stood := { row := clockDatesRow, standIns := [], harness := (true, "bfa4dc825735148d77d8b9fa0899d479569157644bd4b777a760fe43a42c7c09"), looks := true }, kinds := [], alts := [], laidByText := true, laidKinds := [.data, .data, .data, .data, .sentinel, .sentinel, .pinned], laidTests := true, laidLooks := .later }
def ClockDatesCardSaid : Prop := Claim7.holds Tryz.pinned (.plain (OpenSpec.ofChange clockDatesSpec)) clockDatesCard

/-- THE TIED CARD OF 'almucantarlaw10.ClockZones'. -/
def clockZonesCard : Claim7 := { stood := { row := clockZonesRow, standIns := [], harness := (true, "bfa4dc825735148d77d8b9fa0899d479569157644bd4b777a760fe43a42c7c09"), looks := true }, kinds := [], alts := [], laidByText := true, laidKinds := [.data, .data, .data, .data, .sentinel, .sentinel, .pinned], laidTests := true, laidLooks := .later }
def ClockZonesCardSaid : Prop := Claim7.holds Tryz.pinned (.plain (OpenSpec.ofChange clockZonesSpec)) clockZonesCard

/-- THE SECOND FORM's CARD OF 'almucantarlaw10.ClockTexts'. -/
def clockTextsUptoCard : Claim7 := { stood := { row := clockTextsUptoRow, standIns := [], harness := (true, "bfa4dc825735148d77d8b9fa0899d479569157644bd4b777a760fe43a42c7c09"), looks := true }, kinds := [], alts := [], laidByText := true, laidKinds := [.data, .data, .data, .data, .sentinel, .sentinel, .pinned], laidTests := true, laidLooks := .later }
def ClockTextsUptoCardSaid : Prop := Claim7.holds Tryz.pinned (.plain (OpenSpec.upto clockTextsSpec)) clockTextsUptoCard

/-- THE SECOND FORM's CARD OF 'almucantarlaw10.ClockDates'. -/
def clockDatesUptoCard : Claim7 := { stood := { row := clockDatesUptoRow, standIns := [], harness := (true, "bfa4dc825735148d77d8b9fa0899d479569157644bd4b777a760fe43a42c7c09"), looks := true }, kinds := [], alts := [], laidByText := true, laidKinds := [.data, .data, .data, .data, .sentinel, .sentinel, .pinned], laidTests := true, laidLooks := .later }
def ClockDatesUptoCardSaid : Prop := Claim7.holds Tryz.pinned (.plain (OpenSpec.upto clockDatesSpec)) clockDatesUptoCard

/-- THE SECOND FORM's CARD OF 'almucantarlaw10.ClockZones'. -/
def clockZonesUptoCard : Claim7 := { stood := { row := clockZonesUptoRow, standIns := [], harness := (true, "bfa4dc825735148d77d8b9fa0899d479569157644bd4b777a760fe43a42c7c09"), looks := true }, kinds := [], alts := [], laidByText := true, laidKinds := [.data, .data, .data, .data, .sentinel, .sentinel, .pinned], laidTests := true, laidLooks := .later }
def ClockZonesUptoCardSaid : Prop := Claim7.holds Tryz.pinned (.plain (OpenSpec.upto clockZonesSpec)) clockZonesUptoCard
end Rows
end Go.Proofs.YtpnfmbfehbnljaaGreatDoor
