/-
  DERIVED. GIVEN WITH THE SEED: THE CARDS: each row of YtpnfmbfehbnljaaDoorRows.lean that lists a variable, with what it lists TIED to the program's text (the seventh form; the later family's looks); each row that meets fmt, with fmt's text TOLD by the authors' own Lean function (tested against real Go, not proved from fmt's source: count such statements apart). THE CARD IS WHAT COUNTS. Prove the row's statement (the work); the ties are given (YtpnfmbfehbnljaaDoorTie.lean); close each card by the builder's one call (the guide's Derived/Test/ToyasCard.lean, 'card_holds'). Laid BY PROGRAM, IN A SANDBOX (cutbox-door.mjs). By AI agents, Wed Nov 11 2026. No macro, syntax, notation, axiom, sorry.
-/
import Derived.Test.YtpnfmbfehbnljaaDoorRows
import GoSem.ClaimSeven
namespace Go.Proofs.YtpnfmbfehbnljaaDoor
namespace Rows

/-- THE TIED CARD OF 'almucantarlaw09.CalendarTexts'. -/
def calendarTextsCard : Claim7 := { stood := { row := calendarTextsRow, standIns := [], harness := (true, "0ed9770b36fafaba64c38ccdccff026007f3694843fdd23c238bc48ebc1947b2"), looks := true }, kinds := [], alts := [], laidByText := true, laidKinds := [.data, .data, .data, .data, .sentinel, .sentinel, .pinned], laidTests := true, laidLooks := .later }
def CalendarTextsCardSaid : Prop := Claim7.holds Tryd.pinned (.plain (OpenSpec.ofChange calendarTextsSpec)) calendarTextsCard

/-- THE TIED CARD OF 'almucantarlaw10.ClockArcs'. -/
def clockArcsCard : Claim7 := { stood := { row := clockArcsRow, standIns := [], harness := (true, "0ed9770b36fafaba64c38ccdccff026007f3694843fdd23c238bc48ebc1947b2"), looks := true }, kinds := [], alts := [], laidByText := true, laidKinds := [.data, .data, .data, .data, .sentinel, .sentinel, .pinned], laidTests := true, laidLooks := .later }
def ClockArcsCardSaid : Prop := Claim7.holds Tryd.pinned (.plain (OpenSpec.ofChange clockArcsSpec)) clockArcsCard

/-- THE TIED CARD OF 'almucantarlaw10.ClockBack'. -/
def clockBackCard : Claim7 := { stood := { row := clockBackRow, standIns := [], harness := (true, "0ed9770b36fafaba64c38ccdccff026007f3694843fdd23c238bc48ebc1947b2"), looks := true }, kinds := [], alts := [], laidByText := true, laidKinds := [.data, .data, .data, .data, .sentinel, .sentinel, .pinned], laidTests := true, laidLooks := .later }
def ClockBackCardSaid : Prop := Claim7.holds Tryd.pinned (.plain (OpenSpec.ofChange clockBackSpec)) clockBackCard

/-- THE TIED CARD OF 'almucantarlaw10.ClockAdds'. -/
def clockAddsCard : Claim7 := { stood := { row := clockAddsRow, standIns := [], harness := (true, "0ed9770b36fafaba64c38ccdccff026007f3694843fdd23c238bc48ebc1947b2"), looks := true }, kinds := [], alts := [], laidByText := true, laidKinds := [.data, .data, .data, .data, .sentinel, .sentinel, .pinned], laidTests := true, laidLooks := .later }
def ClockAddsCardSaid : Prop := Claim7.holds Tryd.pinned (.plain (OpenSpec.ofChange clockAddsSpec)) clockAddsCard

/-- THE TIED CARD OF 'almucantarlaw10.ClockSums'. -/
def clockSumsCard : Claim7 := { stood := { row := clockSumsRow, standIns := [], harness := (true, "0ed9770b36fafaba64c38ccdccff026007f3694843fdd23c238bc48ebc1947b2"), looks := true }, kinds := [], alts := [], laidByText := true, laidKinds := [.data, .data, .data, .data, .sentinel, .sentinel, .pinned], laidTests := true, laidLooks := .later }
def ClockSumsCardSaid : Prop := Claim7.holds Tryd.pinned (.plain (OpenSpec.ofChange clockSumsSpec)) clockSumsCard

/-- THE TIED CARD OF 'almucantarlaw10.ClockNear'. -/
def clockNearCard : Claim7 := { stood := { row := clockNearRow, standIns := [], harness := (true, "0ed9770b36fafaba64c38ccdccff026007f3694843fdd23c238bc48ebc1947b2"), looks := true }, kinds := [], alts := [], laidByText := true, laidKinds := [.data, .data, .data, .data, .sentinel, .sentinel, .pinned], laidTests := true, laidLooks := .later }
def ClockNearCardSaid : Prop := Claim7.holds Tryd.pinned (.plain (OpenSpec.ofChange clockNearSpec)) clockNearCard

/-- THE SECOND FORM's CARD OF 'almucantarlaw09.CalendarTexts'. -/
def calendarTextsUptoCard : Claim7 := { stood := { row := calendarTextsUptoRow, standIns := [], harness := (true, "0ed9770b36fafaba64c38ccdccff026007f3694843fdd23c238bc48ebc1947b2"), looks := true }, kinds := [], alts := [], laidByText := true, laidKinds := [.data, .data, .data, .data, .sentinel, .sentinel, .pinned], laidTests := true, laidLooks := .later }
def CalendarTextsUptoCardSaid : Prop := Claim7.holds Tryd.pinned (.plain (OpenSpec.upto calendarTextsSpec)) calendarTextsUptoCard

/-- THE SECOND FORM's CARD OF 'almucantarlaw10.ClockArcs'. -/
def clockArcsUptoCard : Claim7 := { stood := { row := clockArcsUptoRow, standIns := [], harness := (true, "0ed9770b36fafaba64c38ccdccff026007f3694843fdd23c238bc48ebc1947b2"), looks := true }, kinds := [], alts := [], laidByText := true, laidKinds := [.data, .data, .data, .data, .sentinel, .sentinel, .pinned], laidTests := true, laidLooks := .later }
def ClockArcsUptoCardSaid : Prop := Claim7.holds Tryd.pinned (.plain (OpenSpec.upto clockArcsSpec)) clockArcsUptoCard

/-- THE SECOND FORM's CARD OF 'almucantarlaw10.ClockBack'. -/
def clockBackUptoCard : Claim7 := { stood := { row := clockBackUptoRow, standIns := [], harness := (true, "0ed9770b36fafaba64c38ccdccff026007f3694843fdd23c238bc48ebc1947b2"), looks := true }, kinds := [], alts := [], laidByText := true, laidKinds := [.data, .data, .data, .data, .sentinel, .sentinel, .pinned], laidTests := true, laidLooks := .later }
def ClockBackUptoCardSaid : Prop := Claim7.holds Tryd.pinned (.plain (OpenSpec.upto clockBackSpec)) clockBackUptoCard

/-- THE SECOND FORM's CARD OF 'almucantarlaw10.ClockAdds'. -/
def clockAddsUptoCard : Claim7 := { stood := { row := clockAddsUptoRow, standIns := [], harness := (true, "0ed9770b36fafaba64c38ccdccff026007f3694843fdd23c238bc48ebc1947b2"), looks := true }, kinds := [], alts := [], laidByText := true, laidKinds := [.data, .data, .data, .data, .sentinel, .sentinel, .pinned], laidTests := true, laidLooks := .later }
def ClockAddsUptoCardSaid : Prop := Claim7.holds Tryd.pinned (.plain (OpenSpec.upto clockAddsSpec)) clockAddsUptoCard

/-- THE SECOND FORM's CARD OF 'almucantarlaw10.ClockSums'. -/
def clockSumsUptoCard : Claim7 := { stood := { row := clockSumsUptoRow, standIns := [], harness := (true, "0ed9770b36fafaba64c38ccdccff026007f3694843fdd23c238bc48ebc1947b2"), looks := true }, kinds := [], alts := [], laidByText := true, laidKinds := [.data, .data, .data, .data, .sentinel, .sentinel, .pinned], laidTests := true, laidLooks := .later }
def ClockSumsUptoCardSaid : Prop := Claim7.holds Tryd.pinned (.plain (OpenSpec.upto clockSumsSpec)) clockSumsUptoCard

/-- THE SECOND FORM's CARD OF 'almucantarlaw10.ClockNear'. -/
def clockNearUptoCard : Claim7 := { stood := { row := clockNearUptoRow, standIns := [], harness := (true, "0ed9770b36fafaba64c38ccdccff026007f3694843fdd23c238bc48ebc1947b2"), looks := true }, kinds := [], alts := [], laidByText := true, laidKinds := [.data, .data, .data, .data, .sentinel, .sentinel, .pinned], laidTests := true, laidLooks := .later }
def ClockNearUptoCardSaid : Prop := Claim7.holds Tryd.pinned (.plain (OpenSpec.upto clockNearSpec)) clockNearUptoCard
end Rows
end Go.Proofs.YtpnfmbfehbnljaaDoor
