/-
  No cell of these rows narrows 'for every input' (looked for: loops, veiled, ifaces, maps, wideKeys, modest, calm, conditions, laid).
  DERIVED. THE GIVEN ROWS OF THIS SEAT. 5 by the template 'for every input the law returns true; each argument reads behind the call as it read before'; 0 by the template 'total and deterministic' (their statements: YtnmiflblagdfeaaTotals.lean).
  GIVEN WITH THE SEED: the statements are not yours to turn. If you find one false, say at which input.
  Laid BY PROGRAM, IN A SANDBOX (cutbox-rows.mjs): the forced cells as the released guide's own fill.sh prints them over the translation a5c575a5e5e18e5e… (all of the seat's roots in one cut). By AI agents, Wed Nov 11 2026. No macro, syntax, notation, axiom, sorry.
-/
import Derived.Test.YtnmiflblagdfeaaChecked
import GoSem.Claim
import GoSem.ClaimJoined
import GoSem.ClaimMapViews
import Derived.JoinedTies
import Derived.KernelRfl
namespace Go.Proofs.Ytnmiflblagdfeaa
/- THE CELL 'sum', in the pinned program and in every row, IS THE sha256 OF THE DUMP (.gsa) THAT YtnmiflblagdfeaaProg.lean LOADS. Nothing in Lean hashes anything: it is a label: what it is worth is what the hold of that sum in a sandbox is worth. -/
noncomputable def Try.pinned : Pinned := { name := "ytnmiflblagdfeaa", sum := "a5c575a5e5e18e5e8fc9b8bb3177fffa36c9872841ef9c00af5530154420fa98", checked := Try.checked }
namespace Rows
def none {H : Type} : Left H := { results := [], args := [] }

/-- 'almucantarlaw09.CalendarNumbers': WHATEVER THE INPUT: true; the input reads as it did. -/
def calendarNumbersSpec : ChangeSpec := { name := "calendarNumbers", fn := fun _ => fun
  | [d] => { results := [.lit (.bool true)], args := [d] }
  | _ => none }
def calendarNumbersRow : OpenClaim := { program := "ytnmiflblagdfeaa", sum := "a5c575a5e5e18e5e8fc9b8bb3177fffa36c9872841ef9c00af5530154420fa98", func := "almucantar/almucantarlaw09.CalendarNumbers", spec := "calendarNumbers", unfollowed := true, recurses := true, apart := false }
def CalendarNumbersSaid : Prop := calendarNumbersRow.holds Try.pinned (OpenSpec.ofChange calendarNumbersSpec)

/-- ITS FALSE NEIGHBOUR: 'it returns false'. Refute it at one input. -/
def calendarNumbersWrong : ChangeSpec := { name := "calendarNumbers", fn := fun _ => fun
  | [d] => { results := [.lit (.bool false)], args := [d] }
  | _ => none }
def CalendarNumbersWrongFalsely : Prop := calendarNumbersRow.holds Try.pinned (OpenSpec.ofChange calendarNumbersWrong)

/-- 'almucantarlaw09.CalendarCycles': WHATEVER THE INPUT: true; the input reads as it did. -/
def calendarCyclesSpec : ChangeSpec := { name := "calendarCycles", fn := fun _ => fun
  | [d] => { results := [.lit (.bool true)], args := [d] }
  | _ => none }
def calendarCyclesRow : OpenClaim := { program := "ytnmiflblagdfeaa", sum := "a5c575a5e5e18e5e8fc9b8bb3177fffa36c9872841ef9c00af5530154420fa98", func := "almucantar/almucantarlaw09.CalendarCycles", spec := "calendarCycles", unfollowed := true, recurses := true, apart := false }
def CalendarCyclesSaid : Prop := calendarCyclesRow.holds Try.pinned (OpenSpec.ofChange calendarCyclesSpec)

/-- ITS FALSE NEIGHBOUR: 'it returns false'. Refute it at one input. -/
def calendarCyclesWrong : ChangeSpec := { name := "calendarCycles", fn := fun _ => fun
  | [d] => { results := [.lit (.bool false)], args := [d] }
  | _ => none }
def CalendarCyclesWrongFalsely : Prop := calendarCyclesRow.holds Try.pinned (OpenSpec.ofChange calendarCyclesWrong)

/-- 'almucantarlaw09.CalendarDates': WHATEVER THE INPUT: true; the input reads as it did. -/
def calendarDatesSpec : ChangeSpec := { name := "calendarDates", fn := fun _ => fun
  | [d1, d2, d3] => { results := [.lit (.bool true)], args := [d1, d2, d3] }
  | _ => none }
def calendarDatesRow : OpenClaim := { program := "ytnmiflblagdfeaa", sum := "a5c575a5e5e18e5e8fc9b8bb3177fffa36c9872841ef9c00af5530154420fa98", func := "almucantar/almucantarlaw09.CalendarDates", spec := "calendarDates", unfollowed := true, recurses := true, apart := false }
def CalendarDatesSaid : Prop := calendarDatesRow.holds Try.pinned (OpenSpec.ofChange calendarDatesSpec)

/-- ITS FALSE NEIGHBOUR: 'it returns false'. Refute it at one input. -/
def calendarDatesWrong : ChangeSpec := { name := "calendarDates", fn := fun _ => fun
  | [d1, d2, d3] => { results := [.lit (.bool false)], args := [d1, d2, d3] }
  | _ => none }
def CalendarDatesWrongFalsely : Prop := calendarDatesRow.holds Try.pinned (OpenSpec.ofChange calendarDatesWrong)

/-- 'almucantarlaw09.CalendarAdds': WHATEVER THE INPUT: true; the input reads as it did. -/
def calendarAddsSpec : ChangeSpec := { name := "calendarAdds", fn := fun _ => fun
  | [d1, d2, d3] => { results := [.lit (.bool true)], args := [d1, d2, d3] }
  | _ => none }
def calendarAddsRow : OpenClaim := { program := "ytnmiflblagdfeaa", sum := "a5c575a5e5e18e5e8fc9b8bb3177fffa36c9872841ef9c00af5530154420fa98", func := "almucantar/almucantarlaw09.CalendarAdds", spec := "calendarAdds", unfollowed := true, recurses := true, apart := false }
def CalendarAddsSaid : Prop := calendarAddsRow.holds Try.pinned (OpenSpec.ofChange calendarAddsSpec)

/-- ITS FALSE NEIGHBOUR: 'it returns false'. Refute it at one input. -/
def calendarAddsWrong : ChangeSpec := { name := "calendarAdds", fn := fun _ => fun
  | [d1, d2, d3] => { results := [.lit (.bool false)], args := [d1, d2, d3] }
  | _ => none }
def CalendarAddsWrongFalsely : Prop := calendarAddsRow.holds Try.pinned (OpenSpec.ofChange calendarAddsWrong)

/-- 'almucantarlaw09.CalendarSteps': WHATEVER THE INPUT: true; the input reads as it did. -/
def calendarStepsSpec : ChangeSpec := { name := "calendarSteps", fn := fun _ => fun
  | [d] => { results := [.lit (.bool true)], args := [d] }
  | _ => none }
def calendarStepsRow : OpenClaim := { program := "ytnmiflblagdfeaa", sum := "a5c575a5e5e18e5e8fc9b8bb3177fffa36c9872841ef9c00af5530154420fa98", func := "almucantar/almucantarlaw09.CalendarSteps", spec := "calendarSteps", unfollowed := true, recurses := true, apart := false }
def CalendarStepsSaid : Prop := calendarStepsRow.holds Try.pinned (OpenSpec.ofChange calendarStepsSpec)

/-- ITS FALSE NEIGHBOUR: 'it returns false'. Refute it at one input. -/
def calendarStepsWrong : ChangeSpec := { name := "calendarSteps", fn := fun _ => fun
  | [d] => { results := [.lit (.bool false)], args := [d] }
  | _ => none }
def CalendarStepsWrongFalsely : Prop := calendarStepsRow.holds Try.pinned (OpenSpec.ofChange calendarStepsWrong)

/- THE SECOND FORM. 'bulk': how many values and letters a reading holds, each counted each time it is reached (what is shared counts as often as it is met; a slice's spare places count too). A statement '..UptoSaid' is the law's where the arguments, and the package variables that the reading takes, are together of bulk at most 1048576: NARROWER than '..Said'. Prove '..Said' where nothing that the law and all that it calls make is longer than what came in: it says more and counts as full. Else prove '..UptoSaid'. A law counts once. -/
mutual
def uptoBulk {H : Type} : DataW H → Nat
  | .lit (.string bytes) => bytes.length + 1
  | .lit _ => 1
  | .nil => 1
  | .ptr d => uptoBulk d + 1
  | .slice elems spare => uptoBulkAll elems + uptoBulkAll spare + 1
  | .agg parts => uptoBulkAll parts + 1
  | .iface _ d => uptoBulk d + 1
  | .map entries => uptoBulkEntries entries + 1
  | .held _ => 1
def uptoBulkAll {H : Type} : List (DataW H) → Nat
  | [] => 0
  | d :: r => uptoBulk d + uptoBulkAll r
def uptoBulkEntries {H : Type} : List (Lit × DataW H) → Nat
  | [] => 0
  | x :: r => uptoBulkEntry x + uptoBulkEntries r
def uptoBulkEntry {H : Type} : Lit × DataW H → Nat
  | (.string bytes, d) => bytes.length + uptoBulk d + 1
  | (_, d) => uptoBulk d + 1
 end
def uptoSmall : (H : Type) → List (DataW H) → Bool := fun _ ds => decide (uptoBulkAll ds ≤ 1048576)
def OpenSpec.upto (s : _root_.Go.ChangeSpec) : _root_.Go.OpenSpec := { _root_.Go.OpenSpec.ofChange s with cond := some uptoSmall }

/-- 'almucantarlaw09.CalendarNumbers', WHERE WHAT IT READS IS OF BULK AT MOST 1048576: true; the input reads as it did. -/
def calendarNumbersUptoRow : OpenClaim := { program := "ytnmiflblagdfeaa", sum := "a5c575a5e5e18e5e8fc9b8bb3177fffa36c9872841ef9c00af5530154420fa98", func := "almucantar/almucantarlaw09.CalendarNumbers", spec := "calendarNumbers", unfollowed := true, recurses := true, apart := false, narrowed := true }
def CalendarNumbersUptoSaid : Prop := calendarNumbersUptoRow.holds Try.pinned (OpenSpec.upto calendarNumbersSpec)

/-- 'almucantarlaw09.CalendarCycles', WHERE WHAT IT READS IS OF BULK AT MOST 1048576: true; the input reads as it did. -/
def calendarCyclesUptoRow : OpenClaim := { program := "ytnmiflblagdfeaa", sum := "a5c575a5e5e18e5e8fc9b8bb3177fffa36c9872841ef9c00af5530154420fa98", func := "almucantar/almucantarlaw09.CalendarCycles", spec := "calendarCycles", unfollowed := true, recurses := true, apart := false, narrowed := true }
def CalendarCyclesUptoSaid : Prop := calendarCyclesUptoRow.holds Try.pinned (OpenSpec.upto calendarCyclesSpec)

/-- 'almucantarlaw09.CalendarDates', WHERE WHAT IT READS IS OF BULK AT MOST 1048576: true; the input reads as it did. -/
def calendarDatesUptoRow : OpenClaim := { program := "ytnmiflblagdfeaa", sum := "a5c575a5e5e18e5e8fc9b8bb3177fffa36c9872841ef9c00af5530154420fa98", func := "almucantar/almucantarlaw09.CalendarDates", spec := "calendarDates", unfollowed := true, recurses := true, apart := false, narrowed := true }
def CalendarDatesUptoSaid : Prop := calendarDatesUptoRow.holds Try.pinned (OpenSpec.upto calendarDatesSpec)

/-- 'almucantarlaw09.CalendarAdds', WHERE WHAT IT READS IS OF BULK AT MOST 1048576: true; the input reads as it did. -/
def calendarAddsUptoRow : OpenClaim := { program := "ytnmiflblagdfeaa", sum := "a5c575a5e5e18e5e8fc9b8bb3177fffa36c9872841ef9c00af5530154420fa98", func := "almucantar/almucantarlaw09.CalendarAdds", spec := "calendarAdds", unfollowed := true, recurses := true, apart := false, narrowed := true }
def CalendarAddsUptoSaid : Prop := calendarAddsUptoRow.holds Try.pinned (OpenSpec.upto calendarAddsSpec)

/-- 'almucantarlaw09.CalendarSteps', WHERE WHAT IT READS IS OF BULK AT MOST 1048576: true; the input reads as it did. -/
def calendarStepsUptoRow : OpenClaim := { program := "ytnmiflblagdfeaa", sum := "a5c575a5e5e18e5e8fc9b8bb3177fffa36c9872841ef9c00af5530154420fa98", func := "almucantar/almucantarlaw09.CalendarSteps", spec := "calendarSteps", unfollowed := true, recurses := true, apart := false, narrowed := true }
def CalendarStepsUptoSaid : Prop := calendarStepsUptoRow.holds Try.pinned (OpenSpec.upto calendarStepsSpec)

end Rows
end Go.Proofs.Ytnmiflblagdfeaa
