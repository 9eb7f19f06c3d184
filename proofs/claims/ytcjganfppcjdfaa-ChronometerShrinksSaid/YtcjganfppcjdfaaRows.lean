/-
  No cell of these rows narrows 'for every input' (looked for: loops, veiled, ifaces, maps, wideKeys, modest, calm, conditions, laid).
  DERIVED. THE GIVEN ROWS OF THIS SEAT. 6 by the template 'for every input the law returns true; each argument reads behind the call as it read before'; 0 by the template 'total and deterministic' (their statements: YtcjganfppcjdfaaTotals.lean).
  GIVEN WITH THE SEED: the statements are not yours to turn. If you find one false, say at which input.
  Laid BY PROGRAM, IN A SANDBOX (cutbox-rows.mjs): the forced cells as the released guide's own fill.sh prints them over the translation dee12152090d0a0a… (all of the seat's roots in one cut). By AI agents, Wed Nov 11 2026. No macro, syntax, notation, axiom, sorry.
-/
import Derived.Test.YtcjganfppcjdfaaChecked
import GoSem.Claim
import GoSem.ClaimJoined
import GoSem.ClaimMapViews
import Derived.JoinedTies
import Derived.KernelRfl
namespace Go.Proofs.Ytcjganfppcjdfaa
/- THE CELL 'sum', in the pinned program and in every row, IS THE sha256 OF THE DUMP (.gsa) THAT YtcjganfppcjdfaaProg.lean LOADS. Nothing in Lean hashes anything: it is a label: what it is worth is what the hold of that sum in a sandbox is worth. -/
noncomputable def Try.pinned : Pinned := { name := "ytcjganfppcjdfaa", sum := "dee12152090d0a0a2c855adc9df366f6c994655c8da028701c2bfbbec950d6bf", checked := Try.checked }
namespace Rows
def none {H : Type} : Left H := { results := [], args := [] }

/-- 'almucantarlaw11.ChronometerRates': WHATEVER THE INPUT: true; the input reads as it did. -/
def chronometerRatesSpec : ChangeSpec := { name := "chronometerRates", fn := fun _ => fun
  | [d] => { results := [.lit (.bool true)], args := [d] }
  | _ => none }
def chronometerRatesRow : OpenClaim := { program := "ytcjganfppcjdfaa", sum := "dee12152090d0a0a2c855adc9df366f6c994655c8da028701c2bfbbec950d6bf", func := "almucantar/almucantarlaw11.ChronometerRates", spec := "chronometerRates", unfollowed := true, recurses := true, named := ["math/bits.divideError", "math/bits.overflowError"], apart := false }
def ChronometerRatesSaid : Prop := chronometerRatesRow.holds Try.pinned (OpenSpec.ofChange chronometerRatesSpec)

/-- ITS FALSE NEIGHBOUR: 'it returns false'. Refute it at one input. -/
def chronometerRatesWrong : ChangeSpec := { name := "chronometerRates", fn := fun _ => fun
  | [d] => { results := [.lit (.bool false)], args := [d] }
  | _ => none }
def ChronometerRatesWrongFalsely : Prop := chronometerRatesRow.holds Try.pinned (OpenSpec.ofChange chronometerRatesWrong)

/-- 'almucantarlaw11.ChronometerTimes': WHATEVER THE INPUT: true; the input reads as it did. -/
def chronometerTimesSpec : ChangeSpec := { name := "chronometerTimes", fn := fun _ => fun
  | [d1, d2, d3] => { results := [.lit (.bool true)], args := [d1, d2, d3] }
  | _ => none }
def chronometerTimesRow : OpenClaim := { program := "ytcjganfppcjdfaa", sum := "dee12152090d0a0a2c855adc9df366f6c994655c8da028701c2bfbbec950d6bf", func := "almucantar/almucantarlaw11.ChronometerTimes", spec := "chronometerTimes", unfollowed := true, recurses := true, named := ["math/bits.divideError", "math/bits.overflowError"], apart := false }
def ChronometerTimesSaid : Prop := chronometerTimesRow.holds Try.pinned (OpenSpec.ofChange chronometerTimesSpec)

/-- ITS FALSE NEIGHBOUR: 'it returns false'. Refute it at one input. -/
def chronometerTimesWrong : ChangeSpec := { name := "chronometerTimes", fn := fun _ => fun
  | [d1, d2, d3] => { results := [.lit (.bool false)], args := [d1, d2, d3] }
  | _ => none }
def ChronometerTimesWrongFalsely : Prop := chronometerTimesRow.holds Try.pinned (OpenSpec.ofChange chronometerTimesWrong)

/-- 'almucantarlaw11.ChronometerAgrees': WHATEVER THE INPUT: true; the input reads as it did. -/
def chronometerAgreesSpec : ChangeSpec := { name := "chronometerAgrees", fn := fun _ => fun
  | [d1, d2] => { results := [.lit (.bool true)], args := [d1, d2] }
  | _ => none }
def chronometerAgreesRow : OpenClaim := { program := "ytcjganfppcjdfaa", sum := "dee12152090d0a0a2c855adc9df366f6c994655c8da028701c2bfbbec950d6bf", func := "almucantar/almucantarlaw11.ChronometerAgrees", spec := "chronometerAgrees", unfollowed := true, recurses := true, named := ["math/bits.divideError", "math/bits.overflowError"], apart := false }
def ChronometerAgreesSaid : Prop := chronometerAgreesRow.holds Try.pinned (OpenSpec.ofChange chronometerAgreesSpec)

/-- ITS FALSE NEIGHBOUR: 'it returns false'. Refute it at one input. -/
def chronometerAgreesWrong : ChangeSpec := { name := "chronometerAgrees", fn := fun _ => fun
  | [d1, d2] => { results := [.lit (.bool false)], args := [d1, d2] }
  | _ => none }
def ChronometerAgreesWrongFalsely : Prop := chronometerAgreesRow.holds Try.pinned (OpenSpec.ofChange chronometerAgreesWrong)

/-- 'almucantarlaw11.ChronometerMisses': WHATEVER THE INPUT: true; the input reads as it did. -/
def chronometerMissesSpec : ChangeSpec := { name := "chronometerMisses", fn := fun _ => fun
  | [d1, d2, d3] => { results := [.lit (.bool true)], args := [d1, d2, d3] }
  | _ => none }
def chronometerMissesRow : OpenClaim := { program := "ytcjganfppcjdfaa", sum := "dee12152090d0a0a2c855adc9df366f6c994655c8da028701c2bfbbec950d6bf", func := "almucantar/almucantarlaw11.ChronometerMisses", spec := "chronometerMisses", unfollowed := true, recurses := true, named := ["math/bits.divideError", "math/bits.overflowError"], apart := false }
def ChronometerMissesSaid : Prop := chronometerMissesRow.holds Try.pinned (OpenSpec.ofChange chronometerMissesSpec)

/-- ITS FALSE NEIGHBOUR: 'it returns false'. Refute it at one input. -/
def chronometerMissesWrong : ChangeSpec := { name := "chronometerMisses", fn := fun _ => fun
  | [d1, d2, d3] => { results := [.lit (.bool false)], args := [d1, d2, d3] }
  | _ => none }
def ChronometerMissesWrongFalsely : Prop := chronometerMissesRow.holds Try.pinned (OpenSpec.ofChange chronometerMissesWrong)

/-- 'almucantarlaw11.ChronometerTruth': WHATEVER THE INPUT: true; the input reads as it did. -/
def chronometerTruthSpec : ChangeSpec := { name := "chronometerTruth", fn := fun _ => fun
  | [d1, d2, d3, d4, d5, d6] => { results := [.lit (.bool true)], args := [d1, d2, d3, d4, d5, d6] }
  | _ => none }
def chronometerTruthRow : OpenClaim := { program := "ytcjganfppcjdfaa", sum := "dee12152090d0a0a2c855adc9df366f6c994655c8da028701c2bfbbec950d6bf", func := "almucantar/almucantarlaw11.ChronometerTruth", spec := "chronometerTruth", unfollowed := true, recurses := true, named := ["math/bits.divideError", "math/bits.overflowError"], apart := false }
def ChronometerTruthSaid : Prop := chronometerTruthRow.holds Try.pinned (OpenSpec.ofChange chronometerTruthSpec)

/-- ITS FALSE NEIGHBOUR: 'it returns false'. Refute it at one input. -/
def chronometerTruthWrong : ChangeSpec := { name := "chronometerTruth", fn := fun _ => fun
  | [d1, d2, d3, d4, d5, d6] => { results := [.lit (.bool false)], args := [d1, d2, d3, d4, d5, d6] }
  | _ => none }
def ChronometerTruthWrongFalsely : Prop := chronometerTruthRow.holds Try.pinned (OpenSpec.ofChange chronometerTruthWrong)

/-- 'almucantarlaw11.ChronometerShrinks': WHATEVER THE INPUT: true; the input reads as it did. -/
def chronometerShrinksSpec : ChangeSpec := { name := "chronometerShrinks", fn := fun _ => fun
  | [d1, d2, d3, d4, d5] => { results := [.lit (.bool true)], args := [d1, d2, d3, d4, d5] }
  | _ => none }
def chronometerShrinksRow : OpenClaim := { program := "ytcjganfppcjdfaa", sum := "dee12152090d0a0a2c855adc9df366f6c994655c8da028701c2bfbbec950d6bf", func := "almucantar/almucantarlaw11.ChronometerShrinks", spec := "chronometerShrinks", unfollowed := true, recurses := true, named := ["math/bits.divideError", "math/bits.overflowError"], apart := false }
def ChronometerShrinksSaid : Prop := chronometerShrinksRow.holds Try.pinned (OpenSpec.ofChange chronometerShrinksSpec)

/-- ITS FALSE NEIGHBOUR: 'it returns false'. Refute it at one input. -/
def chronometerShrinksWrong : ChangeSpec := { name := "chronometerShrinks", fn := fun _ => fun
  | [d1, d2, d3, d4, d5] => { results := [.lit (.bool false)], args := [d1, d2, d3, d4, d5] }
  | _ => none }
def ChronometerShrinksWrongFalsely : Prop := chronometerShrinksRow.holds Try.pinned (OpenSpec.ofChange chronometerShrinksWrong)

/- THE SECOND FORM. 'bulk': how many values and letters a reading holds, each counted each time it is reached (what is shared counts as often as it is met; a slice's spare places count too). A statement '..UptoSaid' is the law's where the arguments, and the package variables that the reading takes, are together of bulk at most 1048576: NARROWER than '..Said'. Prove '..Said' where nothing that the law and all that it calls make is longer than what came in: it says more and counts as full. Else prove '..UptoSaid'. A law counts once. -/
mutual
def uptoBulk {H : Type} : DataW H → Nat
  | .lit (.string bytes) => bytes.length + 1
  | .lit _ => 1
  | .nil => 1
  | .ptr d => uptoBulk d + 1
  | .slice elems spare => uptoBulkAll elems + uptoBulkAll spare + 1
  | .agg parts => uptoBulkAll parts + 1
  | .iface _ d => uptoBulk d + 1
  | .map entries => uptoBulkEntries entries + 1
  | .held _ => 1
def uptoBulkAll {H : Type} : List (DataW H) → Nat
  | [] => 0
  | d :: r => uptoBulk d + uptoBulkAll r
def uptoBulkEntries {H : Type} : List (Lit × DataW H) → Nat
  | [] => 0
  | x :: r => uptoBulkEntry x + uptoBulkEntries r
def uptoBulkEntry {H : Type} : Lit × DataW H → Nat
  | (.string bytes, d) => bytes.length + uptoBulk d + 1
  | (_, d) => uptoBulk d + 1
 end
def uptoSmall : (H : Type) → List (DataW H) → Bool := fun _ ds => decide (uptoBulkAll ds ≤ 1048576)
def OpenSpec.upto (s : _root_.Go.ChangeSpec) : _root_.Go.OpenSpec := { _root_.Go.OpenSpec.ofChange s with cond := some uptoSmall }

/-- 'almucantarlaw11.ChronometerRates', WHERE WHAT IT READS IS OF BULK AT MOST 1048576: true; the input reads as it did. -/
def chronometerRatesUptoRow : OpenClaim := { program := "ytcjganfppcjdfaa", sum := "dee12152090d0a0a2c855adc9df366f6c994655c8da028701c2bfbbec950d6bf", func := "almucantar/almucantarlaw11.ChronometerRates", spec := "chronometerRates", unfollowed := true, recurses := true, named := ["math/bits.divideError", "math/bits.overflowError"], apart := false, narrowed := true }
def ChronometerRatesUptoSaid : Prop := chronometerRatesUptoRow.holds Try.pinned (OpenSpec.upto chronometerRatesSpec)

/-- 'almucantarlaw11.ChronometerTimes', WHERE WHAT IT READS IS OF BULK AT MOST 1048576: true; the input reads as it did. -/
def chronometerTimesUptoRow : OpenClaim := { program := "ytcjganfppcjdfaa", sum := "dee12152090d0a0a2c855adc9df366f6c994655c8da028701c2bfbbec950d6bf", func := "almucantar/almucantarlaw11.ChronometerTimes", spec := "chronometerTimes", unfollowed := true, recurses := true, named := ["math/bits.divideError", "math/bits.overflowError"], apart := false, narrowed := true }
def ChronometerTimesUptoSaid : Prop := chronometerTimesUptoRow.holds Try.pinned (OpenSpec.upto chronometerTimesSpec)

/-- 'almucantarlaw11.ChronometerAgrees', WHERE WHAT IT READS IS OF BULK AT MOST 1048576: true; the input reads as it did. -/
def chronometerAgreesUptoRow : OpenClaim := { program := "ytcjganfppcjdfaa", sum := "dee12152090d0a0a2c855adc9df366f6c994655c8da028701c2bfbbec950d6bf", func := "almucantar/almucantarlaw11.ChronometerAgrees", spec := "chronometerAgrees", unfollowed := true, recurses := true, named := ["math/bits.divideError", "math/bits.overflowError"], apart := false, narrowed := true }
def ChronometerAgreesUptoSaid : Prop := chronometerAgreesUptoRow.holds Try.pinned (OpenSpec.upto chronometerAgreesSpec)

/-- 'almucantarlaw11.ChronometerMisses', WHERE WHAT IT READS IS OF BULK AT MOST 1048576: true; the input reads as it did. -/
def chronometerMissesUptoRow : OpenClaim := { program := "ytcjganfppcjdfaa", sum := "dee12152090d0a0a2c855adc9df366f6c994655c8da028701c2bfbbec950d6bf", func := "almucantar/almucantarlaw11.ChronometerMisses", spec := "chronometerMisses", unfollowed := true, recurses := true, named := ["math/bits.divideError", "math/bits.overflowError"], apart := false, narrowed := true }
def ChronometerMissesUptoSaid : Prop := chronometerMissesUptoRow.holds Try.pinned (OpenSpec.upto chronometerMissesSpec)

/-- 'almucantarlaw11.ChronometerTruth', WHERE WHAT IT READS IS OF BULK AT MOST 1048576: true; the input reads as it did. -/
def chronometerTruthUptoRow : OpenClaim := { program := "ytcjganfppcjdfaa", sum := "dee12152090d0a0a2c855adc9df366f6c994655c8da028701c2bfbbec950d6bf", func := "almucantar/almucantarlaw11.ChronometerTruth", spec := "chronometerTruth", unfollowed := true, recurses := true, named := ["math/bits.divideError", "math/bits.overflowError"], apart := false, narrowed := true }
def ChronometerTruthUptoSaid : Prop := chronometerTruthUptoRow.holds Try.pinned (OpenSpec.upto chronometerTruthSpec)

/-- 'almucantarlaw11.ChronometerShrinks', WHERE WHAT IT READS IS OF BULK AT MOST 1048576: true; the input reads as it did. -/
def chronometerShrinksUptoRow : OpenClaim := { program := "ytcjganfppcjdfaa", sum := "dee12152090d0a0a2c855adc9df366f6c994655c8da028701c2bfbbec950d6bf", func := "almucantar/almucantarlaw11.ChronometerShrinks", spec := "chronometerShrinks", unfollowed := true, recurses := true, named := ["math/bits.divideError", "math/bits.overflowError"], apart := false, narrowed := true }
def ChronometerShrinksUptoSaid : Prop := chronometerShrinksUptoRow.holds Try.pinned (OpenSpec.upto chronometerShrinksSpec)

end Rows
end Go.Proofs.Ytcjganfppcjdfaa
