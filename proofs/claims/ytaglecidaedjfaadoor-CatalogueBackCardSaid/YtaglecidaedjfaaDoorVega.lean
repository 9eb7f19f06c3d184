/- The example's text, in plain Lean. -/
import Derived.Test.YtaglecidaedjfaaDoorCtx
set_option linter.unusedVariables false
set_option maxHeartbeats 4000000
namespace Go.Proofs.YtaglecidaedjfaaDoor
open Go.RowKit
abbrev vega : StarT := ([86, 101, 103, 97], 48378, 23273, 0)
theorem vega_text : catT [vega] 1 = [86, 101, 103, 97, 32, 56, 48, 45, 51, 55, 46, 56, 32, 51, 56, 45, 52, 55, 46, 51, 32, 48, 46, 48, 10] := by decide +kernel
theorem vega_valid : validS [vega] = true := by decide +kernel
end Go.Proofs.YtaglecidaedjfaaDoor
