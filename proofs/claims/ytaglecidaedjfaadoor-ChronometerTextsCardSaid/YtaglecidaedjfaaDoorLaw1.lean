/- ChronometerRates: the walk of the law, given that awake gives true. -/
import Derived.Test.YtaglecidaedjfaaDoorLaw0
set_option linter.unusedVariables false
set_option maxHeartbeats 4000000
namespace Go.Proofs.YtaglecidaedjfaaDoor
open Go.RowKit

end Go.Proofs.YtaglecidaedjfaaDoor
