/-
  Package ninepinref03: Plus, Less, Times; ninepinref01.Small (contracts).
-/
import Derived.Test.YtblffafmkpnjdaaBg
import Derived.Test.YtblffafmkpnjdaaGx
set_option linter.unusedSimpArgs false
set_option linter.unusedVariables false
set_option maxRecDepth 100000
namespace Go.Proofs.Ytblffafmkpnjdaa
open Go Go.RowKit

end Go.Proofs.Ytblffafmkpnjdaa
