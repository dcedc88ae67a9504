/-
  Points moved alike: no answer of package orient changes (plain).
-/
import Derived.Test.YtdfdmeoalbpcdaaGreatBi
import Derived.Test.YtdfdmeoalbpcdaaGreatBk
set_option linter.unusedSimpArgs false
set_option linter.unusedVariables false
namespace Go.Proofs.YtdfdmeoalbpcdaaGreat
open Go Go.RowKit
/-- A point, moved. -/
def P3.add (a b : P3) : P3 := ⟨a.x + b.x,a.y + b.y,a.z + b.z⟩
end Go.Proofs.YtdfdmeoalbpcdaaGreat
