/-
  Package rows: Frame; ninepinlaw22.awake (contracts).
-/
import Derived.Test.YtblffafmkpnjdaaGreatYd
set_option linter.unusedSimpArgs false
set_option linter.unusedVariables false
set_option maxRecDepth 100000
namespace Go.Proofs.YtblffafmkpnjdaaGreat
open Go Go.RowKit
attribute [local irreducible] wpList
theorem p3i4 {x y z : Int} (h : -9223372036854775808 ≤ x ∧ x < 9223372036854775808 ∧ -9223372036854775808 ≤ y ∧ y < 9223372036854775808 ∧ -9223372036854775808 ≤ z ∧ z < 9223372036854775808) : P3.i64 ⟨x,y,z⟩ := by
  unfold P3.i64 I64
  dsimp only
  omega
end Go.Proofs.YtblffafmkpnjdaaGreat
