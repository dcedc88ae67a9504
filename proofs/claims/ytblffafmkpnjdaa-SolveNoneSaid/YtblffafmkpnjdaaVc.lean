/-
  Package ninepinref02: Mul; package ninepinref03: Raw, Twice, Exact, Add, Sub, Scale, Dot, minor, Cross (contracts).
-/
import Derived.Test.YtblffafmkpnjdaaVb
import Derived.Test.YtblffafmkpnjdaaBn
import Derived.Test.YtblffafmkpnjdaaEr
import Derived.Test.YtblffafmkpnjdaaPd
set_option linter.unusedSimpArgs false
set_option linter.unusedVariables false
set_option maxRecDepth 100000
namespace Go.Proofs.Ytblffafmkpnjdaa
open Go Go.RowKit
attribute [local irreducible] wpList

theorem qv_down (a b : Int) : qv a b false = dvq a b := by unfold qv; simp
/-- A number times 2^64, brought in. -/
theorem inv_64 (n : Int) : inv n 64 = cl (n / 4294967296) := by
  unfold inv
  rw [if_pos (by omega)]
  rfl
theorem inv_32 (n : Int) : inv n 32 = cl n := by
  unfold inv
  rw [if_pos (by omega)]
  unfold shv
  rw [if_neg (by omega), show min ((32 : Int) - 32).toNat 511 = 0 from rfl, Int.pow_zero, Int.ediv_one]
theorem dot_bd {a b : P3} (ha : a.i64) (hb : b.i64) : -255211775190703847597530955573826158592 ≤ a.dot b ∧ a.dot b ≤ 255211775190703847597530955573826158592 := by
  have h1 := i64_mul ha.1 hb.1
  have h2 := i64_mul ha.2.1 hb.2.1
  have h3 := i64_mul ha.2.2 hb.2.2
  unfold P3.dot
  omega
/-- Vectors: sums, differences, times a number. -/
def P3.cadd (a b : P3) : P3 := ⟨cl (a.x + b.x), cl (a.y + b.y), cl (a.z + b.z)⟩
def P3.csub (a b : P3) : P3 := ⟨cl (a.x - b.x), cl (a.y - b.y), cl (a.z - b.z)⟩
def P3.cscale (a : P3) (k : Int) : P3 := ⟨cl (a.x * k / 4294967296), cl (a.y * k / 4294967296), cl (a.z * k / 4294967296)⟩
theorem i64_64 : I64 64 := by unfold I64; omega
/-- The vector product. -/
def P3.ccross (a b : P3) : P3 := ⟨cl ((a.y * b.z - a.z * b.y) / 4294967296), cl ((a.z * b.x - a.x * b.z) / 4294967296), cl ((a.x * b.y - a.y * b.x) / 4294967296)⟩
end Go.Proofs.Ytblffafmkpnjdaa
