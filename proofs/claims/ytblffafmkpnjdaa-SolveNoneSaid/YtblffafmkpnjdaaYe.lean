/-
  Package rows: Frame; ninepinlaw22.awake (contracts).
-/
import Derived.Test.YtblffafmkpnjdaaYd
set_option linter.unusedSimpArgs false
set_option linter.unusedVariables false
set_option maxRecDepth 100000
namespace Go.Proofs.Ytblffafmkpnjdaa
open Go Go.RowKit
attribute [local irreducible] wpList

theorem cun_i64 (a : P3) : a.cunit.i64 := by
  have h : ∀ x s, I64 (ratio x s) := fun x s => by unfold ratio; split <;> exact cl_i64 _
  exact ⟨h _ _, h _ _, h _ _⟩
/-- The frame of a direction. -/
def frO (n : P3) : P3 × P3 × Int := if (n.ccross (axv n)).x = 0 ∧ (n.ccross (axv n)).y = 0 ∧ (n.ccross (axv n)).z = 0 then (⟨0, 0, 0⟩, ⟨0, 0, 0⟩, 2) else ((n.ccross (axv n)).cunit, n.ccross (n.ccross (axv n)).cunit, 0)
theorem frO_z : frO ⟨0, 0, 4294967296⟩ = (⟨0, 4294967296, 0⟩, ⟨-4294967296, 0, 0⟩, 0) := by
  have ea : P3.ccross ⟨0, 0, 4294967296⟩ (axv ⟨0, 0, 4294967296⟩) = ⟨0, 4294967296, 0⟩ := by decide
  have ed : P3.dot ⟨0, 4294967296, 0⟩ ⟨0, 4294967296, 0⟩ = 18446744073709551616 := by decide
  have hz : rt 0 = 0 := rt_uniq (by omega) (by omega) (by omega)
  have h : rt 18446744073709551616 = 4294967296 := rt_uniq (by omega) (by omega) (by omega)
  have e0 : ratio 0 18446744073709551616 = 0 := by
    unfold ratio
    rw [if_pos (by omega), show (0 : Int) * 0 * 18446744073709551616 / 18446744073709551616 = 0 by decide, hz]
    decide
  have e1 : ratio 4294967296 18446744073709551616 = 4294967296 := by
    unfold ratio
    rw [if_pos (by omega), show (4294967296 : Int) * 4294967296 * 18446744073709551616 / 18446744073709551616 = 18446744073709551616 by decide, h]
    decide
  have eu : P3.cunit ⟨0, 4294967296, 0⟩ = ⟨0, 4294967296, 0⟩ := by
    unfold P3.cunit
    rw [ed]
    dsimp only
    rw [e0, e1]
  unfold frO
  rw [ea, if_neg (by decide), eu, show P3.ccross ⟨0, 0, 4294967296⟩ ⟨0, 4294967296, 0⟩ = ⟨-4294967296, 0, 0⟩ by decide]
theorem p3i4 {x y z : Int} (h : -9223372036854775808 ≤ x ∧ x < 9223372036854775808 ∧ -9223372036854775808 ≤ y ∧ y < 9223372036854775808 ∧ -9223372036854775808 ≤ z ∧ z < 9223372036854775808) : P3.i64 ⟨x, y, z⟩ := by
  unfold P3.i64 I64
  dsimp only
  omega
def oneI : Inr := ⟨4294967296, ⟨0, 0, 0⟩, ⟨0, 0, 0⟩, ⟨0, 0, 0⟩, ⟨0, 0, 0⟩, ⟨0, 0, 0⟩⟩
end Go.Proofs.Ytblffafmkpnjdaa
