/-
  Package ninepinref01: Below, Small, Sign, Add, Sub, top, size (contracts).
  Package ninepinref01: Small, top, size, Add, Sub (contracts).
-/
import Derived.Test.YtbdkbmhejoakiaaDoorBc
import Derived.Test.YtbdkbmhejoakiaaDoorMc
set_option linter.unusedSimpArgs false
set_option linter.unusedVariables false
set_option maxRecDepth 100000
namespace Go.Proofs.YtbdkbmhejoakiaaDoor
open Go Go.RowKit

theorem lb7_neg {n : Int} (h : Fit n) (hn : n < 0) : 9223372036854775808 ≤ lb n 7 := by
  have := ng_fit h
  unfold ng at this
  rw [decide_eq_true hn] at this
  exact of_decide_eq_true this
theorem lb7_pos {n : Int} (h : Fit n) (hn : ¬ n < 0) : ¬ 9223372036854775808 ≤ lb n 7 := by
  have := ng_fit h
  unfold ng at this
  rw [decide_eq_false hn] at this
  exact of_decide_eq_false this
end Go.Proofs.YtbdkbmhejoakiaaDoor
set_option linter.unusedSimpArgs false
set_option linter.unusedVariables false
set_option maxRecDepth 100000
namespace Go.Proofs.YtbdkbmhejoakiaaDoor
open Go Go.RowKit

/-- How many bits there are up to the last 1. -/
def tp (x : Int) : Nat → Nat
  | 0 => 0
  | k + 1 => if bt x k = 0 then tp x k else k + 1
theorem tp_le (x : Int) : ∀ k, tp x k ≤ k
  | 0 => Nat.le_refl _
  | k + 1 => by
    unfold tp
    split
    · exact Nat.le_succ_of_le (tp_le x k)
    · exact Nat.le_refl _
theorem tp_zero (x : Int) : ∀ {k j : Nat}, tp x k ≤ j → j < k → bt x j = 0
  | 0, j, h, hj => by omega
  | k + 1, j, h, hj => by
    unfold tp at h
    split at h
    · by_cases e : j = k
      · rw [e]; assumption
      · exact tp_zero x h (by omega)
    · omega
theorem M511_520 : M511 * 256 = 2 ^ (520 - 1) := by
  have h1 : (2 : Int) ^ (520 - 1) = 2 ^ (64 * 7) * 2 ^ 71 := by rw [← Int.pow_add]
  rw [h1, pow448]
  rfl
theorem room_add {a b : Int} (ha : Fit a) (hb : Fit b) : -(M511 * 256) ≤ a + b ∧ a + b < M511 * 256 := by unfold Fit M511 at *; omega
theorem room_sub {a b : Int} (ha : Fit a) (hb : Fit b) : -(M511 * 256) ≤ a + -b ∧ a + -b < M511 * 256 := by unfold Fit M511 at *; omega
/-- The absolute value. -/
def ab (n : Int) : Int := if n < 0 then -n else n
end Go.Proofs.YtbdkbmhejoakiaaDoor
