/-
  Bits shifted up, and held against one another.
  Package ninepinref01: further, least (contracts).
-/
import Derived.Test.YtbdkbmhejoakiaaDoorBg
set_option linter.unusedSimpArgs false
set_option linter.unusedVariables false
set_option maxRecDepth 100000
namespace Go.Proofs.YtbdkbmhejoakiaaDoor
open Go Go.RowKit

theorem bt_low0 (A : Int) {i j : Nat} (h : j < i) : bt (A * 2 ^ i) j = 0 := by
  have := bt_low 0 A h
  rw [Int.zero_add, bt_zero] at this
  exact this
theorem fur_start (x : Int) (n L : Nat) : tab (fun _ => 0) L = tab (fun j => if j < 0 + n then bt (x * 2 ^ n) j else 0) L := by
  refine tab_congr fun j _ => ?_
  split
  · exact (bt_low0 x (by omega)).symm
  · rfl
theorem fur_step {x V : Int} {n k L : Nat} (hV : V = bt x k) : tab (upd (fun j => if j < k + n then bt (x * 2 ^ n) j else 0) ((k + n) * 1) V) L = tab (fun j => if j < k + 1 + n then bt (x * 2 ^ n) j else 0) L := by
  refine tab_congr fun j _ => ?_
  rw [Nat.mul_one]
  by_cases h : j = k + n
  · subst h
    rw [upd_same, hV, if_pos (by omega), Nat.add_comm k n, bt_shift]
  · rw [upd_ne _ _ h]
    by_cases h2 : j < k + n
    · rw [if_pos h2, if_pos (by omega)]
    · rw [if_neg h2, if_neg (by omega)]
theorem half_bt (x : Int) (i : Nat) : x / 2 ^ i = 2 * (x / 2 ^ (i + 1)) + bt x i := by
  unfold bt
  rw [Int.pow_succ, ← Int.ediv_ediv_of_nonneg (Int.le_of_lt (pow_pos' i))]
  omega
theorem lt_of_half {x y : Int} {i : Nat} (h : x / 2 ^ i < y / 2 ^ i) : x < y := by
  rcases Int.lt_or_le x y with h1 | h1
  · exact h1
  · have := Int.ediv_le_ediv (pow_pos' i) h1
    omega
theorem least_bit {x y : Int} {i : Nat} (h : x / 2 ^ (i + 1) = y / 2 ^ (i + 1)) (hne : bt x i ≠ bt y i) : decide (bt x i < bt y i) = decide (x < y) := by
  have h1 := half_bt x i
  have h2 := half_bt y i
  have h3 := bt_bd x i
  have h4 := bt_bd y i
  rw [decide_eq_decide]
  constructor
  · intro h5
    exact lt_of_half (i := i) (by omega)
  · intro h5
    rcases Int.lt_or_le (bt x i) (bt y i) with h6 | h6
    · exact h6
    · have : y < x := lt_of_half (i := i) (by omega)
      omega
theorem least_bit' {x y a b : Int} {i : Nat} (ea : a = bt x i) (eb : b = bt y i) (h : x / 2 ^ (i + 1) = y / 2 ^ (i + 1)) (hne : (a == b) = false) : decide (a < b) = decide (x < y) := by
  subst ea eb
  exact least_bit h (by simpa using hne)
theorem least_same {x y a b : Int} {i : Nat} (ea : a = bt x i) (eb : b = bt y i) (h : x / 2 ^ (i + 1) = y / 2 ^ (i + 1)) (he : a = b) : x / 2 ^ i = y / 2 ^ i := by
  rw [half_bt x i, half_bt y i, h, ← ea, ← eb, he]
end Go.Proofs.YtbdkbmhejoakiaaDoor
