/-
  Package ninepinref03: Len, Ratio, Unit, square, Near, further, Move (contracts).
  Package ninepinref03: Ratio, Unit, square, Near, further, Move (contracts).
  Package ninepinref03: square, Near, further, Move (contracts).
-/
import Derived.Test.YtblffafmkpnjdaaVc
set_option linter.unusedSimpArgs false
set_option linter.unusedVariables false
set_option maxRecDepth 100000
namespace Go.Proofs.Ytblffafmkpnjdaa
open Go Go.RowKit
attribute [local irreducible] wpList

/-- The root, rounded up. -/
def rtUp (n : Int) : Int := if rt n * rt n = n then rt n else rt n + 1
theorem rt_fits {n : Int} (h0 : 0 ≤ n) (hn : Fit n) : Fit (rt n) ∧ Fit (rt n + 1) ∧ Fit (rt n * rt n) := by
  have h1 := rt_bd h0 hn.2
  have h2 := rt_nonneg n
  have h3 := (rt_spec h0).1
  have h4 := Int.mul_nonneg h2 h2
  unfold Fit M511 at *
  omega
theorem rtUp_fit {n : Int} (h0 : 0 ≤ n) (hn : Fit n) : Fit (rtUp n) := by
  obtain ⟨h1, h2, _⟩ := rt_fits h0 hn
  unfold rtUp
  split
  · exact h1
  · exact h2
theorem sq_nn (x : Int) : 0 ≤ x * x := by
  rcases Int.le_total 0 x with h | h
  · exact Int.mul_nonneg h h
  · have := Int.mul_nonneg (a := -x) (b := -x) (by omega) (by omega)
    rwa [Int.neg_mul_neg] at this
theorem dot_self (a : P3) : 0 ≤ a.dot a := by
  have h1 := sq_nn a.x
  have h2 := sq_nn a.y
  have h3 := sq_nn a.z
  unfold P3.dot
  omega
def lenv (a : P3) (up : Bool) : Int := cl (if up then rtUp (a.dot a) else rt (a.dot a))
theorem fit_one : Fit 1 := by unfold Fit M511; omega
end Go.Proofs.Ytblffafmkpnjdaa
set_option linter.unusedSimpArgs false
set_option linter.unusedVariables false
set_option maxRecDepth 100000
namespace Go.Proofs.Ytblffafmkpnjdaa
open Go Go.RowKit
attribute [local irreducible] wpList

/-- A number by the root of a square. -/
def ratio (x s : Int) : Int :=
  if 0 ≤ x then cl (rt (x * x * 18446744073709551616 / s))
  else cl (-(if rt (x * x * 18446744073709551616 / s) * rt (x * x * 18446744073709551616 / s) * s = x * x * 18446744073709551616 then rt (x * x * 18446744073709551616 / s) else rt (x * x * 18446744073709551616 / s) + 1))
theorem dvq_pos {n s : Int} (h0 : 0 ≤ n) (hn : Fit n) (hs : 0 < s) : dvq n s = n / s ∧ dvr n s = n % s ∧ dvok n s ∧ 0 ≤ n / s ∧ n / s ≤ n ∧ Fit (n / s) := by
  have e : fq n s = n / s := by unfold fq; rw [if_neg (by omega)]
  have h1 : 0 ≤ n / s := Int.ediv_nonneg h0 (Int.le_of_lt hs)
  have h2 : n / s ≤ n := Int.ediv_le_self _ h0
  have hf : Fit (n / s) := by unfold Fit M511 at *; omega
  have hok : dvok n s := ⟨by omega, by rw [e]; exact hf⟩
  refine ⟨by unfold dvq; rw [if_pos hok, e], ?_, hok, h1, h2, hf⟩
  unfold dvr fr
  rw [if_pos hok, e]
  have := Int.mul_ediv_add_emod n s
  rw [Int.mul_comm] at this
  omega
theorem sq_i64 {x : Int} (h : I64 x) : 0 ≤ x * x ∧ x * x ≤ 85070591730234615865843651857942052864 := ⟨sq_nn x, (i64_mul h h).2⟩
/-- A vector by its length. -/
def P3.cunit (a : P3) : P3 := ⟨ratio a.x (a.dot a), ratio a.y (a.dot a), ratio a.z (a.dot a)⟩
def unitV (a : P3) : Value := if a.x = 0 ∧ a.y = 0 ∧ a.z = 0 then .tuple #[.agg #[.int .i64 0, .int .i64 0, .int .i64 0], .bool false] else .tuple #[PV a.cunit, .bool true]
theorem dot_pos {a : P3} (h : ¬ (a.x = 0 ∧ a.y = 0 ∧ a.z = 0)) : 0 < a.dot a := by
  have h0 := dot_self a
  by_cases hp : 0 < a.dot a
  · exact hp
  · exfalso
    have h1 := sq_nn a.x
    have h2 := sq_nn a.y
    have h3 := sq_nn a.z
    have e : a.x * a.x + a.y * a.y + a.z * a.z = 0 := by unfold P3.dot at h0 hp; omega
    refine h ⟨?_, ?_, ?_⟩
    · exact (Int.mul_eq_zero.1 (show a.x * a.x = 0 by omega)).elim id id
    · exact (Int.mul_eq_zero.1 (show a.y * a.y = 0 by omega)).elim id id
    · exact (Int.mul_eq_zero.1 (show a.z * a.z = 0 by omega)).elim id id
end Go.Proofs.Ytblffafmkpnjdaa
set_option linter.unusedSimpArgs false
set_option linter.unusedVariables false
set_option maxRecDepth 100000
namespace Go.Proofs.Ytblffafmkpnjdaa
open Go Go.RowKit
attribute [local irreducible] wpList

theorem dif_fit {a b : Int} (ha : I64 a) (hb : I64 b) : Fit (a - b) ∧ Fit ((a - b) * (a - b)) ∧ 0 ≤ (a - b) * (a - b) ∧ (a - b) * (a - b) ≤ 340282366920938463463374607431768211456 := by
  have h1 : -((18446744073709551616 : Nat) : Int) ≤ a - b ∧ a - b ≤ ((18446744073709551616 : Nat) : Int) := by unfold I64 at *; omega
  have h2 := bd_mul h1 h1
  have h3 := sq_nn (a - b)
  unfold Fit M511
  unfold I64 at *
  omega
/-- The square of the distance. -/
def P3.dist (a b : P3) : Int := (a.x - b.x) * (a.x - b.x) + (a.y - b.y) * (a.y - b.y) + (a.z - b.z) * (a.z - b.z)
def nearv (a b : P3) (r : Int) : Bool := decide (0 ≤ r) && decide (a.dist b ≤ r * r)
theorem dist_fit {a b : P3} (ha : a.i64) (hb : b.i64) : 0 ≤ a.dist b ∧ a.dist b ≤ 1020847100762815390390123822295304634368 := by
  have h1 := dif_fit ha.1 hb.1
  have h2 := dif_fit ha.2.1 hb.2.1
  have h3 := dif_fit ha.2.2 hb.2.2
  unfold P3.dist
  omega
theorem sgn_le {n : Int} : sgn n ≤ 0 ↔ n ≤ 0 := by unfold sgn; split <;> (try split) <;> omega
/-- A place, further. -/
def furv (x v t : Int) : Int := cl ((x * 4294967296 + v * t) / 4294967296)
def P3.cmove (a v : P3) (t : Int) : P3 := ⟨furv a.x v.x t, furv a.y v.y t, furv a.z v.z t⟩
end Go.Proofs.Ytblffafmkpnjdaa
