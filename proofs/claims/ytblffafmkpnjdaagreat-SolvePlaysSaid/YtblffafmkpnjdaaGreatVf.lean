/-
  Package ninepinref03: Len, Ratio, Unit, square, Near, further, Move (contracts).
  Package ninepinref03: Ratio, Unit, square, Near, further, Move (contracts).
  Package ninepinref03: square, Near, further, Move (contracts).
-/
import Derived.Test.YtblffafmkpnjdaaGreatVc
set_option linter.unusedSimpArgs false
set_option linter.unusedVariables false
set_option maxRecDepth 100000
namespace Go.Proofs.YtblffafmkpnjdaaGreat
open Go Go.RowKit
attribute [local irreducible] wpList
theorem sq_nn (x : Int) : 0 ≤ x * x := by
  rcases Int.le_total 0 x with h | h
  · exact Int.mul_nonneg h h
  · have := Int.mul_nonneg (a := -x) (b := -x) (by omega) (by omega)
    rwa [Int.neg_mul_neg] at this
end Go.Proofs.YtblffafmkpnjdaaGreat
set_option linter.unusedSimpArgs false
set_option linter.unusedVariables false
set_option maxRecDepth 100000
namespace Go.Proofs.YtblffafmkpnjdaaGreat
open Go Go.RowKit
attribute [local irreducible] wpList
theorem dvq_pos {n s : Int} (h0 : 0 ≤ n) (hn : Fit n) (hs : 0 < s) : dvq n s = n / s ∧ dvr n s = n % s ∧ dvok n s ∧ 0 ≤ n / s ∧ n / s ≤ n ∧ Fit (n / s) := by
  have e : fq n s = n / s := by unfold fq;rw [if_neg (by omega)]
  have h1 : 0 ≤ n / s := Int.ediv_nonneg h0 (Int.le_of_lt hs)
  have h2 : n / s ≤ n := Int.ediv_le_self _ h0
  have hf : Fit (n / s) := by unfold Fit M511 at *;omega
  have hok : dvok n s := ⟨by omega,by rw [e];exact hf⟩
  refine ⟨by unfold dvq;rw [if_pos hok,e],?_,hok,h1,h2,hf⟩
  unfold dvr fr
  rw [if_pos hok,e]
  have := Int.mul_ediv_add_emod n s
  rw [Int.mul_comm] at this
  omega
end Go.Proofs.YtblffafmkpnjdaaGreat
set_option linter.unusedSimpArgs false
set_option linter.unusedVariables false
set_option maxRecDepth 100000
namespace Go.Proofs.YtblffafmkpnjdaaGreat
open Go Go.RowKit
attribute [local irreducible] wpList
end Go.Proofs.YtblffafmkpnjdaaGreat
