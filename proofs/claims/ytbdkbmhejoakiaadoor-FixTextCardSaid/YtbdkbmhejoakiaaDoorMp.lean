/-
  A product by limbs, as plain numbers.
-/
import Derived.Test.YtbdkbmhejoakiaaDoorNum
namespace Go.Proofs.YtbdkbmhejoakiaaDoor
open Go

/-- 2^(64 k). -/
def P64 (k : Nat) : Int := 2 ^ (64 * k)
theorem P64_pos (k : Nat) : 0 < P64 k := pow_pos' _
theorem P64_succ (k : Nat) : P64 (k + 1) = P64 k * 18446744073709551616 := pow64_succ k
theorem P64_add (i k : Nat) : P64 (i + k) = P64 i * P64 k := by unfold P64; rw [Nat.mul_add, Int.pow_add]
theorem P64_zero : P64 0 = 1 := rfl
theorem P64_eight : P64 8 = M512 := M512_eq.symm
theorem lb_P64 (n : Int) (i : Nat) : lb n i = n / P64 i % 18446744073709551616 := rfl
theorem split_P64 (n : Int) (k : Nat) : n % P64 (k + 1) = P64 k * lb n k + n % P64 k := lbsum n k
theorem mod_bd (n : Int) (k : Nat) : 0 ≤ n % P64 k ∧ n % P64 k < P64 k := ⟨Int.emod_nonneg _ (by have := P64_pos k; omega), Int.emod_lt_of_pos _ (P64_pos k)⟩
theorem P64_le {i j : Nat} (h : i ≤ j) : P64 i ≤ P64 j := by
  obtain ⟨d, rfl⟩ : ∃ d, j = i + d := ⟨j - i, by omega⟩
  rw [P64_add]
  have h1 := P64_pos i
  have h2 := P64_pos d
  have := Int.mul_le_mul_of_nonneg_left (show (1 : Int) ≤ P64 d by omega) (show (0 : Int) ≤ P64 i by omega)
  omega

/-- n with limb j written anew. -/
def put (n : Int) (j : Nat) (v : Int) : Int := n + (v - lb n j) * P64 j
theorem div_P64 (n : Int) (j : Nat) : n = P64 (j + 1) * (n / P64 (j + 1)) + (P64 j * lb n j + n % P64 j) := by
  rw [← split_P64]; exact (Int.mul_ediv_add_emod _ _).symm
theorem put_eq (n : Int) (j : Nat) (v : Int) : put n j v = P64 (j + 1) * (n / P64 (j + 1)) + (P64 j * v + n % P64 j) := by
  have h := div_P64 n j
  unfold put
  rw [Int.sub_mul, Int.mul_comm v, Int.mul_comm (lb n j)]
  omega
theorem small_P64 (n : Int) (j : Nat) (v : Int) (h0 : 0 ≤ v) (h1 : v < 18446744073709551616) : 0 ≤ P64 j * v + n % P64 j ∧ P64 j * v + n % P64 j < P64 (j + 1) := by
  have hb := mod_bd n j
  have hp := P64_pos j
  have h2 := Int.mul_le_mul_of_nonneg_left (show v + 1 ≤ 18446744073709551616 by omega) (show (0 : Int) ≤ P64 j by omega)
  have h3 := Int.mul_nonneg (show (0 : Int) ≤ P64 j by omega) h0
  rw [P64_succ]
  rw [Int.mul_add] at h2
  omega
theorem put_div (n : Int) (j : Nat) (v : Int) (h0 : 0 ≤ v) (h1 : v < 18446744073709551616) : put n j v / P64 (j + 1) = n / P64 (j + 1) := by
  have hs := small_P64 n j v h0 h1
  rw [put_eq, Int.add_comm, Int.add_mul_ediv_left _ _ (by have := P64_pos (j + 1); omega), Int.ediv_eq_zero_of_lt hs.1 hs.2, Int.zero_add]
theorem put_mod (n : Int) (j : Nat) (v : Int) : put n j v % P64 j = n % P64 j := by
  rw [put_eq, P64_succ, Int.mul_assoc, Int.add_comm, Int.add_mul_emod_self_left, Int.add_comm, Int.add_mul_emod_self_left, Int.emod_emod_of_dvd _ (Int.dvd_refl _)]
theorem lb_put (n : Int) (j : Nat) (v : Int) (h0 : 0 ≤ v) (h1 : v < 18446744073709551616) (i : Nat) : lb (put n j v) i = upd (lb n) j v i := by
  by_cases hij : i = j
  · subst hij
    rw [upd_same, lb_P64, put_eq, P64_succ, Int.mul_assoc, ← Int.add_assoc, ← Int.mul_add, Int.add_comm, Int.add_mul_ediv_left _ _ (by have := P64_pos i; omega), Int.ediv_eq_zero_of_lt (mod_bd n i).1 (mod_bd n i).2]
    omega
  · rw [upd_ne _ _ hij]
    by_cases hlt : i < j
    · -- below: what lies modulo 2^(64 (i + 1)) is the same
      have key : ∀ m : Int, lb m i = (m % P64 j) / P64 i % 18446744073709551616 := by
        intro m
        obtain ⟨d, rfl⟩ : ∃ d, j = (i + 1) + d := ⟨j - (i + 1), by omega⟩
        have e : m % P64 (i + 1 + d) = m + P64 i * (- (18446744073709551616 * (P64 d * (m / P64 (i + 1 + d))))) := by
          rw [Int.emod_def, P64_add, P64_succ, Int.mul_neg]
          simp only [Int.mul_assoc]
          omega
        rw [e, Int.add_mul_ediv_left _ _ (by have := P64_pos i; omega), lb_P64]
        omega
      rw [key, key, put_mod]
    · obtain ⟨d, rfl⟩ : ∃ d, i = (j + 1) + d := ⟨i - (j + 1), by omega⟩
      have key : ∀ m : Int, lb m (j + 1 + d) = (m / P64 (j + 1)) / P64 d % 18446744073709551616 := by
        intro m
        rw [lb_P64, P64_add, Int.ediv_ediv_of_nonneg (by have := P64_pos (j + 1); omega)]
      rw [key, key, put_div _ _ _ h0 h1]
theorem put_bd (n : Int) (j : Nat) (v : Int) (hn : 0 ≤ n) (hn' : n < M512) (h0 : 0 ≤ v) (h1 : v < 18446744073709551616) (hj : j < 8) : 0 ≤ put n j v ∧ put n j v < M512 := by
  have hs := small_P64 n j v h0 h1
  have hp := P64_pos (j + 1)
  have hq : 0 ≤ n / P64 (j + 1) := Int.ediv_nonneg hn (by omega)
  have hM : M512 = P64 (j + 1) * P64 (7 - j) := by rw [← P64_add, ← P64_eight]; congr 1; omega
  have hq' : n / P64 (j + 1) < P64 (7 - j) := by
    rw [Int.ediv_lt_iff_lt_mul hp, Int.mul_comm, ← hM]; exact hn'
  have h2 := Int.mul_le_mul_of_nonneg_left (show n / P64 (j + 1) + 1 ≤ P64 (7 - j) by omega) (show (0 : Int) ≤ P64 (j + 1) by omega)
  have h3 := Int.mul_nonneg (show (0 : Int) ≤ P64 (j + 1) by omega) hq
  rw [Int.mul_add, ← hM] at h2
  rw [put_eq]
  omega
theorem LB_put (n : Int) (j : Nat) (v : Int) (h0 : 0 ≤ v) (h1 : v < 18446744073709551616) : LB (upd (lb n) j v) = LB (lb (put n j v)) :=
  LB_congr fun i _ => (lb_put n j v h0 h1 i).symm

/-- A limb of a product, with what is carried: two limbs. -/
theorem prod_bd (x y c l : Int) (hx : 0 ≤ x) (hx' : x < 18446744073709551616) (hy : 0 ≤ y) (hy' : y < 18446744073709551616) (hc : 0 ≤ c) (hc' : c < 18446744073709551616) (hl : 0 ≤ l) (hl' : l < 18446744073709551616) :
    0 ≤ x * y ∧ x * y + c + l < 18446744073709551616 * 18446744073709551616 := by
  have h1 := Int.mul_nonneg hx hy
  have h2 := Int.mul_le_mul (show x ≤ 18446744073709551615 by omega) (show y ≤ 18446744073709551615 by omega) hy (by omega)
  omega
end Go.Proofs.YtbdkbmhejoakiaaDoor
