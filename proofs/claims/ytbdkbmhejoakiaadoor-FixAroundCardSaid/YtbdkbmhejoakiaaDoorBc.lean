/-
  Package ninepinref01: Of (contract).
-/
import Derived.Test.YtbdkbmhejoakiaaDoorBb
set_option linter.unusedSimpArgs false
set_option linter.unusedVariables false
set_option maxRecDepth 100000
namespace Go.Proofs.YtbdkbmhejoakiaaDoor
open Go Go.RowKit

/-- A limb, when its bits from k on are taken, the highest first. -/
def gl (m : Int) (k j : Nat) : Int := lb m j / 2 ^ (k - 64 * j)
theorem gl_bd (m : Int) (k j : Nat) : 0 ≤ gl m k j ∧ gl m k j < 18446744073709551616 := by
  unfold gl
  have h0 := lb_nonneg m j
  have h1 := lb_lt m j
  have hp := pow_pos' (k - 64 * j)
  refine ⟨Int.ediv_nonneg h0 (by omega), ?_⟩
  have := Int.ediv_le_self (a := lb m j) (2 ^ (k - 64 * j)) h0
  omega
theorem gl_step (m : Int) (i : Nat) : gl m (i + 1) (i / 64) * 2 + bt m i = gl m i (i / 64) := by
  rw [← bt_limb m i]
  unfold gl
  rw [show i + 1 - 64 * (i / 64) = i % 64 + 1 by omega, show i - 64 * (i / 64) = i % 64 by omega, Int.pow_succ, ← Int.ediv_ediv_of_nonneg (Int.le_of_lt (pow_pos' _))]
  omega
theorem gl_zero {m : Int} {k j : Nat} (h : 64 ≤ k - 64 * j) : gl m k j = 0 := by
  unfold gl
  refine Int.ediv_eq_zero_of_lt (lb_nonneg _ _) (Int.lt_of_lt_of_le (lb_lt _ _) ?_)
  have := Nat.pow_le_pow_right (n := 2) (by omega) h
  have h2 : ((2 ^ 64 : Nat) : Int) ≤ ((2 ^ (k - 64 * j) : Nat) : Int) := Int.ofNat_le.2 this
  rw [Int.natCast_pow, Int.natCast_pow] at h2
  exact h2
theorem gl_other (m : Int) {i j : Nat} (h : j ≠ i / 64) : gl m (i + 1) j = gl m i j := by
  by_cases h1 : i < 64 * j
  · unfold gl
    rw [show i + 1 - 64 * j = 0 by omega, show i - 64 * j = 0 by omega]
  · rw [gl_zero (by omega), gl_zero (by omega)]
theorem gl_all (m : Int) : LB (gl m 0) = LB (lb m) := LB_congr fun j _ => by simp [gl]
theorem gl_none (m : Int) : LB (gl m 512) = [.int .u64 0, .int .u64 0, .int .u64 0, .int .u64 0, .int .u64 0, .int .u64 0, .int .u64 0, .int .u64 0] := by
  simp only [LB, gl_zero (m := m) (k := 512) (j := 0) (by omega), gl_zero (m := m) (k := 512) (j := 1) (by omega), gl_zero (m := m) (k := 512) (j := 2) (by omega), gl_zero (m := m) (k := 512) (j := 3) (by omega), gl_zero (m := m) (k := 512) (j := 4) (by omega), gl_zero (m := m) (k := 512) (j := 5) (by omega), gl_zero (m := m) (k := 512) (j := 6) (by omega), gl_zero (m := m) (k := 512) (j := 7) (by omega)]
theorem gl_put (m : Int) (i : Nat) (V : Int) (hV : V = gl m i (i / 64)) : LB (upd (gl m (i + 1)) (i / 64) V) = LB (gl m i) := by
  refine LB_congr fun j _ => ?_
  by_cases h : j = i / 64
  · subst h; rw [upd_same, hV]
  · rw [upd_ne _ _ h, gl_other m h]

theorem bits_zero {h : Int} : ∀ T, (∀ t, t < T → bt h t = 0) → h % 2 ^ T = 0
  | 0, _ => by simp [Int.emod_one]
  | T + 1, H => by
    have ih := bits_zero T fun t ht => H t (by omega)
    rw [Int.pow_succ, emod_split h _ _ (pow_pos' T) (by omega)]
    have := H T (by omega)
    unfold bt at this
    rw [this, ih]
    omega
theorem bt_high (m : Int) (a t : Nat) : bt (m / 2 ^ a) t = bt m (a + t) := by
  unfold bt
  rw [Int.ediv_ediv_of_nonneg (Int.le_of_lt (pow_pos' _)), ← Int.pow_add]
theorem M511_pow {a : Nat} (ha : a = 511) : M511 = 2 ^ a := by
  have h1 : (2 : Int) ^ a = 2 ^ (64 * 7) * 2 ^ 63 := by rw [← Int.pow_add, show 64 * 7 + 63 = a by omega]
  rw [h1, pow448]
  rfl
theorem high_zero {h P : Int} (hP : 0 < P) (h0 : -P ≤ h) (h1 : h < P) (hd : h % (P * 2) = 0) : h = 0 := by
  obtain ⟨c, hc⟩ := Int.dvd_of_emod_eq_zero hd
  rcases Int.lt_trichotomy c 0 with hc0 | hc0 | hc0
  · have := Int.mul_le_mul_of_nonneg_left (show c ≤ -1 by omega) (show 0 ≤ P * 2 by omega)
    omega
  · rw [hc0] at hc; omega
  · have := Int.mul_le_mul_of_nonneg_left (show 1 ≤ c by omega) (show 0 ≤ P * 2 by omega)
    omega
/-- Bits that are one from the sign's on: the number fits. -/
theorem of_fit {m : Int} {L : Nat} (hL : 512 ≤ L) (hm : -(2 ^ (L - 1)) ≤ m ∧ m < 2 ^ (L - 1)) (H : ∀ j, 511 ≤ j → j < L → bt m j = bt m 511) : Fit m := by
  obtain ⟨a, ha⟩ : ∃ a : Nat, a = 511 := ⟨_, rfl⟩
  have hp := pow_pos' a
  have hT : (2 : Int) ^ (L - 1) = 2 ^ a * 2 ^ (L - 512) := by rw [← Int.pow_add, show a + (L - 512) = L - 1 by omega]
  have hT2 : (2 : Int) ^ (L - 511) = 2 ^ (L - 512) * 2 := by rw [show L - 511 = L - 512 + 1 by omega, Int.pow_succ]
  have hq := pow_pos' (L - 512)
  rw [hT] at hm
  have hd : m = 2 ^ a * (m / 2 ^ a) + m % 2 ^ a := (Int.mul_ediv_add_emod _ _).symm
  have h0 := Int.emod_nonneg m (by omega : (2 : Int) ^ a ≠ 0)
  have h1 := Int.emod_lt_of_pos m hp
  have hb : ∀ t, t < L - 511 → bt (m / 2 ^ a) t = bt m 511 := fun t ht => by rw [bt_high]; exact H _ (by omega) (by omega)
  have hlo : -(2 ^ (L - 512)) ≤ m / 2 ^ a := by
    rw [Int.le_ediv_iff_mul_le hp, Int.neg_mul, Int.mul_comm]; exact hm.1
  have hhi : m / 2 ^ a < 2 ^ (L - 512) := by
    rw [Int.ediv_lt_iff_lt_mul hp, Int.mul_comm]; exact hm.2
  have hz : m / 2 ^ a = 0 ∨ m / 2 ^ a = -1 := by
    generalize m / 2 ^ a = h at *
    have hb5 := bt_bd m 511
    rcases (by omega : bt m 511 = 0 ∨ bt m 511 = 1) with e | e
    · left
      have := bits_zero (L - 511) fun t ht => by rw [hb t ht, e]
      rw [hT2] at this
      exact high_zero hq hlo hhi this
    · right
      have := bits_zero (h := -h - 1) (L - 511) fun t ht => by rw [bt_not, hb t ht, e]; rfl
      rw [hT2] at this
      have := high_zero hq (by omega) (by omega) this
      omega
  unfold Fit
  rw [M511_pow ha]
  generalize (2 : Int) ^ a = P at *
  rcases hz with e | e <;> rw [e] at hd <;> omega
theorem fit_of {m : Int} (hf : Fit m) {j : Nat} (hj : 511 ≤ j) : bt m j = bt m 511 := by
  rw [bt_sign hf hj, bt_sign hf (Nat.le_refl _)]
end Go.Proofs.YtbdkbmhejoakiaaDoor
