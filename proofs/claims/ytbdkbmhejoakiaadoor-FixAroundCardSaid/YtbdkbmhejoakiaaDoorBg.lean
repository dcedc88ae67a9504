/-
  Adding bit by bit: what the rounds of a product do (plain).
  Package ninepinref01: Mul (contract).
-/
import Derived.Test.YtbdkbmhejoakiaaDoorBe
set_option linter.unusedSimpArgs false
set_option linter.unusedVariables false
set_option maxRecDepth 100000
namespace Go.Proofs.YtbdkbmhejoakiaaDoor
open Go Go.RowKit

/-- A sum, of which so many bits are there. -/
def mx (S D : Int) (m : Nat) : Nat → Int := fun j => if j < m then bt (S + D) j else bt S j
theorem mx_at (S D : Int) (j : Nat) : mx S D j (j * 1) = bt S j := by
  unfold mx; rw [Nat.mul_one, if_neg (by omega)]
theorem mx_step {S D V : Int} {j L : Nat} (hV : V = bt (S + D) j) : tab (upd (mx S D j) (j * 1) V) L = tab (mx S D (j + 1)) L := by
  refine tab_congr fun i _ => ?_
  rw [Nat.mul_one]
  unfold mx
  by_cases h : i = j
  · subst h
    rw [upd_same, hV, if_pos (by omega)]
  · rw [upd_ne _ _ h]
    by_cases h2 : i < j
    · rw [if_pos h2, if_pos (by omega)]
    · rw [if_neg h2, if_neg (by omega)]
theorem pow_split {i j : Nat} (h : j ≤ i) : (2 : Int) ^ i = 2 ^ j * 2 ^ (i - j) := by rw [← Int.pow_add, show j + (i - j) = i by omega]
theorem bt_low (S A : Int) {i j : Nat} (h : j < i) : bt (S + A * 2 ^ i) j = bt S j := by
  unfold bt
  have hp := pow_pos' j
  have e : A * (2 : Int) ^ i = 2 ^ j * (A * 2 ^ (i - j)) := by rw [pow_split (show j ≤ i by omega)]; grind
  have e2 : A * (2 : Int) ^ (i - j) = 2 * (A * 2 ^ (i - j - 1)) := by
    rw [show i - j = (i - j - 1) + 1 by omega, Int.pow_succ]
    simp only [Nat.add_sub_cancel]
    grind
  rw [e, Int.add_mul_ediv_left _ _ (by omega), e2]
  omega
theorem mx_start (S A : Int) (i L : Nat) : tab (bt S) L = tab (mx S (A * 2 ^ i) i) L := by
  refine tab_congr fun j _ => ?_
  unfold mx
  split
  · exact (bt_low S A (by assumption)).symm
  · rfl
theorem cb_start (S A : Int) (i : Nat) : cb S (A * 2 ^ i) 0 i = 0 := by
  unfold cb
  have hp := pow_pos' i
  rw [Int.mul_emod_left, Int.add_zero, Int.add_zero, Int.ediv_eq_zero_of_lt (Int.emod_nonneg _ (by omega)) (Int.emod_lt_of_pos _ hp)]
theorem bt_shift (A : Int) (i k : Nat) : bt (A * 2 ^ i) (i + k) = bt A k := by
  unfold bt
  rw [Int.pow_add, Int.mul_comm A, Int.mul_ediv_mul_of_pos _ _ (pow_pos' i)]
/-- What has no bits from t on is less than 2^t. -/
theorem lt_top {A : Int} (hA : 0 ≤ A) {t L : Nat} (hl : A < 2 ^ L) (ht : t ≤ L) (H : ∀ j, t ≤ j → j < L → bt A j = 0) : A < 2 ^ t := by
  have hp := pow_pos' t
  have h0 : 0 ≤ A / 2 ^ t := Int.ediv_nonneg hA (by omega)
  have h1 : A / 2 ^ t < 2 ^ (L - t) := by
    rw [Int.ediv_lt_iff_lt_mul hp, Int.mul_comm, ← pow_split ht]; exact hl
  have h2 := bits_zero (h := A / 2 ^ t) (L - t) fun s hs => by rw [bt_high]; exact H _ (by omega) (by omega)
  rw [Int.emod_eq_of_lt h0 h1] at h2
  have := Int.mul_ediv_add_emod A (2 ^ t)
  have := Int.emod_lt_of_pos A hp
  rw [h2, Int.mul_zero] at *
  omega
theorem bt_small {A : Int} (hA : 0 ≤ A) {t k : Nat} (h : A < 2 ^ t) (hk : t ≤ k) : bt A k = 0 := by
  unfold bt
  have : A < 2 ^ k := by
    rw [pow_split hk]
    have h1 := pow_pos' (k - t)
    have h2 := Int.mul_le_mul_of_nonneg_left (show (1 : Int) ≤ 2 ^ (k - t) by omega) (Int.le_of_lt (pow_pos' t))
    omega
  rw [Int.ediv_eq_zero_of_lt hA this]; rfl
theorem shift_lt {A : Int} {t i k : Nat} (h : A < 2 ^ t) (hk : t ≤ k) : A * 2 ^ i < 2 ^ (i + k) := by
  rw [Int.pow_add, Int.mul_comm]
  refine Int.mul_lt_mul_of_pos_left ?_ (pow_pos' i)
  have h1 := pow_pos' (k - t)
  have h2 := Int.mul_le_mul_of_nonneg_left (show (1 : Int) ≤ 2 ^ (k - t) by omega) (Int.le_of_lt (pow_pos' t))
  rw [pow_split hk]
  omega
/-- Nothing is carried, and nothing is left to be added: the sum's other bits stand there. -/
theorem mx_end {S A : Int} {i k t L : Nat} (hA : 0 ≤ A) (h : A < 2 ^ t) (hk : t ≤ k) (hc : cb S (A * 2 ^ i) 0 (i + k) = 0) : tab (mx S (A * 2 ^ i) (i + k)) L = tab (bt (S + A * 2 ^ i)) L := by
  refine tab_congr fun j _ => ?_
  unfold mx
  split
  · rfl
  · have hp := pow_pos' (i + k)
    have hs : (S + A * 2 ^ i) / 2 ^ (i + k) = S / 2 ^ (i + k) := by
      have hd0 : 0 ≤ A * 2 ^ i := Int.mul_nonneg hA (Int.le_of_lt (pow_pos' i))
      have hd1 := shift_lt (i := i) h hk
      unfold cb at hc
      rw [Int.add_zero, Int.emod_eq_of_lt hd0 hd1] at hc
      generalize A * 2 ^ i = D at *
      generalize (2 : Int) ^ (i + k) = P at *
      have h1 := Int.mul_ediv_add_emod S P
      have h2 := Int.emod_nonneg S (by omega : P ≠ 0)
      have h3 : S + D = (S % P + D) + P * (S / P) := by omega
      rw [h3, Int.add_mul_ediv_left _ _ (by omega), hc]
      omega
    have hj : j = (i + k) + (j - (i + k)) := by omega
    rw [hj, ← bt_high, ← bt_high, hs]
theorem mul_bit {A B : Int} {i : Nat} (hb : bt B i = 1) : A * (B % 2 ^ i) + A * 2 ^ i = A * (B % 2 ^ (i + 1)) := by
  have h := emod_split B (2 ^ i) 2 (pow_pos' i) (by omega)
  unfold bt at hb
  rw [Int.pow_succ, h, hb]
  grind
theorem mul_nobit {A B : Int} {i : Nat} (hb : bt B i = 0) : A * (B % 2 ^ i) = A * (B % 2 ^ (i + 1)) := by
  have h := emod_split B (2 ^ i) 2 (pow_pos' i) (by omega)
  unfold bt at hb
  rw [Int.pow_succ, h, hb]
  grind
/-- Something is carried: the place is still within the product. -/
theorem carry_room {A B : Int} {i k t E : Nat} (hA : 0 ≤ A) (hB : 0 ≤ B) (h : A < 2 ^ t) (hk : t ≤ k) (hb : bt B i = 1) (hAB : A * B < 2 ^ E) (hc : 0 < cb (A * (B % 2 ^ i)) (A * 2 ^ i) 0 (i + k)) : i + k < E := by
  rcases Nat.lt_or_ge (i + k) E with h1 | h1
  · exact h1
  · exfalso
    have hS : 0 ≤ A * (B % 2 ^ i) := Int.mul_nonneg hA (Int.emod_nonneg _ (by have := pow_pos' i; omega))
    have hd0 : 0 ≤ A * 2 ^ i := Int.mul_nonneg hA (Int.le_of_lt (pow_pos' i))
    have hle : A * (B % 2 ^ i) + A * 2 ^ i ≤ A * B := by
      rw [mul_bit hb]
      exact Int.mul_le_mul_of_nonneg_left (emod_le' hB (pow_pos' _)) hA
    have hP : (2 : Int) ^ E ≤ 2 ^ (i + k) := by
      rw [pow_split h1]
      have h2 := pow_pos' (i + k - E)
      have := Int.mul_le_mul_of_nonneg_left (show (1 : Int) ≤ 2 ^ (i + k - E) by omega) (Int.le_of_lt (pow_pos' E))
      omega
    have hp := pow_pos' (i + k)
    have : cb (A * (B % 2 ^ i)) (A * 2 ^ i) 0 (i + k) = 0 := by
      unfold cb
      rw [Int.emod_eq_of_lt hS (by omega), Int.emod_eq_of_lt hd0 (by omega), Int.add_zero, Int.ediv_eq_zero_of_lt (by omega) (by omega)]
    omega
theorem ab_bd {n : Int} (h : Fit n) : 0 ≤ ab n ∧ ab n ≤ M511 := by unfold ab; unfold Fit at h; split <;> omega
theorem ab_mul (a b : Int) : ab a * ab b = ab (a * b) := by
  unfold ab
  by_cases ha : a < 0 <;> by_cases hb : b < 0
  · have := Int.mul_pos_of_neg_of_neg ha hb
    rw [if_pos ha, if_pos hb, if_neg (by omega), Int.neg_mul_neg]
  · rw [if_pos ha, if_neg hb]
    by_cases h0 : b = 0
    · subst h0; simp
    · have := Int.mul_neg_of_neg_of_pos ha (show 0 < b by omega)
      rw [if_pos this, Int.neg_mul]
  · rw [if_neg ha, if_pos hb]
    by_cases h0 : a = 0
    · subst h0; simp
    · have := Int.mul_neg_of_pos_of_neg (show 0 < a by omega) hb
      rw [if_pos this, Int.mul_neg]
  · have := Int.mul_nonneg (show 0 ≤ a by omega) (show 0 ≤ b by omega)
    rw [if_neg ha, if_neg hb, if_neg (by omega)]
theorem mul_ab {a b : Int} (h : (decide (a < 0) != decide (b < 0)) = false) : a * b = ab a * ab b := by
  unfold ab
  by_cases ha : a < 0 <;> by_cases hb : b < 0
  · rw [if_pos ha, if_pos hb, Int.neg_mul_neg]
  · simp [ha, hb] at h
  · simp [ha, hb] at h
  · rw [if_neg ha, if_neg hb]
theorem mul_ab_neg {a b : Int} (h : (decide (a < 0) != decide (b < 0)) = true) : a * b = -(ab a * ab b) := by
  unfold ab
  by_cases ha : a < 0 <;> by_cases hb : b < 0
  · simp [ha, hb] at h
  · rw [if_pos ha, if_neg hb, Int.neg_mul, Int.neg_neg]
  · rw [if_neg ha, if_pos hb, Int.mul_neg, Int.neg_neg]
  · simp [ha, hb] at h
/-- Products of two that fit, with room. -/
theorem prod_lt {a b : Int} (ha : Fit a) (hb : Fit b) {E : Nat} (hE : E = 1039) : ab a * ab b < 2 ^ E := by
  have h1 := ab_bd ha
  have h2 := ab_bd hb
  have h3 := Int.mul_le_mul h1.2 h2.2 h2.1 (Int.le_trans h1.1 h1.2)
  obtain ⟨c, hc⟩ : ∃ c : Nat, c = 511 := ⟨_, rfl⟩
  rw [M511_pow hc, ← Int.pow_add] at h3
  have h4 : (2 : Int) ^ E = 2 ^ (c + c) * 2 ^ (E - (c + c)) := pow_split (by omega)
  have h5 := pow_pos' (c + c)
  have h6 : E - (c + c) = 16 + 1 := by omega
  rw [h6] at h4
  have : (2 : Int) ^ (16 + 1) = 131072 := rfl
  rw [this] at h4
  omega
theorem ab_lt520 {n : Int} (h : Fit n) {E : Nat} (hE : E = 520) : ab n < 2 ^ E := by
  have h1 := ab_bd h
  obtain ⟨c, hc⟩ : ∃ c : Nat, c = 511 := ⟨_, rfl⟩
  rw [M511_pow hc] at h1
  have h4 : (2 : Int) ^ E = 2 ^ c * 2 ^ (E - c) := pow_split (by omega)
  have h5 := pow_pos' c
  have h6 : E - c = 9 := by omega
  rw [h6] at h4
  have : (2 : Int) ^ 9 = 512 := rfl
  rw [this] at h4
  omega
end Go.Proofs.YtbdkbmhejoakiaaDoor
set_option linter.unusedSimpArgs false
set_option linter.unusedVariables false
set_option maxRecDepth 100000
namespace Go.Proofs.YtbdkbmhejoakiaaDoor
open Go Go.RowKit

end Go.Proofs.YtbdkbmhejoakiaaDoor
