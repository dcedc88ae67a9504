/-
  The frame of a unit: how long its directions are, and how nearly across (plain); ninepinlaw22: RowsAcross.
-/
import Derived.Test.YtboiepagonlnkaaYe
set_option linter.unusedSimpArgs false
set_option linter.unusedVariables false
set_option maxRecDepth 100000
namespace Go.Proofs.Ytboiepagonlnkaa
open Go Go.RowKit
attribute [local irreducible] wpList

theorem abs_le_of_sq {x y : Int} (hy : 0 ≤ y) (h : x * x ≤ y * y) : x ≤ y := by
  by_cases h1 : x ≤ y
  · exact h1
  · have := sq_mono (a := y + 1) (b := x) (by omega) (by omega)
    have e : (y + 1) * (y + 1) = y * y + 2 * y + 1 := by grind
    omega
/-- A unit's number, without its sign. -/
def rmag (x s : Int) : Int :=
  if 0 ≤ x then rt (x * x * 18446744073709551616 / s)
  else if rt (x * x * 18446744073709551616 / s) * rt (x * x * 18446744073709551616 / s) * s = x * x * 18446744073709551616 then rt (x * x * 18446744073709551616 / s) else rt (x * x * 18446744073709551616 / s) + 1
theorem mul_le_cancel {a b s : Int} (hs : 0 < s) (h : a * s ≤ b * s) : a ≤ b := Int.le_of_mul_le_mul_right h hs
theorem mag_facts (x s : Int) (hs : 0 < s) (hx : x * x ≤ s) : 0 ≤ rmag x s ∧ rmag x s ≤ 4294967296 ∧ (x < 0 → 1 ≤ rmag x s) ∧
    rmag x s * rmag x s * s ≤ x * x * 18446744073709551616 + (2 * rmag x s + 1) * s ∧ x * x * 18446744073709551616 ≤ rmag x s * rmag x s * s + (2 * rmag x s + 1) * s := by
  have hxx := sq_nn x
  have h0 : 0 ≤ x * x * 18446744073709551616 := by omega
  have hpos : x < 0 → 0 < x * x * 18446744073709551616 := fun h => by
    have := Int.mul_pos_of_neg_of_neg h h
    omega
  unfold rmag
  have hb : x * x * 18446744073709551616 ≤ 18446744073709551616 * s := by omega
  generalize x * x * 18446744073709551616 = n at *
  have hq0 : 0 ≤ n / s := Int.ediv_nonneg h0 (Int.le_of_lt hs)
  have hqb : n / s ≤ 18446744073709551616 := Int.ediv_le_of_le_mul hs hb
  have hd := Int.mul_ediv_add_emod n s
  have hm0 := Int.emod_nonneg n (show s ≠ 0 by omega)
  have hm1 := Int.emod_lt_of_pos n hs
  obtain ⟨r1, r2⟩ := rt_spec hq0
  have r0 := rt_nonneg (n / s)
  have rb : rt (n / s) ≤ 4294967296 := by
    by_cases h : rt (n / s) ≤ 4294967296
    · exact h
    · have := sq_mono (a := 4294967297) (b := rt (n / s)) (by omega) (by omega)
      omega
  have l1 : rt (n / s) * rt (n / s) * s ≤ n := by
    have := Int.mul_le_mul_of_nonneg_right r1 (Int.le_of_lt hs)
    rw [Int.mul_comm (n / s)] at this
    omega
  have l2 : n < (rt (n / s) + 1) * (rt (n / s) + 1) * s := by
    have := Int.mul_le_mul_of_nonneg_right (show n / s + 1 ≤ (rt (n / s) + 1) * (rt (n / s) + 1) by omega) (Int.le_of_lt hs)
    rw [Int.add_mul, Int.one_mul, Int.mul_comm (n / s)] at this
    omega
  have e1 : (rt (n / s) + 1) * (rt (n / s) + 1) * s = rt (n / s) * rt (n / s) * s + 2 * (rt (n / s) * s) + s := by grind
  have e2 : (2 * rt (n / s) + 1) * s = 2 * (rt (n / s) * s) + s := by grind
  have e3 : (2 * (rt (n / s) + 1) + 1) * s = 2 * (rt (n / s) * s) + 3 * s := by grind
  have l3 : 0 ≤ rt (n / s) * s := Int.mul_nonneg r0 (Int.le_of_lt hs)
  by_cases h : 0 ≤ x
  · rw [if_pos h]
    exact ⟨r0, rb, fun h' => by omega, by omega, by omega⟩
  · rw [if_neg h]
    by_cases he : rt (n / s) * rt (n / s) * s = n
    · rw [if_pos he]
      refine ⟨r0, rb, fun _ => ?_, by omega, by omega⟩
      by_cases h1 : 1 ≤ rt (n / s)
      · exact h1
      · have : rt (n / s) = 0 := by omega
        rw [this] at he
        have := hpos (by omega)
        omega
    · rw [if_neg he]
      refine ⟨by omega, ?_, fun _ => by omega, by omega, by omega⟩
      by_cases h1 : rt (n / s) + 1 ≤ 4294967296
      · exact h1
      · exfalso
        have : rt (n / s) = 4294967296 := by omega
        rw [this] at l1 he
        omega
theorem ratio_mag (x s : Int) (hs : 0 < s) (hx : x * x ≤ s) : ratio x s = if 0 ≤ x then rmag x s else -(rmag x s) := by
  obtain ⟨h1, h2, _⟩ := mag_facts x s hs hx
  unfold ratio
  unfold rmag at *
  by_cases h : 0 ≤ x
  · simp only [if_pos h] at *
    exact cl_id (by unfold I64; omega)
  · simp only [if_neg h] at *
    exact cl_id (by unfold I64; omega)
theorem three_sq (p q r : Int) : (p + q + r) * (p + q + r) ≤ 3 * (p * p + q * q + r * r) := by
  have e : 3 * (p * p + q * q + r * r) - (p + q + r) * (p + q + r) = (p - q) * (p - q) + (q - r) * (q - r) + (p - r) * (p - r) := by grind
  have h1 := sq_nn (p - q)
  have h2 := sq_nn (q - r)
  have h3 := sq_nn (p - r)
  omega
theorem unit_square {a : P3} (h : ¬ (a.x = 0 ∧ a.y = 0 ∧ a.z = 0)) : 18446744056529682432 ≤ a.cunit.dot a.cunit ∧ a.cunit.dot a.cunit ≤ 18446744090889420800 := by
  have hs := dot_pos h
  have h1 := sq_nn a.x
  have h2 := sq_nn a.y
  have h3 := sq_nn a.z
  have hd : a.dot a = a.x * a.x + a.y * a.y + a.z * a.z := rfl
  have kx : a.x * a.x ≤ a.dot a := by omega
  have ky : a.y * a.y ≤ a.dot a := by omega
  have kz : a.z * a.z ≤ a.dot a := by omega
  have sq : ∀ x, x * x ≤ a.dot a → ratio x (a.dot a) * ratio x (a.dot a) = rmag x (a.dot a) * rmag x (a.dot a) := fun x hx => by
    rw [ratio_mag x _ hs hx]
    split
    · rfl
    · rw [Int.neg_mul_neg]
  have e : a.cunit.dot a.cunit = rmag a.x (a.dot a) * rmag a.x (a.dot a) + rmag a.y (a.dot a) * rmag a.y (a.dot a) + rmag a.z (a.dot a) * rmag a.z (a.dot a) := by
    have := sq a.x kx
    have := sq a.y ky
    have := sq a.z kz
    unfold P3.cunit
    simp only [P3.dot] at *
    omega
  rw [e]
  obtain ⟨x0, x1, _, x2, x3⟩ := mag_facts a.x _ hs kx
  obtain ⟨y0, y1, _, y2, y3⟩ := mag_facts a.y _ hs ky
  obtain ⟨w0, w1, _, w2, w3⟩ := mag_facts a.z _ hs kz
  have t3 := three_sq (rmag a.x (a.dot a)) (rmag a.y (a.dot a)) (rmag a.z (a.dot a))
  generalize rmag a.x (a.dot a) = p at *
  generalize rmag a.y (a.dot a) = q at *
  generalize rmag a.z (a.dot a) = r at *
  generalize a.dot a = s at *
  have hsum : a.x * a.x * 18446744073709551616 + a.y * a.y * 18446744073709551616 + a.z * a.z * 18446744073709551616 = 18446744073709551616 * s := by omega
  have up : p * p + q * q + r * r ≤ 18446744073709551616 + (2 * (p + q + r) + 3) := by
    refine mul_le_cancel hs ?_
    have e1 : (p * p + q * q + r * r) * s = p * p * s + q * q * s + r * r * s := by grind
    have e2 : (18446744073709551616 + (2 * (p + q + r) + 3)) * s = 18446744073709551616 * s + ((2 * p + 1) * s + (2 * q + 1) * s + (2 * r + 1) * s) := by grind
    rw [e1, e2]
    omega
  have lo : 18446744073709551616 ≤ p * p + q * q + r * r + (2 * (p + q + r) + 3) := by
    refine mul_le_cancel hs ?_
    have e1 : (p * p + q * q + r * r + (2 * (p + q + r) + 3)) * s = p * p * s + q * q * s + r * r * s + ((2 * p + 1) * s + (2 * q + 1) * s + (2 * r + 1) * s) := by grind
    rw [e1]
    omega
  have hT : p + q + r ≤ 8589934589 := by
    by_cases h9 : p + q + r ≤ 8589934589
    · exact h9
    · exfalso
      generalize p + q + r = T at *
      have := Int.mul_le_mul_of_nonneg_right (show 8589934590 ≤ T by omega) (show 0 ≤ T by omega)
      omega
  omega
/-- A unit's number lies between a whole one and the next. -/
theorem rho_facts (x s : Int) (hs : 0 < s) (hx : x * x ≤ s) : ∃ lo : Int, 0 ≤ lo ∧ lo * lo * s ≤ x * x * 18446744073709551616 ∧ x * x * 18446744073709551616 ≤ (lo + 1) * (lo + 1) * s ∧ ratio x s = (if 0 ≤ x then lo else -(lo + 1)) := by
  obtain ⟨m0, m1, m2, _, _⟩ := mag_facts x s hs hx
  have hr := ratio_mag x s hs hx
  have hxx := sq_nn x
  have h0 : 0 ≤ x * x * 18446744073709551616 := by omega
  unfold rmag at *
  generalize x * x * 18446744073709551616 = n at *
  have hq0 : 0 ≤ n / s := Int.ediv_nonneg h0 (Int.le_of_lt hs)
  have hd := Int.mul_ediv_add_emod n s
  have hm0 := Int.emod_nonneg n (show s ≠ 0 by omega)
  have hm1 := Int.emod_lt_of_pos n hs
  obtain ⟨r1, r2⟩ := rt_spec hq0
  have r0 := rt_nonneg (n / s)
  have l1 : rt (n / s) * rt (n / s) * s ≤ n := by
    have := Int.mul_le_mul_of_nonneg_right r1 (Int.le_of_lt hs)
    rw [Int.mul_comm (n / s)] at this
    omega
  have l2 : n < (rt (n / s) + 1) * (rt (n / s) + 1) * s := by
    have := Int.mul_le_mul_of_nonneg_right (show n / s + 1 ≤ (rt (n / s) + 1) * (rt (n / s) + 1) by omega) (Int.le_of_lt hs)
    rw [Int.add_mul, Int.one_mul, Int.mul_comm (n / s)] at this
    omega
  by_cases h : 0 ≤ x
  · simp only [if_pos h] at *
    exact ⟨rt (n / s), r0, l1, Int.le_of_lt l2, hr⟩
  · simp only [if_neg h] at *
    by_cases he : rt (n / s) * rt (n / s) * s = n
    · simp only [if_pos he] at *
      have hp := m2 (by omega)
      refine ⟨rt (n / s) - 1, by omega, ?_, ?_, by rw [hr]; omega⟩
      · have e : (rt (n / s) - 1) * (rt (n / s) - 1) * s = rt (n / s) * rt (n / s) * s - (2 * (rt (n / s)) - 1) * s := by grind
        have := Int.mul_nonneg (show 0 ≤ 2 * rt (n / s) - 1 by omega) (Int.le_of_lt hs)
        omega
      · rw [show rt (n / s) - 1 + 1 = rt (n / s) by omega, he]; exact Int.le_refl _
    · simp only [if_neg he] at *
      exact ⟨rt (n / s), r0, l1, Int.le_of_lt l2, hr⟩
theorem cross_le {y z p q s : Int} (hs : 0 < s) (hz : 0 ≤ z) (hq : 0 ≤ q) (h1 : p * p * s ≤ z * z * 18446744073709551616) (h2 : y * y * 18446744073709551616 ≤ q * q * s) : y * p ≤ z * q := by
  refine abs_le_of_sq (Int.mul_nonneg hz hq) (mul_le_cancel hs ?_)
  have k1 := Int.mul_le_mul_of_nonneg_left h1 (sq_nn y)
  have k2 := Int.mul_le_mul_of_nonneg_left h2 (sq_nn z)
  have e1 : y * p * (y * p) * s = y * y * (p * p * s) := by grind
  have e2 : z * q * (z * q) * s = z * z * (q * q * s) := by grind
  have e3 : y * y * (z * z * 18446744073709551616) = z * z * (y * y * 18446744073709551616) := by grind
  omega
theorem abs_two (y : Int) : ∃ u : Int, 0 ≤ u ∧ ((y = u ∧ 0 ≤ y) ∨ (y = -u ∧ y < 0)) := by
  by_cases h : 0 ≤ y
  · exact ⟨y, h, .inl ⟨rfl, h⟩⟩
  · exact ⟨-y, by omega, .inr ⟨by omega, by omega⟩⟩
/-- What a unit across two numbers has along them. -/
theorem pair_bd (y z s : Int) (hs : 0 < s) (hy : y * y ≤ s) (hz : z * z ≤ s) (y1 : -4294967296 ≤ y ∧ y ≤ 4294967296) (z1 : -4294967296 ≤ z ∧ z ≤ 4294967296) :
    -8589934592 ≤ y * ratio z s + z * ratio (-y) s ∧ y * ratio z s + z * ratio (-y) s ≤ 8589934592 := by
  obtain ⟨a, a0, a1, a2, a3⟩ := rho_facts z s hs hz
  obtain ⟨b, b0, b1, b2, b3⟩ := rho_facts (-y) s hs (by rw [Int.neg_mul_neg]; exact hy)
  rw [a3, b3]
  rw [Int.neg_mul_neg] at b1 b2
  obtain ⟨u, u0, hu⟩ := abs_two y
  obtain ⟨v, v0, hv⟩ := abs_two z
  have hu2 : y * y = u * u := by rcases hu with ⟨e, _⟩ | ⟨e, _⟩ <;> rw [e] <;> exact Int.neg_mul_neg u u
  have hv2 : z * z = v * v := by rcases hv with ⟨e, _⟩ | ⟨e, _⟩ <;> rw [e] <;> exact Int.neg_mul_neg v v
  rw [hu2] at b1 b2
  rw [hv2] at a1 a2
  have X1 := cross_le (y := u) (z := v) (p := a) (q := b + 1) hs v0 (by omega) a1 b2
  have X2 := cross_le (y := v) (z := u) (p := b) (q := a + 1) hs u0 (by omega) b1 a2
  rw [Int.mul_add, Int.mul_one] at X1 X2
  clear a1 a2 a3 b1 b2 b3 hu2 hv2 hy hz
  rcases hu with ⟨rfl, hu⟩ | ⟨rfl, hu⟩ <;> rcases hv with ⟨rfl, hv⟩ | ⟨rfl, hv⟩
  · rw [if_pos hv]
    by_cases h0 : y = 0
    · subst h0
      simp only [Int.neg_zero, Int.zero_mul, Int.le_refl, if_true] at *
      omega
    · rw [if_neg (by omega)]
      simp only [Int.mul_neg, Int.neg_mul, Int.mul_add, Int.mul_one, Int.neg_add]
      generalize y * a = k1 at *
      generalize z * b = k2 at *
      omega
  · rw [if_neg (by omega)]
    by_cases h0 : y = 0
    · subst h0
      simp only [Int.neg_zero, Int.zero_mul, Int.le_refl, if_true, Int.neg_mul] at *
      omega
    · rw [if_neg (by omega)]
      simp only [Int.mul_neg, Int.neg_mul, Int.mul_add, Int.mul_one, Int.neg_add, Int.neg_neg]
      generalize y * a = k1 at *
      generalize v * b = k2 at *
      omega
  · rw [if_pos hv, if_pos (by omega)]
    simp only [Int.mul_neg, Int.neg_mul, Int.mul_add, Int.mul_one, Int.neg_add, Int.neg_neg]
    generalize u * a = k1 at *
    generalize z * b = k2 at *
    omega
  · rw [if_neg (by omega), if_pos (by omega)]
    simp only [Int.mul_neg, Int.neg_mul, Int.mul_add, Int.mul_one, Int.neg_add, Int.neg_neg]
    generalize u * a = k1 at *
    generalize v * b = k2 at *
    omega
def P3.in1 (n : P3) : Prop := (-4294967296 ≤ n.x ∧ n.x ≤ 4294967296) ∧ (-4294967296 ≤ n.y ∧ n.y ≤ 4294967296) ∧ (-4294967296 ≤ n.z ∧ n.z ≤ 4294967296)
theorem unit_in1 {a : P3} (h : ¬ (a.x = 0 ∧ a.y = 0 ∧ a.z = 0)) : a.cunit.in1 := by
  have hs := dot_pos h
  have h1 := sq_nn a.x
  have h2 := sq_nn a.y
  have h3 := sq_nn a.z
  have hd : a.dot a = a.x * a.x + a.y * a.y + a.z * a.z := rfl
  have one : ∀ x, x * x ≤ a.dot a → -4294967296 ≤ ratio x (a.dot a) ∧ ratio x (a.dot a) ≤ 4294967296 := fun x hx => by
    obtain ⟨m0, m1, _⟩ := mag_facts x _ hs hx
    rw [ratio_mag x _ hs hx]
    split <;> omega
  exact ⟨one _ (by omega), one _ (by omega), one _ (by omega)⟩
theorem mul_abs {a b c d : Int} (ha : -c ≤ a ∧ a ≤ c) (hb : -d ≤ b ∧ b ≤ d) : -(c * d) ≤ a * b ∧ a * b ≤ c * d := by
  have k1 := Int.mul_nonneg (show 0 ≤ c - a by omega) (show 0 ≤ d + b by omega)
  have k2 := Int.mul_nonneg (show 0 ≤ c + a by omega) (show 0 ≤ d - b by omega)
  have k3 := Int.mul_nonneg (show 0 ≤ c - a by omega) (show 0 ≤ d - b by omega)
  have k4 := Int.mul_nonneg (show 0 ≤ c + a by omega) (show 0 ≤ d + b by omega)
  have e1 : (c - a) * (d + b) = c * d + c * b - a * d - a * b := by grind
  have e2 : (c + a) * (d - b) = c * d - c * b + a * d - a * b := by grind
  have e3 : (c - a) * (d - b) = c * d - c * b - a * d + a * b := by grind
  have e4 : (c + a) * (d + b) = c * d + c * b + a * d + a * b := by grind
  omega
/-- What is nearly a unit, and one across it: the third, rounded. -/
theorem third_bd (n t u r : P3) (hn : n.in1) (ht : t.in1) (N1 : 18446744056529682432 ≤ n.dot n ∧ n.dot n ≤ 18446744090889420800) (T1 : 18446744056529682432 ≤ t.dot t ∧ t.dot t ≤ 18446744090889420800)
    (D1 : -8589934592 ≤ n.dot t ∧ n.dot t ≤ 8589934592)
    (r0 : (0 ≤ r.x ∧ r.x ≤ 4294967296) ∧ (0 ≤ r.y ∧ r.y ≤ 4294967296) ∧ (0 ≤ r.z ∧ r.z ≤ 4294967296))
    (ex : n.y * t.z - n.z * t.y = 4294967296 * u.x + r.x) (ey : n.z * t.x - n.x * t.z = 4294967296 * u.y + r.y) (ez : n.x * t.y - n.y * t.x = 4294967296 * u.z + r.z) :
    (-12884901888 ≤ n.dot u ∧ n.dot u ≤ 12884901888) ∧ (-12884901888 ≤ t.dot u ∧ t.dot u ≤ 12884901888) ∧ (18446744004990074880 ≤ u.dot u ∧ u.dot u ≤ 18446744142429028352) := by
  have bnd : ∀ k : P3, k.in1 → -55340232221128654848 ≤ k.dot r ∧ k.dot r ≤ 55340232221128654848 := fun k hk => by
    have b1 := mul_abs hk.1 (show -4294967296 ≤ r.x ∧ r.x ≤ 4294967296 by omega)
    have b2 := mul_abs hk.2.1 (show -4294967296 ≤ r.y ∧ r.y ≤ 4294967296 by omega)
    have b3 := mul_abs hk.2.2 (show -4294967296 ≤ r.z ∧ r.z ≤ 4294967296 by omega)
    unfold P3.dot
    omega
  have hnr := bnd n hn
  have htr := bnd t ht
  have en : 4294967296 * n.dot u = -(n.dot r) := by
    unfold P3.dot
    grind
  have et : 4294967296 * t.dot u = -(t.dot r) := by
    unfold P3.dot
    grind
  refine ⟨by omega, by omega, ?_⟩
  have em : 18446744073709551616 * u.dot u = n.dot n * t.dot t - n.dot t * n.dot t - 2 * ((4294967296 * u.x + r.x) * r.x + (4294967296 * u.y + r.y) * r.y + (4294967296 * u.z + r.z) * r.z) + (r.x * r.x + r.y * r.y + r.z * r.z) := by
    rw [← ex, ← ey, ← ez]
    have g : (n.y * t.z - n.z * t.y) * (n.y * t.z - n.z * t.y) + (n.z * t.x - n.x * t.z) * (n.z * t.x - n.x * t.z) + (n.x * t.y - n.y * t.x) * (n.x * t.y - n.y * t.x) = n.dot n * t.dot t - n.dot t * n.dot t := by
      unfold P3.dot
      grind
    rw [← g, ex, ey, ez]
    unfold P3.dot
    grind
  have hD := mul_abs D1 D1
  have hD0 := sq_nn (n.dot t)
  have hN := mul_abs (a := n.dot n - 18446744073709551616) (b := t.dot t - 18446744073709551616) (c := 17179869184) (d := 17179869184) (by omega) (by omega)
  have eN : (n.dot n - 18446744073709551616) * (t.dot t - 18446744073709551616) = n.dot n * t.dot t - 18446744073709551616 * n.dot n - 18446744073709551616 * t.dot t + 340282366920938463463374607431768211456 := by grind
  have lag : ∀ m : Int, m * m ≤ n.dot n * t.dot t → -18446744090889420801 ≤ m ∧ m ≤ 18446744090889420801 := fun m hm => by
    have hNT : n.dot n * t.dot t ≤ 18446744090889420801 * 18446744090889420801 := by omega
    have k1 := abs_le_of_sq (x := m) (y := 18446744090889420801) (by omega) (by omega)
    have k2 := abs_le_of_sq (x := -m) (y := 18446744090889420801) (by omega) (by rw [Int.neg_mul_neg]; omega)
    omega
  have g : (n.y * t.z - n.z * t.y) * (n.y * t.z - n.z * t.y) + (n.z * t.x - n.x * t.z) * (n.z * t.x - n.x * t.z) + (n.x * t.y - n.y * t.x) * (n.x * t.y - n.y * t.x) = n.dot n * t.dot t - n.dot t * n.dot t := by
    unfold P3.dot
    grind
  rw [ex, ey, ez] at g
  have q1 := sq_nn (4294967296 * u.x + r.x)
  have q2 := sq_nn (4294967296 * u.y + r.y)
  have q3 := sq_nn (4294967296 * u.z + r.z)
  have m1 := lag (4294967296 * u.x + r.x) (by omega)
  have m2 := lag (4294967296 * u.y + r.y) (by omega)
  have m3 := lag (4294967296 * u.z + r.z) (by omega)
  have p1 := mul_abs m1 (show -4294967296 ≤ r.x ∧ r.x ≤ 4294967296 by omega)
  have p2 := mul_abs m2 (show -4294967296 ≤ r.y ∧ r.y ≤ 4294967296 by omega)
  have p3 := mul_abs m3 (show -4294967296 ≤ r.z ∧ r.z ≤ 4294967296 by omega)
  have s1 := mul_abs (show -4294967296 ≤ r.x ∧ r.x ≤ 4294967296 by omega) (show -4294967296 ≤ r.x ∧ r.x ≤ 4294967296 by omega)
  have s2 := mul_abs (show -4294967296 ≤ r.y ∧ r.y ≤ 4294967296 by omega) (show -4294967296 ≤ r.y ∧ r.y ≤ 4294967296 by omega)
  have s3 := mul_abs (show -4294967296 ≤ r.z ∧ r.z ≤ 4294967296 by omega) (show -4294967296 ≤ r.z ∧ r.z ≤ 4294967296 by omega)
  generalize (4294967296 * u.x + r.x) * r.x = a1 at *
  generalize (4294967296 * u.y + r.y) * r.y = a2 at *
  generalize (4294967296 * u.z + r.z) * r.z = a3 at *
  generalize r.x * r.x = b1 at *
  generalize r.y * r.y = b2 at *
  generalize r.z * r.z = b3 at *
  generalize n.dot n * t.dot t = k at *
  generalize n.dot t * n.dot t = l at *
  clear g q1 q2 q3 m1 m2 m3 ex ey ez en et hnr htr lag bnd
  omega
/-- The frame of a unit. -/
theorem frame_unit {v : P3} (h : ¬ (v.x = 0 ∧ v.y = 0 ∧ v.z = 0)) : ∃ t u : P3, frO v.cunit = (t, u, 0) ∧ t.in1 ∧ (-8589934592 ≤ v.cunit.dot t ∧ v.cunit.dot t ≤ 8589934592) ∧ (18446744056529682432 ≤ t.dot t ∧ t.dot t ≤ 18446744090889420800) ∧ u = v.cunit.ccross t := by
  have hn := unit_in1 h
  have hN := unit_square h
  generalize v.cunit = n at *
  obtain ⟨x, y, z⟩ := n
  unfold P3.in1 at hn
  dsimp only at hn
  have d1 : ∀ m : Int, -4294967296 ≤ m → m ≤ 4294967296 → cl (m * 4294967296 / 4294967296) = m := fun m h1 h2 => by
    rw [Int.mul_ediv_cancel _ (by omega)]
    exact cl_id (by unfold I64; omega)
  have d0 : cl (0 / 4294967296) = 0 := by decide
  have zr : ∀ s : Int, ratio 0 s = 0 := fun s => by
    unfold ratio
    have hz : rt 0 = 0 := rt_uniq (by omega) (by omega) (by omega)
    rw [if_pos (by omega), show (0 : Int) * 0 * 18446744073709551616 = 0 by omega, Int.zero_ediv, hz]
    decide
  have fin : ∀ c : P3, P3.ccross ⟨x, y, z⟩ (axv ⟨x, y, z⟩) = c → ¬ (c.x = 0 ∧ c.y = 0 ∧ c.z = 0) → (-8589934592 ≤ P3.dot ⟨x, y, z⟩ c.cunit ∧ P3.dot ⟨x, y, z⟩ c.cunit ≤ 8589934592) →
      ∃ t u : P3, frO ⟨x, y, z⟩ = (t, u, 0) ∧ t.in1 ∧ (-8589934592 ≤ P3.dot ⟨x, y, z⟩ t ∧ P3.dot ⟨x, y, z⟩ t ≤ 8589934592) ∧ (18446744056529682432 ≤ t.dot t ∧ t.dot t ≤ 18446744090889420800) ∧ u = P3.ccross ⟨x, y, z⟩ t := by
    intro c hc h0 hd
    refine ⟨c.cunit, P3.ccross ⟨x, y, z⟩ c.cunit, ?_, unit_in1 h0, hd, unit_square h0, rfl⟩
    unfold frO
    rw [hc, if_neg h0]
  have x2 := sq_nn x
  have y2 := sq_nn y
  have z2 := sq_nn z
  have sqz : ∀ m : Int, m.natAbs = 0 → m * m = 0 := fun m hm => by
    have : m = 0 := by omega
    rw [this]; rfl
  unfold P3.dot at hN
  dsimp only at hN
  by_cases h1 : x.natAbs ≤ y.natAbs ∧ x.natAbs ≤ z.natAbs
  · have ha : axv ⟨x, y, z⟩ = ⟨4294967296, 0, 0⟩ := by unfold axv; rw [if_pos h1]
    have hc : P3.ccross ⟨x, y, z⟩ (axv ⟨x, y, z⟩) = ⟨0, z, -y⟩ := by
      rw [ha]
      unfold P3.ccross
      simp only [Int.mul_zero, Int.sub_zero, Int.zero_sub, d0]
      rw [d1 z (by omega) (by omega), show -(y * 4294967296) = -y * 4294967296 by omega, d1 (-y) (by omega) (by omega)]
    refine fin _ hc ?_ ?_
    · intro h0
      dsimp only at h0
      have := sqz x (by omega)
      have := sqz y (by omega)
      have := sqz z (by omega)
      omega
    · have hd : P3.dot ⟨0, z, -y⟩ ⟨0, z, -y⟩ = z * z + y * y := by unfold P3.dot; grind
      unfold P3.cunit
      rw [hd]
      dsimp only
      rw [zr]
      have hp : 0 < z * z + y * y := by
        by_cases hp : 0 < z * z + y * y
        · exact hp
        · exfalso
          have hyx := sq_mono (a := (x.natAbs : Int)) (b := (y.natAbs : Int)) (by omega) (by omega)
          rw [Int.natAbs_mul_self' x, Int.natAbs_mul_self' y] at hyx
          omega
      have := pair_bd y z (z * z + y * y) hp (by omega) (by omega) (by omega) (by omega)
      unfold P3.dot
      dsimp only
      omega
  · by_cases h2 : y.natAbs ≤ z.natAbs
    · have ha : axv ⟨x, y, z⟩ = ⟨0, 4294967296, 0⟩ := by unfold axv; rw [if_neg h1, if_pos h2]
      have hc : P3.ccross ⟨x, y, z⟩ (axv ⟨x, y, z⟩) = ⟨-z, 0, x⟩ := by
        rw [ha]
        unfold P3.ccross
        simp only [Int.mul_zero, Int.sub_zero, Int.zero_sub, d0]
        rw [d1 x (by omega) (by omega), show -(z * 4294967296) = -z * 4294967296 by omega, d1 (-z) (by omega) (by omega)]
      refine fin _ hc ?_ ?_
      · intro h0
        dsimp only at h0
        have := sqz x (by omega)
        have := sqz y (by omega)
        have := sqz z (by omega)
        omega
      · have hd : P3.dot ⟨-z, 0, x⟩ ⟨-z, 0, x⟩ = z * z + x * x := by unfold P3.dot; grind
        unfold P3.cunit
        rw [hd]
        dsimp only
        rw [zr]
        have hp : 0 < z * z + x * x := by
          by_cases hp : 0 < z * z + x * x
          · exact hp
          · exfalso
            have hyx := sq_mono (a := (y.natAbs : Int)) (b := (z.natAbs : Int)) (by omega) (by omega)
            rw [Int.natAbs_mul_self' y, Int.natAbs_mul_self' z] at hyx
            omega
        have := pair_bd z x (z * z + x * x) hp (by omega) (by omega) (by omega) (by omega)
        unfold P3.dot
        dsimp only
        omega
    · have ha : axv ⟨x, y, z⟩ = ⟨0, 0, 4294967296⟩ := by unfold axv; rw [if_neg h1, if_neg h2]
      have hc : P3.ccross ⟨x, y, z⟩ (axv ⟨x, y, z⟩) = ⟨y, -x, 0⟩ := by
        rw [ha]
        unfold P3.ccross
        simp only [Int.mul_zero, Int.sub_zero, Int.zero_sub, d0]
        rw [d1 y (by omega) (by omega), show -(x * 4294967296) = -x * 4294967296 by omega, d1 (-x) (by omega) (by omega)]
      refine fin _ hc ?_ ?_
      · intro h0
        dsimp only at h0
        have := sqz x (by omega)
        have := sqz y (by omega)
        have := sqz z (by omega)
        omega
      · have hd : P3.dot ⟨y, -x, 0⟩ ⟨y, -x, 0⟩ = y * y + x * x := by unfold P3.dot; grind
        unfold P3.cunit
        rw [hd]
        dsimp only
        rw [zr]
        have hp : 0 < y * y + x * x := by
          by_cases hp : 0 < y * y + x * x
          · exact hp
          · exfalso
            have hyx := sq_mono (a := (z.natAbs : Int)) (b := (y.natAbs : Int)) (by omega) (by omega)
            rw [Int.natAbs_mul_self' z, Int.natAbs_mul_self' y] at hyx
            omega
        have := pair_bd x y (y * y + x * x) hp (by omega) (by omega) (by omega) (by omega)
        unfold P3.dot
        dsimp only
        omega
set_option maxHeartbeats 1000000 in
theorem small_any (a : Int) (h1 : -16 ≤ a) (h2 : a ≤ 16) (w : World) : Calls Try.prog 10 #[.int .i64 a] w (Ret (.bool true) w) := by
  have k1 : decide (-16 ≤ a) = true := decide_eq_true h1
  have k2 : decide (a ≤ 16) = true := decide_eq_true h2
  clear h1 h2
  go_enter Try.func10, Try.ntmps10
  have hp := Hp.start [] w
  go_wp2_with (first
          | ((with_reducible apply sx_guard); (conv => whnf); refine Bx.mk ?_; (try simp only [zp, zq, z0, z1])))
  exact bodyPost_ret (results_one rfl rfl) rfl ⟨rfl, hp.keep⟩
set_option maxHeartbeats 2000000 in
theorem across_no (v : P3) (U1 : Hid (∀ w, Calls Try.prog 7 #[PV v] w (Ret (.tuple #[.agg #[.int .i64 0, .int .i64 0, .int .i64 0], .bool false]) w))) (w : World) :
    Calls Try.prog 3 #[PV v] w (Ret (.bool true) w) := by
  go_enter Try.func3, Try.ntmps3
  have hp := Hp.start [] w
  go_wp2_with (first
          | ((with_reducible apply sx_box hp); exact za rfl; exact rfl; clear hp; (try clear w1); intro g w1 hp; simp only [zp, zq, z0, z1])
          | ((with_reducible apply sx_alloc hp); infer_instance; exact rfl; clear hp; (try clear w1); intro g w1 hp; simp only [zp, zq, z0, z1])
          | ((with_reducible apply sx_load_agg hp); exact zt rfl; infer_instance; infer_instance; (first | exact zl rfl | exact LB_le (by omega)); (first | (with_reducible exact LB_set (by omega)) | (simp only [n0, Nat.reduceAdd, n1, n2, n3, n4, n5, n6, n7, n8, n9]; try rfl)); simp only [zp, zq, z0, z1])
          | ((with_reducible apply sx_store hp); exact zt rfl; exact za rfl; exact rfl; (first | exact AggTy.size | exact OneTy.size); exact rfl; infer_instance; (first | (with_reducible exact LB_set (by omega)) | (simp only [n0, Nat.reduceAdd, n1, n2, n3, n4, n5, n6, n7, n8, n9]; try rfl)); (first | exact zl rfl | exact LB_le (by omega)); exact rfl; infer_instance; clear hp; (try clear w1); intro w1 hp)
          | ((with_reducible first | refine sx_call hp (U1.out _) ?_ | refine sx_call hp (awake22 _) ?_); clear hp; (try clear w1); intro w1 hp))
  exact bodyPost_ret (results_one rfl rfl) rfl ⟨rfl, hp.keep⟩
set_option maxHeartbeats 8000000 in
theorem across_core (v n t u : P3) (d1 d2 d3 d4 d5 c4 c5 : Int)
    (U1 : Hid (∀ w, Calls Try.prog 7 #[PV v] w (Ret (.tuple #[.agg #[.int .i64 n.x, .int .i64 n.y, .int .i64 n.z], .bool true]) w)))
    (F1 : Hid (∀ w, Calls Try.prog 9 #[PV n] w (Ret (.tuple #[.agg #[.int .i64 t.x, .int .i64 t.y, .int .i64 t.z], .agg #[.int .i64 u.x, .int .i64 u.y, .int .i64 u.z], .int .i64 0]) w)))
    (D1 : Hid (∀ w, Calls Try.prog 11 #[PV n, PV t] w (Ret (.int .i64 d1) w)))
    (D2 : Hid (∀ w, Calls Try.prog 11 #[PV n, PV u] w (Ret (.int .i64 d2) w)))
    (D3 : Hid (∀ w, Calls Try.prog 11 #[PV t, PV u] w (Ret (.int .i64 d3) w)))
    (D4 : Hid (∀ w, Calls Try.prog 11 #[PV t, PV t] w (Ret (.int .i64 d4) w)))
    (D5 : Hid (∀ w, Calls Try.prog 11 #[PV u, PV u] w (Ret (.int .i64 d5) w)))
    (w4 : wrap64 (d4 - 4294967296) = c4) (w5 : wrap64 (d5 - 4294967296) = c5)
    (S1 : Hid (∀ w, Calls Try.prog 10 #[.int .i64 d1] w (Ret (.bool true) w)))
    (S2 : Hid (∀ w, Calls Try.prog 10 #[.int .i64 d2] w (Ret (.bool true) w)))
    (S3 : Hid (∀ w, Calls Try.prog 10 #[.int .i64 d3] w (Ret (.bool true) w)))
    (S4 : Hid (∀ w, Calls Try.prog 10 #[.int .i64 c4] w (Ret (.bool true) w)))
    (S5 : Hid (∀ w, Calls Try.prog 10 #[.int .i64 c5] w (Ret (.bool true) w))) (w : World) :
    Calls Try.prog 3 #[PV v] w (Ret (.bool true) w) := by
  go_enter Try.func3, Try.ntmps3
  have hp := Hp.start [] w
  go_wp2_with (first
          | ((with_reducible apply sx_guard); (conv => whnf); refine Bx.mk ?_; (try simp only [zp, zq, z0, z1, w4, w5]))
          | ((with_reducible apply sx_box hp); exact za rfl; exact rfl; clear hp; (try clear w1); intro g w1 hp; simp only [zp, zq, z0, z1])
          | ((with_reducible apply sx_alloc hp); infer_instance; exact rfl; clear hp; (try clear w1); intro g w1 hp; simp only [zp, zq, z0, z1])
          | ((with_reducible apply sx_load_agg hp); exact zt rfl; infer_instance; infer_instance; (first | exact zl rfl | exact LB_le (by omega)); (first | (with_reducible exact LB_set (by omega)) | (simp only [n0, Nat.reduceAdd, n1, n2, n3, n4, n5, n6, n7, n8, n9]; try rfl)); simp only [zp, zq, z0, z1])
          | ((with_reducible apply sx_store hp); exact zt rfl; exact za rfl; exact rfl; (first | exact AggTy.size | exact OneTy.size); exact rfl; infer_instance; (first | (with_reducible exact LB_set (by omega)) | (simp only [n0, Nat.reduceAdd, n1, n2, n3, n4, n5, n6, n7, n8, n9]; try rfl)); (first | exact zl rfl | exact LB_le (by omega)); exact rfl; infer_instance; clear hp; (try clear w1); intro w1 hp)
          | ((with_reducible first | refine sx_call hp (U1.out _) ?_ | refine sx_call hp (F1.out _) ?_ | refine sx_call hp (D1.out _) ?_ | refine sx_call hp (D2.out _) ?_ | refine sx_call hp (D3.out _) ?_ | refine sx_call hp (D4.out _) ?_ | refine sx_call hp (D5.out _) ?_ | refine sx_call hp (S1.out _) ?_ | refine sx_call hp (S2.out _) ?_ | refine sx_call hp (S3.out _) ?_ | refine sx_call hp (S4.out _) ?_ | refine sx_call hp (S5.out _) ?_ | refine sx_call hp (awake22 _) ?_); clear hp; (try clear w1); intro w1 hp))
  exact bodyPost_ret (results_one rfl rfl) rfl ⟨rfl, hp.keep⟩
theorem wr_sub {d : Int} (h : 0 ≤ d ∧ d ≤ 8589934592) : wrap64 (d - 4294967296) = d - 4294967296 := by
  unfold wrap64
  omega
theorem across_law (v : P3) (hv : v.i64) (w : World) : Calls Try.prog 3 #[PV v] w (Ret (.bool true) w) := by
  have U1 := vunit_any v hv
  unfold unitV at U1
  by_cases h0 : v.x = 0 ∧ v.y = 0 ∧ v.z = 0
  · simp only [if_pos h0] at U1
    exact across_no v (Lib.hid U1) w
  · simp only [if_neg h0] at U1
    obtain ⟨t, u, ef, ht, hd, hT, hu⟩ := frame_unit h0
    have hn := unit_in1 h0
    have hN := unit_square h0
    have F1 := frame_any v.cunit (cun_i64 v)
    rw [ef] at F1
    have ti : t.i64 := ⟨by unfold P3.in1 at ht; unfold I64; omega, by unfold P3.in1 at ht; unfold I64; omega, by unfold P3.in1 at ht; unfold I64; omega⟩
    have ui : u.i64 := hu ▸ ccr_i64 _ _
    generalize v.cunit = n at *
    have ni : n.i64 := ⟨by unfold P3.in1 at hn; unfold I64; omega, by unfold P3.in1 at hn; unfold I64; omega, by unfold P3.in1 at hn; unfold I64; omega⟩
    have mb : ∀ a b c d : Int, (-4294967296 ≤ a ∧ a ≤ 4294967296) → (-4294967296 ≤ b ∧ b ≤ 4294967296) → (-4294967296 ≤ c ∧ c ≤ 4294967296) → (-4294967296 ≤ d ∧ d ≤ 4294967296) → cl ((a * b - c * d) / 4294967296) = (a * b - c * d) / 4294967296 := fun a b c d ha hb hc hd => by
      have k1 := mul_abs ha hb
      have k2 := mul_abs hc hd
      exact cl_id (by unfold I64; omega)
    have eu : u = ⟨(n.y * t.z - n.z * t.y) / 4294967296, (n.z * t.x - n.x * t.z) / 4294967296, (n.x * t.y - n.y * t.x) / 4294967296⟩ := by
      rw [hu]
      unfold P3.ccross
      rw [mb _ _ _ _ hn.2.1 ht.2.2 hn.2.2 ht.2.1, mb _ _ _ _ hn.2.2 ht.1 hn.1 ht.2.2, mb _ _ _ _ hn.1 ht.2.1 hn.2.1 ht.1]
    have md : ∀ m : Int, 0 ≤ m % 4294967296 ∧ m % 4294967296 ≤ 4294967296 ∧ m = 4294967296 * (m / 4294967296) + m % 4294967296 := fun m => by omega
    have m1 := md (n.y * t.z - n.z * t.y)
    have m2 := md (n.z * t.x - n.x * t.z)
    have m3 := md (n.x * t.y - n.y * t.x)
    have T := third_bd n t u ⟨(n.y * t.z - n.z * t.y) % 4294967296, (n.z * t.x - n.x * t.z) % 4294967296, (n.x * t.y - n.y * t.x) % 4294967296⟩ hn ht hN hT hd ⟨⟨m1.1, m1.2.1⟩, ⟨m2.1, m2.2.1⟩, ⟨m3.1, m3.2.1⟩⟩
      (by rw [eu]; exact m1.2.2) (by rw [eu]; exact m2.2.2) (by rw [eu]; exact m3.2.2)
    obtain ⟨b1, b2, b3⟩ := T
    have cd : ∀ m : Int, -18446744142429028352 ≤ m → m ≤ 18446744142429028352 → cl (m / 4294967296) = m / 4294967296 := fun m h1 h2 => cl_id (by unfold I64; omega)
    have D1 := vDot_any n t ni ti
    have D2 := vDot_any n u ni ui
    have D3 := vDot_any t u ti ui
    have D4 := vDot_any t t ti ti
    have D5 := vDot_any u u ui ui
    rw [cd _ (by omega) (by omega)] at D1 D2 D3 D4 D5
    clear eu hu m1 m2 m3 md mb cd hn ht ni ti ui
    exact across_core v n t u _ _ _ _ _ _ _ (Lib.hid U1) (Lib.hid F1) (Lib.hid D1) (Lib.hid D2) (Lib.hid D3) (Lib.hid D4) (Lib.hid D5) (wr_sub (by omega)) (wr_sub (by omega)) (Lib.hid (small_any _ (by omega) (by omega))) (Lib.hid (small_any _ (by omega) (by omega))) (Lib.hid (small_any _ (by omega) (by omega))) (Lib.hid (small_any _ (by omega) (by omega))) (Lib.hid (small_any _ (by omega) (by omega))) w
end Go.Proofs.Ytboiepagonlnkaa
