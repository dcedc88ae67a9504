/-
  What Prime hands back: plain.
-/
import Derived.Test.YtbhlnbllkoomfaaEb
set_option linter.unusedSimpArgs false
set_option linter.unusedVariables false
set_option maxRecDepth 100000
namespace Go.Proofs.Ytbhlnbllkoomfaa
open Go Go.RowKit

/-- The greatest common divisor of three. -/
def g3 (x y z : Int) : Nat := Nat.gcd (Nat.gcd x.natAbs y.natAbs) z.natAbs
theorem az_abs (n : Int) : az n = (n.natAbs : Int) := by unfold az; split <;> omega
theorem gacc_eq (x y z : Int) : gacc (nth x y z) [0, 1, 2] = if Fit (az x) ∧ (Fit (az y) ∧ Fit (az z)) then some (g3 x y z : Int) else none := by
  simp only [gacc, List.foldl_cons, List.foldl_nil, gstep, nth, Option.bind_some]
  by_cases h1 : Fit (az x)
  · by_cases h2 : Fit (az y)
    · by_cases h3 : Fit (az z)
      · simp only [h1, h2, h3, if_true, Option.bind_some, and_self]
        simp only [cg, az_abs, g3, m0, m1, Nat.gcd_zero_left]
      · simp [h1, h2, h3]
    · simp [h1, h2]
  · simp [h1]
theorem fq_exact (g X : Int) (hX : X ≠ 0) : fq (g * X) X = g ∧ fr (g * X) X = 0 :=
  fq_is (a := g * X) (b := X) (q := g) (r := 0) (by omega) (by omega)
theorem dv_exact (g X : Int) (hX : X ≠ 0) (hg : Fit g) : dvq (g * X) X = g ∧ dvr (g * X) X = 0 ∧ dvok (g * X) X := by
  obtain ⟨h1, h2⟩ := fq_exact g X hX
  have h3 : dvok (g * X) X := ⟨hX, by rw [h1]; exact hg⟩
  exact ⟨by unfold dvq; rw [if_pos h3, h1], by unfold dvr; rw [if_pos h3, h2], h3⟩
theorem fit_of_mul {g X : Int} (hg : 0 < g) (h : Fit (g * X)) : Fit X := by
  have h1 : X.natAbs ≤ (g * X).natAbs := by
    rw [Int.natAbs_mul]
    exact Nat.le_mul_of_pos_left _ (by omega)
  unfold Fit at *
  obtain ⟨h2, h3⟩ := h
  rcases Int.lt_or_le X 0 with hX | hX
  · have h4 : g * X < 0 := Int.mul_neg_of_pos_of_neg hg hX
    omega
  · have h4 : 0 ≤ g * X := Int.mul_nonneg (by omega) hX
    omega
theorem fit_az_of_mul {g X : Int} (hg : 0 < g) (h : Fit (az (g * X))) : Fit (az X) := by
  rw [az_abs, Int.natAbs_mul] at h
  rw [az_abs]
  have h1 : X.natAbs ≤ g.natAbs * X.natAbs := Nat.le_mul_of_pos_left _ (by omega)
  unfold Fit at *
  obtain ⟨h2, h3⟩ := h
  have h4 : ((g.natAbs * X.natAbs : Nat) : Int) < M511 := h3
  unfold M511 at *
  omega
theorem fq_mul (g X : Int) (hg : 0 < g) : fq (g * X) g = X ∧ fr (g * X) g = 0 :=
  fq_is (a := g * X) (b := g) (q := X) (r := 0) (by rw [Int.mul_comm]; omega) (by omega)
theorem dvq_mul (g X : Int) (hg : 0 < g) (hX : Fit X) : dvq (g * X) g = X := by
  have h1 := (fq_mul g X hg).1
  unfold dvq
  rw [if_pos ⟨by omega, by rw [h1]; exact hX⟩, h1]
theorem g3_dvd (x y z : Int) : ∃ X Y Z, x = (g3 x y z : Int) * X ∧ y = (g3 x y z : Int) * Y ∧ z = (g3 x y z : Int) * Z := by
  have h1 : g3 x y z ∣ x.natAbs := Nat.dvd_trans (Nat.gcd_dvd_left _ _) (Nat.gcd_dvd_left _ _)
  have h2 : g3 x y z ∣ y.natAbs := Nat.dvd_trans (Nat.gcd_dvd_left _ _) (Nat.gcd_dvd_right _ _)
  have h3 : g3 x y z ∣ z.natAbs := Nat.gcd_dvd_right _ _
  obtain ⟨X, hX⟩ := Int.ofNat_dvd_left.2 h1
  obtain ⟨Y, hY⟩ := Int.ofNat_dvd_left.2 h2
  obtain ⟨Z, hZ⟩ := Int.ofNat_dvd_left.2 h3
  exact ⟨X, Y, Z, hX, hY, hZ⟩
theorem g3_mul (g X Y Z : Int) : g3 (g * X) (g * Y) (g * Z) = g.natAbs * g3 X Y Z := by
  unfold g3
  rw [Int.natAbs_mul, Int.natAbs_mul, Int.natAbs_mul, Nat.gcd_mul_left, Nat.gcd_mul_left]
/-- Either there is none, or a primitive one of which it is a multiple. -/
theorem prv_cases (x y z : Int) (hx : Fit x) (hy : Fit y) (hz : Fit z) :
    prv x y z = .tuple #[Sv 0 0 0, .bool false] ∨
    ∃ g X Y Z : Int, 0 < g ∧ Fit g ∧ x = g * X ∧ y = g * Y ∧ z = g * Z ∧ Fit X ∧ Fit Y ∧ Fit Z ∧ prv x y z = .tuple #[Sv X Y Z, .bool true] ∧ prv X Y Z = .tuple #[Sv X Y Z, .bool true] ∧ (X ≠ 0 ∨ Y ≠ 0 ∨ Z ≠ 0) := by
  have he := gacc_eq x y z
  unfold prv
  rw [he]
  by_cases hf : Fit (az x) ∧ (Fit (az y) ∧ Fit (az z))
  · rw [if_pos hf]
    dsimp only
    by_cases h0 : (g3 x y z : Int) = 0
    · rw [if_pos h0]
      exact .inl rfl
    · rw [if_neg h0]
      right
      obtain ⟨X, Y, Z, e1, e2, e3⟩ := g3_dvd x y z
      have hgz : g3 x y z ≤ x.natAbs ∨ (x = 0 ∧ (g3 x y z ≤ y.natAbs ∨ (y = 0 ∧ g3 x y z ≤ z.natAbs))) := by
        by_cases hx0 : x = 0
        · right
          refine ⟨hx0, ?_⟩
          by_cases hy0 : y = 0
          · right
            exact ⟨hy0, by unfold g3; rw [hx0, hy0]; simp⟩
          · left
            exact Nat.le_trans (Nat.gcd_le_left _ (Nat.gcd_pos_of_pos_right _ (by omega))) (Nat.gcd_le_right _ (by omega))
        · left
          exact Nat.le_trans (Nat.gcd_le_left _ (Nat.gcd_pos_of_pos_left _ (by omega))) (Nat.gcd_le_left _ (by omega))
      have hgf : Fit (g3 x y z : Int) := by
        obtain ⟨f1, f2, f3⟩ := hf
        rw [az_abs] at f1 f2 f3
        unfold Fit M511 at *
        omega
      have hg : (0 : Int) < (g3 x y z : Int) := by omega
      have hm := g3_mul (g3 x y z : Int) X Y Z
      rw [← e1, ← e2, ← e3, Int.natAbs_natCast] at hm
      have h1 : g3 X Y Z = 1 := Nat.eq_of_mul_eq_mul_left (show 0 < g3 x y z by omega) (by omega)
      generalize (g3 x y z : Int) = g at *
      subst e1 e2 e3
      have fX := fit_of_mul hg hx
      have fY := fit_of_mul hg hy
      have fZ := fit_of_mul hg hz
      refine ⟨g, X, Y, Z, hg, hgf, rfl, rfl, rfl, fX, fY, fZ, ?_, ?_, ?_⟩
      · rw [dvq_mul g X hg fX, dvq_mul g Y hg fY, dvq_mul g Z hg fZ]
      · rw [gacc_eq, if_pos ⟨fit_az_of_mul hg hf.1, fit_az_of_mul hg hf.2.1, fit_az_of_mul hg hf.2.2⟩]
        dsimp only
        rw [h1, if_neg (by omega)]
        have one : ∀ X, Fit X → dvq X ((1 : Nat) : Int) = X := by
          intro X hX
          have := dvq_mul 1 X (by omega) hX
          rw [Int.one_mul] at this
          exact this
        rw [one X fX, one Y fY, one Z fZ]
      · by_cases hX : X = 0
        · by_cases hY : Y = 0
          · by_cases hZ : Z = 0
            · subst hX hY hZ
              simp [g3] at h1
            · exact .inr (.inr hZ)
          · exact .inr (.inl hY)
        · exact .inl hX
  · rw [if_neg hf]
    exact .inl rfl
end Go.Proofs.Ytbhlnbllkoomfaa
