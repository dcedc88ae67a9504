/-
  Package ninepinref01: Div, whole (contract).
-/
import Derived.Test.YtbdkbmhejoakiaaDoorCc
set_option linter.unusedSimpArgs false
set_option linter.unusedVariables false
set_option maxRecDepth 100000
namespace Go.Proofs.YtbdkbmhejoakiaaDoor
open Go Go.RowKit
attribute [local irreducible] wpList

theorem fq_signs {a b : Int} (hb : b ≠ 0) :
    ((decide (a < 0) == decide (b < 0)) = true → fq a b = ab a / ab b ∧ (if decide (b < 0) = true then -fr a b else fr a b) = ab a % ab b) ∧
    ((decide (a < 0) == decide (b < 0)) = false → ab a % ab b = 0 → fq a b = -(ab a / ab b) ∧ (if decide (b < 0) = true then -fr a b else fr a b) = ab a % ab b) ∧
    ((decide (a < 0) == decide (b < 0)) = false → ab a % ab b ≠ 0 → fq a b = -(ab a / ab b + 1) ∧ (if decide (b < 0) = true then -fr a b else fr a b) = ab b + -(ab a % ab b)) := by
  have hB : 0 < ab b := by unfold ab; split <;> omega
  have h1 := Int.mul_ediv_add_emod (ab a) (ab b)
  have h2 := Int.emod_nonneg (ab a) (show ab b ≠ 0 by omega)
  have h3 := Int.emod_lt_of_pos (ab a) hB
  generalize ab a / ab b = Q at *
  generalize ab a % ab b = R at *
  unfold ab at h1 hB h3 ⊢
  by_cases ha0 : a < 0 <;> by_cases hb0 : b < 0
  · simp only [ha0, hb0, if_true, decide_true, beq_self_eq_true, true_implies] at h1 hB h3 ⊢
    obtain ⟨e1, e2⟩ := fq_is (a := a) (b := b) (q := Q) (r := -R) (by grind) (.inr ⟨hb0, by omega, by omega⟩)
    rw [e1, e2]
    refine ⟨⟨rfl, by omega⟩, fun h => by simp at h, fun h => by simp at h⟩
  · simp only [ha0, hb0, if_true, if_false, decide_true, decide_false] at h1 hB h3 ⊢
    refine ⟨fun h => by simp at h, fun _ hz => ?_, fun _ hz => ?_⟩
    · obtain ⟨e1, e2⟩ := fq_is (a := a) (b := b) (q := -Q) (r := 0) (by subst hz; grind) (.inl ⟨by omega, by omega, by omega⟩)
      rw [e1, e2]
      exact ⟨rfl, by simp; omega⟩
    · obtain ⟨e1, e2⟩ := fq_is (a := a) (b := b) (q := -(Q + 1)) (r := b + -R) (by grind) (.inl ⟨by omega, by omega, by omega⟩)
      rw [e1, e2]
      exact ⟨rfl, by simp⟩
  · simp only [ha0, hb0, if_true, if_false, decide_true, decide_false] at h1 hB h3 ⊢
    refine ⟨fun h => by simp at h, fun _ hz => ?_, fun _ hz => ?_⟩
    · obtain ⟨e1, e2⟩ := fq_is (a := a) (b := b) (q := -Q) (r := 0) (by subst hz; grind) (.inr ⟨by omega, by omega, by omega⟩)
      rw [e1, e2]
      exact ⟨rfl, by omega⟩
    · obtain ⟨e1, e2⟩ := fq_is (a := a) (b := b) (q := -(Q + 1)) (r := R + b) (by grind) (.inr ⟨by omega, by omega, by omega⟩)
      rw [e1, e2]
      exact ⟨rfl, by omega⟩
  · simp only [ha0, hb0, if_true, if_false, decide_false, beq_self_eq_true, true_implies] at h1 hB h3 ⊢
    obtain ⟨e1, e2⟩ := fq_is (a := a) (b := b) (q := Q) (r := R) (by grind) (.inl ⟨by omega, by omega, by omega⟩)
    rw [e1, e2]
    refine ⟨⟨rfl, by simp⟩, fun h => by simp at h, fun h => by simp at h⟩
theorem fr_fit {a b : Int} (hb : Fit b) (hb0 : b ≠ 0) : Fit (fr a b) := by
  have key : (0 < b ∧ 0 ≤ fr a b ∧ fr a b < b) ∨ (b < 0 ∧ fr a b ≤ 0 ∧ b < fr a b) := by
    unfold fr fq
    by_cases h : b < 0
    · right
      rw [if_pos h]
      have h1 := Int.mul_ediv_add_emod (-a) (-b)
      have h2 := Int.emod_nonneg (-a) (show -b ≠ 0 by omega)
      have h3 := Int.emod_lt_of_pos (-a) (show 0 < -b by omega)
      rw [Int.neg_mul, Int.mul_comm] at h1
      omega
    · left
      rw [if_neg h]
      have h1 := Int.mul_ediv_add_emod a b
      have h2 := Int.emod_nonneg a hb0
      have h3 := Int.emod_lt_of_pos a (show 0 < b by omega)
      rw [Int.mul_comm] at h1
      omega
  unfold Fit M511 at *
  omega
theorem ab_div_le (a b : Int) : 0 ≤ ab a / ab b ∧ ab a / ab b ≤ ab a := by
  have h0 : 0 ≤ ab a := by unfold ab; split <;> omega
  have h1 : 0 ≤ ab b := by unfold ab; split <;> omega
  exact ⟨Int.ediv_nonneg h0 h1, Int.ediv_le_self _ h0⟩
theorem fq_room {a b : Int} (ha : Fit a) (hb0 : b ≠ 0) : -(M511 * 256) ≤ fq a b ∧ fq a b < M511 * 256 := by
  obtain ⟨h1, h2, h3⟩ := fq_signs (a := a) hb0
  have h4 := ab_div_le a b
  have h5 := ab_bd ha
  generalize ab a / ab b = Q at *
  have key : fq a b = Q ∨ fq a b = -Q ∨ fq a b = -(Q + 1) := by
    cases hs : (decide (a < 0) == decide (b < 0)) with
    | true => exact .inl (h1 hs).1
    | false =>
      by_cases hz : ab a % ab b = 0
      · exact .inr (.inl (h2 hs hz).1)
      · exact .inr (.inr (h3 hs hz).1)
  unfold M511 at *
  omega
end Go.Proofs.YtbdkbmhejoakiaaDoor
