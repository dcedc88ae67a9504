/-
  Package wide: Div (contract).
-/
import Derived.Test.YtbdkbmhejoakiaaDoorDe
set_option linter.unusedSimpArgs false
set_option linter.unusedVariables false
set_option maxRecDepth 100000
namespace Go.Proofs.YtbdkbmhejoakiaaDoor
open Go Go.RowKit

theorem sz_abs {a : Int} (h : Fit a) : sz a = if a < 0 then -a else a := by
  unfold sz
  rw [ng_fit h]
  by_cases ha : a < 0 <;> simp [ha]
theorem sgn_ne {b : Int} (h : b ≠ 0) : sgn b ≠ 0 := by
  unfold sgn
  split
  · omega
  · first | omega | (split <;> omega)
/-- wide.Div: the quotient, rounded down, and what is left; none by 0, none that does not fit. -/
theorem div_any (a b : Int) (ha : Fit a) (hb : Fit b) (w : World) : Calls Tryd.prog 85 #[W a, W b] w (Ret (.tuple #[W (dvq a b), W (dvr a b), .bool (decide (dvok a b))]) w) := by
  by_cases hb0 : b = 0
  · have hn : ¬ dvok a b := fun h => h.1 hb0
    unfold dvq dvr
    rw [if_neg hn, if_neg hn, decide_eq_false hn, hb0]
    exact div_none a w
  · have hA := sz_abs ha
    have hB := sz_abs hb
    have hA0 : 0 ≤ sz a ∧ sz a ≤ M511 := by rw [hA]; unfold Fit at ha; split <;> omega
    have hB0 : 0 < sz b ∧ sz b ≤ M511 := by rw [hB]; unfold Fit at hb; split <;> omega
    have hM : M511 + M511 = M512 := by unfold M511 M512; omega
    have hM0 : 0 < M511 := by unfold M511; omega
    have hx0 : 0 ≤ sz a / sz b := Int.ediv_nonneg hA0.1 (by omega)
    have hx1 : sz a / sz b ≤ sz a := Int.ediv_le_self _ hA0.1
    have hy0 := Int.emod_nonneg (sz a) (show sz b ≠ 0 by omega)
    have hy1 := Int.emod_lt_of_pos (sz a) hB0.1
    have HS := Lib.hid (sign_any b hb)
    have HA := Lib.hid (size_any a)
    have HB := Lib.hid (size_any b)
    have HP := Lib.hid (parts_any (sz a) (sz b) hA0.1 (by omega) hB0.1 (by omega))
    have HNA := Lib.hid (negative_any a)
    have HNB := Lib.hid (negative_any b)
    have hfy : Fit (sz a % sz b) := by unfold Fit; omega
    have hfr := fr_range (a := a) hb0
    have hfrf : Fit (fr a b) := by unfold Fit at hb ⊢; omega
    have HI : Hid (∀ w, Calls Tryd.prog 86 #[W (sz a / sz b), .agg #[.int .u64 0, .int .u64 0, .int .u64 0, .int .u64 0, .int .u64 0, .int .u64 0, .int .u64 0, .int .u64 0], .int .u64 1] w (Ret (W (sz a / sz b + 1)) w)) := Lib.hid fun w => by
      have := plus_any (sz a / sz b) 0 1 (by omega) (by omega) w
      rw [W_zero, Int.add_zero] at this
      exact this
    have HN := Lib.hid (not_any (sz a % sz b))
    have HJ : Hid (∀ w, Calls Tryd.prog 86 #[W (sz b), W (-(sz a % sz b) - 1), .int .u64 1] w (Ret (W (sz b - sz a % sz b)) w)) := Lib.hid fun w => by
      have := plus_any (sz b) (-(sz a % sz b) - 1) 1 (by omega) (by omega) w
      rw [show sz b + (-(sz a % sz b) - 1) + 1 = sz b - sz a % sz b by omega] at this
      exact this
    by_cases hs : decide (a < 0) = decide (b < 0)
    · obtain ⟨eq, er⟩ := div_like hb0 hs (sz a) (sz b) hA hB
      have hu : (ng a == ng b) = true := by rw [ng_fit ha, ng_fit hb, hs]; simp
      by_cases hf : Fit (fq a b)
      · have hn : dvok a b := ⟨hb0, hf⟩
        unfold dvq dvr
        rw [if_pos hn, if_pos hn, decide_eq_true hn]
        refine div_good a b (sz a) (sz b) _ _ (sz a / sz b) (sz a % sz b) _ _ _ _ w (sgn_ne hb0) HS HA HB HP HNA HNB HI HN HJ (Lib.hid fun w => ?_) (Lib.hid fun w => ?_) (.inl ⟨hu, rfl, rfl⟩)
        · rw [hu, eq]
          rw [eq] at hf
          exact signed_fit _ false hx0 hf w
        · have := signed_fit (sz a % sz b) (ng b) hy0 (by rw [ng_fit hb]; simp only [decide_eq_true_eq]; rw [← er]; exact hfrf) w
          rw [ng_fit hb] at this ⊢
          simp only [decide_eq_true_eq] at this
          rw [← er] at this
          exact this
      · have hn : ¬ dvok a b := fun h => hf h.2
        unfold dvq dvr
        rw [if_neg hn, if_neg hn, decide_eq_false hn]
        refine div_bad a b (sz a) (sz b) _ _ _ _ w (sgn_ne hb0) HS HA HB HP HNA HNB (Lib.hid fun w => ?_) hu
        rw [hu]
        rw [eq] at hf
        exact signed_unfit _ false hx0 (by omega) hf w
    · have hs' : decide (a < 0) = !decide (b < 0) := by
        cases h1 : decide (a < 0) <;> cases h2 : decide (b < 0) <;> simp [h1, h2] at hs ⊢
      obtain ⟨e0, e1⟩ := div_unlike hb0 hs' (sz a) (sz b) hA hB
      have hu : (ng a == ng b) = false := by rw [ng_fit ha, ng_fit hb]; simpa using hs
      have hz := eqb_fit hfy fit_zero
      by_cases hy : sz a % sz b = 0
      · obtain ⟨eq, er⟩ := e0 hy
        have hf : Fit (fq a b) := by rw [eq]; unfold Fit; omega
        have hn : dvok a b := ⟨hb0, hf⟩
        unfold dvq dvr
        rw [if_pos hn, if_pos hn, decide_eq_true hn]
        rw [decide_eq_true hy] at hz
        refine div_good a b (sz a) (sz b) _ _ (sz a / sz b) (sz a % sz b) _ _ _ _ w (sgn_ne hb0) HS HA HB HP HNA HNB HI HN HJ (Lib.hid fun w => ?_) (Lib.hid fun w => ?_) (.inr (.inl ⟨hu, hz, rfl, rfl⟩))
        · rw [hu, eq]
          rw [eq] at hf
          exact signed_fit _ true hx0 hf w
        · rw [er, hy]
          have := signed_fit 0 (ng b) (by omega) (by split <;> exact fit_zero) w
          have e : (if ng b = true then -(0 : Int) else 0) = 0 := by split <;> rfl
          rw [e] at this
          exact this
      · obtain ⟨eq, er⟩ := e1 hy
        have hx2 : sz a / sz b + 1 ≤ M511 := by
          by_cases h : sz a / sz b < M511
          · omega
          · exfalso
            replace h : M511 ≤ sz a / sz b := by omega
            have h1 := Int.mul_ediv_add_emod (sz a) (sz b)
            have h2 := Int.mul_le_mul (show (1 : Int) ≤ sz b by omega) h (by omega) (by omega)
            omega
        have hf : Fit (fq a b) := by rw [eq]; unfold Fit; omega
        have hn : dvok a b := ⟨hb0, hf⟩
        unfold dvq dvr
        rw [if_pos hn, if_pos hn, decide_eq_true hn]
        rw [decide_eq_false hy] at hz
        refine div_good a b (sz a) (sz b) _ _ (sz a / sz b + 1) (sz b - sz a % sz b) _ _ _ _ w (sgn_ne hb0) HS HA HB HP HNA HNB HI HN HJ (Lib.hid fun w => ?_) (Lib.hid fun w => ?_) (.inr (.inr ⟨hu, hz, rfl, rfl⟩))
        · rw [hu, eq]
          rw [eq] at hf
          exact signed_fit _ true (by omega) hf w
        · have := signed_fit (sz b - sz a % sz b) (ng b) (by omega) (by rw [ng_fit hb]; simp only [decide_eq_true_eq]; rw [← er]; exact hfrf) w
          rw [ng_fit hb] at this ⊢
          simp only [decide_eq_true_eq] at this
          rw [← er] at this
          exact this
end Go.Proofs.YtbdkbmhejoakiaaDoor
