/-
  Package wide: Add, Sub, of numbers that fit.
-/
import Derived.Test.YtbdkbmhejoakiaaDoorWd
import Derived.Test.YtbdkbmhejoakiaaDoorMc
set_option linter.unusedSimpArgs false
namespace Go.Proofs.YtbdkbmhejoakiaaDoor
open Go Go.RowKit

theorem ng_more (n : Int) : ng (n + M512) = ng n := by
  unfold ng
  rw [lb_congr (a := n + M512) (b := n) ?_ 7 (by omega)]
  simp
theorem ng_less (n : Int) : ng (n - M512) = ng n := by
  rw [← ng_more (n - M512), Int.sub_add_cancel]
/-- The sign limb of what is just too great, or too small. -/
theorem ng_over {n : Int} (h : M511 ≤ n) (h' : n < M512) : ng n = true := by
  rw [← ng_less, ng_fit (by unfold Fit M511 at *; unfold M512 at *; omega)]
  simp; omega
theorem ng_under {n : Int} (h : n < -M511) (h' : -M512 ≤ n) : ng n = false := by
  rw [← ng_more, ng_fit (by unfold Fit M511 at *; unfold M512 at *; omega)]
  simp; omega
theorem addv_fit {s : Int} {x y : Bool} (hs : -M512 ≤ s ∧ s < M512) (h1 : x = true → y = true → s < 0) (h2 : x = false → y = false → 0 ≤ s) (h3 : M511 ≤ s → x = false ∧ y = false) (h4 : s < -M511 → x = true ∧ y = true) :
    addv s x y (ng s) = .tuple #[W (fz s), .bool (decide (Fit s))] := by
  have h0 : W (0 : Int) = .agg #[.int .u64 0, .int .u64 0, .int .u64 0, .int .u64 0, .int .u64 0, .int .u64 0, .int .u64 0, .int .u64 0] := W_zero
  by_cases hf : Fit s
  · rw [fz, if_pos hf, decide_eq_true hf, ng_fit hf]
    by_cases h : s < 0
    · rw [decide_eq_true h]
      cases x <;> cases y <;> simp [addv]
      have := h2 rfl rfl
      omega
    · rw [decide_eq_false h]
      cases x <;> cases y <;> simp [addv]
      have := h1 rfl rfl
      omega
  · rw [fz, if_neg hf, decide_eq_false hf, h0]
    by_cases h : s < 0
    · rw [ng_under (by unfold Fit M511 at *; omega) hs.1]
      obtain ⟨rfl, rfl⟩ := h4 (by unfold Fit M511 at *; omega)
      rfl
    · rw [ng_over (by unfold Fit M511 at *; omega) hs.2]
      obtain ⟨rfl, rfl⟩ := h3 (by unfold Fit M511 at *; omega)
      rfl
theorem add_any (a b : Int) (ha : Fit a) (hb : Fit b) (w : World) : Calls Tryd.prog 66 #[W a, W b] w (Ret (.tuple #[W (fz (a + b)), .bool (decide (Fit (a + b)))]) w) := by
  have h := add_raw a b w
  rw [ng_fit ha, ng_fit hb, addv_fit] at h
  · exact h
  all_goals unfold Fit M511 at *
  all_goals try unfold M512
  all_goals try simp
  all_goals omega
end Go.Proofs.YtbdkbmhejoakiaaDoor
