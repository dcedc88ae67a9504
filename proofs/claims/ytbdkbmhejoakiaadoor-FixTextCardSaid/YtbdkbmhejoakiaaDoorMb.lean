/-
  Package wide: a size with its sign (contracts).
-/
import Derived.Test.YtbdkbmhejoakiaaDoorMa
import Derived.Test.YtbdkbmhejoakiaaDoorHeb
set_option linter.unusedSimpArgs false
set_option maxRecDepth 100000
namespace Go.Proofs.YtbdkbmhejoakiaaDoor
open Go Go.RowKit

theorem emod_zero_of_limbs {a : Int} (h : eqb a 0 = true) : a % M512 = 0 := by
  have : ∀ j, j < 8 → lb a j = lb 0 j := by
    simp only [eqb, Bool.and_eq_true, beq_iff_eq] at h
    obtain ⟨h0, h1, h2, h3, h4, h5, h6, h7⟩ := h
    intro j hj
    match j, hj with
    | 0, _ => exact h0
    | 1, _ => exact h1
    | 2, _ => exact h2
    | 3, _ => exact h3
    | 4, _ => exact h4
    | 5, _ => exact h5
    | 6, _ => exact h6
    | 7, _ => exact h7
  have := eq_of_limbs a 0 this
  rw [this]
  rfl

set_option maxHeartbeats 1000000 in
/-- A size, given a sign: nothing is given up. -/
theorem signed_good (u : Int) (s : Bool) (h : ∀ v, v = (if s then -u else u) → eqb v 0 = true ∨ (eqb v 0 = false ∧ ng v = s)) (w : World) : Calls Tryd.prog 49 #[W u, .bool s] w (Ret (W (if s then -u else u)) w) := by
  cases s
  · rcases h u rfl with h | ⟨h, hn⟩ <;> rw [eqb_zero] at h
    all_goals
      go_enter Tryd.func49, Tryd.ntmps49
      have hp := Hp.start [] w
      go_wp2_with (first
          | ((with_reducible apply sx_box hp); exact za rfl; exact rfl; clear hp; (try clear w1); intro g w1 hp; simp only [zp, zq, z0, z1])
          | ((with_reducible apply sx_alloc hp); infer_instance; exact rfl; clear hp; (try clear w1); intro g w1 hp; simp only [zp, zq, z0, z1])
          | ((with_reducible apply sx_load_agg hp); exact zt rfl; infer_instance; infer_instance; (first | exact zl rfl | exact LB_le (by omega)); (first | (with_reducible exact LB_set (by omega)) | (simp only [n0, Nat.reduceAdd, n1, n2, n3, n4, n5, n6, n7, n8, n9]; try rfl)); simp only [zp, zq, z0, z1])
          | ((with_reducible apply sx_store hp); exact zt rfl; exact za rfl; exact rfl; (first | exact AggTy.size | exact OneTy.size); exact rfl; infer_instance; (first | (with_reducible exact LB_set (by omega)) | (simp only [n0, Nat.reduceAdd, n1, n2, n3, n4, n5, n6, n7, n8, n9]; try rfl)); (first | exact zl rfl | exact LB_le (by omega)); exact rfl; infer_instance; clear hp; (try clear w1); intro w1 hp)
          | ((with_reducible first | refine sx_call hp (negT _ (by assumption) _) ?_ | refine sx_call hp (negF _ (by assumption) _) ?_ | refine sx_call hp (minus_any _ _) ?_); clear hp; (try clear w1); intro w1 hp)
          | ((with_reducible apply sx_strip); exact rfl)
          | ((with_reducible apply sx_unwanted); exact rfl; simp only [zp, zq, z0, z1]))
      exact bodyPost_ret (results_one rfl ⟨_, rfl, run_load_agg hp (Nat.le_of_ble_eq_true rfl)⟩) rfl ⟨rfl, hp.keep⟩
  · rcases h (-u) rfl with h | ⟨h, hn⟩ <;> rw [eqb_zero] at h
    all_goals
      go_enter Tryd.func49, Tryd.ntmps49
      have hp := Hp.start [] w
      go_wp2_with (first
          | ((with_reducible apply sx_box hp); exact za rfl; exact rfl; clear hp; (try clear w1); intro g w1 hp; simp only [zp, zq, z0, z1])
          | ((with_reducible apply sx_alloc hp); infer_instance; exact rfl; clear hp; (try clear w1); intro g w1 hp; simp only [zp, zq, z0, z1])
          | ((with_reducible apply sx_load_agg hp); exact zt rfl; infer_instance; infer_instance; (first | exact zl rfl | exact LB_le (by omega)); (first | (with_reducible exact LB_set (by omega)) | (simp only [n0, Nat.reduceAdd, n1, n2, n3, n4, n5, n6, n7, n8, n9]; try rfl)); simp only [zp, zq, z0, z1])
          | ((with_reducible apply sx_store hp); exact zt rfl; exact za rfl; exact rfl; (first | exact AggTy.size | exact OneTy.size); exact rfl; infer_instance; (first | (with_reducible exact LB_set (by omega)) | (simp only [n0, Nat.reduceAdd, n1, n2, n3, n4, n5, n6, n7, n8, n9]; try rfl)); (first | exact zl rfl | exact LB_le (by omega)); exact rfl; infer_instance; clear hp; (try clear w1); intro w1 hp)
          | ((with_reducible first | refine sx_call hp (negT _ (by assumption) _) ?_ | refine sx_call hp (negF _ (by assumption) _) ?_ | refine sx_call hp (minus_any _ _) ?_); clear hp; (try clear w1); intro w1 hp)
          | ((with_reducible apply sx_strip); exact rfl)
          | ((with_reducible apply sx_unwanted); exact rfl; simp only [zp, zq, z0, z1]))
      exact bodyPost_ret (results_one rfl ⟨_, rfl, run_load_agg hp (Nat.le_of_ble_eq_true rfl)⟩) rfl ⟨rfl, hp.keep⟩
set_option maxHeartbeats 1000000 in
/-- A size, given a sign that it has no room for: it gives up. -/
theorem signed_bad (u : Int) (s : Bool) (h : ∀ v, v = (if s then -u else u) → eqb v 0 = false ∧ ng v = !s) (w : World) : Calls Tryd.prog 49 #[W u, .bool s] w (Dies (.iface 72 (.agg #[])) w) := by
  cases s
  · obtain ⟨h, hn⟩ := h u rfl
    rw [eqb_zero] at h
    rw [Bool.not_false] at hn
    go_enter Tryd.func49, Tryd.ntmps49
    have hp := Hp.start [] w
    go_wp2_with (first
          | ((with_reducible apply sx_box hp); exact za rfl; exact rfl; clear hp; (try clear w1); intro g w1 hp; simp only [zp, zq, z0, z1])
          | ((with_reducible apply sx_alloc hp); infer_instance; exact rfl; clear hp; (try clear w1); intro g w1 hp; simp only [zp, zq, z0, z1])
          | ((with_reducible apply sx_load_agg hp); exact zt rfl; infer_instance; infer_instance; (first | exact zl rfl | exact LB_le (by omega)); (first | (with_reducible exact LB_set (by omega)) | (simp only [n0, Nat.reduceAdd, n1, n2, n3, n4, n5, n6, n7, n8, n9]; try rfl)); simp only [zp, zq, z0, z1])
          | ((with_reducible apply sx_store hp); exact zt rfl; exact za rfl; exact rfl; (first | exact AggTy.size | exact OneTy.size); exact rfl; infer_instance; (first | (with_reducible exact LB_set (by omega)) | (simp only [n0, Nat.reduceAdd, n1, n2, n3, n4, n5, n6, n7, n8, n9]; try rfl)); (first | exact zl rfl | exact LB_le (by omega)); exact rfl; infer_instance; clear hp; (try clear w1); intro w1 hp)
          | ((with_reducible first | refine sx_call hp (negT _ (by assumption) _) ?_ | refine sx_call hp (negF _ (by assumption) _) ?_ | refine sx_call hp (minus_any _ _) ?_); clear hp; (try clear w1); intro w1 hp)
          | ((with_reducible apply sx_strip); exact rfl)
          | ((with_reducible apply sx_unwanted); exact rfl; simp only [zp, zq, z0, z1]))
    exact ⟨rfl, rfl, hp.keep⟩
  · obtain ⟨h, hn⟩ := h (-u) rfl
    rw [eqb_zero] at h
    rw [Bool.not_true] at hn
    go_enter Tryd.func49, Tryd.ntmps49
    have hp := Hp.start [] w
    go_wp2_with (first
          | ((with_reducible apply sx_box hp); exact za rfl; exact rfl; clear hp; (try clear w1); intro g w1 hp; simp only [zp, zq, z0, z1])
          | ((with_reducible apply sx_alloc hp); infer_instance; exact rfl; clear hp; (try clear w1); intro g w1 hp; simp only [zp, zq, z0, z1])
          | ((with_reducible apply sx_load_agg hp); exact zt rfl; infer_instance; infer_instance; (first | exact zl rfl | exact LB_le (by omega)); (first | (with_reducible exact LB_set (by omega)) | (simp only [n0, Nat.reduceAdd, n1, n2, n3, n4, n5, n6, n7, n8, n9]; try rfl)); simp only [zp, zq, z0, z1])
          | ((with_reducible apply sx_store hp); exact zt rfl; exact za rfl; exact rfl; (first | exact AggTy.size | exact OneTy.size); exact rfl; infer_instance; (first | (with_reducible exact LB_set (by omega)) | (simp only [n0, Nat.reduceAdd, n1, n2, n3, n4, n5, n6, n7, n8, n9]; try rfl)); (first | exact zl rfl | exact LB_le (by omega)); exact rfl; infer_instance; clear hp; (try clear w1); intro w1 hp)
          | ((with_reducible first | refine sx_call hp (negT _ (by assumption) _) ?_ | refine sx_call hp (negF _ (by assumption) _) ?_ | refine sx_call hp (minus_any _ _) ?_); clear hp; (try clear w1); intro w1 hp)
          | ((with_reducible apply sx_strip); exact rfl)
          | ((with_reducible apply sx_unwanted); exact rfl; simp only [zp, zq, z0, z1]))
    exact ⟨rfl, rfl, hp.keep⟩

/-- A number cut to 512 bits, if it fits; else 0. -/
def fz (n : Int) : Int := if Fit n then n else 0
theorem signed_fit (u : Int) (s : Bool) (h0 : 0 ≤ u) (hf : Fit (if s then -u else u)) (w : World) : Calls Tryd.prog 49 #[W u, .bool s] w (Ret (W (if s then -u else u)) w) := by
  refine signed_good u s (fun v hv => ?_) w
  rw [← hv] at hf
  by_cases hz : v = 0
  · subst hz
    left
    unfold eqb
    simp only [beq_self_eq_true, Bool.and_self]
  · right
    refine ⟨?_, ?_⟩
    · rw [eqb_fit hf fit_zero, decide_eq_false hz]
    · rw [ng_fit hf]
      cases s
      · simp only [Bool.false_eq_true, if_false] at hv
        simp; omega
      · simp only [if_true] at hv
        simp; omega
theorem signed_unfit (u : Int) (s : Bool) (h0 : 0 ≤ u) (h1 : u < M512) (hf : ¬ Fit (if s then -u else u)) (w : World) : Calls Tryd.prog 49 #[W u, .bool s] w (Dies (.iface 72 (.agg #[])) w) := by
  refine signed_bad u s (fun v hv => ?_) w
  rw [← hv] at hf
  have hM : v % M512 = if s then M512 - u else u := by
    unfold Fit M511 at hf
    unfold M512 at h1 ⊢
    cases s
    · simp only [Bool.false_eq_true, if_false] at hv ⊢
      omega
    · simp only [if_true] at hv ⊢
      omega
  refine ⟨?_, ?_⟩
  · cases h : eqb v 0
    · rfl
    · have := emod_zero_of_limbs h
      rw [hM] at this
      unfold Fit M511 at hf
      unfold M512 at h1 this
      cases s
      · simp only [Bool.false_eq_true, if_false] at hv this
        omega
      · simp only [if_true] at hv this
        omega
  · have e : ng v = ng (v % M512 - if s then 0 else M512) := by
      unfold ng
      rw [lb_congr (a := v) (b := v % M512 - if s then 0 else M512) ?_ 7 (by omega)]
      cases s <;> simp [M512] <;> omega
    rw [e, hM]
    unfold Fit M511 at hf
    unfold M512 at h1 ⊢
    cases s
    · simp only [Bool.false_eq_true, if_false] at hv ⊢
      rw [ng_fit (by unfold Fit M511; omega)]
      simp; omega
    · simp only [if_true] at hv ⊢
      rw [ng_fit (by unfold Fit M511; omega)]
      simp; omega
end Go.Proofs.YtbdkbmhejoakiaaDoor
