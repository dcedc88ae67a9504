/-
  Package ninepinref01: Below, Small, Sign, Add, Sub, top, size (contracts).
-/
import Derived.Test.YthnpmmpcejfllaaBc
import Derived.Test.YthnpmmpcejfllaaMc
set_option linter.unusedSimpArgs false
set_option linter.unusedVariables false
set_option maxRecDepth 100000
namespace Go.Proofs.Ythnpmmpcejfllaa
open Go Go.RowKit

theorem lb7_neg {n : Int} (h : Fit n) (hn : n < 0) : 9223372036854775808 ≤ lb n 7 := by
  have := ng_fit h
  unfold ng at this
  rw [decide_eq_true hn] at this
  exact of_decide_eq_true this
theorem lb7_pos {n : Int} (h : Fit n) (hn : ¬ n < 0) : ¬ 9223372036854775808 ≤ lb n 7 := by
  have := ng_fit h
  unfold ng at this
  rw [decide_eq_false hn] at this
  exact of_decide_eq_false this
set_option maxHeartbeats 4000000 in
theorem rbelow_any (n : Int) (hn : Fit n) (w : World) : Calls Try.prog 57 #[W n] w (Ret (.bool (decide (n < 0))) w) := by
  by_cases h : n < 0
  · rw [decide_eq_true h]
    have h7 := lb7_neg hn h
    clear hn h
    go_enter Try.func57, Try.ntmps57
    have hp := Hp.start [] w
    go_wp2_with (first
          | ((with_reducible apply sx_box hp); exact za rfl; exact rfl; clear hp; (try clear w1); intro g w1 hp; simp only [zp, zq, z0, z1])
          | ((with_reducible apply sx_load_one hp); exact zt rfl; infer_instance; infer_instance; (first | exact zio rfl | exact LB_get (by omega)); simp only [zp, zq, z0, z1]))
    exact bodyPost_ret (results_one rfl rfl) rfl ⟨rfl, hp.keep⟩
  · rw [decide_eq_false h]
    have h7 := lb7_pos hn h
    clear hn h
    go_enter Try.func57, Try.ntmps57
    have hp := Hp.start [] w
    go_wp2_with (first
          | ((with_reducible apply sx_box hp); exact za rfl; exact rfl; clear hp; (try clear w1); intro g w1 hp; simp only [zp, zq, z0, z1])
          | ((with_reducible apply sx_load_one hp); exact zt rfl; infer_instance; infer_instance; (first | exact zio rfl | exact LB_get (by omega)); simp only [zp, zq, z0, z1]))
    exact bodyPost_ret (results_one rfl rfl) rfl ⟨rfl, hp.keep⟩
set_option maxHeartbeats 4000000 in
theorem rsign_any (n : Int) (hn : Fit n) (w : World) : Calls Try.prog 36 #[W n] w (Ret (.int .i64 (sgn n)) w) := by
  have hb := fun w => rbelow_any n hn w
  by_cases h : n < 0
  · rw [decide_eq_true h] at hb
    unfold sgn
    rw [if_pos h]
    have HB := Lib.hid hb
    clear hb h hn
    go_enter Try.func36, Try.ntmps36
    have hp := Hp.start [] w
    go_wp2_with (first
          | ((with_reducible apply sx_box hp); exact za rfl; exact rfl; clear hp; (try clear w1); intro g w1 hp; simp only [zp, zq, z0, z1])
          | ((with_reducible apply sx_load_agg hp); exact zt rfl; infer_instance; infer_instance; (first | exact zl rfl | exact LB_le (by omega)); (first | (with_reducible exact LB_set (by omega)) | (simp only [n0, Nat.reduceAdd, n1, n2, n3, n4, n5, n6, n7, n8, n9]; try rfl)); simp only [zp, zq, z0, z1])
          | ((with_reducible apply sx_load_one hp); exact zt rfl; infer_instance; infer_instance; (first | exact zio rfl | exact LB_get (by omega)); simp only [zp, zq, z0, z1])
          | ((with_reducible refine sx_call hp (HB.out _) ?_); clear hp; (try clear w1); intro w1 hp))
    exact bodyPost_ret (results_one rfl rfl) rfl ⟨rfl, hp.keep⟩
  · rw [decide_eq_false h] at hb
    have HB := Lib.hid hb
    obtain ⟨s, hs⟩ : ∃ s, s = sgn n := ⟨_, rfl⟩
    have HP : Hid (n ≠ 0 → s = 1) := Lib.hid fun h0 => by rw [hs]; unfold sgn; rw [if_neg h, if_neg h0]
    have HZ : Hid (n = 0 → s = 0) := Lib.hid fun h0 => by rw [hs]; unfold sgn; rw [if_neg h, if_pos h0]
    rw [← hs]
    have HN := Lib.hid hn
    clear hb h hn hs
    go_enter Try.func36, Try.ntmps36
    have hp := Hp.start [] w
    go_wp2_with (first
          | ((with_reducible apply sx_box hp); exact za rfl; exact rfl; clear hp; (try clear w1); intro g w1 hp; simp only [zp, zq, z0, z1])
          | ((with_reducible apply sx_load_agg hp); exact zt rfl; infer_instance; infer_instance; (first | exact zl rfl | exact LB_le (by omega)); (first | (with_reducible exact LB_set (by omega)) | (simp only [n0, Nat.reduceAdd, n1, n2, n3, n4, n5, n6, n7, n8, n9]; try rfl)); simp only [zp, zq, z0, z1])
          | ((with_reducible apply sx_load_one hp); exact zt rfl; infer_instance; infer_instance; (first | exact zio rfl | exact LB_get (by omega)); simp only [zp, zq, z0, z1])
          | ((with_reducible refine sx_call hp (HB.out _) ?_); clear hp; (try clear w1); intro w1 hp))
    obtain ⟨g1, rfl⟩ : ∃ x : Nat, x = g := ⟨_, rfl⟩
    go_loopw [3] (fun i wr => ∃ k : Nat, k ≤ 8 ∧ i = .int .i64 k ∧ (∀ j, j < k → lb n j = 0) ∧ Hp [] w [⟨g1, 43, LB (lb n)⟩] wr) (fun i _ => 8 - (intOf i).toNat)
    case atStart => exact ⟨0, by omega, rfl, fun j _ => by omega, hp⟩
    case round =>
      clear hp
      obtain ⟨k, hk, rfl, hall, hp⟩ := hrel
      have HALL := Lib.hid hall
      clear hall
      by_cases hk1 : k < 8
      · have hk2 : (k : Int) < 8 := by omega
        obtain ⟨a, ha⟩ : ∃ a, a = lb n k := ⟨_, rfl⟩
        have HA := Lib.hid ha
        by_cases he : lb n k = 0
        · have hne : (lb n k != 0) = false := by simp [he]
          have HE := Lib.hid he
          clear he ha
          go_wp2_with (first
          | ((with_reducible apply sx_box hp); exact za rfl; exact rfl; clear hp; (try clear w1); intro g w1 hp; simp only [zp, zq, z0, z1])
          | ((with_reducible apply sx_load_agg hp); exact zt rfl; infer_instance; infer_instance; (first | exact zl rfl | exact LB_le (by omega)); (first | (with_reducible exact LB_set (by omega)) | (simp only [n0, Nat.reduceAdd, n1, n2, n3, n4, n5, n6, n7, n8, n9]; try rfl)); simp only [zp, zq, z0, z1])
          | ((with_reducible apply sx_load_one hp); exact zt rfl; infer_instance; infer_instance; (first | exact zio rfl | exact LB_get (by omega)); simp only [zp, zq, z0, z1]))
          go_roundw
          case rel =>
            refine ⟨k + 1, by omega, by go_num, fun j h1 => ?_, hp⟩
            by_cases hj : j = k
            · rw [hj]; exact HE.out
            · exact HALL.out j (by omega)
          case measure => simp [intOf]; omega
        · obtain rfl := HP.out fun h0 => he (by rw [h0, lb_zero])
          have hne : (lb n k != 0) = true := by simp [he]
          clear he ha
          go_wp2_with (first
          | ((with_reducible apply sx_box hp); exact za rfl; exact rfl; clear hp; (try clear w1); intro g w1 hp; simp only [zp, zq, z0, z1])
          | ((with_reducible apply sx_load_agg hp); exact zt rfl; infer_instance; infer_instance; (first | exact zl rfl | exact LB_le (by omega)); (first | (with_reducible exact LB_set (by omega)) | (simp only [n0, Nat.reduceAdd, n1, n2, n3, n4, n5, n6, n7, n8, n9]; try rfl)); simp only [zp, zq, z0, z1])
          | ((with_reducible apply sx_load_one hp); exact zt rfl; infer_instance; infer_instance; (first | exact zio rfl | exact LB_get (by omega)); simp only [zp, zq, z0, z1]))
          exact bodyPost_ret (results_one rfl rfl) rfl ⟨rfl, hp.keep⟩
      · obtain rfl : k = 8 := by omega
        obtain rfl := HZ.out (eq_of_lb HN.out fit_zero fun i hi => by rw [HALL.out i hi, lb_zero])
        go_wp2_with (first
          | ((with_reducible apply sx_box hp); exact za rfl; exact rfl; clear hp; (try clear w1); intro g w1 hp; simp only [zp, zq, z0, z1])
          | ((with_reducible apply sx_load_agg hp); exact zt rfl; infer_instance; infer_instance; (first | exact zl rfl | exact LB_le (by omega)); (first | (with_reducible exact LB_set (by omega)) | (simp only [n0, Nat.reduceAdd, n1, n2, n3, n4, n5, n6, n7, n8, n9]; try rfl)); simp only [zp, zq, z0, z1])
          | ((with_reducible apply sx_load_one hp); exact zt rfl; infer_instance; infer_instance; (first | exact zio rfl | exact LB_get (by omega)); simp only [zp, zq, z0, z1]))
        exact bodyPost_ret (results_one rfl rfl) rfl ⟨rfl, hp.keep⟩
end Go.Proofs.Ythnpmmpcejfllaa
