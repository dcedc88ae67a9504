/-
  Package ninepinref06: may, Check (contracts).
-/
import Derived.Test.YthnpmmpcejfllaaBh
set_option linter.unusedSimpArgs false
set_option linter.unusedVariables false
set_option maxRecDepth 100000
namespace Go.Proofs.Ythnpmmpcejfllaa
open Go Go.RowKit

set_option maxHeartbeats 1000000 in
theorem rmay_any (n : Int) (w : World) : Calls Try.prog 52 #[.int .i64 n] w (Ret (.bool (decide (may n))) w) := by
  by_cases h1 : -268435456 ≤ n
  · by_cases h2 : n ≤ 268435456
    · rw [decide_eq_true (show may n from ⟨h1, h2⟩)]
      go_enter Try.func52, Try.ntmps52
      have hp := Hp.start [] w
      go_wp2_with (first
          | ((with_reducible apply sx_strip); exact rfl)
          | ((with_reducible apply sx_unwanted); exact rfl; simp only [zp, zq, z0, z1]))
      exact bodyPost_ret (results_one rfl rfl) rfl ⟨rfl, hp.keep⟩
    · rw [decide_eq_false (show ¬ may n from fun h => h2 h.2)]
      go_enter Try.func52, Try.ntmps52
      have hp := Hp.start [] w
      go_wp2_with (first
          | ((with_reducible apply sx_strip); exact rfl)
          | ((with_reducible apply sx_unwanted); exact rfl; simp only [zp, zq, z0, z1]))
      exact bodyPost_ret (results_one rfl rfl) rfl ⟨rfl, hp.keep⟩
  · rw [decide_eq_false (show ¬ may n from fun h => h1 h.1)]
    go_enter Try.func52, Try.ntmps52
    have hp := Hp.start [] w
    go_wp2_with (first
          | ((with_reducible apply sx_strip); exact rfl)
          | ((with_reducible apply sx_unwanted); exact rfl; simp only [zp, zq, z0, z1]))
    exact bodyPost_ret (results_one rfl rfl) rfl ⟨rfl, hp.keep⟩
set_option maxHeartbeats 4000000 in
theorem rcheck_gen (x y z r : Int) (H0 : Hid (may x ∧ may y ∧ may z → r = 0)) (H7 : Hid (¬ (may x ∧ may y ∧ may z) → r = 7)) (w : World) : Calls Try.prog 34 #[PV ⟨x, y, z⟩] w (Ret (.int .i64 r) w) := by
  have hx := rmay_any x
  have hy := rmay_any y
  have hz := rmay_any z
  by_cases h1 : may x
  · rw [decide_eq_true h1] at hx
    by_cases h2 : may y
    · rw [decide_eq_true h2] at hy
      by_cases h3 : may z
      · rw [decide_eq_true h3] at hz
        obtain rfl := H0.out ⟨h1, h2, h3⟩
        have X := Lib.hid hx
        have Y := Lib.hid hy
        have Z := Lib.hid hz
        clear H0 H7 hx hy hz h1 h2 h3
        go_enter Try.func34, Try.ntmps34
        have hp := Hp.start [] w
        go_wp2_with (first
          | ((with_reducible apply sx_box hp); exact za rfl; exact rfl; clear hp; (try clear w1); intro g w1 hp; simp only [zp, zq, z0, z1])
          | ((with_reducible apply sx_load_one hp); exact zt rfl; infer_instance; infer_instance; (first | exact zio rfl | exact LB_get (by omega)); simp only [zp, zq, z0, z1])
          | ((with_reducible first | refine sx_call hp (X.out _) ?_ | refine sx_call hp (Y.out _) ?_ | refine sx_call hp (Z.out _) ?_); clear hp; (try clear w1); intro w1 hp)
          | ((with_reducible apply sx_strip); exact rfl)
          | ((with_reducible apply sx_unwanted); exact rfl; simp only [zp, zq, z0, z1]))
        exact bodyPost_ret (results_one rfl rfl) rfl ⟨rfl, hp.keep⟩
      · rw [decide_eq_false h3] at hz
        obtain rfl := H7.out fun h => h3 h.2.2
        have X := Lib.hid hx
        have Y := Lib.hid hy
        have Z := Lib.hid hz
        clear H0 H7 hx hy hz h1 h2 h3
        go_enter Try.func34, Try.ntmps34
        have hp := Hp.start [] w
        go_wp2_with (first
          | ((with_reducible apply sx_box hp); exact za rfl; exact rfl; clear hp; (try clear w1); intro g w1 hp; simp only [zp, zq, z0, z1])
          | ((with_reducible apply sx_load_one hp); exact zt rfl; infer_instance; infer_instance; (first | exact zio rfl | exact LB_get (by omega)); simp only [zp, zq, z0, z1])
          | ((with_reducible first | refine sx_call hp (X.out _) ?_ | refine sx_call hp (Y.out _) ?_ | refine sx_call hp (Z.out _) ?_); clear hp; (try clear w1); intro w1 hp)
          | ((with_reducible apply sx_strip); exact rfl)
          | ((with_reducible apply sx_unwanted); exact rfl; simp only [zp, zq, z0, z1]))
        exact bodyPost_ret (results_one rfl rfl) rfl ⟨rfl, hp.keep⟩
    · rw [decide_eq_false h2] at hy
      obtain rfl := H7.out fun h => h2 h.2.1
      have X := Lib.hid hx
      have Y := Lib.hid hy
      clear H0 H7 hx hy hz h1 h2
      go_enter Try.func34, Try.ntmps34
      have hp := Hp.start [] w
      go_wp2_with (first
          | ((with_reducible apply sx_box hp); exact za rfl; exact rfl; clear hp; (try clear w1); intro g w1 hp; simp only [zp, zq, z0, z1])
          | ((with_reducible apply sx_load_one hp); exact zt rfl; infer_instance; infer_instance; (first | exact zio rfl | exact LB_get (by omega)); simp only [zp, zq, z0, z1])
          | ((with_reducible first | refine sx_call hp (X.out _) ?_ | refine sx_call hp (Y.out _) ?_); clear hp; (try clear w1); intro w1 hp)
          | ((with_reducible apply sx_strip); exact rfl)
          | ((with_reducible apply sx_unwanted); exact rfl; simp only [zp, zq, z0, z1]))
      exact bodyPost_ret (results_one rfl rfl) rfl ⟨rfl, hp.keep⟩
  · rw [decide_eq_false h1] at hx
    obtain rfl := H7.out fun h => h1 h.1
    have X := Lib.hid hx
    clear H0 H7 hx hy hz h1
    go_enter Try.func34, Try.ntmps34
    have hp := Hp.start [] w
    go_wp2_with (first
          | ((with_reducible apply sx_box hp); exact za rfl; exact rfl; clear hp; (try clear w1); intro g w1 hp; simp only [zp, zq, z0, z1])
          | ((with_reducible apply sx_load_one hp); exact zt rfl; infer_instance; infer_instance; (first | exact zio rfl | exact LB_get (by omega)); simp only [zp, zq, z0, z1])
          | ((with_reducible refine sx_call hp (X.out _) ?_); clear hp; (try clear w1); intro w1 hp)
          | ((with_reducible apply sx_strip); exact rfl)
          | ((with_reducible apply sx_unwanted); exact rfl; simp only [zp, zq, z0, z1]))
    exact bodyPost_ret (results_one rfl rfl) rfl ⟨rfl, hp.keep⟩
theorem rcheck_any (p : P3) (w : World) : Calls Try.prog 34 #[PV p] w (Ret (.int .i64 (if p.may then 0 else 7)) w) :=
  rcheck_gen p.x p.y p.z _ (Lib.hid fun h => if_pos h) (Lib.hid fun h => if_neg h) w
end Go.Proofs.Ythnpmmpcejfllaa
