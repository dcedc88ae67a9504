/-
  ninepinlaw03: awake (contract).
-/
import Derived.Test.YtnipjafcgicddaaVk
set_option linter.unusedSimpArgs false
set_option linter.unusedVariables false
set_option maxRecDepth 100000
namespace Go.Proofs.Ytnipjafcgicddaa
open Go Go.RowKit
attribute [local irreducible] wpList

theorem rt_zero : rt 0 = 0 := rt_uniq (by omega) (by omega) (by omega)
theorem unit_seven : unitV ⟨0, -7, 0⟩ = .tuple #[.agg #[.int .i64 0, .int .i64 (-4294967296), .int .i64 0], .bool true] := by
  have e0 : ratio 0 49 = 0 := by
    unfold ratio
    rw [if_pos (by omega), show (0 : Int) * 0 * 18446744073709551616 / 49 = 0 by decide, rt_zero]
    decide
  have e1 : ratio (-7) 49 = -4294967296 := by
    have h : rt 18446744073709551616 = 4294967296 := rt_uniq (by omega) (by omega) (by omega)
    unfold ratio
    rw [if_neg (by omega), show (-7 : Int) * -7 * 18446744073709551616 / 49 = 18446744073709551616 by decide, h, if_pos (by decide)]
    decide
  have ed : P3.dot ⟨0, -7, 0⟩ ⟨0, -7, 0⟩ = 49 := by decide
  unfold unitV P3.cunit
  rw [if_neg (by decide)]
  rw [ed]
  dsimp only
  rw [e0, e1]
theorem unit_none : unitV ⟨0, 0, 0⟩ = .tuple #[.agg #[.int .i64 0, .int .i64 0, .int .i64 0], .bool false] := by
  unfold unitV
  rw [if_pos (by decide)]
theorem len_five : lenv ⟨12884901888, 17179869184, 0⟩ false = 21474836480 := by
  have ed : P3.dot ⟨12884901888, 17179869184, 0⟩ ⟨12884901888, 17179869184, 0⟩ = 461168601842738790400 := by decide
  have h : rt 461168601842738790400 = 21474836480 := rt_uniq (by omega) (by omega) (by omega)
  unfold lenv
  rw [if_neg (by decide), ed, h]
  decide
theorem p3i {x y z : Int} (h : -9223372036854775808 ≤ x ∧ x < 9223372036854775808 ∧ -9223372036854775808 ≤ y ∧ y < 9223372036854775808 ∧ -9223372036854775808 ≤ z ∧ z < 9223372036854775808) : P3.i64 ⟨x, y, z⟩ := by
  unfold P3.i64 I64
  dsimp only
  omega
set_option maxHeartbeats 8000000 in
theorem awake3 (w : World) : Calls Try.prog 17 #[] w (Ret (.bool true) w) := by
  have U1 : Hid (∀ w, Calls Try.prog 20 #[.agg #[.int .i64 0, .int .i64 (-7), .int .i64 0]] w (Ret (.tuple #[.agg #[.int .i64 0, .int .i64 (-4294967296), .int .i64 0], .bool true]) w)) := Lib.hid fun w => by
    have := vunit_any ⟨0, -7, 0⟩ (p3i (by omega)) w
    rwa [unit_seven] at this
  have U2 : Hid (∀ w, Calls Try.prog 20 #[.agg #[.int .i64 0, .int .i64 0, .int .i64 0]] w (Ret (.tuple #[.agg #[.int .i64 0, .int .i64 0, .int .i64 0], .bool false]) w)) := Lib.hid fun w => by
    have := vunit_any ⟨0, 0, 0⟩ (p3i (by omega)) w
    rwa [unit_none] at this
  have D1 : Hid (∀ w, Calls Try.prog 15 #[.agg #[.int .i64 1, .int .i64 0, .int .i64 0], .agg #[.int .i64 (-1), .int .i64 0, .int .i64 0]] w (Ret (.int .i64 (-1)) w)) := Lib.hid fun w => by
    have := vDot_any ⟨1, 0, 0⟩ ⟨-1, 0, 0⟩ (p3i (by omega)) (p3i (by omega)) w
    rwa [show cl (P3.dot ⟨1, 0, 0⟩ ⟨-1, 0, 0⟩ / 4294967296) = -1 by decide] at this
  have C1 : Hid (∀ w, Calls Try.prog 18 #[.agg #[.int .i64 4294967296, .int .i64 0, .int .i64 0], .agg #[.int .i64 0, .int .i64 4294967296, .int .i64 0]] w (Ret (.agg #[.int .i64 0, .int .i64 0, .int .i64 4294967296]) w)) := Lib.hid fun w => by
    have := vcross_any ⟨4294967296, 0, 0⟩ ⟨0, 4294967296, 0⟩ (p3i (by omega)) (p3i (by omega)) w
    rwa [show P3.ccross ⟨4294967296, 0, 0⟩ ⟨0, 4294967296, 0⟩ = ⟨0, 0, 4294967296⟩ by decide] at this
  have L1 : Hid (∀ w, Calls Try.prog 30 #[.agg #[.int .i64 12884901888, .int .i64 17179869184, .int .i64 0]] w (Ret (.int .i64 21474836480) w)) := Lib.hid fun w => by
    have := vlen_any ⟨12884901888, 17179869184, 0⟩ (p3i (by omega)) w
    rwa [len_five] at this
  have N1 : Hid (∀ w, Calls Try.prog 33 #[.agg #[.int .i64 0, .int .i64 (-4294967296), .int .i64 0], .agg #[.int .i64 0, .int .i64 (-4294967296), .int .i64 0], .int .i64 0] w (Ret (.bool true) w)) := Lib.hid fun w => by
    have := vnear_any ⟨0, -4294967296, 0⟩ ⟨0, -4294967296, 0⟩ 0 (p3i (by omega)) (p3i (by omega)) (by unfold I64; omega) w
    rwa [show nearv ⟨0, -4294967296, 0⟩ ⟨0, -4294967296, 0⟩ 0 = true by decide] at this
  have N2 : Hid (∀ w, Calls Try.prog 33 #[.agg #[.int .i64 0, .int .i64 (-4294967296), .int .i64 0], .agg #[.int .i64 0, .int .i64 (-4294967296), .int .i64 0], .int .i64 (-1)] w (Ret (.bool false) w)) := Lib.hid fun w => by
    have := vnear_any ⟨0, -4294967296, 0⟩ ⟨0, -4294967296, 0⟩ (-1) (p3i (by omega)) (p3i (by omega)) (by unfold I64; omega) w
    rwa [show nearv ⟨0, -4294967296, 0⟩ ⟨0, -4294967296, 0⟩ (-1) = false by decide] at this
  go_enter Try.func17, Try.ntmps17
  have hp := Hp.start [] w
  go_wp2_with (first
          | ((with_reducible apply sx_guard); (conv => whnf); refine Bx.mk ?_; (try simp only [zp, zq, z0, z1]))
          | ((with_reducible apply sx_alloc hp); infer_instance; exact rfl; clear hp; (try clear w1); intro g w1 hp; simp only [zp, zq, z0, z1])
          | ((with_reducible apply sx_load_agg hp); exact zt rfl; infer_instance; infer_instance; (first | exact zl rfl | exact LB_le (by omega)); (first | (with_reducible exact LB_set (by omega)) | (simp only [n0, Nat.reduceAdd, n1, n2, n3, n4, n5, n6, n7, n8, n9]; try rfl)); simp only [zp, zq, z0, z1])
          | ((with_reducible apply sx_store hp); exact zt rfl; exact za rfl; exact rfl; (first | exact AggTy.size | exact OneTy.size); exact rfl; infer_instance; (first | (with_reducible exact LB_set (by omega)) | (simp only [n0, Nat.reduceAdd, n1, n2, n3, n4, n5, n6, n7, n8, n9]; try rfl)); (first | exact zl rfl | exact LB_le (by omega)); exact rfl; infer_instance; clear hp; (try clear w1); intro w1 hp)
          | ((with_reducible first | refine sx_call hp (U1.out _) ?_ | refine sx_call hp (U2.out _) ?_ | refine sx_call hp (D1.out _) ?_ | refine sx_call hp (C1.out _) ?_ | refine sx_call hp (L1.out _) ?_ | refine sx_call hp (N1.out _) ?_ | refine sx_call hp (N2.out _) ?_); clear hp; (try clear w1); intro w1 hp))
  exact bodyPost_ret (results_one rfl rfl) rfl ⟨rfl, hp.keep⟩
end Go.Proofs.Ytnipjafcgicddaa
