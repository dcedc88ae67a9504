/-
  ninepinlaw06: awake (contract).
-/
import Derived.Test.YtbhlnbllkoomfaaEb
set_option linter.unusedSimpArgs false
set_option linter.unusedVariables false
set_option maxRecDepth 100000
namespace Go.Proofs.Ytbhlnbllkoomfaa
open Go Go.RowKit

theorem prv_awake : prv 4 (-6) 0 = .tuple #[.agg #[.int .u64 (lb (2) 0), .int .u64 (lb (2) 1), .int .u64 (lb (2) 2), .int .u64 (lb (2) 3), .int .u64 (lb (2) 4), .int .u64 (lb (2) 5), .int .u64 (lb (2) 6), .int .u64 (lb (2) 7), .int .u64 (lb (-3) 0), .int .u64 (lb (-3) 1), .int .u64 (lb (-3) 2), .int .u64 (lb (-3) 3), .int .u64 (lb (-3) 4), .int .u64 (lb (-3) 5), .int .u64 (lb (-3) 6), .int .u64 (lb (-3) 7), .int .u64 0, .int .u64 0, .int .u64 0, .int .u64 0, .int .u64 0, .int .u64 0, .int .u64 0, .int .u64 0], .bool true] := by
  have h : gacc (nth 4 (-6) 0) [0, 1, 2] = some 2 := by decide
  unfold prv
  rw [h]
  dsimp only
  rw [if_neg (by omega), show dvq 4 2 = 2 by decide, show dvq (-6) 2 = -3 by decide, show dvq 0 2 = 0 by decide]
  unfold Sv
  simp only [lb_zero]
set_option maxHeartbeats 8000000 in
theorem awake6 (w : World) : Calls Try.prog 16 #[] w (Ret (.bool true) w) := by
  have HR : Hid (∀ w, Calls Try.prog 38 #[.agg #[.int .i64 32768, .int .i64 32767, .int .i64 (-32768)]] w (Ret (.tuple #[.agg #[.int .i64 1, .int .i64 0, .int .i64 0], .int .i64 0]) w)) := Lib.hid (round_any 32768 32767 (-32768) (by unfold I64; omega) (by unfold I64; omega) (by unfold I64; omega))
  have HD : Hid (∀ w, Calls Try.prog 19 #[.agg #[.int .i64 2, .int .i64 0, .int .i64 0], .agg #[.int .i64 0, .int .i64 3, .int .i64 0], .agg #[.int .i64 0, .int .i64 0, .int .i64 4]] w (Ret (W 24) w)) := Lib.hid (det_any ⟨2, 0, 0⟩ ⟨0, 3, 0⟩ ⟨0, 0, 4⟩ (by unfold P3.i64 I64; dsimp only; omega) (by unfold P3.i64 I64; dsimp only; omega) (by unfold P3.i64 I64; dsimp only; omega))
  have HP : Hid (∀ w, Calls Try.prog 17 #[.agg #[.int .u64 (lb (4) 0), .int .u64 (lb (4) 1), .int .u64 (lb (4) 2), .int .u64 (lb (4) 3), .int .u64 (lb (4) 4), .int .u64 (lb (4) 5), .int .u64 (lb (4) 6), .int .u64 (lb (4) 7), .int .u64 (lb (-6) 0), .int .u64 (lb (-6) 1), .int .u64 (lb (-6) 2), .int .u64 (lb (-6) 3), .int .u64 (lb (-6) 4), .int .u64 (lb (-6) 5), .int .u64 (lb (-6) 6), .int .u64 (lb (-6) 7), .int .u64 0, .int .u64 0, .int .u64 0, .int .u64 0, .int .u64 0, .int .u64 0, .int .u64 0, .int .u64 0]] w (Ret (.tuple #[.agg #[.int .u64 (lb (2) 0), .int .u64 (lb (2) 1), .int .u64 (lb (2) 2), .int .u64 (lb (2) 3), .int .u64 (lb (2) 4), .int .u64 (lb (2) 5), .int .u64 (lb (2) 6), .int .u64 (lb (2) 7), .int .u64 (lb (-3) 0), .int .u64 (lb (-3) 1), .int .u64 (lb (-3) 2), .int .u64 (lb (-3) 3), .int .u64 (lb (-3) 4), .int .u64 (lb (-3) 5), .int .u64 (lb (-3) 6), .int .u64 (lb (-3) 7), .int .u64 0, .int .u64 0, .int .u64 0, .int .u64 0, .int .u64 0, .int .u64 0, .int .u64 0, .int .u64 0], .bool true]) w)) := Lib.hid fun w => by
    have := prime_any 4 (-6) 0 (by unfold Fit M511; omega) (by unfold Fit M511; omega) fit_zero w
    rw [prv_awake] at this
    unfold Sv at this
    simp only [lb_zero] at this
    exact this
  have HC : Hid (∀ w, Calls Try.prog 36 #[.agg #[.int .i64 0, .int .i64 1, .int .i64 0], .agg #[.int .i64 0, .int .i64 0, .int .i64 9]] w (Ret (.int .i64 1) w)) := Lib.hid (gcmp_any ⟨0, 1, 0⟩ ⟨0, 0, 9⟩)
  have HO : Hid (∀ n, I64 n → ∀ w, Calls Try.prog 52 #[.int .i64 n] w (Ret (W n) w)) := Lib.hid fun n h w => of_i64 n h w
  have O1 := Lib.hid (of_i64 4 (by unfold I64; omega))
  have O2 := Lib.hid (of_i64 (-6) (by unfold I64; omega))
  have O3 := Lib.hid (of_i64 24 (by unfold I64; omega))
  have O4 := Lib.hid (of_i64 2 (by unfold I64; omega))
  have O5 := Lib.hid (of_i64 (-3) (by unfold I64; omega))
  go_enter Try.func16, Try.ntmps16
  have hp := Hp.start [] w
  go_wp2_with (first
          | ((with_reducible apply sx_alloc hp); infer_instance; exact rfl; clear hp; (try clear w1); intro g w1 hp; simp only [zp, zq, z0, z1])
          | ((with_reducible apply sx_load_agg hp); exact zt rfl; infer_instance; infer_instance; (first | exact zl rfl | exact LB_le (by omega)); (first | (with_reducible exact LB_set (by omega)) | (simp only [n0, Nat.reduceAdd, n1, n2, n3, n4, n5, n6, n7, n8, n9]; try rfl)); simp only [zp, zq, z0, z1])
          | ((with_reducible apply sx_store hp); exact zt rfl; exact za rfl; exact rfl; (first | exact AggTy.size | exact OneTy.size); exact rfl; infer_instance; (first | (with_reducible exact LB_set (by omega)) | (simp only [n0, Nat.reduceAdd, n1, n2, n3, n4, n5, n6, n7, n8, n9]; try rfl)); (first | exact zl rfl | exact LB_le (by omega)); exact rfl; infer_instance; clear hp; (try clear w1); intro w1 hp)
          | ((with_reducible first | refine sx_call hp (HR.out _) ?_ | refine sx_call hp (HD.out _) ?_ | refine sx_call hp (HP.out _) ?_ | refine sx_call hp (O1.out _) ?_ | refine sx_call hp (O2.out _) ?_); clear hp; (try clear w1); intro w1 hp))
  have hq := hp
  refine wp_drawn_hp hp hq [] (.q 0 (.q 1 (.q 2 (.q 3 (.q 4 (.q 5 (.q 6 (.q 7 (.q 8 (.l 9 (.q 10 (.q 11 (.q 12 (.q 13 (.q 14 (.q 15 (.q 16 (.l 17 (.l 18 (.q 19 (.q 20 (.q 21 (.q 22 (.q 23 (.q 24 (.l 25 (.q 26 (.q 27 (.q 28 .nil))))))))))))))))))))))))))))) (by kernel_rfl) (by kernel_rfl) ?_
  clear hp hq; (try clear w1); intro w1 hp hq
  ((with_reducible apply sd_q); exact zo rfl)
  ((with_reducible apply sd_move hp); exact zi rfl; simp only [zp, zq, z0, z1])
  ((with_reducible apply sd_q); exact zo rfl)
  ((with_reducible apply sd_pure hp); exact rfl; (focus (intro _; go_simp; (try go_ints); try with_reducible rfl)); simp only [zp, zq, z0, z1])
  ((with_reducible apply sd_q); exact zo rfl)
  ((with_reducible apply sd_move hp); exact zb rfl; simp only [zp, zq, z0, z1])
  ((with_reducible apply sd_q); exact zo rfl)
  (first
      | ((with_reducible apply sd_load_agg hp); exact rfl; exact zt rfl; infer_instance; infer_instance; (first | exact zl rfl | exact LB_le (by omega)); (first | (with_reducible exact LB_set (by omega)) | (simp only [n0, Nat.reduceAdd, n1, n2, n3, n4, n5, n6, n7, n8, n9]; try rfl)); simp only [zp, zq, z0, z1])
      | ((with_reducible apply sd_skip hp); exact rfl; simp only [zp, zq, z0, z1]))
  ((with_reducible apply sd_q); exact zo rfl)
  (first
      | ((with_reducible apply sd_pure hp); exact rfl; (focus (intro _; go_simp; (try go_ints); try with_reducible rfl)); simp only [zp, zq, z0, z1])
      | ((with_reducible apply sd_skip hp); exact rfl; simp only [zp, zq, z0, z1]))
  ((with_reducible apply sd_q); exact zo rfl)
  (first
      | ((with_reducible apply sd_pure hp); exact rfl; (focus (intro _; go_simp; (try go_ints); try with_reducible rfl)); simp only [zp, zq, z0, z1])
      | ((with_reducible apply sd_skip hp); exact rfl; simp only [zp, zq, z0, z1]))
  ((with_reducible apply sd_q); exact zo rfl)
  ((with_reducible apply sd_pure hp); exact rfl; (focus (intro _; go_simp; (try go_ints); try with_reducible rfl)); simp only [zp, zq, z0, z1])
  ((with_reducible apply sd_q); exact zo rfl)
  ((with_reducible apply sd_move hp); exact zb rfl; simp only [zp, zq, z0, z1])
  ((with_reducible apply sd_q); exact zo rfl)
  (first
      | ((with_reducible apply sd_load_agg hp); exact rfl; exact zt rfl; infer_instance; infer_instance; (first | exact zl rfl | exact LB_le (by omega)); (first | (with_reducible exact LB_set (by omega)) | (simp only [n0, Nat.reduceAdd, n1, n2, n3, n4, n5, n6, n7, n8, n9]; try rfl)); simp only [zp, zq, z0, z1])
      | ((with_reducible apply sd_skip hp); exact rfl; simp only [zp, zq, z0, z1]))
  ((with_reducible apply sd_l); exact zo rfl)
  (first
      | ((with_reducible apply sd_call hp); exact rfl; (focus (intro _; go_simp; try first | with_reducible rfl | exact ⟨rfl, rfl⟩)); (with_reducible first | exact fun w => HC.out w | exact fun w => O3.out w | exact fun w => O4.out w | exact fun w => O5.out w); exact hq; clear hp hq; (try clear w1); intro w1 hp hq; simp only [zp, zq, z0, z1])
      | ((with_reducible apply sd_skip_loud hp); exact rfl; simp only [zp, zq, z0, z1]))
  ((with_reducible apply sd_q); exact zo rfl)
  (first
      | ((with_reducible apply sd_pure hp); exact rfl; (focus (intro _; go_simp; (try go_ints); try with_reducible rfl)); simp only [zp, zq, z0, z1])
      | ((with_reducible apply sd_skip hp); exact rfl; simp only [zp, zq, z0, z1]))
  ((with_reducible apply sd_q); exact zo rfl)
  ((with_reducible apply sd_pure hp); exact rfl; (focus (intro _; go_simp; (try go_ints); try with_reducible rfl)); simp only [zp, zq, z0, z1])
  ((with_reducible apply sd_q); exact zo rfl)
  ((with_reducible apply sd_move hp); exact zb rfl; simp only [zp, zq, z0, z1])
  ((with_reducible apply sd_q); exact zo rfl)
  (first
      | ((with_reducible apply sd_pure hp); exact rfl; (focus (intro _; go_simp; (try go_ints); try with_reducible rfl)); simp only [zp, zq, z0, z1])
      | ((with_reducible apply sd_skip hp); exact rfl; simp only [zp, zq, z0, z1]))
  ((with_reducible apply sd_q); exact zo rfl)
  ((with_reducible apply sd_pure hp); exact rfl; (focus (intro _; go_simp; (try go_ints); try with_reducible rfl)); simp only [zp, zq, z0, z1])
  ((with_reducible apply sd_q); exact zo rfl)
  ((with_reducible apply sd_move hp); exact zb rfl; simp only [zp, zq, z0, z1])
  ((with_reducible apply sd_q); exact zo rfl)
  (first
      | ((with_reducible apply sd_load_agg hp); exact rfl; exact zt rfl; infer_instance; infer_instance; (first | exact zl rfl | exact LB_le (by omega)); (first | (with_reducible exact LB_set (by omega)) | (simp only [n0, Nat.reduceAdd, n1, n2, n3, n4, n5, n6, n7, n8, n9]; try rfl)); simp only [zp, zq, z0, z1])
      | ((with_reducible apply sd_skip hp); exact rfl; simp only [zp, zq, z0, z1]))
  ((with_reducible apply sd_l); exact zo rfl)
  (first
      | ((with_reducible apply sd_call hp); exact rfl; (focus (intro _; go_simp; try first | with_reducible rfl | exact ⟨rfl, rfl⟩)); (with_reducible first | exact fun w => HC.out w | exact fun w => O3.out w | exact fun w => O4.out w | exact fun w => O5.out w); exact hq; clear hp hq; (try clear w1); intro w1 hp hq; simp only [zp, zq, z0, z1])
      | ((with_reducible apply sd_skip_loud hp); exact rfl; simp only [zp, zq, z0, z1]))
  ((with_reducible apply sd_l); exact zo rfl)
  (first
      | ((with_reducible apply sd_call hp); exact rfl; (focus (intro _; go_simp; try first | with_reducible rfl | exact ⟨rfl, rfl⟩)); (with_reducible first | exact fun w => HC.out w | exact fun w => O3.out w | exact fun w => O4.out w | exact fun w => O5.out w); exact hq; clear hp hq; (try clear w1); intro w1 hp hq; simp only [zp, zq, z0, z1])
      | ((with_reducible apply sd_skip_loud hp); exact rfl; simp only [zp, zq, z0, z1]))
  ((with_reducible apply sd_q); exact zo rfl)
  (first
      | ((with_reducible apply sd_pure hp); exact rfl; (focus (intro _; go_simp; (try go_ints); try with_reducible rfl)); simp only [zp, zq, z0, z1])
      | ((with_reducible apply sd_skip hp); exact rfl; simp only [zp, zq, z0, z1]))
  ((with_reducible apply sd_q); exact zo rfl)
  (first
      | ((with_reducible apply sd_pure hp); exact rfl; (focus (intro _; go_simp; (try go_ints); try with_reducible rfl)); simp only [zp, zq, z0, z1])
      | ((with_reducible apply sd_skip hp); exact rfl; simp only [zp, zq, z0, z1]))
  ((with_reducible apply sd_q); exact zo rfl)
  ((with_reducible apply sd_pure hp); exact rfl; (focus (intro _; go_simp; (try go_ints); try with_reducible rfl)); simp only [zp, zq, z0, z1])
  ((with_reducible apply sd_q); exact zo rfl)
  ((with_reducible apply sd_move hp); exact zb rfl; simp only [zp, zq, z0, z1])
  ((with_reducible apply sd_q); exact zo rfl)
  (first
      | ((with_reducible apply sd_pure hp); exact rfl; (focus (intro _; go_simp; (try go_ints); try with_reducible rfl)); simp only [zp, zq, z0, z1])
      | ((with_reducible apply sd_skip hp); exact rfl; simp only [zp, zq, z0, z1]))
  ((with_reducible apply sd_q); exact zo rfl)
  (first
      | ((with_reducible apply sd_pure hp); exact rfl; (focus (intro _; go_simp; (try go_ints); try with_reducible rfl)); simp only [zp, zq, z0, z1])
      | ((with_reducible apply sd_skip hp); exact rfl; simp only [zp, zq, z0, z1]))
  ((with_reducible apply sd_l); exact zo rfl)
  (first
      | ((with_reducible apply sd_call hp); exact rfl; (focus (intro _; go_simp; try first | with_reducible rfl | exact ⟨rfl, rfl⟩)); (with_reducible first | exact fun w => HC.out w | exact fun w => O3.out w | exact fun w => O4.out w | exact fun w => O5.out w); exact hq; clear hp hq; (try clear w1); intro w1 hp hq; simp only [zp, zq, z0, z1])
      | ((with_reducible apply sd_skip_loud hp); exact rfl; simp only [zp, zq, z0, z1]))
  ((with_reducible apply sd_q); exact zo rfl)
  (first
      | ((with_reducible apply sd_pure hp); exact rfl; (focus (intro _; go_simp; (try go_ints); try with_reducible rfl)); simp only [zp, zq, z0, z1])
      | ((with_reducible apply sd_skip hp); exact rfl; simp only [zp, zq, z0, z1]))
  ((with_reducible apply sd_q); exact zo rfl)
  ((with_reducible apply sd_pure hp); exact rfl; (focus (intro _; go_simp; (try go_ints); try with_reducible rfl)); simp only [zp, zq, z0, z1])
  ((with_reducible apply sd_q); exact zo rfl)
  ((with_reducible apply sd_assign hp); exact zb rfl; simp only [zp, zq, z0, z1])
  (with_reducible apply sd_nil)
  clear hp; have hp := hq; clear hq
  go_wp2
  exact bodyPost_ret (results_one rfl rfl) rfl ⟨rfl, hp.keep⟩
end Go.Proofs.Ytbhlnbllkoomfaa
