/-
  ninepinlaw06.GridProducts (contract).
-/
import Derived.Test.YtbhlnbllkoomfaaBh
import Derived.Test.YtbhlnbllkoomfaaEd
set_option linter.unusedSimpArgs false
set_option linter.unusedVariables false
set_option maxRecDepth 100000
namespace Go.Proofs.Ytbhlnbllkoomfaa
open Go Go.RowKit

set_option maxHeartbeats 8000000 in
theorem products_law (a : P3) (ha : a.i64) (b : P3) (hb : b.i64) (c : P3) (hc : c.i64) (w : World) : Calls Try.prog 7 #[PV a, PV b, PV c] w (Ret (.bool true) w) := by
  have D1 := Lib.hid (dot_any a b ha hb)
  have D2 := Lib.hid (rdot_any a b ha hb)
  have C1 := Lib.hid (cross_any a b ha hb)
  have C2 := Lib.hid (rcross_any a b ha hb)
  have E1 := Lib.hid (det_any a b c ha hb hc)
  have E2 := Lib.hid (rdet_any a b c ha hb hc)
  clear ha hb hc
  generalize a.dot b = d at *
  generalize a.cross b = e at *
  generalize P3.det a b c = f at *
  go_enter Try.func7, Try.ntmps7
  have hp := Hp.start [] w
  go_upto_region 1 with (first
          | ((with_reducible apply sx_box hp); (first | exact za rfl | exact zu rfl | exact zi rfl | exact zb rfl | exact zr rfl | exact zs rfl | exact zf rfl | exact zg rfl | exact zn rfl | exact zv rfl | exact zw rfl); exact rfl; clear hp; (try clear w1); intro g w1 hp; simp only [zp, zq, z0, z1])
          | ((with_reducible apply sx_alloc hp); infer_instance; exact rfl; clear hp; (try clear w1); intro g w1 hp; simp only [zp, zq, z0, z1]))
  have hq := hp
  refine wp_drawn_hp hp hq [] (.q 0 (.q 1 (.q 3 (.q 4 (.l 2 (.l 5 (.q 6 (.q 7 (.q 8 (.q 9 (.q 11 (.q 12 (.l 10 (.l 13 (.q 14 (.q 15 (.q 16 (.q 17 (.q 18 (.q 19 (.q 21 (.q 22 (.q 23 (.l 20 (.l 24 (.q 25 (.q 26 (.q 27 (.l 28 (.q 29 (.q 30 .nil))))))))))))))))))))))))))))))) (by kernel_rfl) (by kernel_rfl) ?_
  clear hp hq; (try clear w1); intro w1 hp hq
  ((with_reducible apply sd_q); exact zo rfl)
  ((with_reducible apply sd_load_agg hp); exact rfl; exact zt rfl; infer_instance; infer_instance; (first | exact zl rfl | exact LB_le (by omega)); (first | (with_reducible exact LB_set (by omega)) | (simp only [n0, Nat.reduceAdd, n1, n2, n3, n4, n5, n6, n7, n8, n9]; try rfl)); simp only [zp, zq, z0, z1])
  ((with_reducible apply sd_q); exact zo rfl)
  ((with_reducible apply sd_load_agg hp); exact rfl; exact zt rfl; infer_instance; infer_instance; (first | exact zl rfl | exact LB_le (by omega)); (first | (with_reducible exact LB_set (by omega)) | (simp only [n0, Nat.reduceAdd, n1, n2, n3, n4, n5, n6, n7, n8, n9]; try rfl)); simp only [zp, zq, z0, z1])
  ((with_reducible apply sd_q); exact zo rfl)
  ((with_reducible apply sd_load_agg hp); exact rfl; exact zt rfl; infer_instance; infer_instance; (first | exact zl rfl | exact LB_le (by omega)); (first | (with_reducible exact LB_set (by omega)) | (simp only [n0, Nat.reduceAdd, n1, n2, n3, n4, n5, n6, n7, n8, n9]; try rfl)); simp only [zp, zq, z0, z1])
  ((with_reducible apply sd_q); exact zo rfl)
  ((with_reducible apply sd_load_agg hp); exact rfl; exact zt rfl; infer_instance; infer_instance; (first | exact zl rfl | exact LB_le (by omega)); (first | (with_reducible exact LB_set (by omega)) | (simp only [n0, Nat.reduceAdd, n1, n2, n3, n4, n5, n6, n7, n8, n9]; try rfl)); simp only [zp, zq, z0, z1])
  ((with_reducible apply sd_l); exact zo rfl)
  ((with_reducible apply sd_call hp); exact rfl; (focus (intro _; go_simp; try first | with_reducible rfl | exact ⟨rfl, rfl⟩)); (with_reducible first | exact fun w => D1.out w | exact fun w => D2.out w | exact fun w => C1.out w | exact fun w => C2.out w | exact fun w => E1.out w | exact fun w => E2.out w | exact fun w => awake6 w); exact hq; clear hp hq; (try clear w1); intro w1 hp hq; simp only [zp, zq, z0, z1])
  ((with_reducible apply sd_l); exact zo rfl)
  ((with_reducible apply sd_call hp); exact rfl; (focus (intro _; go_simp; try first | with_reducible rfl | exact ⟨rfl, rfl⟩)); (with_reducible first | exact fun w => D1.out w | exact fun w => D2.out w | exact fun w => C1.out w | exact fun w => C2.out w | exact fun w => E1.out w | exact fun w => E2.out w | exact fun w => awake6 w); exact hq; clear hp hq; (try clear w1); intro w1 hp hq; simp only [zp, zq, z0, z1])
  ((with_reducible apply sd_q); exact zo rfl)
  ((with_reducible apply sd_pure hp); exact rfl; (focus (intro _; go_simp; (try go_ints); try with_reducible rfl)); simp only [zp, zq, z0, z1])
  ((with_reducible apply sd_q); exact zo rfl)
  ((with_reducible apply sd_move hp); exact zb rfl; simp only [zp, zq, z0, z1])
  ((with_reducible apply sd_q); exact zo rfl)
  (first
      | ((with_reducible apply sd_load_agg hp); exact rfl; exact zt rfl; infer_instance; infer_instance; (first | exact zl rfl | exact LB_le (by omega)); (first | (with_reducible exact LB_set (by omega)) | (simp only [n0, Nat.reduceAdd, n1, n2, n3, n4, n5, n6, n7, n8, n9]; try rfl)); simp only [zp, zq, z0, z1])
      | ((with_reducible apply sd_skip hp); exact rfl; simp only [zp, zq, z0, z1]))
  ((with_reducible apply sd_q); exact zo rfl)
  (first
      | ((with_reducible apply sd_load_agg hp); exact rfl; exact zt rfl; infer_instance; infer_instance; (first | exact zl rfl | exact LB_le (by omega)); (first | (with_reducible exact LB_set (by omega)) | (simp only [n0, Nat.reduceAdd, n1, n2, n3, n4, n5, n6, n7, n8, n9]; try rfl)); simp only [zp, zq, z0, z1])
      | ((with_reducible apply sd_skip hp); exact rfl; simp only [zp, zq, z0, z1]))
  ((with_reducible apply sd_q); exact zo rfl)
  (first
      | ((with_reducible apply sd_load_agg hp); exact rfl; exact zt rfl; infer_instance; infer_instance; (first | exact zl rfl | exact LB_le (by omega)); (first | (with_reducible exact LB_set (by omega)) | (simp only [n0, Nat.reduceAdd, n1, n2, n3, n4, n5, n6, n7, n8, n9]; try rfl)); simp only [zp, zq, z0, z1])
      | ((with_reducible apply sd_skip hp); exact rfl; simp only [zp, zq, z0, z1]))
  ((with_reducible apply sd_q); exact zo rfl)
  (first
      | ((with_reducible apply sd_load_agg hp); exact rfl; exact zt rfl; infer_instance; infer_instance; (first | exact zl rfl | exact LB_le (by omega)); (first | (with_reducible exact LB_set (by omega)) | (simp only [n0, Nat.reduceAdd, n1, n2, n3, n4, n5, n6, n7, n8, n9]; try rfl)); simp only [zp, zq, z0, z1])
      | ((with_reducible apply sd_skip hp); exact rfl; simp only [zp, zq, z0, z1]))
  ((with_reducible apply sd_l); exact zo rfl)
  (first
      | ((with_reducible apply sd_call hp); exact rfl; (focus (intro _; go_simp; try first | with_reducible rfl | exact ⟨rfl, rfl⟩)); (with_reducible first | exact fun w => D1.out w | exact fun w => D2.out w | exact fun w => C1.out w | exact fun w => C2.out w | exact fun w => E1.out w | exact fun w => E2.out w | exact fun w => awake6 w); exact hq; clear hp hq; (try clear w1); intro w1 hp hq; simp only [zp, zq, z0, z1])
      | ((with_reducible apply sd_skip_loud hp); exact rfl; simp only [zp, zq, z0, z1]))
  ((with_reducible apply sd_l); exact zo rfl)
  (first
      | ((with_reducible apply sd_call hp); exact rfl; (focus (intro _; go_simp; try first | with_reducible rfl | exact ⟨rfl, rfl⟩)); (with_reducible first | exact fun w => D1.out w | exact fun w => D2.out w | exact fun w => C1.out w | exact fun w => C2.out w | exact fun w => E1.out w | exact fun w => E2.out w | exact fun w => awake6 w); exact hq; clear hp hq; (try clear w1); intro w1 hp hq; simp only [zp, zq, z0, z1])
      | ((with_reducible apply sd_skip_loud hp); exact rfl; simp only [zp, zq, z0, z1]))
  ((with_reducible apply sd_q); exact zo rfl)
  (first
      | ((with_reducible apply sd_pure hp); exact rfl; (focus (intro _; go_simp; (try go_ints); try with_reducible rfl)); simp only [zp, zq, z0, z1])
      | ((with_reducible apply sd_skip hp); exact rfl; simp only [zp, zq, z0, z1]))
  ((with_reducible apply sd_q); exact zo rfl)
  ((with_reducible apply sd_pure hp); exact rfl; (focus (intro _; go_simp; (try go_ints); try with_reducible rfl)); simp only [zp, zq, z0, z1])
  ((with_reducible apply sd_q); exact zo rfl)
  ((with_reducible apply sd_move hp); exact zb rfl; simp only [zp, zq, z0, z1])
  ((with_reducible apply sd_q); exact zo rfl)
  (first
      | ((with_reducible apply sd_load_agg hp); exact rfl; exact zt rfl; infer_instance; infer_instance; (first | exact zl rfl | exact LB_le (by omega)); (first | (with_reducible exact LB_set (by omega)) | (simp only [n0, Nat.reduceAdd, n1, n2, n3, n4, n5, n6, n7, n8, n9]; try rfl)); simp only [zp, zq, z0, z1])
      | ((with_reducible apply sd_skip hp); exact rfl; simp only [zp, zq, z0, z1]))
  ((with_reducible apply sd_q); exact zo rfl)
  (first
      | ((with_reducible apply sd_load_agg hp); exact rfl; exact zt rfl; infer_instance; infer_instance; (first | exact zl rfl | exact LB_le (by omega)); (first | (with_reducible exact LB_set (by omega)) | (simp only [n0, Nat.reduceAdd, n1, n2, n3, n4, n5, n6, n7, n8, n9]; try rfl)); simp only [zp, zq, z0, z1])
      | ((with_reducible apply sd_skip hp); exact rfl; simp only [zp, zq, z0, z1]))
  ((with_reducible apply sd_q); exact zo rfl)
  (first
      | ((with_reducible apply sd_load_agg hp); exact rfl; exact zt rfl; infer_instance; infer_instance; (first | exact zl rfl | exact LB_le (by omega)); (first | (with_reducible exact LB_set (by omega)) | (simp only [n0, Nat.reduceAdd, n1, n2, n3, n4, n5, n6, n7, n8, n9]; try rfl)); simp only [zp, zq, z0, z1])
      | ((with_reducible apply sd_skip hp); exact rfl; simp only [zp, zq, z0, z1]))
  ((with_reducible apply sd_q); exact zo rfl)
  (first
      | ((with_reducible apply sd_load_agg hp); exact rfl; exact zt rfl; infer_instance; infer_instance; (first | exact zl rfl | exact LB_le (by omega)); (first | (with_reducible exact LB_set (by omega)) | (simp only [n0, Nat.reduceAdd, n1, n2, n3, n4, n5, n6, n7, n8, n9]; try rfl)); simp only [zp, zq, z0, z1])
      | ((with_reducible apply sd_skip hp); exact rfl; simp only [zp, zq, z0, z1]))
  ((with_reducible apply sd_q); exact zo rfl)
  (first
      | ((with_reducible apply sd_load_agg hp); exact rfl; exact zt rfl; infer_instance; infer_instance; (first | exact zl rfl | exact LB_le (by omega)); (first | (with_reducible exact LB_set (by omega)) | (simp only [n0, Nat.reduceAdd, n1, n2, n3, n4, n5, n6, n7, n8, n9]; try rfl)); simp only [zp, zq, z0, z1])
      | ((with_reducible apply sd_skip hp); exact rfl; simp only [zp, zq, z0, z1]))
  ((with_reducible apply sd_q); exact zo rfl)
  (first
      | ((with_reducible apply sd_load_agg hp); exact rfl; exact zt rfl; infer_instance; infer_instance; (first | exact zl rfl | exact LB_le (by omega)); (first | (with_reducible exact LB_set (by omega)) | (simp only [n0, Nat.reduceAdd, n1, n2, n3, n4, n5, n6, n7, n8, n9]; try rfl)); simp only [zp, zq, z0, z1])
      | ((with_reducible apply sd_skip hp); exact rfl; simp only [zp, zq, z0, z1]))
  ((with_reducible apply sd_l); exact zo rfl)
  (first
      | ((with_reducible apply sd_call hp); exact rfl; (focus (intro _; go_simp; try first | with_reducible rfl | exact ⟨rfl, rfl⟩)); (with_reducible first | exact fun w => D1.out w | exact fun w => D2.out w | exact fun w => C1.out w | exact fun w => C2.out w | exact fun w => E1.out w | exact fun w => E2.out w | exact fun w => awake6 w); exact hq; clear hp hq; (try clear w1); intro w1 hp hq; simp only [zp, zq, z0, z1])
      | ((with_reducible apply sd_skip_loud hp); exact rfl; simp only [zp, zq, z0, z1]))
  ((with_reducible apply sd_l); exact zo rfl)
  (first
      | ((with_reducible apply sd_call hp); exact rfl; (focus (intro _; go_simp; try first | with_reducible rfl | exact ⟨rfl, rfl⟩)); (with_reducible first | exact fun w => D1.out w | exact fun w => D2.out w | exact fun w => C1.out w | exact fun w => C2.out w | exact fun w => E1.out w | exact fun w => E2.out w | exact fun w => awake6 w); exact hq; clear hp hq; (try clear w1); intro w1 hp hq; simp only [zp, zq, z0, z1])
      | ((with_reducible apply sd_skip_loud hp); exact rfl; simp only [zp, zq, z0, z1]))
  ((with_reducible apply sd_q); exact zo rfl)
  (first
      | ((with_reducible apply sd_pure hp); exact rfl; (focus (intro _; go_simp; (try go_ints); try with_reducible rfl)); simp only [zp, zq, z0, z1])
      | ((with_reducible apply sd_skip hp); exact rfl; simp only [zp, zq, z0, z1]))
  ((with_reducible apply sd_q); exact zo rfl)
  ((with_reducible apply sd_pure hp); exact rfl; (focus (intro _; go_simp; (try go_ints); try with_reducible rfl)); simp only [zp, zq, z0, z1])
  ((with_reducible apply sd_q); exact zo rfl)
  ((with_reducible apply sd_move hp); exact zb rfl; simp only [zp, zq, z0, z1])
  ((with_reducible apply sd_l); exact zo rfl)
  (first
      | ((with_reducible apply sd_call hp); exact rfl; (focus (intro _; go_simp; try first | with_reducible rfl | exact ⟨rfl, rfl⟩)); (with_reducible first | exact fun w => D1.out w | exact fun w => D2.out w | exact fun w => C1.out w | exact fun w => C2.out w | exact fun w => E1.out w | exact fun w => E2.out w | exact fun w => awake6 w); exact hq; clear hp hq; (try clear w1); intro w1 hp hq; simp only [zp, zq, z0, z1])
      | ((with_reducible apply sd_skip_loud hp); exact rfl; simp only [zp, zq, z0, z1]))
  ((with_reducible apply sd_q); exact zo rfl)
  ((with_reducible apply sd_pure hp); exact rfl; (focus (intro _; go_simp; (try go_ints); try with_reducible rfl)); simp only [zp, zq, z0, z1])
  ((with_reducible apply sd_q); exact zo rfl)
  ((with_reducible apply sd_assign hp); exact zb rfl; simp only [zp, zq, z0, z1])
  (with_reducible apply sd_nil)
  clear hp; have hp := hq; clear hq
  go_wp2
  exact bodyPost_ret (results_one rfl rfl) rfl ⟨rfl, hp.keep⟩
end Go.Proofs.Ytbhlnbllkoomfaa
