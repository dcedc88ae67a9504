/-
  ninepinlaw02: FixMul, FixDiv, FixSums, FixSqrt, FixIn (contracts).
-/
import Derived.Test.YtbdkbmhejoakiaaGreatDoorTe
set_option linter.unusedSimpArgs false
set_option linter.unusedVariables false
set_option maxRecDepth 100000
namespace Go.Proofs.YtbdkbmhejoakiaaGreatDoor
open Go Go.RowKit
attribute [local irreducible] wpList

set_option maxHeartbeats 4000000 in
theorem mul_law (a : Int) (ha : I64 a) (b : Int) (hb : I64 b) (w : World) : Calls Tryz.prog 3 #[.int .i64 a, .int .i64 b] w (Ret (.bool true) w) := by
  have A1 := Lib.hid (fmul_any a b ha hb)
  have e : cl (qv (a * b) 4294967296 false) = cl (a * b / 4294967296) := by rw [qv_down, (dvq_32 (i64_mul ha hb)).1]
  have A2' := r2mul_any a b false ha hb
  rw [e] at A2'
  have A2 := Lib.hid A2'
  have A3 := Lib.hid (fmulup_any a b ha hb)
  have A4 := Lib.hid (r2mul_any a b true ha hb)
  unfold mulU at A3
  clear ha hb A2' e
  generalize cl (a * b / 4294967296) = x at *
  generalize cl (qv (a * b) 4294967296 true) = y at *
  go_enter Tryz.func3, Tryz.ntmps3
  have hp := Hp.start [] w
  go_wp2_with (first
          | ((with_reducible apply sx_guard); (conv => whnf); refine Bx.mk ?_; (try simp only [zp, zq, z0, z1]))
          | ((with_reducible first | refine sx_call hp (A1.out _) ?_ | refine sx_call hp (A2.out _) ?_ | refine sx_call hp (A3.out _) ?_ | refine sx_call hp (A4.out _) ?_ | refine sx_call hp (awake2 _) ?_); clear hp; (try clear w1); intro w1 hp))
  exact bodyPost_ret (results_one rfl rfl) rfl ⟨rfl, hp.keep⟩
set_option maxHeartbeats 4000000 in
theorem div_law (a : Int) (ha : I64 a) (b : Int) (hb : I64 b) (w : World) : Calls Tryz.prog 4 #[.int .i64 a, .int .i64 b] w (Ret (.bool true) w) := by
  have A1 := Lib.hid (fdiv_any a b ha hb)
  have A2 := Lib.hid (r2div_down a b ha hb)
  have A3 := Lib.hid (fdivup_any a b ha hb)
  have A4 := Lib.hid (r2div_up a b ha hb)
  clear ha hb
  generalize dq a b = x at *
  generalize dqU a b = y at *
  go_enter Tryz.func4, Tryz.ntmps4
  have hp := Hp.start [] w
  go_wp2_with (first
          | ((with_reducible apply sx_guard); (conv => whnf); refine Bx.mk ?_; (try simp only [zp, zq, z0, z1]))
          | ((with_reducible first | refine sx_call hp (A1.out _) ?_ | refine sx_call hp (A2.out _) ?_ | refine sx_call hp (A3.out _) ?_ | refine sx_call hp (A4.out _) ?_ | refine sx_call hp (awake2 _) ?_); clear hp; (try clear w1); intro w1 hp))
  exact bodyPost_ret (results_one rfl rfl) rfl ⟨rfl, hp.keep⟩
set_option maxHeartbeats 4000000 in
theorem sums_law (n : Int) (hn : I64 n) (a : Int) (ha : I64 a) (b : Int) (hb : I64 b) (w : World) : Calls Tryz.prog 6 #[.int .i64 n, .int .i64 a, .int .i64 b] w (Ret (.bool true) w) := by
  have A1 := Lib.hid (fof_any n hn)
  have A2 := Lib.hid (r2of_any n hn)
  have A3 := Lib.hid (fadd_any a b ha hb)
  have A4 := Lib.hid (r2add_any a b ha hb)
  have A5 := Lib.hid (fsub_any a b ha hb)
  have A6 := Lib.hid (r2sub_any a b ha hb)
  clear ha hb hn
  generalize ofv n = x at *
  generalize cl (a + b) = y at *
  generalize cl (a - b) = v at *
  go_enter Tryz.func6, Tryz.ntmps6
  have hp := Hp.start [] w
  go_wp2_with (first
          | ((with_reducible apply sx_guard); (conv => whnf); refine Bx.mk ?_; (try simp only [zp, zq, z0, z1]))
          | ((with_reducible first | refine sx_call hp (A1.out _) ?_ | refine sx_call hp (A2.out _) ?_ | refine sx_call hp (A3.out _) ?_ | refine sx_call hp (A4.out _) ?_ | refine sx_call hp (A5.out _) ?_ | refine sx_call hp (A6.out _) ?_ | refine sx_call hp (awake2 _) ?_); clear hp; (try clear w1); intro w1 hp))
  exact bodyPost_ret (results_one rfl rfl) rfl ⟨rfl, hp.keep⟩
set_option maxHeartbeats 4000000 in
theorem sqrt_law (a : Int) (ha : I64 a) (w : World) : Calls Tryz.prog 7 #[.int .i64 a] w (Ret (.bool true) w) := by
  have A1 := Lib.hid (fsqrt_any a ha)
  have A2 := Lib.hid (r2sqrt_any a ha false)
  have A3 := Lib.hid (fsqrtup_any a ha)
  have A4 := Lib.hid (r2sqrt_any a ha true)
  clear ha
  generalize rootv a false = x at *
  generalize rootv a true = y at *
  go_enter Tryz.func7, Tryz.ntmps7
  have hp := Hp.start [] w
  go_wp2_with (first
          | ((with_reducible apply sx_guard); (conv => whnf); refine Bx.mk ?_; (try simp only [zp, zq, z0, z1]))
          | ((with_reducible first | refine sx_call hp (A1.out _) ?_ | refine sx_call hp (A2.out _) ?_ | refine sx_call hp (A3.out _) ?_ | refine sx_call hp (A4.out _) ?_ | refine sx_call hp (awake2 _) ?_); clear hp; (try clear w1); intro w1 hp))
  exact bodyPost_ret (results_one rfl rfl) rfl ⟨rfl, hp.keep⟩
set_option maxHeartbeats 4000000 in
theorem in_law (n : Int) (hn : Fit n) (s : Int) (hs : I64 s) (a : Int) (ha : I64 a) (l : Int) (hl : I64 l) (h : Int) (hh : I64 h) (w : World) :
    Calls Tryz.prog 5 #[W n, .int .i64 s, .int .i64 a, .int .i64 l, .int .i64 h] w (Ret (.bool true) w) := by
  have A1 := Lib.hid (in_any n s hn hs)
  have A2 := Lib.hid (r2in_any n s hn hs)
  have A3 := Lib.hid (fclamp_any a l h)
  have A4 := Lib.hid (r2clamp_any a l h)
  have A5 := Lib.hid (ffloor_any a ha)
  have A6 := Lib.hid (r2floor_any a ha)
  clear ha hl hh hn hs
  generalize inv n s = x at *
  generalize clampv a l h = y at *
  generalize a / 4294967296 = v at *
  go_enter Tryz.func5, Tryz.ntmps5
  have hp := Hp.start [] w
  go_upto_region 1 with (first
          | ((with_reducible apply sx_box hp); (first | exact za rfl | exact zu rfl | exact zi rfl | exact zb rfl | exact zr rfl | exact zs rfl | exact zf rfl | exact zg rfl | exact zn rfl | exact zv rfl | exact zw rfl); exact rfl; clear hp; (try clear w1); intro g w1 hp; simp only [zp, zq, z0, z1])
          | ((with_reducible apply sx_alloc hp); infer_instance; exact rfl; clear hp; (try clear w1); intro g w1 hp; simp only [zp, zq, z0, z1]))
  have hq := hp
  refine wp_drawnG_hp hp hq [] (.q 0 (.q 1 (.q 3 (.q 4 (.p 2 (.p 5 (.q 6 (.q 7 (.q 8 (.q 9 (.q 10 (.q 12 (.q 13 (.q 14 (.p 11 (.p 15 (.q 16 (.q 17 (.q 18 (.q 19 (.q 21 (.p 20 (.p 22 (.q 23 (.q 24 (.q 25 (.p 26 (.q 27 (.q 28 .nil))))))))))))))))))))))))))))) (by kernel_rfl) (by kernel_rfl) ?_
  clear hp hq; (try clear w1); intro w1 hp hq
  repeat' (first
    | (((with_reducible apply sg_q); exact zo rfl); (first
        | ((with_reducible apply sg_load_agg hp); exact rfl; exact zt rfl; infer_instance; infer_instance; (first | exact zl rfl | exact LB_le (by omega)); (first | (with_reducible exact LB_set (by omega)) | (simp only [n0, Nat.reduceAdd, n1, n2, n3, n4, n5, n6, n7, n8, n9]; try rfl)); simp only [zp, zq, z0, z1])
        | ((with_reducible apply sg_move hp); (first | exact zb rfl | exact zi rfl); simp only [zp, zq, z0, z1])
        | ((with_reducible apply sg_assign hp); exact zb rfl; simp only [zp, zq, z0, z1])
        | ((with_reducible apply sg_pure hp); exact rfl; (focus (intro _; go_simp; (try go_ints); try with_reducible rfl)); simp only [zp, zq, z0, z1])
        | ((with_reducible apply sg_skip hp); exact rfl; simp only [zp, zq, z0, z1])))
    | (((with_reducible apply sg_p); exact zo rfl); (first
        | ((with_reducible apply sg_call hp); exact rfl; (focus (intro _; go_simp; try first | with_reducible rfl | exact ⟨rfl, rfl⟩)); (with_reducible first | exact fun w => A1.out w | exact fun w => A2.out w | exact fun w => A3.out w | exact fun w => A4.out w | exact fun w => A5.out w | exact fun w => A6.out w | exact fun w => awake2 w); simp only [zp, zq, z0, z1])
        | ((with_reducible apply sg_skipP hp); exact rfl; simp only [zp, zq, z0, z1])))
    | ((with_reducible apply sg_nil hq); clear hp hq; (try clear w1); intro w1 hp))
  go_wp2
  exact bodyPost_ret (results_one rfl rfl) rfl ⟨rfl, hp.keep⟩
end Go.Proofs.YtbdkbmhejoakiaaGreatDoor
