/-
  ninepinlaw03: VecDot, VecCross, VecLen, VecSums, VecNear, VecUnit (contracts).
-/
import Derived.Test.YtnipjafcgicddaaVl
set_option linter.unusedSimpArgs false
set_option linter.unusedVariables false
set_option maxRecDepth 100000
namespace Go.Proofs.Ytnipjafcgicddaa
open Go Go.RowKit
attribute [local irreducible] wpList

set_option maxHeartbeats 2000000 in
theorem vecdot_law (a : P3) (ha : a.i64) (b : P3) (hb : b.i64) (w : World) : Calls Try.prog 3 #[PV a, PV b] w (Ret (.bool true) w) := by
  have A1 := Lib.hid (vDot_any a b ha hb)
  have A2 := Lib.hid (r3dot_any a b ha hb)
  clear ha hb
  generalize cl (a.dot b / 4294967296) = r at *
  obtain ⟨ax, ay, az⟩ := a
  obtain ⟨bx, by', bz⟩ := b
  go_enter Try.func3, Try.ntmps3
  have hp := Hp.start [] w
  go_upto_region 1 with (first
          | ((with_reducible apply sx_box hp); (first | exact za rfl | exact zu rfl | exact zi rfl | exact zb rfl | exact zr rfl | exact zs rfl | exact zf rfl | exact zg rfl | exact zn rfl | exact zv rfl | exact zw rfl); exact rfl; clear hp; (try clear w1); intro g w1 hp; simp only [zp, zq, z0, z1])
          | ((with_reducible apply sx_alloc hp); infer_instance; exact rfl; clear hp; (try clear w1); intro g w1 hp; simp only [zp, zq, z0, z1]))
  have hq := hp
  refine wp_drawnG_hp hp hq [] (.q 0 (.q 1 (.q 3 (.q 4 (.p 2 (.p 5 (.q 6 (.q 7 (.p 8 (.q 9 (.q 10 .nil))))))))))) (by kernel_rfl) (by kernel_rfl) ?_
  clear hp hq; (try clear w1); intro w1 hp hq
  repeat' (first
    | (((with_reducible apply sg_q); exact zo rfl); (first
        | ((with_reducible apply sg_load_agg hp); exact rfl; exact zt rfl; infer_instance; infer_instance; (first | exact zl rfl | exact LB_le (by omega)); (first | (with_reducible exact LB_set (by omega)) | (simp only [n0, Nat.reduceAdd, n1, n2, n3, n4, n5, n6, n7, n8, n9]; try rfl)); simp only [zp, zq, z0, z1])
        | ((with_reducible apply sg_move hp); exact zb rfl; simp only [zp, zq, z0, z1])
        | ((with_reducible apply sg_assign hp); exact zb rfl; simp only [zp, zq, z0, z1])
        | ((with_reducible apply sg_pure hp); exact rfl; (focus (intro _; go_simp; (try go_ints); try with_reducible rfl)); simp only [zp, zq, z0, z1])
        | ((with_reducible apply sg_skip hp); exact rfl; simp only [zp, zq, z0, z1])))
    | (((with_reducible apply sg_p); exact zo rfl); (first
        | ((with_reducible apply sg_call hp); exact rfl; (focus (intro _; go_simp; try first | with_reducible rfl | exact ⟨rfl, rfl⟩)); (with_reducible first | exact fun w => A1.out w | exact fun w => A2.out w | exact fun w => awake3 w); simp only [zp, zq, z0, z1])
        | ((with_reducible apply sg_skipP hp); exact rfl; simp only [zp, zq, z0, z1])))
    | ((with_reducible apply sg_nil hq); clear hp hq; (try clear w1); intro w1 hp))
  go_wp2
  exact bodyPost_ret (results_one rfl rfl) rfl ⟨rfl, hp.keep⟩
set_option maxHeartbeats 2000000 in
theorem veccross_law (a : P3) (ha : a.i64) (b : P3) (hb : b.i64) (w : World) : Calls Try.prog 4 #[PV a, PV b] w (Ret (.bool true) w) := by
  have A1 := Lib.hid (vcross_any a b ha hb)
  have A2 := Lib.hid (r3cross_any a b ha hb)
  clear ha hb
  generalize a.ccross b = r at *
  obtain ⟨ax, ay, az⟩ := a
  obtain ⟨bx, by', bz⟩ := b
  go_enter Try.func4, Try.ntmps4
  have hp := Hp.start [] w
  go_upto_region 1 with (first
          | ((with_reducible apply sx_box hp); (first | exact za rfl | exact zu rfl | exact zi rfl | exact zb rfl | exact zr rfl | exact zs rfl | exact zf rfl | exact zg rfl | exact zn rfl | exact zv rfl | exact zw rfl); exact rfl; clear hp; (try clear w1); intro g w1 hp; simp only [zp, zq, z0, z1])
          | ((with_reducible apply sx_alloc hp); infer_instance; exact rfl; clear hp; (try clear w1); intro g w1 hp; simp only [zp, zq, z0, z1]))
  have hq := hp
  refine wp_drawnG_hp hp hq [] (.q 0 (.q 1 (.q 3 (.q 4 (.p 2 (.p 5 (.q 6 (.q 7 (.p 8 (.q 9 (.q 10 .nil))))))))))) (by kernel_rfl) (by kernel_rfl) ?_
  clear hp hq; (try clear w1); intro w1 hp hq
  repeat' (first
    | (((with_reducible apply sg_q); exact zo rfl); (first
        | ((with_reducible apply sg_load_agg hp); exact rfl; exact zt rfl; infer_instance; infer_instance; (first | exact zl rfl | exact LB_le (by omega)); (first | (with_reducible exact LB_set (by omega)) | (simp only [n0, Nat.reduceAdd, n1, n2, n3, n4, n5, n6, n7, n8, n9]; try rfl)); simp only [zp, zq, z0, z1])
        | ((with_reducible apply sg_move hp); exact zb rfl; simp only [zp, zq, z0, z1])
        | ((with_reducible apply sg_assign hp); exact zb rfl; simp only [zp, zq, z0, z1])
        | ((with_reducible apply sg_pure hp); exact rfl; (focus (intro _; go_simp; (try go_ints); try with_reducible rfl)); simp only [zp, zq, z0, z1])
        | ((with_reducible apply sg_skip hp); exact rfl; simp only [zp, zq, z0, z1])))
    | (((with_reducible apply sg_p); exact zo rfl); (first
        | ((with_reducible apply sg_call hp); exact rfl; (focus (intro _; go_simp; try first | with_reducible rfl | exact ⟨rfl, rfl⟩)); (with_reducible first | exact fun w => A1.out w | exact fun w => A2.out w | exact fun w => awake3 w); simp only [zp, zq, z0, z1])
        | ((with_reducible apply sg_skipP hp); exact rfl; simp only [zp, zq, z0, z1])))
    | ((with_reducible apply sg_nil hq); clear hp hq; (try clear w1); intro w1 hp))
  go_wp2
  exact bodyPost_ret (results_one rfl rfl) rfl ⟨rfl, hp.keep⟩
set_option maxHeartbeats 2000000 in
theorem veclen_law (a : P3) (ha : a.i64) (w : World) : Calls Try.prog 8 #[PV a] w (Ret (.bool true) w) := by
  have A1 := Lib.hid (vlen_any a ha)
  have A2 := Lib.hid (r3len_any a false ha)
  have A3 := Lib.hid (vlenup_any a ha)
  have A4 := Lib.hid (r3len_any a true ha)
  clear ha
  generalize lenv a false = r at *
  generalize lenv a true = s at *
  obtain ⟨ax, ay, az⟩ := a
  go_enter Try.func8, Try.ntmps8
  have hp := Hp.start [] w
  go_upto_region 1 with (first
          | ((with_reducible apply sx_box hp); (first | exact za rfl | exact zu rfl | exact zi rfl | exact zb rfl | exact zr rfl | exact zs rfl | exact zf rfl | exact zg rfl | exact zn rfl | exact zv rfl | exact zw rfl); exact rfl; clear hp; (try clear w1); intro g w1 hp; simp only [zp, zq, z0, z1])
          | ((with_reducible apply sx_alloc hp); infer_instance; exact rfl; clear hp; (try clear w1); intro g w1 hp; simp only [zp, zq, z0, z1]))
  have hq := hp
  refine wp_drawnG_hp hp hq [] (.q 0 (.q 2 (.p 1 (.p 3 (.q 4 (.q 5 (.q 6 (.q 8 (.p 7 (.p 9 (.q 10 (.q 11 (.q 12 (.p 13 (.q 14 (.q 15 .nil)))))))))))))))) (by kernel_rfl) (by kernel_rfl) ?_
  clear hp hq; (try clear w1); intro w1 hp hq
  repeat' (first
    | (((with_reducible apply sg_q); exact zo rfl); (first
        | ((with_reducible apply sg_load_agg hp); exact rfl; exact zt rfl; infer_instance; infer_instance; (first | exact zl rfl | exact LB_le (by omega)); (first | (with_reducible exact LB_set (by omega)) | (simp only [n0, Nat.reduceAdd, n1, n2, n3, n4, n5, n6, n7, n8, n9]; try rfl)); simp only [zp, zq, z0, z1])
        | ((with_reducible apply sg_move hp); exact zb rfl; simp only [zp, zq, z0, z1])
        | ((with_reducible apply sg_assign hp); exact zb rfl; simp only [zp, zq, z0, z1])
        | ((with_reducible apply sg_pure hp); exact rfl; (focus (intro _; go_simp; (try go_ints); try with_reducible rfl)); simp only [zp, zq, z0, z1])
        | ((with_reducible apply sg_skip hp); exact rfl; simp only [zp, zq, z0, z1])))
    | (((with_reducible apply sg_p); exact zo rfl); (first
        | ((with_reducible apply sg_call hp); exact rfl; (focus (intro _; go_simp; try first | with_reducible rfl | exact ⟨rfl, rfl⟩)); (with_reducible first | exact fun w => A1.out w | exact fun w => A2.out w | exact fun w => A3.out w | exact fun w => A4.out w | exact fun w => awake3 w); simp only [zp, zq, z0, z1])
        | ((with_reducible apply sg_skipP hp); exact rfl; simp only [zp, zq, z0, z1])))
    | ((with_reducible apply sg_nil hq); clear hp hq; (try clear w1); intro w1 hp))
  go_wp2
  exact bodyPost_ret (results_one rfl rfl) rfl ⟨rfl, hp.keep⟩
set_option maxHeartbeats 2000000 in
theorem vecsums_law (a : P3) (ha : a.i64) (b : P3) (hb : b.i64) (k : Int) (hk : I64 k) (w : World) : Calls Try.prog 13 #[PV a, PV b, .int .i64 k] w (Ret (.bool true) w) := by
  have A1 := Lib.hid (vadd_any a b ha hb)
  have A2 := Lib.hid (r3vadd_any a b ha hb)
  have A3 := Lib.hid (vsub_any a b ha hb)
  have A4 := Lib.hid (r3vsub_any a b ha hb)
  have A5 := Lib.hid (vscale_any a k ha hk)
  have A6 := Lib.hid (r3scale_any a k ha hk)
  clear ha hb hk
  generalize a.cadd b = r at *
  generalize a.csub b = s at *
  generalize a.cscale k = t at *
  obtain ⟨ax, ay, az⟩ := a
  obtain ⟨bx, by', bz⟩ := b
  go_enter Try.func13, Try.ntmps13
  have hp := Hp.start [] w
  go_upto_region 1 with (first
          | ((with_reducible apply sx_box hp); (first | exact za rfl | exact zu rfl | exact zi rfl | exact zb rfl | exact zr rfl | exact zs rfl | exact zf rfl | exact zg rfl | exact zn rfl | exact zv rfl | exact zw rfl); exact rfl; clear hp; (try clear w1); intro g w1 hp; simp only [zp, zq, z0, z1])
          | ((with_reducible apply sx_alloc hp); infer_instance; exact rfl; clear hp; (try clear w1); intro g w1 hp; simp only [zp, zq, z0, z1]))
  have hq := hp
  refine wp_drawnG_hp hp hq [] (.q 0 (.q 1 (.q 3 (.q 4 (.p 2 (.p 5 (.q 6 (.q 7 (.q 8 (.q 9 (.q 11 (.q 12 (.p 10 (.p 13 (.q 14 (.q 15 (.q 16 (.q 17 (.q 18 (.q 20 (.q 21 (.p 19 (.p 22 (.q 23 (.q 24 (.q 25 (.p 26 (.q 27 (.q 28 .nil))))))))))))))))))))))))))))) (by kernel_rfl) (by kernel_rfl) ?_
  clear hp hq; (try clear w1); intro w1 hp hq
  repeat' (first
    | (((with_reducible apply sg_q); exact zo rfl); (first
        | ((with_reducible apply sg_load_agg hp); exact rfl; exact zt rfl; infer_instance; infer_instance; (first | exact zl rfl | exact LB_le (by omega)); (first | (with_reducible exact LB_set (by omega)) | (simp only [n0, Nat.reduceAdd, n1, n2, n3, n4, n5, n6, n7, n8, n9]; try rfl)); simp only [zp, zq, z0, z1])
        | ((with_reducible apply sg_move hp); (first | exact zb rfl | exact zi rfl); simp only [zp, zq, z0, z1])
        | ((with_reducible apply sg_assign hp); exact zb rfl; simp only [zp, zq, z0, z1])
        | ((with_reducible apply sg_pure hp); exact rfl; (focus (intro _; go_simp; (try go_ints); try with_reducible rfl)); simp only [zp, zq, z0, z1])
        | ((with_reducible apply sg_skip hp); exact rfl; simp only [zp, zq, z0, z1])))
    | (((with_reducible apply sg_p); exact zo rfl); (first
        | ((with_reducible apply sg_call hp); exact rfl; (focus (intro _; go_simp; try first | with_reducible rfl | exact ⟨rfl, rfl⟩)); (with_reducible first | exact fun w => A1.out w | exact fun w => A2.out w | exact fun w => A3.out w | exact fun w => A4.out w | exact fun w => A5.out w | exact fun w => A6.out w | exact fun w => awake3 w); simp only [zp, zq, z0, z1])
        | ((with_reducible apply sg_skipP hp); exact rfl; simp only [zp, zq, z0, z1])))
    | ((with_reducible apply sg_nil hq); clear hp hq; (try clear w1); intro w1 hp))
  go_wp2
  exact bodyPost_ret (results_one rfl rfl) rfl ⟨rfl, hp.keep⟩
set_option maxHeartbeats 2000000 in
theorem vecnear_law (a : P3) (ha : a.i64) (b : P3) (hb : b.i64) (k : Int) (hk : I64 k) (w : World) : Calls Try.prog 10 #[PV a, PV b, .int .i64 k] w (Ret (.bool true) w) := by
  have A1 := Lib.hid (vnear_any a b k ha hb hk)
  have A2 := Lib.hid (r3near_any a b k ha hb hk)
  have A3 := Lib.hid (vmove_any a b k ha hb hk)
  have A4 := Lib.hid (r3move_any a b k ha hb hk)
  clear ha hb hk
  generalize nearv a b k = r at *
  generalize a.cmove b k = s at *
  obtain ⟨ax, ay, az⟩ := a
  obtain ⟨bx, by', bz⟩ := b
  go_enter Try.func10, Try.ntmps10
  have hp := Hp.start [] w
  go_upto_region 1 with (first
          | ((with_reducible apply sx_box hp); (first | exact za rfl | exact zu rfl | exact zi rfl | exact zb rfl | exact zr rfl | exact zs rfl | exact zf rfl | exact zg rfl | exact zn rfl | exact zv rfl | exact zw rfl); exact rfl; clear hp; (try clear w1); intro g w1 hp; simp only [zp, zq, z0, z1])
          | ((with_reducible apply sx_alloc hp); infer_instance; exact rfl; clear hp; (try clear w1); intro g w1 hp; simp only [zp, zq, z0, z1]))
  have hq := hp
  refine wp_drawnG_hp hp hq [] (.q 0 (.q 1 (.q 2 (.q 4 (.q 5 (.q 6 (.p 3 (.p 7 (.q 8 (.q 9 (.q 10 (.q 11 (.q 12 (.q 14 (.q 15 (.q 16 (.p 13 (.p 17 (.q 18 (.q 19 (.q 20 (.p 21 (.q 22 (.q 23 .nil)))))))))))))))))))))))) (by kernel_rfl) (by kernel_rfl) ?_
  clear hp hq; (try clear w1); intro w1 hp hq
  repeat' (first
    | (((with_reducible apply sg_q); exact zo rfl); (first
        | ((with_reducible apply sg_load_agg hp); exact rfl; exact zt rfl; infer_instance; infer_instance; (first | exact zl rfl | exact LB_le (by omega)); (first | (with_reducible exact LB_set (by omega)) | (simp only [n0, Nat.reduceAdd, n1, n2, n3, n4, n5, n6, n7, n8, n9]; try rfl)); simp only [zp, zq, z0, z1])
        | ((with_reducible apply sg_move hp); (first | exact zb rfl | exact zi rfl); simp only [zp, zq, z0, z1])
        | ((with_reducible apply sg_assign hp); exact zb rfl; simp only [zp, zq, z0, z1])
        | ((with_reducible apply sg_pure hp); exact rfl; (focus (intro _; go_simp; (try go_ints); try with_reducible rfl)); simp only [zp, zq, z0, z1])
        | ((with_reducible apply sg_skip hp); exact rfl; simp only [zp, zq, z0, z1])))
    | (((with_reducible apply sg_p); exact zo rfl); (first
        | ((with_reducible apply sg_call hp); exact rfl; (focus (intro _; go_simp; try first | with_reducible rfl | exact ⟨rfl, rfl⟩)); (with_reducible first | exact fun w => A1.out w | exact fun w => A2.out w | exact fun w => A3.out w | exact fun w => A4.out w | exact fun w => awake3 w); simp only [zp, zq, z0, z1])
        | ((with_reducible apply sg_skipP hp); exact rfl; simp only [zp, zq, z0, z1])))
    | ((with_reducible apply sg_nil hq); clear hp hq; (try clear w1); intro w1 hp))
  go_wp2
  exact bodyPost_ret (results_one rfl rfl) rfl ⟨rfl, hp.keep⟩
set_option maxHeartbeats 2000000 in
theorem vecunit_core (a u : P3) (o : Bool) (A1 : Hid (∀ w, Calls Try.prog 20 #[PV a] w (Ret (.tuple #[PV u, .bool o]) w))) (A2 : Hid (∀ w, Calls Try.prog 21 #[PV a] w (Ret (.tuple #[PV u, .bool o]) w))) (w : World) : Calls Try.prog 5 #[PV a] w (Ret (.bool true) w) := by
  obtain ⟨ax, ay, az⟩ := a
  obtain ⟨ux, uy, uz⟩ := u
  go_enter Try.func5, Try.ntmps5
  have hp := Hp.start [] w
  go_wp2_with (first
          | ((with_reducible apply sx_guard); (conv => whnf); refine Bx.mk ?_; (try simp only [zp, zq, z0, z1]))
          | ((with_reducible apply sx_box hp); exact za rfl; exact rfl; clear hp; (try clear w1); intro g w1 hp; simp only [zp, zq, z0, z1])
          | ((with_reducible apply sx_alloc hp); infer_instance; exact rfl; clear hp; (try clear w1); intro g w1 hp; simp only [zp, zq, z0, z1])
          | ((with_reducible apply sx_load_agg hp); exact zt rfl; infer_instance; infer_instance; (first | exact zl rfl | exact LB_le (by omega)); (first | (with_reducible exact LB_set (by omega)) | (simp only [n0, Nat.reduceAdd, n1, n2, n3, n4, n5, n6, n7, n8, n9]; try rfl)); simp only [zp, zq, z0, z1])
          | ((with_reducible apply sx_store hp); exact zt rfl; exact za rfl; exact rfl; (first | exact AggTy.size | exact OneTy.size); exact rfl; infer_instance; (first | (with_reducible exact LB_set (by omega)) | (simp only [n0, Nat.reduceAdd, n1, n2, n3, n4, n5, n6, n7, n8, n9]; try rfl)); (first | exact zl rfl | exact LB_le (by omega)); exact rfl; infer_instance; clear hp; (try clear w1); intro w1 hp)
          | ((with_reducible first | refine sx_call hp (A1.out _) ?_ | refine sx_call hp (A2.out _) ?_ | refine sx_call hp (awake3 _) ?_); clear hp; (try clear w1); intro w1 hp))
  exact bodyPost_ret (results_one rfl rfl) rfl ⟨rfl, hp.keep⟩
theorem unitV_two (a : P3) : ∃ u : P3, ∃ o : Bool, unitV a = .tuple #[PV u, .bool o] ∧ (o = true → u = a.cunit ∧ ¬ (a.x = 0 ∧ a.y = 0 ∧ a.z = 0)) ∧ (o = false → u = ⟨0, 0, 0⟩ ∧ a.x = 0 ∧ a.y = 0 ∧ a.z = 0) := by
  unfold unitV
  split
  · rename_i h
    exact ⟨⟨0, 0, 0⟩, false, rfl, fun h => absurd h (by decide), fun _ => ⟨rfl, h⟩⟩
  · rename_i h
    exact ⟨a.cunit, true, rfl, fun _ => ⟨rfl, h⟩, fun h => absurd h (by decide)⟩
theorem vecunit_law (a : P3) (ha : a.i64) (w : World) : Calls Try.prog 5 #[PV a] w (Ret (.bool true) w) := by
  obtain ⟨u, o, e, _⟩ := unitV_two a
  have h1 := vunit_any a ha
  have h2 := r3unit_any a ha
  rw [e] at h1 h2
  exact vecunit_core a u o (Lib.hid h1) (Lib.hid h2) w
end Go.Proofs.Ytnipjafcgicddaa
