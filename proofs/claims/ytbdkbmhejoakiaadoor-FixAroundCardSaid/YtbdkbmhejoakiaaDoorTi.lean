/-
  ninepinlaw02: around, FixAround (contracts).
-/
import Derived.Test.YtbdkbmhejoakiaaDoorTh
set_option linter.unusedSimpArgs false
set_option linter.unusedVariables false
set_option maxRecDepth 100000
namespace Go.Proofs.YtbdkbmhejoakiaaDoor
open Go Go.RowKit
attribute [local irreducible] wpList

set_option maxHeartbeats 8000000 in
theorem around_far (lo hi x mx mn c1 c2 : Int) (h : decide (0 < c1) = true ∨ (decide (0 < c1) = false ∧ decide (c2 < 0) = true))
    (WM : Hid (∀ w, Calls Tryd.prog 26 #[.int .i64 9223372036854775807] w (Ret (W mx) w))) (Wm : Hid (∀ w, Calls Tryd.prog 26 #[.int .i64 (-9223372036854775808)] w (Ret (W mn) w)))
    (C1 : Hid (∀ w, Calls Tryd.prog 27 #[W x, W mx] w (Ret (.int .i64 c1) w))) (C2 : Hid (∀ w, Calls Tryd.prog 27 #[W x, W mn] w (Ret (.int .i64 c2) w))) (w : World) :
    Calls Tryd.prog 25 #[.int .i64 lo, .int .i64 hi, W x] w (Ret (.bool true) w) := by
  rcases h with h | ⟨h, h1⟩
  all_goals
    go_enter Tryd.func25, Tryd.ntmps25
    have hp := Hp.start [] w
    go_upto_region 1 with (first
          | ((with_reducible apply sx_box hp); (first | exact za rfl | exact zu rfl | exact zi rfl | exact zb rfl | exact zr rfl | exact zs rfl | exact zf rfl | exact zg rfl | exact zn rfl | exact zv rfl | exact zw rfl); exact rfl; clear hp; (try clear w1); intro g w1 hp; simp only [zp, zq, z0, z1])
          | ((with_reducible apply sx_alloc hp); infer_instance; exact rfl; clear hp; (try clear w1); intro g w1 hp; simp only [zp, zq, z0, z1]))
    have hq := hp
    refine wp_drawnG_hp hp hq [] (.q 0 (.p 1 (.p 2 (.q 3 (.q 4 (.q 5 (.p 6 (.p 7 (.q 8 (.q 9 .nil)))))))))) (by kernel_rfl) (by kernel_rfl) ?_
    clear hp hq; (try clear w1); intro w1 hp hq
    repeat' (first
      | (((with_reducible apply sg_q); exact zo rfl); (first
          | ((with_reducible apply sg_load_agg hp); exact rfl; exact zt rfl; infer_instance; infer_instance; (first | exact zl rfl | exact LB_le (by omega)); (first | (with_reducible exact LB_set (by omega)) | (simp only [n0, Nat.reduceAdd, n1, n2, n3, n4, n5, n6, n7, n8, n9]; try rfl)); simp only [zp, zq, z0, z1])
          | ((with_reducible apply sg_move hp); exact zb rfl; simp only [zp, zq, z0, z1])
          | ((with_reducible apply sg_pure hp); exact rfl; (focus (intro _; go_simp; (try go_ints); try with_reducible rfl)); simp only [zp, zq, z0, z1])
          | ((with_reducible apply sg_skip hp); exact rfl; simp only [zp, zq, z0, z1])))
      | (((with_reducible apply sg_p); exact zo rfl); (first
          | ((with_reducible apply sg_call hp); exact rfl; (focus (intro _; go_simp; try first | with_reducible rfl | exact ⟨rfl, rfl⟩)); (with_reducible first | exact fun w => WM.out w | exact fun w => Wm.out w | exact fun w => C1.out w | exact fun w => C2.out w); simp only [zp, zq, z0, z1])
          | ((with_reducible apply sg_skipP hp); exact rfl; simp only [zp, zq, z0, z1])))
      | ((with_reducible apply sg_nil hq); clear hp hq; (try clear w1); intro w1 hp))
    go_wp2_with (first
          | ((with_reducible apply sx_box hp); exact za rfl; exact rfl; clear hp; (try clear w1); intro g w1 hp; simp only [zp, zq, z0, z1])
          | ((with_reducible apply sx_alloc hp); infer_instance; exact rfl; clear hp; (try clear w1); intro g w1 hp; simp only [zp, zq, z0, z1])
          | ((with_reducible apply sx_load_agg hp); exact zt rfl; infer_instance; infer_instance; (first | exact zl rfl | exact LB_le (by omega)); (first | (with_reducible exact LB_set (by omega)) | (simp only [n0, Nat.reduceAdd, n1, n2, n3, n4, n5, n6, n7, n8, n9]; try rfl)); simp only [zp, zq, z0, z1])
          | ((with_reducible apply sx_store hp); exact zt rfl; exact za rfl; exact rfl; (first | exact AggTy.size | exact OneTy.size); exact rfl; infer_instance; (first | (with_reducible exact LB_set (by omega)) | (simp only [n0, Nat.reduceAdd, n1, n2, n3, n4, n5, n6, n7, n8, n9]; try rfl)); (first | exact zl rfl | exact LB_le (by omega)); exact rfl; infer_instance; clear hp; (try clear w1); intro w1 hp))
    exact bodyPost_ret (results_one rfl rfl) rfl ⟨rfl, hp.keep⟩
set_option maxHeartbeats 8000000 in
theorem around_near (lo hi x mx mn c1 c2 a b c3 c4 : Int) (e : Bool) (h1 : decide (0 < c1) = false) (h2 : decide (c2 < 0) = false) (h3 : decide (c3 ≤ 0) = true) (h4 : decide (c4 ≤ 0) = true) (h5 : decide (wrap64 (hi - lo) ≤ 1) = true) (h6 : decide (lo ≤ hi) = true)
    (h7 : (lo == hi) = e) (HE : eqb a x = e)
    (WM : Hid (∀ w, Calls Tryd.prog 26 #[.int .i64 9223372036854775807] w (Ret (W mx) w))) (Wm : Hid (∀ w, Calls Tryd.prog 26 #[.int .i64 (-9223372036854775808)] w (Ret (W mn) w)))
    (C1 : Hid (∀ w, Calls Tryd.prog 27 #[W x, W mx] w (Ret (.int .i64 c1) w))) (C2 : Hid (∀ w, Calls Tryd.prog 27 #[W x, W mn] w (Ret (.int .i64 c2) w)))
    (WA : Hid (∀ w, Calls Tryd.prog 26 #[.int .i64 lo] w (Ret (W a) w))) (WB : Hid (∀ w, Calls Tryd.prog 26 #[.int .i64 hi] w (Ret (W b) w)))
    (C3 : Hid (∀ w, Calls Tryd.prog 27 #[W a, W x] w (Ret (.int .i64 c3) w))) (C4 : Hid (∀ w, Calls Tryd.prog 27 #[W x, W b] w (Ret (.int .i64 c4) w))) (w : World) :
    Calls Tryd.prog 25 #[.int .i64 lo, .int .i64 hi, W x] w (Ret (.bool true) w) := by
  unfold eqb at HE
  cases e
  all_goals
    go_enter Tryd.func25, Tryd.ntmps25
    have hp := Hp.start [] w
    go_upto_region 1 with (first
          | ((with_reducible apply sx_box hp); (first | exact za rfl | exact zu rfl | exact zi rfl | exact zb rfl | exact zr rfl | exact zs rfl | exact zf rfl | exact zg rfl | exact zn rfl | exact zv rfl | exact zw rfl); exact rfl; clear hp; (try clear w1); intro g w1 hp; simp only [zp, zq, z0, z1])
          | ((with_reducible apply sx_alloc hp); infer_instance; exact rfl; clear hp; (try clear w1); intro g w1 hp; simp only [zp, zq, z0, z1]))
    have hq := hp
    refine wp_drawnG_hp hp hq [] (.q 0 (.p 1 (.p 2 (.q 3 (.q 4 (.q 5 (.p 6 (.p 7 (.q 8 (.q 9 .nil)))))))))) (by kernel_rfl) (by kernel_rfl) ?_
    clear hp hq; (try clear w1); intro w1 hp hq
    repeat' (first
      | (((with_reducible apply sg_q); exact zo rfl); (first
          | ((with_reducible apply sg_load_agg hp); exact rfl; exact zt rfl; infer_instance; infer_instance; (first | exact zl rfl | exact LB_le (by omega)); (first | (with_reducible exact LB_set (by omega)) | (simp only [n0, Nat.reduceAdd, n1, n2, n3, n4, n5, n6, n7, n8, n9]; try rfl)); simp only [zp, zq, z0, z1])
          | ((with_reducible apply sg_move hp); exact zb rfl; simp only [zp, zq, z0, z1])
          | ((with_reducible apply sg_pure hp); exact rfl; (focus (intro _; go_simp; (try go_ints); try with_reducible rfl)); simp only [zp, zq, z0, z1])
          | ((with_reducible apply sg_skip hp); exact rfl; simp only [zp, zq, z0, z1])))
      | (((with_reducible apply sg_p); exact zo rfl); (first
          | ((with_reducible apply sg_call hp); exact rfl; (focus (intro _; go_simp; try first | with_reducible rfl | exact ⟨rfl, rfl⟩)); (with_reducible first | exact fun w => WM.out w | exact fun w => Wm.out w | exact fun w => C1.out w | exact fun w => C2.out w); simp only [zp, zq, z0, z1])
          | ((with_reducible apply sg_skipP hp); exact rfl; simp only [zp, zq, z0, z1])))
      | ((with_reducible apply sg_nil hq); clear hp hq; (try clear w1); intro w1 hp))
    go_wp2_with (first
          | ((with_reducible apply sx_guard); (conv => whnf); refine Bx.mk ?_; (try simp only [zp, zq, z0, z1]))
          | ((with_reducible apply sx_box hp); exact za rfl; exact rfl; clear hp; (try clear w1); intro g w1 hp; simp only [zp, zq, z0, z1])
          | ((with_reducible apply sx_alloc hp); infer_instance; exact rfl; clear hp; (try clear w1); intro g w1 hp; simp only [zp, zq, z0, z1])
          | ((with_reducible apply sx_load_agg hp); exact zt rfl; infer_instance; infer_instance; (first | exact zl rfl | exact LB_le (by omega)); (first | (with_reducible exact LB_set (by omega)) | (simp only [n0, Nat.reduceAdd, n1, n2, n3, n4, n5, n6, n7, n8, n9]; try rfl)); simp only [zp, zq, z0, z1])
          | ((with_reducible apply sx_store hp); exact zt rfl; exact za rfl; exact rfl; (first | exact AggTy.size | exact OneTy.size); exact rfl; infer_instance; (first | (with_reducible exact LB_set (by omega)) | (simp only [n0, Nat.reduceAdd, n1, n2, n3, n4, n5, n6, n7, n8, n9]; try rfl)); (first | exact zl rfl | exact LB_le (by omega)); exact rfl; infer_instance; clear hp; (try clear w1); intro w1 hp)
          | ((with_reducible first | refine sx_call hp (WA.out _) ?_ | refine sx_call hp (WB.out _) ?_ | refine sx_call hp (C3.out _) ?_ | refine sx_call hp (C4.out _) ?_); clear hp; (try clear w1); intro w1 hp))
    exact bodyPost_ret (results_one rfl rfl) rfl ⟨rfl, hp.keep⟩
/-- An exact product, and its roundings. -/
theorem around_any (x : Int) (hx : -85070591730234615865843651857942052864 ≤ x ∧ x ≤ 85070591730234615865843651857942052864) (w : World) :
    Calls Tryd.prog 25 #[.int .i64 (cl (x / 4294967296)), .int .i64 (cl (qv x 4294967296 true)), W x] w (Ret (.bool true) w) := by
  have fx : Fit x := by unfold Fit M511; omega
  have WM := wides_any 9223372036854775807 (by unfold I64; omega)
  have Wm := wides_any (-9223372036854775808) (by unfold I64; omega)
  have fM : Fit (9223372036854775807 * 4294967296) := by unfold Fit M511; omega
  have fm : Fit (-9223372036854775808 * 4294967296) := by unfold Fit M511; omega
  have C1 := cmp_any x _ fx fM
  have C2 := cmp_any x _ fx fm
  by_cases k1 : 9223372036854775807 * 4294967296 < x
  · exact around_far _ _ x _ _ _ _ (.inl (decide_eq_true (cmp_pos.2 k1))) (Lib.hid WM) (Lib.hid Wm) (Lib.hid C1) (Lib.hid C2) w
  · by_cases k2 : x < -9223372036854775808 * 4294967296
    · exact around_far _ _ x _ _ _ _ (.inr ⟨decide_eq_false (fun h => k1 (cmp_pos.1 h)), decide_eq_true (cmp_neg.2 k2)⟩) (Lib.hid WM) (Lib.hid Wm) (Lib.hid C1) (Lib.hid C2) w
    · obtain ⟨q1, q2, q3⟩ := qv_pos (n := x) (b := 4294967296) (by omega) (fit32 hx)
      have b1 : -9223372036854775808 ≤ x / 4294967296 ∧ x / 4294967296 ≤ 9223372036854775807 := by omega
      have b2 : -9223372036854775808 ≤ qv x 4294967296 true ∧ qv x 4294967296 true ≤ 9223372036854775807 := by omega
      have i1 : I64 (x / 4294967296) := by unfold I64; omega
      have i2 : I64 (qv x 4294967296 true) := by unfold I64; omega
      rw [cl_id i1, cl_id i2]
      have f1 : Fit (x / 4294967296 * 4294967296) := by unfold Fit M511; omega
      have f2 : Fit (qv x 4294967296 true * 4294967296) := by unfold Fit M511; omega
      have e1 : (x / 4294967296 == qv x 4294967296 true) = decide (x / 4294967296 * 4294967296 = x) := by
        rw [Bool.eq_iff_iff, beq_iff_eq, decide_eq_true_iff]
        omega
      exact around_near _ _ x _ _ _ _ _ _ _ _ _ (decide_eq_false (fun h => k1 (cmp_pos.1 h))) (decide_eq_false (fun h => k2 (cmp_neg.1 h))) (decide_eq_true (cmp_le.2 (by omega))) (decide_eq_true (cmp_le.2 (by omega))) (decide_eq_true (by unfold wrap64; omega)) (decide_eq_true (by omega))
        e1 (eqb_fit f1 fx) (Lib.hid WM) (Lib.hid Wm) (Lib.hid C1) (Lib.hid C2) (Lib.hid (wides_any _ i1)) (Lib.hid (wides_any _ i2)) (Lib.hid (cmp_any _ _ f1 fx)) (Lib.hid (cmp_any _ _ fx f2)) w
def HM (a b p lo hi : Int) : Prop := (∀ w, Calls Tryd.prog 24 #[.int .i64 a] w (Ret (W a) w)) ∧ (∀ w, Calls Tryd.prog 24 #[.int .i64 b] w (Ret (W b) w)) ∧ (∀ w, Calls Tryd.prog 23 #[W a, W b] w (Ret (.tuple #[W p, .bool true]) w)) ∧
  (∀ w, Calls Tryd.prog 17 #[.int .i64 a, .int .i64 b] w (Ret (.int .i64 lo) w)) ∧ (∀ w, Calls Tryd.prog 18 #[.int .i64 a, .int .i64 b] w (Ret (.int .i64 hi) w)) ∧ (∀ w, Calls Tryd.prog 25 #[.int .i64 lo, .int .i64 hi, W p] w (Ret (.bool true) w))
set_option maxHeartbeats 8000000 in
theorem faround_zero (a p lo hi : Int) (H : HM a 0 p lo hi) (w : World) : Calls Tryd.prog 7 #[.int .i64 a, .int .i64 0] w (Ret (.bool true) w) := by
  obtain ⟨h1, h2, h3, h4, h5, h6⟩ := H
  have OA := Lib.hid h1
  have OB := Lib.hid h2
  have MP := Lib.hid h3
  have F1 := Lib.hid h4
  have F2 := Lib.hid h5
  have AR := Lib.hid h6
  clear h1 h2 h3 h4 h5 h6
  go_enter Tryd.func7, Tryd.ntmps7
  have hp := Hp.start [] w
  go_upto_region 2 with (first
          | ((with_reducible apply sx_alloc hp); infer_instance; exact rfl; clear hp; (try clear w1); intro g w1 hp; simp only [zp, zq, z0, z1])
          | ((with_reducible apply sx_load_agg hp); exact zt rfl; infer_instance; infer_instance; (first | exact zl rfl | exact LB_le (by omega)); (first | (with_reducible exact LB_set (by omega)) | (simp only [n0, Nat.reduceAdd, n1, n2, n3, n4, n5, n6, n7, n8, n9]; try rfl)); simp only [zp, zq, z0, z1])
          | ((with_reducible apply sx_store hp); exact zt rfl; exact za rfl; exact rfl; (first | exact AggTy.size | exact OneTy.size); exact rfl; infer_instance; (first | (with_reducible exact LB_set (by omega)) | (simp only [n0, Nat.reduceAdd, n1, n2, n3, n4, n5, n6, n7, n8, n9]; try rfl)); (first | exact zl rfl | exact LB_le (by omega)); exact rfl; infer_instance; clear hp; (try clear w1); intro w1 hp)
          | ((with_reducible first | refine sx_call hp (OA.out _) ?_ | refine sx_call hp (OB.out _) ?_ | refine sx_call hp (MP.out _) ?_); clear hp; (try clear w1); intro w1 hp))
  have hq := hp
  refine wp_drawnG_hp hp hq [] (.q 0 (.q 1 (.q 2 (.q 3 (.q 4 (.q 6 (.q 7 (.q 9 (.p 5 (.p 8 (.p 10 (.q 11 (.q 12 .nil))))))))))))) (by kernel_rfl) (by kernel_rfl) ?_
  clear hp hq; (try clear w1); intro w1 hp hq
  repeat' (first
    | (((with_reducible apply sg_q); exact zo rfl); (first
        | ((with_reducible apply sg_load_agg hp); exact rfl; exact zt rfl; infer_instance; infer_instance; (first | exact zl rfl | exact LB_le (by omega)); (first | (with_reducible exact LB_set (by omega)) | (simp only [n0, Nat.reduceAdd, n1, n2, n3, n4, n5, n6, n7, n8, n9]; try rfl)); simp only [zp, zq, z0, z1])
        | ((with_reducible apply sg_move hp); (first | exact zb rfl | exact zi rfl); simp only [zp, zq, z0, z1])
        | ((with_reducible apply sg_pure hp); exact rfl; (focus (intro _; go_simp; (try go_ints); try with_reducible rfl)); simp only [zp, zq, z0, z1])
        | ((with_reducible apply sg_skip hp); exact rfl; simp only [zp, zq, z0, z1])))
    | (((with_reducible apply sg_p); exact zo rfl); (first
        | ((with_reducible apply sg_call hp); exact rfl; (focus (intro _; go_simp; try first | with_reducible rfl | exact ⟨rfl, rfl⟩)); (with_reducible first | exact fun w => F1.out w | exact fun w => F2.out w | exact fun w => AR.out w); simp only [zp, zq, z0, z1])
        | ((with_reducible apply sg_skipP hp); exact rfl; simp only [zp, zq, z0, z1])))
    | ((with_reducible apply sg_nil hq); clear hp hq; (try clear w1); intro w1 hp))
  go_wp2_with (first
          | ((with_reducible apply sx_alloc hp); infer_instance; exact rfl; clear hp; (try clear w1); intro g w1 hp; simp only [zp, zq, z0, z1])
          | ((with_reducible apply sx_load_agg hp); exact zt rfl; infer_instance; infer_instance; (first | exact zl rfl | exact LB_le (by omega)); (first | (with_reducible exact LB_set (by omega)) | (simp only [n0, Nat.reduceAdd, n1, n2, n3, n4, n5, n6, n7, n8, n9]; try rfl)); simp only [zp, zq, z0, z1])
          | ((with_reducible apply sx_store hp); exact zt rfl; exact za rfl; exact rfl; (first | exact AggTy.size | exact OneTy.size); exact rfl; infer_instance; (first | (with_reducible exact LB_set (by omega)) | (simp only [n0, Nat.reduceAdd, n1, n2, n3, n4, n5, n6, n7, n8, n9]; try rfl)); (first | exact zl rfl | exact LB_le (by omega)); exact rfl; infer_instance; clear hp; (try clear w1); intro w1 hp)
          | ((with_reducible refine sx_call hp (awake2 _) ?_); clear hp; (try clear w1); intro w1 hp))
  exact bodyPost_ret (results_one rfl rfl) rfl ⟨rfl, hp.keep⟩
set_option maxHeartbeats 8000000 in
theorem faround_edge (a b p lo hi d u : Int) (hb : (b == 0) = false) (H : HM a b p lo hi)
    (hd : (d == 9223372036854775807) = true ∨ ((d == 9223372036854775807) = false ∧ (u == 9223372036854775807) = true) ∨ ((d == 9223372036854775807) = false ∧ (u == 9223372036854775807) = false ∧ (d == -9223372036854775808) = true) ∨ ((d == 9223372036854775807) = false ∧ (u == 9223372036854775807) = false ∧ (d == -9223372036854775808) = false ∧ (u == -9223372036854775808) = true))
    (D1 : Hid (∀ w, Calls Tryd.prog 19 #[.int .i64 a, .int .i64 b] w (Ret (.int .i64 d) w))) (D2 : Hid (∀ w, Calls Tryd.prog 20 #[.int .i64 a, .int .i64 b] w (Ret (.int .i64 u) w))) (w : World) :
    Calls Tryd.prog 7 #[.int .i64 a, .int .i64 b] w (Ret (.bool true) w) := by
  obtain ⟨h1, h2, h3, h4, h5, h6⟩ := H
  have OA := Lib.hid h1
  have OB := Lib.hid h2
  have MP := Lib.hid h3
  have F1 := Lib.hid h4
  have F2 := Lib.hid h5
  have AR := Lib.hid h6
  clear h1 h2 h3 h4 h5 h6
  rcases hd with k1 | ⟨k1, k2⟩ | ⟨k1, k2, k3⟩ | ⟨k1, k2, k3, k4⟩
  all_goals
    go_enter Tryd.func7, Tryd.ntmps7
    have hp := Hp.start [] w
    go_upto_region 2 with (first
          | ((with_reducible apply sx_alloc hp); infer_instance; exact rfl; clear hp; (try clear w1); intro g w1 hp; simp only [zp, zq, z0, z1])
          | ((with_reducible apply sx_load_agg hp); exact zt rfl; infer_instance; infer_instance; (first | exact zl rfl | exact LB_le (by omega)); (first | (with_reducible exact LB_set (by omega)) | (simp only [n0, Nat.reduceAdd, n1, n2, n3, n4, n5, n6, n7, n8, n9]; try rfl)); simp only [zp, zq, z0, z1])
          | ((with_reducible apply sx_store hp); exact zt rfl; exact za rfl; exact rfl; (first | exact AggTy.size | exact OneTy.size); exact rfl; infer_instance; (first | (with_reducible exact LB_set (by omega)) | (simp only [n0, Nat.reduceAdd, n1, n2, n3, n4, n5, n6, n7, n8, n9]; try rfl)); (first | exact zl rfl | exact LB_le (by omega)); exact rfl; infer_instance; clear hp; (try clear w1); intro w1 hp)
          | ((with_reducible first | refine sx_call hp (OA.out _) ?_ | refine sx_call hp (OB.out _) ?_ | refine sx_call hp (MP.out _) ?_); clear hp; (try clear w1); intro w1 hp))
    have hq := hp
    refine wp_drawnG_hp hp hq [] (.q 0 (.q 1 (.q 2 (.q 3 (.q 4 (.q 6 (.q 7 (.q 9 (.p 5 (.p 8 (.p 10 (.q 11 (.q 12 .nil))))))))))))) (by kernel_rfl) (by kernel_rfl) ?_
    clear hp hq; (try clear w1); intro w1 hp hq
    repeat' (first
      | (((with_reducible apply sg_q); exact zo rfl); (first
          | ((with_reducible apply sg_load_agg hp); exact rfl; exact zt rfl; infer_instance; infer_instance; (first | exact zl rfl | exact LB_le (by omega)); (first | (with_reducible exact LB_set (by omega)) | (simp only [n0, Nat.reduceAdd, n1, n2, n3, n4, n5, n6, n7, n8, n9]; try rfl)); simp only [zp, zq, z0, z1])
          | ((with_reducible apply sg_move hp); (first | exact zb rfl | exact zi rfl); simp only [zp, zq, z0, z1])
          | ((with_reducible apply sg_pure hp); exact rfl; (focus (intro _; go_simp; (try go_ints); try with_reducible rfl)); simp only [zp, zq, z0, z1])
          | ((with_reducible apply sg_skip hp); exact rfl; simp only [zp, zq, z0, z1])))
      | (((with_reducible apply sg_p); exact zo rfl); (first
          | ((with_reducible apply sg_call hp); exact rfl; (focus (intro _; go_simp; try first | with_reducible rfl | exact ⟨rfl, rfl⟩)); (with_reducible first | exact fun w => F1.out w | exact fun w => F2.out w | exact fun w => AR.out w); simp only [zp, zq, z0, z1])
          | ((with_reducible apply sg_skipP hp); exact rfl; simp only [zp, zq, z0, z1])))
      | ((with_reducible apply sg_nil hq); clear hp hq; (try clear w1); intro w1 hp))
    go_wp2_with (first
          | ((with_reducible apply sx_guard); (conv => whnf); refine Bx.mk ?_; (try simp only [zp, zq, z0, z1]))
          | ((with_reducible apply sx_alloc hp); infer_instance; exact rfl; clear hp; (try clear w1); intro g w1 hp; simp only [zp, zq, z0, z1])
          | ((with_reducible apply sx_load_agg hp); exact zt rfl; infer_instance; infer_instance; (first | exact zl rfl | exact LB_le (by omega)); (first | (with_reducible exact LB_set (by omega)) | (simp only [n0, Nat.reduceAdd, n1, n2, n3, n4, n5, n6, n7, n8, n9]; try rfl)); simp only [zp, zq, z0, z1])
          | ((with_reducible apply sx_store hp); exact zt rfl; exact za rfl; exact rfl; (first | exact AggTy.size | exact OneTy.size); exact rfl; infer_instance; (first | (with_reducible exact LB_set (by omega)) | (simp only [n0, Nat.reduceAdd, n1, n2, n3, n4, n5, n6, n7, n8, n9]; try rfl)); (first | exact zl rfl | exact LB_le (by omega)); exact rfl; infer_instance; clear hp; (try clear w1); intro w1 hp)
          | ((with_reducible first | refine sx_call hp (D1.out _) ?_ | refine sx_call hp (D2.out _) ?_ | refine sx_call hp (awake2 _) ?_); clear hp; (try clear w1); intro w1 hp))
    exact bodyPost_ret (results_one rfl rfl) rfl ⟨rfl, hp.keep⟩
set_option maxHeartbeats 16000000 in
theorem faround_core (a b p lo hi d u x y n c1 c2 : Int) (e : Bool) (hb : (b == 0) = false) (H : HM a b p lo hi)
    (k1 : (d == 9223372036854775807) = false) (k2 : (u == 9223372036854775807) = false) (k3 : (d == -9223372036854775808) = false) (k4 : (u == -9223372036854775808) = false)
    (h1' : decide (c1 ≤ 0) = true) (h2' : decide (c2 ≤ 0) = true) (h5 : decide (wrap64 (u - d) ≤ 1) = true) (h6 : decide (d ≤ u) = true) (h7 : (d == u) = e)
    (D1 : Hid (∀ w, Calls Tryd.prog 19 #[.int .i64 a, .int .i64 b] w (Ret (.int .i64 d) w))) (D2 : Hid (∀ w, Calls Tryd.prog 20 #[.int .i64 a, .int .i64 b] w (Ret (.int .i64 u) w)))
    (OD : Hid (∀ w, Calls Tryd.prog 24 #[.int .i64 d] w (Ret (W d) w))) (OU : Hid (∀ w, Calls Tryd.prog 24 #[.int .i64 u] w (Ret (W u) w)))
    (MX : Hid (∀ w, Calls Tryd.prog 23 #[W d, W b] w (Ret (.tuple #[W x, .bool true]) w))) (MY : Hid (∀ w, Calls Tryd.prog 23 #[W u, W b] w (Ret (.tuple #[W y, .bool true]) w)))
    (WN : Hid (∀ w, Calls Tryd.prog 26 #[.int .i64 a] w (Ret (W n) w)))
    (HC : (decide (b < 0) = false ∧ eqb x y = e ∧ Hid (∀ w, Calls Tryd.prog 27 #[W x, W n] w (Ret (.int .i64 c1) w)) ∧ Hid (∀ w, Calls Tryd.prog 27 #[W n, W y] w (Ret (.int .i64 c2) w))) ∨
      (decide (b < 0) = true ∧ eqb y x = e ∧ Hid (∀ w, Calls Tryd.prog 27 #[W y, W n] w (Ret (.int .i64 c1) w)) ∧ Hid (∀ w, Calls Tryd.prog 27 #[W n, W x] w (Ret (.int .i64 c2) w)))) (w : World) :
    Calls Tryd.prog 7 #[.int .i64 a, .int .i64 b] w (Ret (.bool true) w) := by
  obtain ⟨h1, h2, h3, h4, h5', h6'⟩ := H
  have OA := Lib.hid h1
  have OB := Lib.hid h2
  have MP := Lib.hid h3
  have F1 := Lib.hid h4
  have F2 := Lib.hid h5'
  have AR := Lib.hid h6'
  clear h1 h2 h3 h4 h5' h6'
  unfold eqb at HC
  rcases HC with ⟨k5, HE, C1, C2⟩ | ⟨k5, HE, C1, C2⟩
  all_goals
    cases e
  all_goals
    go_enter Tryd.func7, Tryd.ntmps7
    have hp := Hp.start [] w
    go_upto_region 2 with (first
          | ((with_reducible apply sx_alloc hp); infer_instance; exact rfl; clear hp; (try clear w1); intro g w1 hp; simp only [zp, zq, z0, z1])
          | ((with_reducible apply sx_load_agg hp); exact zt rfl; infer_instance; infer_instance; (first | exact zl rfl | exact LB_le (by omega)); (first | (with_reducible exact LB_set (by omega)) | (simp only [n0, Nat.reduceAdd, n1, n2, n3, n4, n5, n6, n7, n8, n9]; try rfl)); simp only [zp, zq, z0, z1])
          | ((with_reducible apply sx_store hp); exact zt rfl; exact za rfl; exact rfl; (first | exact AggTy.size | exact OneTy.size); exact rfl; infer_instance; (first | (with_reducible exact LB_set (by omega)) | (simp only [n0, Nat.reduceAdd, n1, n2, n3, n4, n5, n6, n7, n8, n9]; try rfl)); (first | exact zl rfl | exact LB_le (by omega)); exact rfl; infer_instance; clear hp; (try clear w1); intro w1 hp)
          | ((with_reducible first | refine sx_call hp (OA.out _) ?_ | refine sx_call hp (OB.out _) ?_ | refine sx_call hp (MP.out _) ?_); clear hp; (try clear w1); intro w1 hp))
    have hq := hp
    refine wp_drawnG_hp hp hq [] (.q 0 (.q 1 (.q 2 (.q 3 (.q 4 (.q 6 (.q 7 (.q 9 (.p 5 (.p 8 (.p 10 (.q 11 (.q 12 .nil))))))))))))) (by kernel_rfl) (by kernel_rfl) ?_
    clear hp hq; (try clear w1); intro w1 hp hq
    repeat' (first
      | (((with_reducible apply sg_q); exact zo rfl); (first
          | ((with_reducible apply sg_load_agg hp); exact rfl; exact zt rfl; infer_instance; infer_instance; (first | exact zl rfl | exact LB_le (by omega)); (first | (with_reducible exact LB_set (by omega)) | (simp only [n0, Nat.reduceAdd, n1, n2, n3, n4, n5, n6, n7, n8, n9]; try rfl)); simp only [zp, zq, z0, z1])
          | ((with_reducible apply sg_move hp); (first | exact zb rfl | exact zi rfl); simp only [zp, zq, z0, z1])
          | ((with_reducible apply sg_pure hp); exact rfl; (focus (intro _; go_simp; (try go_ints); try with_reducible rfl)); simp only [zp, zq, z0, z1])
          | ((with_reducible apply sg_skip hp); exact rfl; simp only [zp, zq, z0, z1])))
      | (((with_reducible apply sg_p); exact zo rfl); (first
          | ((with_reducible apply sg_call hp); exact rfl; (focus (intro _; go_simp; try first | with_reducible rfl | exact ⟨rfl, rfl⟩)); (with_reducible first | exact fun w => F1.out w | exact fun w => F2.out w | exact fun w => AR.out w); simp only [zp, zq, z0, z1])
          | ((with_reducible apply sg_skipP hp); exact rfl; simp only [zp, zq, z0, z1])))
      | ((with_reducible apply sg_nil hq); clear hp hq; (try clear w1); intro w1 hp))
    go_wp2_with (first
          | ((with_reducible apply sx_guard); (conv => whnf); refine Bx.mk ?_; (try simp only [zp, zq, z0, z1]))
          | ((with_reducible apply sx_alloc hp); infer_instance; exact rfl; clear hp; (try clear w1); intro g w1 hp; simp only [zp, zq, z0, z1])
          | ((with_reducible apply sx_load_agg hp); exact zt rfl; infer_instance; infer_instance; (first | exact zl rfl | exact LB_le (by omega)); (first | (with_reducible exact LB_set (by omega)) | (simp only [n0, Nat.reduceAdd, n1, n2, n3, n4, n5, n6, n7, n8, n9]; try rfl)); simp only [zp, zq, z0, z1])
          | ((with_reducible apply sx_store hp); exact zt rfl; exact za rfl; exact rfl; (first | exact AggTy.size | exact OneTy.size); exact rfl; infer_instance; (first | (with_reducible exact LB_set (by omega)) | (simp only [n0, Nat.reduceAdd, n1, n2, n3, n4, n5, n6, n7, n8, n9]; try rfl)); (first | exact zl rfl | exact LB_le (by omega)); exact rfl; infer_instance; clear hp; (try clear w1); intro w1 hp)
          | ((with_reducible first | refine sx_call hp (D1.out _) ?_ | refine sx_call hp (D2.out _) ?_ | refine sx_call hp (OD.out _) ?_ | refine sx_call hp (OU.out _) ?_ | refine sx_call hp (OB.out _) ?_ | refine sx_call hp (MX.out _) ?_ | refine sx_call hp (MY.out _) ?_ | refine sx_call hp (WN.out _) ?_ | refine sx_call hp (C1.out _) ?_ | refine sx_call hp (C2.out _) ?_ | refine sx_call hp (awake2 _) ?_); clear hp; (try clear w1); intro w1 hp))
    exact bodyPost_ret (results_one rfl rfl) rfl ⟨rfl, hp.keep⟩
theorem cl_in {n : Int} (h : ¬ cl n = 9223372036854775807) (h1 : ¬ cl n = -9223372036854775808) : cl n = n := by
  unfold cl at *
  split
  · rename_i h2; rw [if_pos h2] at h1; omega
  · split
    · rename_i h2 h3; rw [if_neg h2, if_pos h3] at h; omega
    · rfl
/-- A quotient's roundings, times the divisor. -/
theorem quot_facts {a b : Int} (ha : I64 a) (hb : I64 b) (h0 : b ≠ 0) (h1 : ¬ dq a b = 9223372036854775807) (h2 : ¬ dq a b = -9223372036854775808) (h3 : ¬ dqU a b = 9223372036854775807) (h4 : ¬ dqU a b = -9223372036854775808) :
    (dqU a b = dq a b ∨ dqU a b = dq a b + 1) ∧ ((0 < b ∧ dq a b * b ≤ a * 4294967296 ∧ a * 4294967296 ≤ dqU a b * b) ∨ (b < 0 ∧ dqU a b * b ≤ a * 4294967296 ∧ a * 4294967296 ≤ dq a b * b)) := by
  have ed : dq a b = cl (dvq (a * 4294967296) b) := by unfold dq; rw [if_neg h0]
  have eu : dqU a b = cl (qv (a * 4294967296) b true) := by unfold dqU; rw [if_neg h0]
  rw [ed] at h1 h2
  rw [eu] at h3 h4
  rw [ed, eu, cl_in h1 h2, cl_in h3 h4]
  clear h1 h2 h3 h4 ed eu
  by_cases hp : 0 < b
  · have hf := fitdv ha hp
    obtain ⟨q1, q2, q3⟩ := qv_pos hp hf
    obtain ⟨c1, c2, _⟩ := ceil_facts (n := a * 4294967296) hp
    rw [(dv_pos hp hf).1]
    rw [Int.mul_comm _ b, Int.mul_comm _ b]
    exact ⟨by omega, .inl ⟨hp, c1, q2⟩⟩
  · have hn : b < 0 := by omega
    have hb' := ediv_bd (n := -(a * 4294967296)) (b := -b) (M := 39614081257132168796771975168) (by omega) (by unfold I64 at ha; omega) (by omega)
    have hf : Fit (-(a * 4294967296) / -b) := by unfold Fit M511; omega
    obtain ⟨d1, d2⟩ := dv_neg hn hf
    obtain ⟨c1, c2, _⟩ := ceil_facts (n := -(a * 4294967296)) (b := -b) (by omega)
    have e := Int.neg_mul b (-(a * 4294967296) / -b)
    rw [Int.mul_add, Int.mul_one] at c2
    have key : (qv (a * 4294967296) b true = -(a * 4294967296) / -b ∧ -b * (-(a * 4294967296) / -b) = -(a * 4294967296)) ∨ (qv (a * 4294967296) b true = -(a * 4294967296) / -b + 1) := by
      unfold qv
      by_cases hz : dvr (a * 4294967296) b = 0
      · rw [if_neg (by simp [hz]), d1]
        exact .inl ⟨rfl, d2.1 hz⟩
      · rw [if_pos ⟨rfl, hz⟩, d1]
        exact .inr rfl
    rw [d1]
    refine ⟨by omega, .inr ⟨hn, ?_, ?_⟩⟩
    · rcases key with ⟨k, k'⟩ | k
      · rw [k, Int.mul_comm]; omega
      · rw [k, Int.mul_comm, Int.mul_add, Int.mul_one]; omega
    · rw [Int.mul_comm (-(a * 4294967296) / -b) b]; omega
theorem faround_law (a : Int) (ha : I64 a) (b : Int) (hb : I64 b) (w : World) : Calls Tryd.prog 7 #[.int .i64 a, .int .i64 b] w (Ret (.bool true) w) := by
  have hpf := prod_i64 ha hb
  have MP := mul_any a b (fit_i64 ha) (fit_i64 hb)
  rw [show fz (a * b) = a * b from if_pos hpf, decide_eq_true hpf] at MP
  have H : HM a b (a * b) (cl (a * b / 4294967296)) (cl (qv (a * b) 4294967296 true)) := ⟨of_i64 a ha, of_i64 b hb, MP, fmul_any a b ha hb, fmulup_any a b ha hb, around_any (a * b) (i64_mul ha hb)⟩
  by_cases h0 : b = 0
  · subst h0
    exact faround_zero a _ _ _ H w
  · have hb0 : (b == 0) = false := by simpa using h0
    have D1 := Lib.hid (fdiv_any a b ha hb)
    have D2 := Lib.hid (fdivup_any a b ha hb)
    have nb : ∀ m n : Int, ¬ m = n → (m == n) = false := fun m n h => by simpa using h
    have pb : ∀ m n : Int, m = n → (m == n) = true := fun m n h => by simpa using h
    by_cases k1 : dq a b = 9223372036854775807
    · exact faround_edge a b _ _ _ _ _ hb0 H (.inl (pb _ _ k1)) D1 D2 w
    by_cases k2 : dqU a b = 9223372036854775807
    · exact faround_edge a b _ _ _ _ _ hb0 H (.inr (.inl ⟨nb _ _ k1, pb _ _ k2⟩)) D1 D2 w
    by_cases k3 : dq a b = -9223372036854775808
    · exact faround_edge a b _ _ _ _ _ hb0 H (.inr (.inr (.inl ⟨nb _ _ k1, nb _ _ k2, pb _ _ k3⟩))) D1 D2 w
    by_cases k4 : dqU a b = -9223372036854775808
    · exact faround_edge a b _ _ _ _ _ hb0 H (.inr (.inr (.inr ⟨nb _ _ k1, nb _ _ k2, nb _ _ k3, pb _ _ k4⟩))) D1 D2 w
    obtain ⟨q1, q2⟩ := quot_facts ha hb h0 k1 k3 k2 k4
    have id : I64 (dq a b) := dq_i64 a b
    have iu : I64 (dqU a b) := by
      unfold dqU
      rw [if_neg h0]
      exact cl_i64 _
    generalize dq a b = d at *
    generalize dqU a b = u at *
    have fx := prod_i64 id hb
    have fy := prod_i64 iu hb
    have fn : Fit (a * 4294967296) := by unfold I64 at ha; unfold Fit M511; omega
    have MX := mul_any d b (fit_i64 id) (fit_i64 hb)
    rw [show fz (d * b) = d * b from if_pos fx, decide_eq_true fx] at MX
    have MY := mul_any u b (fit_i64 iu) (fit_i64 hb)
    rw [show fz (u * b) = u * b from if_pos fy, decide_eq_true fy] at MY
    have he : (d == u) = decide (d * b = u * b) := by
      rw [Bool.eq_iff_iff, beq_iff_eq, decide_eq_true_iff]
      exact ⟨fun h => by rw [h], fun h => Int.eq_of_mul_eq_mul_right h0 h⟩
    have he2 : (d == u) = decide (u * b = d * b) := by
      rw [he]
      exact decide_eq_decide.2 ⟨Eq.symm, Eq.symm⟩
    have hw : decide (wrap64 (u - d) ≤ 1) = true := decide_eq_true (by unfold wrap64; omega)
    rcases q2 with ⟨s1, s2, s3⟩ | ⟨s1, s2, s3⟩
    · exact faround_core a b _ _ _ d u (d * b) (u * b) (a * 4294967296) _ _ _ hb0 H (nb _ _ k1) (nb _ _ k2) (nb _ _ k3) (nb _ _ k4) (decide_eq_true (cmp_le.2 s2)) (decide_eq_true (cmp_le.2 s3)) hw (decide_eq_true (by omega)) he D1 D2
        (Lib.hid (of_i64 d id)) (Lib.hid (of_i64 u iu)) (Lib.hid MX) (Lib.hid MY) (Lib.hid (wides_any a ha)) (.inl ⟨decide_eq_false (by omega), eqb_fit fx fy, Lib.hid (cmp_any _ _ fx fn), Lib.hid (cmp_any _ _ fn fy)⟩) w
    · exact faround_core a b _ _ _ d u (d * b) (u * b) (a * 4294967296) _ _ _ hb0 H (nb _ _ k1) (nb _ _ k2) (nb _ _ k3) (nb _ _ k4) (decide_eq_true (cmp_le.2 s2)) (decide_eq_true (cmp_le.2 s3)) hw (decide_eq_true (by omega)) he2 D1 D2
        (Lib.hid (of_i64 d id)) (Lib.hid (of_i64 u iu)) (Lib.hid MX) (Lib.hid MY) (Lib.hid (wides_any a ha)) (.inr ⟨decide_eq_true (by omega), eqb_fit fy fx, Lib.hid (cmp_any _ _ fy fn), Lib.hid (cmp_any _ _ fn fx)⟩) w
end Go.Proofs.YtbdkbmhejoakiaaDoor
