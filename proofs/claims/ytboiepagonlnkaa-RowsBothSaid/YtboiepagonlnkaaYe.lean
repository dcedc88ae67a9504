/-
  Package rows: Frame; ninepinlaw22.awake (contracts).
-/
import Derived.Test.YtboiepagonlnkaaYd
set_option linter.unusedSimpArgs false
set_option linter.unusedVariables false
set_option maxRecDepth 100000
namespace Go.Proofs.Ytboiepagonlnkaa
open Go Go.RowKit
attribute [local irreducible] wpList

theorem cun_i64 (a : P3) : a.cunit.i64 := by
  have h : ∀ x s, I64 (ratio x s) := fun x s => by unfold ratio; split <;> exact cl_i64 _
  exact ⟨h _ _, h _ _, h _ _⟩
/-- The frame of a direction. -/
def frO (n : P3) : P3 × P3 × Int := if (n.ccross (axv n)).x = 0 ∧ (n.ccross (axv n)).y = 0 ∧ (n.ccross (axv n)).z = 0 then (⟨0, 0, 0⟩, ⟨0, 0, 0⟩, 2) else ((n.ccross (axv n)).cunit, n.ccross (n.ccross (axv n)).cunit, 0)
set_option maxHeartbeats 4000000 in
theorem frame_any (n : P3) (hn : n.i64) (w : World) : Calls Try.prog 9 #[PV n] w (Ret (.tuple #[PV (frO n).1, PV (frO n).2.1, .int .i64 (frO n).2.2]) w) := by
  have AX := Lib.hid (axis_any n hn)
  have CR := Lib.hid (vcross_any n (axv n) hn (axv_i64 n))
  have U1 := vunit_any (n.ccross (axv n)) (ccr_i64 _ _)
  have C2 := Lib.hid (vcross_any n (n.ccross (axv n)).cunit hn (cun_i64 _))
  unfold frO
  unfold unitV at U1
  by_cases h0 : (n.ccross (axv n)).x = 0 ∧ (n.ccross (axv n)).y = 0 ∧ (n.ccross (axv n)).z = 0
  · rw [if_pos h0]
    simp only [if_pos h0] at U1
    have UN := Lib.hid U1
    clear U1 C2 h0 hn
    generalize n.ccross (axv n) = c at *
    generalize axv n = x at *
    go_enter Try.func9, Try.ntmps9
    have hp := Hp.start [] w
    go_upto_region 1 with (first
          | ((with_reducible apply sx_box hp); (first | exact za rfl | exact zu rfl | exact zi rfl | exact zb rfl | exact zr rfl | exact zs rfl | exact zf rfl | exact zg rfl | exact zn rfl | exact zv rfl | exact zw rfl); exact rfl; clear hp; (try clear w1); intro g w1 hp; simp only [zp, zq, z0, z1])
          | ((with_reducible apply sx_alloc hp); infer_instance; exact rfl; clear hp; (try clear w1); intro g w1 hp; simp only [zp, zq, z0, z1]))
    have hq := hp
    refine wp_drawnG_hp hp hq [] (.q 0 (.q 1 (.p 2 (.p 3 (.p 4 (.q 5 (.q 6 (.q 7 (.l 8 (.q 9 .nil)))))))))) (by kernel_rfl) (by kernel_rfl) ?_
    clear hp hq; (try clear w1); intro w1 hp hq
    repeat' (first
      | (((with_reducible apply sg_q); exact zo rfl); (first
          | ((with_reducible apply sg_load_agg hp); exact rfl; exact zt rfl; infer_instance; infer_instance; (first | exact zl rfl | exact LB_le (by omega)); (first | (with_reducible exact LB_set (by omega)) | (simp only [n0, Nat.reduceAdd, n1, n2, n3, n4, n5, n6, n7, n8, n9]; try rfl)); simp only [zp, zq, z0, z1])
          | ((with_reducible apply sg_move hp); exact zu rfl; simp only [zp, zq, z0, z1])
          | ((with_reducible apply sg_assign hp); exact zb rfl; simp only [zp, zq, z0, z1])
          | ((with_reducible apply sg_pure hp); exact rfl; (focus (intro _; go_simp; (try go_ints); try with_reducible rfl)); simp only [zp, zq, z0, z1])))
      | (((with_reducible apply sg_p); exact zo rfl); ((with_reducible apply sg_call hp); exact rfl; (focus (intro _; go_simp; try first | with_reducible rfl | exact ⟨rfl, rfl⟩)); (with_reducible first | exact fun w => AX.out w | exact fun w => CR.out w | exact fun w => UN.out w); simp only [zp, zq, z0, z1]))
      | (((with_reducible apply sg_l); exact zo rfl); ((with_reducible apply sg_store_far hq); exact rfl; exact zt rfl; (first | exact za rfl | exact zu rfl | exact zi rfl | exact zb rfl | exact zr rfl | exact zs rfl | exact zf rfl | exact zg rfl | exact zn rfl | exact zv rfl | exact zw rfl); exact rfl; (first | exact AggTy.size | exact OneTy.size); exact rfl; infer_instance; (first | (with_reducible exact LB_set (by omega)) | (simp only [n0, Nat.reduceAdd, n1, n2, n3, n4, n5, n6, n7, n8, n9]; try rfl)); (first | exact zl rfl | exact LB_le (by omega)); exact rfl; infer_instance; (repeat (first | exact List.Sublist.refl _ | exact List.nil_sublist _ | apply List.Sublist.cons_cons | apply List.Sublist.cons)); clear hp hq; (try clear w1); intro w1 hp hq))
      | ((with_reducible apply sg_nil hq); clear hp hq; (try clear w1); intro w1 hp))
    go_wp2_with (first
          | ((with_reducible apply sx_box hp); exact za rfl; exact rfl; clear hp; (try clear w1); intro g w1 hp; simp only [zp, zq, z0, z1])
          | ((with_reducible apply sx_alloc hp); infer_instance; exact rfl; clear hp; (try clear w1); intro g w1 hp; simp only [zp, zq, z0, z1])
          | ((with_reducible apply sx_load_agg hp); exact zt rfl; infer_instance; infer_instance; (first | exact zl rfl | exact LB_le (by omega)); (first | (with_reducible exact LB_set (by omega)) | (simp only [n0, Nat.reduceAdd, n1, n2, n3, n4, n5, n6, n7, n8, n9]; try rfl)); simp only [zp, zq, z0, z1])
          | ((with_reducible apply sx_store hp); exact zt rfl; exact za rfl; exact rfl; (first | exact AggTy.size | exact OneTy.size); exact rfl; infer_instance; (first | (with_reducible exact LB_set (by omega)) | (simp only [n0, Nat.reduceAdd, n1, n2, n3, n4, n5, n6, n7, n8, n9]; try rfl)); (first | exact zl rfl | exact LB_le (by omega)); exact rfl; infer_instance; clear hp; (try clear w1); intro w1 hp))
    exact bodyPost_ret (results_three rfl ⟨_, rfl, run_load_agg hp (Nat.le_of_ble_eq_true rfl)⟩ ⟨_, rfl, run_load_agg hp (Nat.le_of_ble_eq_true rfl)⟩ rfl) rfl ⟨rfl, hp.keep⟩
  · rw [if_neg h0]
    simp only [if_neg h0] at U1
    have UN : Hid (∀ w, Calls Try.prog 7 #[PV (n.ccross (axv n))] w (Ret (.tuple #[.agg #[.int .i64 (n.ccross (axv n)).cunit.x, .int .i64 (n.ccross (axv n)).cunit.y, .int .i64 (n.ccross (axv n)).cunit.z], .bool true]) w)) := Lib.hid U1
    clear U1 h0 hn
    generalize n.ccross (axv n) = c at *
    generalize axv n = x at *
    generalize c.cunit = t at *
    generalize n.ccross t = u at *
    go_enter Try.func9, Try.ntmps9
    have hp := Hp.start [] w
    go_upto_region 1 with (first
          | ((with_reducible apply sx_box hp); (first | exact za rfl | exact zu rfl | exact zi rfl | exact zb rfl | exact zr rfl | exact zs rfl | exact zf rfl | exact zg rfl | exact zn rfl | exact zv rfl | exact zw rfl); exact rfl; clear hp; (try clear w1); intro g w1 hp; simp only [zp, zq, z0, z1])
          | ((with_reducible apply sx_alloc hp); infer_instance; exact rfl; clear hp; (try clear w1); intro g w1 hp; simp only [zp, zq, z0, z1]))
    have hq := hp
    replace hp := hq.sub (.cons _ (.cons _ (List.Sublist.refl _)))
    refine wp_drawnG_hp hp hq [] (.q 0 (.q 1 (.p 2 (.p 3 (.p 4 (.q 5 (.q 6 (.q 7 (.l 8 (.q 9 .nil)))))))))) (by kernel_rfl) (by kernel_rfl) ?_
    clear hp hq; (try clear w1); intro w1 hp hq
    repeat' (first
      | (((with_reducible apply sg_q); exact zo rfl); (first
          | ((with_reducible apply sg_load_agg hp); exact rfl; exact zt rfl; infer_instance; infer_instance; (first | exact zl rfl | exact LB_le (by omega)); (first | (with_reducible exact LB_set (by omega)) | (simp only [n0, Nat.reduceAdd, n1, n2, n3, n4, n5, n6, n7, n8, n9]; try rfl)); simp only [zp, zq, z0, z1])
          | ((with_reducible apply sg_move hp); exact zu rfl; simp only [zp, zq, z0, z1])
          | ((with_reducible apply sg_assign hp); exact zb rfl; simp only [zp, zq, z0, z1])
          | ((with_reducible apply sg_pure hp); exact rfl; (focus (intro _; go_simp; (try go_ints); try with_reducible rfl)); simp only [zp, zq, z0, z1])))
      | (((with_reducible apply sg_p); exact zo rfl); ((with_reducible apply sg_call hp); exact rfl; (focus (intro _; go_simp; try first | with_reducible rfl | exact ⟨rfl, rfl⟩)); (with_reducible first | exact fun w => AX.out w | exact fun w => CR.out w | exact fun w => UN.out w); simp only [zp, zq, z0, z1]))
      | (((with_reducible apply sg_l); exact zo rfl); ((with_reducible apply sg_store_far hq); exact rfl; exact zt rfl; (first | exact za rfl | exact zu rfl | exact zi rfl | exact zb rfl | exact zr rfl | exact zs rfl | exact zf rfl | exact zg rfl | exact zn rfl | exact zv rfl | exact zw rfl); exact rfl; (first | exact AggTy.size | exact OneTy.size); exact rfl; infer_instance; (first | (with_reducible exact LB_set (by omega)) | (simp only [n0, Nat.reduceAdd, n1, n2, n3, n4, n5, n6, n7, n8, n9]; try rfl)); (first | exact zl rfl | exact LB_le (by omega)); exact rfl; infer_instance; (repeat (first | exact List.Sublist.refl _ | exact List.nil_sublist _ | apply List.Sublist.cons_cons | apply List.Sublist.cons)); clear hp hq; (try clear w1); intro w1 hp hq))
      | ((with_reducible apply sg_nil hq); clear hp hq; (try clear w1); intro w1 hp))
    go_upto_region 4 with fail
    have hq := hp
    replace hp := hq.sub (.cons _ (List.Sublist.refl _))
    refine wp_drawn_hp hp hq [4, 5] (.q 0 (.q 2 (.l 1 (.l 3 (.l 4 (.l 5 (.q 6 .nil))))))) (by kernel_rfl) (by kernel_rfl) ?_
    clear hp hq; (try clear w1); intro w1 hp hq
    repeat' (first
      | (((with_reducible apply sd_q); exact zo rfl); (first
          | ((with_reducible apply sd_load_agg hp); exact rfl; exact zt rfl; infer_instance; infer_instance; (first | exact zl rfl | exact LB_le (by omega)); (first | (with_reducible exact LB_set (by omega)) | (simp only [n0, Nat.reduceAdd, n1, n2, n3, n4, n5, n6, n7, n8, n9]; try rfl)); simp only [zp, zq, z0, z1])
          | ((with_reducible apply sd_assign hp); exact zi rfl; simp only [zp, zq, z0, z1])
          | ((with_reducible apply sd_pure hp); exact rfl; (focus (intro _; go_simp; (try go_ints); try with_reducible rfl)); simp only [zp, zq, z0, z1])))
      | (((with_reducible apply sd_l); exact zo rfl); (first
          | ((with_reducible apply sd_call hp); exact rfl; (focus (intro _; go_simp; try first | with_reducible rfl | exact ⟨rfl, rfl⟩)); (with_reducible exact fun w => C2.out w); exact hq; clear hp hq; (try clear w1); intro w1 hp hq; simp only [zp, zq, z0, z1])
          | ((with_reducible apply sd_store_far hq); exact rfl; exact zt rfl; (first | exact za rfl | exact zu rfl | exact zi rfl | exact zb rfl | exact zr rfl | exact zs rfl | exact zf rfl | exact zg rfl | exact zn rfl | exact zv rfl | exact zw rfl); exact rfl; (first | exact AggTy.size | exact OneTy.size); exact rfl; infer_instance; (first | (with_reducible exact LB_set (by omega)) | (simp only [n0, Nat.reduceAdd, n1, n2, n3, n4, n5, n6, n7, n8, n9]; try rfl)); (first | exact zl rfl | exact LB_le (by omega)); exact rfl; infer_instance; (repeat (first | exact List.Sublist.refl _ | exact List.nil_sublist _ | apply List.Sublist.cons_cons | apply List.Sublist.cons)); clear hp hq; (try clear w1); intro w1 hp hq)
          | ((with_reducible apply sd_store hq); exact rfl; exact zt rfl; (first | exact za rfl | exact zu rfl | exact zi rfl | exact zb rfl | exact zr rfl | exact zs rfl | exact zf rfl | exact zg rfl | exact zn rfl | exact zv rfl | exact zw rfl); exact rfl; (first | exact AggTy.size | exact OneTy.size); exact rfl; infer_instance; (first | (with_reducible exact LB_set (by omega)) | (simp only [n0, Nat.reduceAdd, n1, n2, n3, n4, n5, n6, n7, n8, n9]; try rfl)); (first | exact zl rfl | exact LB_le (by omega)); exact rfl; infer_instance; exact rfl; clear hp hq; (try clear w1); intro w1 hq; have hp := True.intro)
          | ((with_reducible apply sd_lload_agg hp hq); exact rfl; exact zt rfl; infer_instance; infer_instance; (first | exact zl rfl | exact LB_le (by omega)); (first | (with_reducible exact LB_set (by omega)) | (simp only [n0, Nat.reduceAdd, n1, n2, n3, n4, n5, n6, n7, n8, n9]; try rfl)); simp only [zp, zq, z0, z1])
          | ((with_reducible apply sd_lload_one hp hq); exact rfl; exact zt rfl; infer_instance; infer_instance; (first | exact zio rfl | exact zbo rfl | exact zro rfl | exact zso rfl | exact zfo rfl | exact zgo rfl | exact zno rfl | exact zvo rfl | exact zwo rfl | exact LB_get (by omega)); simp only [zp, zq, z0, z1])))
      | ((with_reducible apply sd_nil); clear hp; have hp := hq; clear hq))
    go_wp2
    exact bodyPost_ret (results_three rfl ⟨_, rfl, run_load_agg hp (Nat.le_of_ble_eq_true rfl)⟩ ⟨_, rfl, run_load_agg hp (Nat.le_of_ble_eq_true rfl)⟩ rfl) rfl ⟨rfl, hp.keep⟩
theorem frO_z : frO ⟨0, 0, 4294967296⟩ = (⟨0, 4294967296, 0⟩, ⟨-4294967296, 0, 0⟩, 0) := by
  have ea : P3.ccross ⟨0, 0, 4294967296⟩ (axv ⟨0, 0, 4294967296⟩) = ⟨0, 4294967296, 0⟩ := by decide
  have ed : P3.dot ⟨0, 4294967296, 0⟩ ⟨0, 4294967296, 0⟩ = 18446744073709551616 := by decide
  have hz : rt 0 = 0 := rt_uniq (by omega) (by omega) (by omega)
  have h : rt 18446744073709551616 = 4294967296 := rt_uniq (by omega) (by omega) (by omega)
  have e0 : ratio 0 18446744073709551616 = 0 := by
    unfold ratio
    rw [if_pos (by omega), show (0 : Int) * 0 * 18446744073709551616 / 18446744073709551616 = 0 by decide, hz]
    decide
  have e1 : ratio 4294967296 18446744073709551616 = 4294967296 := by
    unfold ratio
    rw [if_pos (by omega), show (4294967296 : Int) * 4294967296 * 18446744073709551616 / 18446744073709551616 = 18446744073709551616 by decide, h]
    decide
  have eu : P3.cunit ⟨0, 4294967296, 0⟩ = ⟨0, 4294967296, 0⟩ := by
    unfold P3.cunit
    rw [ed]
    dsimp only
    rw [e0, e1]
  unfold frO
  rw [ea, if_neg (by decide), eu, show P3.ccross ⟨0, 0, 4294967296⟩ ⟨0, 4294967296, 0⟩ = ⟨-4294967296, 0, 0⟩ by decide]
theorem p3i4 {x y z : Int} (h : -9223372036854775808 ≤ x ∧ x < 9223372036854775808 ∧ -9223372036854775808 ≤ y ∧ y < 9223372036854775808 ∧ -9223372036854775808 ≤ z ∧ z < 9223372036854775808) : P3.i64 ⟨x, y, z⟩ := by
  unfold P3.i64 I64
  dsimp only
  omega
def oneI : Inr := ⟨4294967296, ⟨0, 0, 0⟩, ⟨0, 0, 0⟩, ⟨0, 0, 0⟩, ⟨0, 0, 0⟩, ⟨0, 0, 0⟩⟩
set_option maxHeartbeats 8000000 in
theorem awake22 (w : World) : Calls Try.prog 8 #[] w (Ret (.bool true) w) := by
  have F1 : Hid (∀ w, Calls Try.prog 9 #[.agg #[.int .i64 0, .int .i64 0, .int .i64 4294967296]] w (Ret (.tuple #[.agg #[.int .i64 0, .int .i64 4294967296, .int .i64 0], .agg #[.int .i64 (-4294967296), .int .i64 0, .int .i64 0], .int .i64 0]) w)) := Lib.hid fun w => by
    have := frame_any ⟨0, 0, 4294967296⟩ (p3i4 (by omega)) w
    rwa [frO_z] at this
  have A1 : Hid (∀ w, Calls Try.prog 16 #[.int .i64 0, .int .i64 4294967296] w (Ret (.tuple #[.int .i64 0, .int .i64 0]) w)) := Lib.hid fun w => by
    have := aim_any 0 4294967296 (by unfold I64; omega) (by unfold I64; omega) w
    rwa [show aimO 0 4294967296 = (0, 0) by decide] at this
  have A2 : Hid (∀ w, Calls Try.prog 16 #[.int .i64 (-4294967296), .int .i64 71582788] w (Ret (.tuple #[.int .i64 8589934592, .int .i64 0]) w)) := Lib.hid fun w => by
    have := aim_any (-4294967296) 71582788 (by unfold I64; omega) (by unfold I64; omega) w
    rwa [show aimO (-4294967296) 71582788 = (8589934592, 0) by decide] at this
  have A3 : Hid (∀ w, Calls Try.prog 16 #[.int .i64 0, .int .i64 0] w (Ret (.tuple #[.int .i64 0, .int .i64 2]) w)) := Lib.hid fun w => by
    have := aim_any 0 0 (by unfold I64; omega) (by unfold I64; omega) w
    rwa [show aimO 0 0 = (0, 2) by decide] at this
  have B1 : Hid (∀ w, Calls Try.prog 14 #[.agg #[.int .i64 4294967296, .int .i64 0, .int .i64 0, .int .i64 0, .int .i64 0, .int .i64 0, .int .i64 0, .int .i64 0, .int .i64 0, .int .i64 0, .int .i64 0, .int .i64 0, .int .i64 0, .int .i64 0, .int .i64 0, .int .i64 0], .agg #[.int .i64 4294967296, .int .i64 0, .int .i64 0, .int .i64 0, .int .i64 0, .int .i64 0, .int .i64 0, .int .i64 0, .int .i64 0, .int .i64 0, .int .i64 0, .int .i64 0, .int .i64 0, .int .i64 0, .int .i64 0, .int .i64 0], .agg #[.int .i64 0, .int .i64 0, .int .i64 0], .agg #[.int .i64 0, .int .i64 0, .int .i64 0], .agg #[.int .i64 0, .int .i64 4294967296, .int .i64 0]] w (Ret (.int .i64 2147483648) w)) := Lib.hid fun w => by
    have z0' : P3.i64 ⟨0, 0, 0⟩ := p3i4 (by omega)
    have h1 : oneI.i64 := ⟨by unfold I64 oneI; dsimp only; omega, z0', z0', z0', z0', z0'⟩
    have := between_row oneI oneI ⟨0, 0, 0⟩ ⟨0, 0, 0⟩ ⟨0, 4294967296, 0⟩ h1 h1 z0' z0' (p3i4 (by omega)) w
    rw [show btw oneI oneI ⟨0, 0, 0⟩ ⟨0, 0, 0⟩ ⟨0, 4294967296, 0⟩ = 2147483648 by decide] at this
    exact this
  go_enter Try.func8, Try.ntmps8
  have hp := Hp.start [] w
  go_wp2_with (first
          | ((with_reducible apply sx_guard); (conv => whnf); refine Bx.mk ?_; (try simp only [zp, zq, z0, z1]))
          | ((with_reducible apply sx_alloc hp); infer_instance; exact rfl; clear hp; (try clear w1); intro g w1 hp; simp only [zp, zq, z0, z1])
          | ((with_reducible apply sx_load_agg hp); exact zt rfl; infer_instance; infer_instance; (first | exact zl rfl | exact LB_le (by omega)); (first | (with_reducible exact LB_set (by omega)) | (simp only [n0, Nat.reduceAdd, n1, n2, n3, n4, n5, n6, n7, n8, n9]; try rfl)); simp only [zp, zq, z0, z1])
          | ((with_reducible apply sx_store hp); exact zt rfl; exact za rfl; exact rfl; (first | exact AggTy.size | exact OneTy.size); exact rfl; infer_instance; (first | (with_reducible exact LB_set (by omega)) | (simp only [n0, Nat.reduceAdd, n1, n2, n3, n4, n5, n6, n7, n8, n9]; try rfl)); (first | exact zl rfl | exact LB_le (by omega)); exact rfl; infer_instance; clear hp; (try clear w1); intro w1 hp)
          | ((with_reducible first | refine sx_call hp (F1.out _) ?_ | refine sx_call hp (A1.out _) ?_ | refine sx_call hp (A2.out _) ?_ | refine sx_call hp (A3.out _) ?_ | refine sx_call hp (B1.out _) ?_); clear hp; (try clear w1); intro w1 hp))
  exact bodyPost_ret (results_one rfl rfl) rfl ⟨rfl, hp.keep⟩
end Go.Proofs.Ytboiepagonlnkaa
