/-
  ninepinref02: Mul, Div, Clamp, Of, Floor, Sqrt (contracts).
-/
import Derived.Test.YtbdkbmhejoakiaaGreatDoorTc
import Derived.Test.YtbdkbmhejoakiaaGreatDoorSb
set_option linter.unusedSimpArgs false
set_option linter.unusedVariables false
set_option maxRecDepth 100000
namespace Go.Proofs.YtbdkbmhejoakiaaGreatDoor
open Go Go.RowKit
attribute [local irreducible] wpList

set_option maxHeartbeats 2000000 in
theorem r2mul_any (a b : Int) (up : Bool) (ha : I64 a) (hb : I64 b) (w : World) : Calls Tryz.prog 9 #[.int .i64 a, .int .i64 b, .bool up] w (Ret (.int .i64 (cl (qv (a * b) 4294967296 up))) w) := by
  have A1 := Lib.hid (r2raw_any a ha)
  have A2 := Lib.hid (r2raw_any b hb)
  have hpr := prod_i64 ha hb
  have hm := rmul_any a b (fit_i64 ha) (fit_i64 hb)
  rw [show fz (a * b) = a * b from if_pos hpr] at hm
  have A3 := Lib.hid hm
  obtain ⟨e, hf⟩ := dvq_32 (i64_mul ha hb)
  have hb2 := i64_mul ha hb
  have hq1 : Fit (dvq (a * b) 4294967296 + 1) := by rw [e]; unfold Fit M511; omega
  have A4 := Lib.hid (rquot_any (a * b) 4294967296 up hpr fit_two32 hq1)
  have hqf : Fit (qv (a * b) 4294967296 up) := by
    unfold qv
    split
    · exact hq1
    · exact dvq_fit _ _
  have A5 := Lib.hid fun w => rwithin_any _ hqf w
  have A6 := Lib.hid fun w => rsmall_any 4294967296 (by omega) (by omega) w
  clear ha hb hpr hm e hf hb2 hq1 hqf
  generalize decide (Fit (a * b)) = o at *
  generalize a * b = s at *
  generalize qv s 4294967296 up = q at *
  generalize cl q = r at *
  go_enter Tryz.func9, Tryz.ntmps9
  have hp := Hp.start [] w
  go_upto_region 2 with (first
          | ((with_reducible apply sx_alloc hp); infer_instance; exact rfl; clear hp; (try clear w1); intro g w1 hp; simp only [zp, zq, z0, z1])
          | ((with_reducible apply sx_load_agg hp); exact zt rfl; infer_instance; infer_instance; (first | exact zl rfl | exact LB_le (by omega)); (first | (with_reducible exact LB_set (by omega)) | (simp only [n0, Nat.reduceAdd, n1, n2, n3, n4, n5, n6, n7, n8, n9]; try rfl)); simp only [zp, zq, z0, z1])
          | ((with_reducible apply sx_store hp); exact zt rfl; exact za rfl; exact rfl; (first | exact AggTy.size | exact OneTy.size); exact rfl; infer_instance; (first | (with_reducible exact LB_set (by omega)) | (simp only [n0, Nat.reduceAdd, n1, n2, n3, n4, n5, n6, n7, n8, n9]; try rfl)); (first | exact zl rfl | exact LB_le (by omega)); exact rfl; infer_instance; clear hp; (try clear w1); intro w1 hp)
          | ((with_reducible first | refine sx_call hp (A1.out _) ?_ | refine sx_call hp (A2.out _) ?_ | refine sx_call hp (A3.out _) ?_); clear hp; (try clear w1); intro w1 hp))
  have hq := hp
  refine wp_drawn_hp hp hq [] (.q 0 (.q 2 (.l 1 (.l 3 (.l 4 (.q 5 .nil)))))) (by kernel_rfl) (by kernel_rfl) ?_
  clear hp hq; (try clear w1); intro w1 hp hq
  repeat' (first
    | (((with_reducible apply sd_q); exact zo rfl); (first
        | ((with_reducible apply sd_load_agg hp); exact rfl; exact zt rfl; infer_instance; infer_instance; (first | exact zl rfl | exact LB_le (by omega)); (first | (with_reducible exact LB_set (by omega)) | (simp only [n0, Nat.reduceAdd, n1, n2, n3, n4, n5, n6, n7, n8, n9]; try rfl)); simp only [zp, zq, z0, z1])
        | ((with_reducible apply sd_move hp); exact zb rfl; simp only [zp, zq, z0, z1])
        | ((with_reducible apply sd_assign hp); exact zi rfl; simp only [zp, zq, z0, z1])
        | ((with_reducible apply sd_pure hp); exact rfl; (focus (intro _; go_simp; (try go_ints); try with_reducible rfl)); simp only [zp, zq, z0, z1])))
    | (((with_reducible apply sd_l); exact zo rfl); ((with_reducible apply sd_call hp); exact rfl; (focus (intro _; go_simp; try first | with_reducible rfl | exact ⟨rfl, rfl⟩)); (with_reducible first | exact fun w => A4.out w | exact fun w => A5.out w | exact fun w => A6.out w); exact hq; clear hp hq; (try clear w1); intro w1 hp hq; simp only [zp, zq, z0, z1]))
    | ((with_reducible apply sd_nil); clear hp; have hp := hq; clear hq))
  go_wp2
  exact bodyPost_ret (results_one rfl rfl) rfl ⟨rfl, hp.keep⟩
theorem qv_down (a b : Int) : qv a b false = dvq a b := by unfold qv; simp
set_option maxHeartbeats 2000000 in
theorem r2div_down (a b : Int) (ha : I64 a) (hb : I64 b) (w : World) : Calls Tryz.prog 13 #[.int .i64 a, .int .i64 b, .bool false] w (Ret (.int .i64 (dq a b)) w) := by
  unfold dq
  by_cases hb0 : b = 0
  · rw [if_pos hb0]
    subst hb0
    by_cases h1 : 0 < a
    · rw [if_pos h1]
      clear ha hb
      go_enter Tryz.func13, Tryz.ntmps13
      have hp := Hp.start [] w
      go_wp2_with (first
          | ((with_reducible apply sx_alloc hp); infer_instance; exact rfl; clear hp; (try clear w1); intro g w1 hp; simp only [zp, zq, z0, z1])
          | ((with_reducible apply sx_load_agg hp); exact zt rfl; infer_instance; infer_instance; (first | exact zl rfl | exact LB_le (by omega)); (first | (with_reducible exact LB_set (by omega)) | (simp only [n0, Nat.reduceAdd, n1, n2, n3, n4, n5, n6, n7, n8, n9]; try rfl)); simp only [zp, zq, z0, z1])
          | ((with_reducible apply sx_store hp); exact zt rfl; exact za rfl; exact rfl; (first | exact AggTy.size | exact OneTy.size); exact rfl; infer_instance; (first | (with_reducible exact LB_set (by omega)) | (simp only [n0, Nat.reduceAdd, n1, n2, n3, n4, n5, n6, n7, n8, n9]; try rfl)); (first | exact zl rfl | exact LB_le (by omega)); exact rfl; infer_instance; clear hp; (try clear w1); intro w1 hp))
      exact bodyPost_ret (results_one rfl rfl) rfl ⟨rfl, hp.keep⟩
    · by_cases h2 : a < 0
      · rw [if_neg h1, if_pos h2]
        clear ha hb
        go_enter Tryz.func13, Tryz.ntmps13
        have hp := Hp.start [] w
        go_wp2_with (first
          | ((with_reducible apply sx_alloc hp); infer_instance; exact rfl; clear hp; (try clear w1); intro g w1 hp; simp only [zp, zq, z0, z1])
          | ((with_reducible apply sx_load_agg hp); exact zt rfl; infer_instance; infer_instance; (first | exact zl rfl | exact LB_le (by omega)); (first | (with_reducible exact LB_set (by omega)) | (simp only [n0, Nat.reduceAdd, n1, n2, n3, n4, n5, n6, n7, n8, n9]; try rfl)); simp only [zp, zq, z0, z1])
          | ((with_reducible apply sx_store hp); exact zt rfl; exact za rfl; exact rfl; (first | exact AggTy.size | exact OneTy.size); exact rfl; infer_instance; (first | (with_reducible exact LB_set (by omega)) | (simp only [n0, Nat.reduceAdd, n1, n2, n3, n4, n5, n6, n7, n8, n9]; try rfl)); (first | exact zl rfl | exact LB_le (by omega)); exact rfl; infer_instance; clear hp; (try clear w1); intro w1 hp))
        exact bodyPost_ret (results_one rfl rfl) rfl ⟨rfl, hp.keep⟩
      · rw [if_neg h1, if_neg h2]
        clear ha hb
        go_enter Tryz.func13, Tryz.ntmps13
        have hp := Hp.start [] w
        go_wp2_with (first
          | ((with_reducible apply sx_alloc hp); infer_instance; exact rfl; clear hp; (try clear w1); intro g w1 hp; simp only [zp, zq, z0, z1])
          | ((with_reducible apply sx_load_agg hp); exact zt rfl; infer_instance; infer_instance; (first | exact zl rfl | exact LB_le (by omega)); (first | (with_reducible exact LB_set (by omega)) | (simp only [n0, Nat.reduceAdd, n1, n2, n3, n4, n5, n6, n7, n8, n9]; try rfl)); simp only [zp, zq, z0, z1])
          | ((with_reducible apply sx_store hp); exact zt rfl; exact za rfl; exact rfl; (first | exact AggTy.size | exact OneTy.size); exact rfl; infer_instance; (first | (with_reducible exact LB_set (by omega)) | (simp only [n0, Nat.reduceAdd, n1, n2, n3, n4, n5, n6, n7, n8, n9]; try rfl)); (first | exact zl rfl | exact LB_le (by omega)); exact rfl; infer_instance; clear hp; (try clear w1); intro w1 hp))
        exact bodyPost_ret (results_one rfl rfl) rfl ⟨rfl, hp.keep⟩
  · rw [if_neg hb0]
    have A1 := Lib.hid (r2raw_any a ha)
    have A2 := Lib.hid (r2raw_any b hb)
    have hx1 : -39614081257132168796771975168 ≤ a * 4294967296 ∧ a * 4294967296 ≤ 39614081257132168796771975168 := by unfold I64 at ha; omega
    have hp2 : (2 : Int) ^ (32 : Int).toNat = 4294967296 := rfl
    have hok : shok a 32 := ⟨by omega, .inr ⟨by omega, by rw [hp2]; unfold Fit M511; omega⟩⟩
    have hsh := rshl_any a 32 (fit_i64 ha)
    rw [show shlv a 32 = a * 4294967296 by unfold shlv; rw [if_pos hok, hp2], decide_eq_true hok] at hsh
    have SH := Lib.hid hsh
    have hbd := dvq_less (b := b) hx1
    have hq := rquot_any (a * 4294967296) b false (by unfold Fit M511; omega) (fit_i64 hb) (by unfold Fit M511; omega)
    rw [show qv (a * 4294967296) b false = dvq (a * 4294967296) b from if_neg (fun h => by cases h.1)] at hq
    have A4 := Lib.hid hq
    have A5 := Lib.hid fun w => rwithin_any _ (dvq_fit (a * 4294967296) b) w
    have hb1 : (b == 0) = false := by simpa using hb0
    clear ha hb hx1 hp2 hok hsh hq hbd
    generalize a * 4294967296 = n at *
    generalize dvq n b = q at *
    generalize cl q = r at *
    go_enter Tryz.func13, Tryz.ntmps13
    have hp := Hp.start [] w
    go_upto_region 8 with (first
          | ((with_reducible apply sx_alloc hp); infer_instance; exact rfl; clear hp; (try clear w1); intro g w1 hp; simp only [zp, zq, z0, z1])
          | ((with_reducible apply sx_load_agg hp); exact zt rfl; infer_instance; infer_instance; (first | exact zl rfl | exact LB_le (by omega)); (first | (with_reducible exact LB_set (by omega)) | (simp only [n0, Nat.reduceAdd, n1, n2, n3, n4, n5, n6, n7, n8, n9]; try rfl)); simp only [zp, zq, z0, z1])
          | ((with_reducible apply sx_store hp); exact zt rfl; exact za rfl; exact rfl; (first | exact AggTy.size | exact OneTy.size); exact rfl; infer_instance; (first | (with_reducible exact LB_set (by omega)) | (simp only [n0, Nat.reduceAdd, n1, n2, n3, n4, n5, n6, n7, n8, n9]; try rfl)); (first | exact zl rfl | exact LB_le (by omega)); exact rfl; infer_instance; clear hp; (try clear w1); intro w1 hp)
          | ((with_reducible first | refine sx_call hp (A1.out _) ?_ | refine sx_call hp (SH.out _) ?_); clear hp; (try clear w1); intro w1 hp))
    have hq := hp
    refine wp_drawnG_hp hp hq [] (.q 0 (.q 1 (.q 3 (.p 2 (.p 4 (.p 5 (.q 6 .nil))))))) (by kernel_rfl) (by kernel_rfl) ?_
    clear hp hq; (try clear w1); intro w1 hp hq
    repeat' (first
      | (((with_reducible apply sg_q); exact zo rfl); (first
          | ((with_reducible apply sg_load_agg hp); exact rfl; exact zt rfl; infer_instance; infer_instance; (first | exact zl rfl | exact LB_le (by omega)); (first | (with_reducible exact LB_set (by omega)) | (simp only [n0, Nat.reduceAdd, n1, n2, n3, n4, n5, n6, n7, n8, n9]; try rfl)); simp only [zp, zq, z0, z1])
          | ((with_reducible apply sg_move hp); (first | exact zb rfl | exact zi rfl); simp only [zp, zq, z0, z1])
          | ((with_reducible apply sg_assign hp); exact zi rfl; simp only [zp, zq, z0, z1])
          | ((with_reducible apply sg_pure hp); exact rfl; (focus (intro _; go_simp; (try go_ints); try with_reducible rfl)); simp only [zp, zq, z0, z1])))
      | (((with_reducible apply sg_p); exact zo rfl); ((with_reducible apply sg_call hp); exact rfl; (focus (intro _; go_simp; try first | with_reducible rfl | exact ⟨rfl, rfl⟩)); (with_reducible first | exact fun w => A2.out w | exact fun w => A4.out w | exact fun w => A5.out w); simp only [zp, zq, z0, z1]))
      | ((with_reducible apply sg_nil hq); clear hp hq; (try clear w1); intro w1 hp))
    go_wp2
    exact bodyPost_ret (results_one rfl rfl) rfl ⟨rfl, hp.keep⟩
set_option maxHeartbeats 2000000 in
theorem r2div_up (a b : Int) (ha : I64 a) (hb : I64 b) (w : World) : Calls Tryz.prog 13 #[.int .i64 a, .int .i64 b, .bool true] w (Ret (.int .i64 (dqU a b)) w) := by
  unfold dqU
  by_cases hb0 : b = 0
  · rw [if_pos hb0]
    subst hb0
    by_cases h1 : 0 < a
    · rw [if_pos h1]
      clear ha hb
      go_enter Tryz.func13, Tryz.ntmps13
      have hp := Hp.start [] w
      go_wp2_with (first
          | ((with_reducible apply sx_alloc hp); infer_instance; exact rfl; clear hp; (try clear w1); intro g w1 hp; simp only [zp, zq, z0, z1])
          | ((with_reducible apply sx_load_agg hp); exact zt rfl; infer_instance; infer_instance; (first | exact zl rfl | exact LB_le (by omega)); (first | (with_reducible exact LB_set (by omega)) | (simp only [n0, Nat.reduceAdd, n1, n2, n3, n4, n5, n6, n7, n8, n9]; try rfl)); simp only [zp, zq, z0, z1])
          | ((with_reducible apply sx_store hp); exact zt rfl; exact za rfl; exact rfl; (first | exact AggTy.size | exact OneTy.size); exact rfl; infer_instance; (first | (with_reducible exact LB_set (by omega)) | (simp only [n0, Nat.reduceAdd, n1, n2, n3, n4, n5, n6, n7, n8, n9]; try rfl)); (first | exact zl rfl | exact LB_le (by omega)); exact rfl; infer_instance; clear hp; (try clear w1); intro w1 hp))
      exact bodyPost_ret (results_one rfl rfl) rfl ⟨rfl, hp.keep⟩
    · by_cases h2 : a < 0
      · rw [if_neg h1, if_pos h2]
        clear ha hb
        go_enter Tryz.func13, Tryz.ntmps13
        have hp := Hp.start [] w
        go_wp2_with (first
          | ((with_reducible apply sx_alloc hp); infer_instance; exact rfl; clear hp; (try clear w1); intro g w1 hp; simp only [zp, zq, z0, z1])
          | ((with_reducible apply sx_load_agg hp); exact zt rfl; infer_instance; infer_instance; (first | exact zl rfl | exact LB_le (by omega)); (first | (with_reducible exact LB_set (by omega)) | (simp only [n0, Nat.reduceAdd, n1, n2, n3, n4, n5, n6, n7, n8, n9]; try rfl)); simp only [zp, zq, z0, z1])
          | ((with_reducible apply sx_store hp); exact zt rfl; exact za rfl; exact rfl; (first | exact AggTy.size | exact OneTy.size); exact rfl; infer_instance; (first | (with_reducible exact LB_set (by omega)) | (simp only [n0, Nat.reduceAdd, n1, n2, n3, n4, n5, n6, n7, n8, n9]; try rfl)); (first | exact zl rfl | exact LB_le (by omega)); exact rfl; infer_instance; clear hp; (try clear w1); intro w1 hp))
        exact bodyPost_ret (results_one rfl rfl) rfl ⟨rfl, hp.keep⟩
      · rw [if_neg h1, if_neg h2]
        clear ha hb
        go_enter Tryz.func13, Tryz.ntmps13
        have hp := Hp.start [] w
        go_wp2_with (first
          | ((with_reducible apply sx_alloc hp); infer_instance; exact rfl; clear hp; (try clear w1); intro g w1 hp; simp only [zp, zq, z0, z1])
          | ((with_reducible apply sx_load_agg hp); exact zt rfl; infer_instance; infer_instance; (first | exact zl rfl | exact LB_le (by omega)); (first | (with_reducible exact LB_set (by omega)) | (simp only [n0, Nat.reduceAdd, n1, n2, n3, n4, n5, n6, n7, n8, n9]; try rfl)); simp only [zp, zq, z0, z1])
          | ((with_reducible apply sx_store hp); exact zt rfl; exact za rfl; exact rfl; (first | exact AggTy.size | exact OneTy.size); exact rfl; infer_instance; (first | (with_reducible exact LB_set (by omega)) | (simp only [n0, Nat.reduceAdd, n1, n2, n3, n4, n5, n6, n7, n8, n9]; try rfl)); (first | exact zl rfl | exact LB_le (by omega)); exact rfl; infer_instance; clear hp; (try clear w1); intro w1 hp))
        exact bodyPost_ret (results_one rfl rfl) rfl ⟨rfl, hp.keep⟩
  · rw [if_neg hb0]
    have A1 := Lib.hid (r2raw_any a ha)
    have A2 := Lib.hid (r2raw_any b hb)
    have hx1 : -39614081257132168796771975168 ≤ a * 4294967296 ∧ a * 4294967296 ≤ 39614081257132168796771975168 := by unfold I64 at ha; omega
    have hp2 : (2 : Int) ^ (32 : Int).toNat = 4294967296 := rfl
    have hok : shok a 32 := ⟨by omega, .inr ⟨by omega, by rw [hp2]; unfold Fit M511; omega⟩⟩
    have hsh := rshl_any a 32 (fit_i64 ha)
    rw [show shlv a 32 = a * 4294967296 by unfold shlv; rw [if_pos hok, hp2], decide_eq_true hok] at hsh
    have SH := Lib.hid hsh
    have hbd := dvq_less (b := b) hx1
    have A4 := Lib.hid (rquot_any (a * 4294967296) b true (by unfold Fit M511; omega) (fit_i64 hb) (by unfold Fit M511; omega))
    have A5 := Lib.hid fun w => rwithin_any (qv (a * 4294967296) b true) (by unfold qv; split <;> (unfold Fit M511; omega)) w
    have hb1 : (b == 0) = false := by simpa using hb0
    clear ha hb hx1 hp2 hok hsh hbd
    generalize a * 4294967296 = n at *
    generalize qv n b true = q at *
    generalize cl q = r at *
    go_enter Tryz.func13, Tryz.ntmps13
    have hp := Hp.start [] w
    go_upto_region 8 with (first
          | ((with_reducible apply sx_alloc hp); infer_instance; exact rfl; clear hp; (try clear w1); intro g w1 hp; simp only [zp, zq, z0, z1])
          | ((with_reducible apply sx_load_agg hp); exact zt rfl; infer_instance; infer_instance; (first | exact zl rfl | exact LB_le (by omega)); (first | (with_reducible exact LB_set (by omega)) | (simp only [n0, Nat.reduceAdd, n1, n2, n3, n4, n5, n6, n7, n8, n9]; try rfl)); simp only [zp, zq, z0, z1])
          | ((with_reducible apply sx_store hp); exact zt rfl; exact za rfl; exact rfl; (first | exact AggTy.size | exact OneTy.size); exact rfl; infer_instance; (first | (with_reducible exact LB_set (by omega)) | (simp only [n0, Nat.reduceAdd, n1, n2, n3, n4, n5, n6, n7, n8, n9]; try rfl)); (first | exact zl rfl | exact LB_le (by omega)); exact rfl; infer_instance; clear hp; (try clear w1); intro w1 hp)
          | ((with_reducible first | refine sx_call hp (A1.out _) ?_ | refine sx_call hp (SH.out _) ?_); clear hp; (try clear w1); intro w1 hp))
    have hq := hp
    refine wp_drawnG_hp hp hq [] (.q 0 (.q 1 (.q 3 (.p 2 (.p 4 (.p 5 (.q 6 .nil))))))) (by kernel_rfl) (by kernel_rfl) ?_
    clear hp hq; (try clear w1); intro w1 hp hq
    repeat' (first
      | (((with_reducible apply sg_q); exact zo rfl); (first
          | ((with_reducible apply sg_load_agg hp); exact rfl; exact zt rfl; infer_instance; infer_instance; (first | exact zl rfl | exact LB_le (by omega)); (first | (with_reducible exact LB_set (by omega)) | (simp only [n0, Nat.reduceAdd, n1, n2, n3, n4, n5, n6, n7, n8, n9]; try rfl)); simp only [zp, zq, z0, z1])
          | ((with_reducible apply sg_move hp); (first | exact zb rfl | exact zi rfl); simp only [zp, zq, z0, z1])
          | ((with_reducible apply sg_assign hp); exact zi rfl; simp only [zp, zq, z0, z1])
          | ((with_reducible apply sg_pure hp); exact rfl; (focus (intro _; go_simp; (try go_ints); try with_reducible rfl)); simp only [zp, zq, z0, z1])))
      | (((with_reducible apply sg_p); exact zo rfl); ((with_reducible apply sg_call hp); exact rfl; (focus (intro _; go_simp; try first | with_reducible rfl | exact ⟨rfl, rfl⟩)); (with_reducible first | exact fun w => A2.out w | exact fun w => A4.out w | exact fun w => A5.out w); simp only [zp, zq, z0, z1]))
      | ((with_reducible apply sg_nil hq); clear hp hq; (try clear w1); intro w1 hp))
    go_wp2
    exact bodyPost_ret (results_one rfl rfl) rfl ⟨rfl, hp.keep⟩
set_option maxHeartbeats 1000000 in
theorem r2clamp_any (a l h : Int) (w : World) : Calls Tryz.prog 18 #[.int .i64 a, .int .i64 l, .int .i64 h] w (Ret (.int .i64 (clampv a l h)) w) := by
  unfold clampv
  by_cases h1 : a < l
  · rw [if_pos h1]
    go_enter Tryz.func18, Tryz.ntmps18
    have hp := Hp.start [] w
    go_wp2_with (first
          | fail)
    exact bodyPost_ret (results_one rfl rfl) rfl ⟨rfl, hp.keep⟩
  · rw [if_neg h1]
    by_cases h2 : h < a
    · rw [if_pos h2]
      go_enter Tryz.func18, Tryz.ntmps18
      have hp := Hp.start [] w
      go_wp2_with (first
          | fail)
      exact bodyPost_ret (results_one rfl rfl) rfl ⟨rfl, hp.keep⟩
    · rw [if_neg h2]
      go_enter Tryz.func18, Tryz.ntmps18
      have hp := Hp.start [] w
      go_wp2_with (first
          | fail)
      exact bodyPost_ret (results_one rfl rfl) rfl ⟨rfl, hp.keep⟩
theorem rshl32 (a : Int) (ha : I64 a) : ∀ w, Calls Tryz.prog 40 #[W a, .int .i64 32] w (Ret (.tuple #[W (a * 4294967296), .bool true]) w) := by
  have hp2 : (2 : Int) ^ (32 : Int).toNat = 4294967296 := rfl
  have hok : shok a 32 := ⟨by omega, .inr ⟨by omega, by rw [hp2]; unfold I64 at ha; unfold Fit M511; omega⟩⟩
  have hsh := rshl_any a 32 (fit_i64 ha)
  rwa [show shlv a 32 = a * 4294967296 by unfold shlv; rw [if_pos hok, hp2], decide_eq_true hok] at hsh
theorem r2of_any (n : Int) (hn : I64 n) (w : World) : Calls Tryz.prog 22 #[.int .i64 n] w (Ret (.int .i64 (ofv n)) w) := by
  have A1 := Lib.hid (rsmall_any n hn.1 hn.2)
  have A2 := Lib.hid (rshl32 n hn)
  have A3 := Lib.hid fun w => rwithin_any (n * 4294967296) (by unfold I64 at hn; unfold Fit M511; omega) w
  clear hn
  unfold ofv
  generalize cl (n * 4294967296) = r at *
  generalize n * 4294967296 = m at *
  go_enter Tryz.func22, Tryz.ntmps22
  have hp := Hp.start [] w
  go_wp2_with (first
          | ((with_reducible apply sx_alloc hp); infer_instance; exact rfl; clear hp; (try clear w1); intro g w1 hp; simp only [zp, zq, z0, z1])
          | ((with_reducible apply sx_load_agg hp); exact zt rfl; infer_instance; infer_instance; (first | exact zl rfl | exact LB_le (by omega)); (first | (with_reducible exact LB_set (by omega)) | (simp only [n0, Nat.reduceAdd, n1, n2, n3, n4, n5, n6, n7, n8, n9]; try rfl)); simp only [zp, zq, z0, z1])
          | ((with_reducible apply sx_store hp); exact zt rfl; exact za rfl; exact rfl; (first | exact AggTy.size | exact OneTy.size); exact rfl; infer_instance; (first | (with_reducible exact LB_set (by omega)) | (simp only [n0, Nat.reduceAdd, n1, n2, n3, n4, n5, n6, n7, n8, n9]; try rfl)); (first | exact zl rfl | exact LB_le (by omega)); exact rfl; infer_instance; clear hp; (try clear w1); intro w1 hp)
          | ((with_reducible first | refine sx_call hp (A1.out _) ?_ | refine sx_call hp (A2.out _) ?_ | refine sx_call hp (A3.out _) ?_); clear hp; (try clear w1); intro w1 hp))
  exact bodyPost_ret (results_one rfl rfl) rfl ⟨rfl, hp.keep⟩
theorem r2floor_any (a : Int) (ha : I64 a) (w : World) : Calls Tryz.prog 20 #[.int .i64 a] w (Ret (.int .i64 (a / 4294967296)) w) := by
  have h1 : -9223372036854775808 ≤ a := ha.1
  have h2 : a < 9223372036854775808 := ha.2
  clear ha
  have e1 := Int.mul_tdiv_add_tmod a 4294967296
  have e2 := Int.tmod_lt_of_pos a (show (0 : Int) < 4294967296 by omega)
  have e3 := Int.lt_tmod_of_pos a (show (0 : Int) < 4294967296 by omega)
  have HE := Lib.hid (And.intro e1 (And.intro e2 e3))
  clear e1 e2 e3
  by_cases h0 : a.tmod 4294967296 < 0
  · skip
    go_enter Tryz.func20, Tryz.ntmps20
    have hp := Hp.start [] w
    go_wp2_with (first
          | fail)
    obtain ⟨e1, e2, e3⟩ := HE.out
    exact bodyPost_ret (results_one rfl rfl) rfl ⟨congrArg (fun z => Ending.returned (Value.int .i64 z)) (show wrap64 (a.tdiv 4294967296 - 1) = a / 4294967296 by unfold wrap64; omega), hp.keep⟩
  · skip
    go_enter Tryz.func20, Tryz.ntmps20
    have hp := Hp.start [] w
    go_wp2_with (first
          | fail)
    obtain ⟨e1, e2, e3⟩ := HE.out
    exact bodyPost_ret (results_one rfl rfl) rfl ⟨congrArg (fun z => Ending.returned (Value.int .i64 z)) (show a.tdiv 4294967296 = a / 4294967296 by omega), hp.keep⟩
theorem r2sqrt_no (a : Int) (up : Bool) (h : a < 0) (w : World) : Calls Tryz.prog 28 #[.int .i64 a, .bool up] w (Ret (.int .i64 0) w) := by
  go_enter Tryz.func28, Tryz.ntmps28
  have hp := Hp.start [] w
  go_wp2_with (first
          | ((with_reducible apply sx_alloc hp); infer_instance; exact rfl; clear hp; (try clear w1); intro g w1 hp; simp only [zp, zq, z0, z1])
          | ((with_reducible apply sx_load_agg hp); exact zt rfl; infer_instance; infer_instance; (first | exact zl rfl | exact LB_le (by omega)); (first | (with_reducible exact LB_set (by omega)) | (simp only [n0, Nat.reduceAdd, n1, n2, n3, n4, n5, n6, n7, n8, n9]; try rfl)); simp only [zp, zq, z0, z1])
          | ((with_reducible apply sx_store hp); exact zt rfl; exact za rfl; exact rfl; (first | exact AggTy.size | exact OneTy.size); exact rfl; infer_instance; (first | (with_reducible exact LB_set (by omega)) | (simp only [n0, Nat.reduceAdd, n1, n2, n3, n4, n5, n6, n7, n8, n9]; try rfl)); (first | exact zl rfl | exact LB_le (by omega)); exact rfl; infer_instance; clear hp; (try clear w1); intro w1 hp))
  exact bodyPost_ret (results_one rfl rfl) rfl ⟨rfl, hp.keep⟩
set_option maxHeartbeats 2000000 in
theorem r2sqrt_down (a n r q v : Int) (h : ¬ a < 0) (A1 : Hid (∀ w, Calls Tryz.prog 32 #[.int .i64 a] w (Ret (W a) w))) (SH : Hid (∀ w, Calls Tryz.prog 40 #[W a, .int .i64 32] w (Ret (.tuple #[W n, .bool true]) w)))
    (SQ : Hid (∀ w, Calls Tryz.prog 56 #[W n] w (Ret (.tuple #[W r, .bool true]) w))) (MU : Hid (∀ w, Calls Tryz.prog 31 #[W r, W r] w (Ret (.tuple #[W q, .bool true]) w)))
    (WI : Hid (∀ w, Calls Tryz.prog 33 #[W r] w (Ret (.int .i64 v) w))) (w : World) : Calls Tryz.prog 28 #[.int .i64 a, .bool false] w (Ret (.int .i64 v) w) := by
  go_enter Tryz.func28, Tryz.ntmps28
  have hp := Hp.start [] w
  go_wp2_with (first
          | ((with_reducible apply sx_guard); (conv => whnf); refine Bx.mk ?_; (try simp only [zp, zq, z0, z1]))
          | ((with_reducible apply sx_alloc hp); infer_instance; exact rfl; clear hp; (try clear w1); intro g w1 hp; simp only [zp, zq, z0, z1])
          | ((with_reducible apply sx_load_agg hp); exact zt rfl; infer_instance; infer_instance; (first | exact zl rfl | exact LB_le (by omega)); (first | (with_reducible exact LB_set (by omega)) | (simp only [n0, Nat.reduceAdd, n1, n2, n3, n4, n5, n6, n7, n8, n9]; try rfl)); simp only [zp, zq, z0, z1])
          | ((with_reducible apply sx_store hp); exact zt rfl; exact za rfl; exact rfl; (first | exact AggTy.size | exact OneTy.size); exact rfl; infer_instance; (first | (with_reducible exact LB_set (by omega)) | (simp only [n0, Nat.reduceAdd, n1, n2, n3, n4, n5, n6, n7, n8, n9]; try rfl)); (first | exact zl rfl | exact LB_le (by omega)); exact rfl; infer_instance; clear hp; (try clear w1); intro w1 hp)
          | ((with_reducible first | refine sx_call hp (A1.out _) ?_ | refine sx_call hp (SH.out _) ?_ | refine sx_call hp (SQ.out _) ?_ | refine sx_call hp (MU.out _) ?_ | refine sx_call hp (WI.out _) ?_); clear hp; (try clear w1); intro w1 hp))
  exact bodyPost_ret (results_one rfl rfl) rfl ⟨rfl, hp.keep⟩
set_option maxHeartbeats 2000000 in
theorem r2sqrt_same (a n r q v : Int) (h : ¬ a < 0) (HB : eqb q n = true) (A1 : Hid (∀ w, Calls Tryz.prog 32 #[.int .i64 a] w (Ret (W a) w))) (SH : Hid (∀ w, Calls Tryz.prog 40 #[W a, .int .i64 32] w (Ret (.tuple #[W n, .bool true]) w)))
    (SQ : Hid (∀ w, Calls Tryz.prog 56 #[W n] w (Ret (.tuple #[W r, .bool true]) w))) (MU : Hid (∀ w, Calls Tryz.prog 31 #[W r, W r] w (Ret (.tuple #[W q, .bool true]) w)))
    (WI : Hid (∀ w, Calls Tryz.prog 33 #[W r] w (Ret (.int .i64 v) w))) (w : World) : Calls Tryz.prog 28 #[.int .i64 a, .bool true] w (Ret (.int .i64 v) w) := by
  unfold eqb at HB
  go_enter Tryz.func28, Tryz.ntmps28
  have hp := Hp.start [] w
  go_wp2_with (first
          | ((with_reducible apply sx_guard); (conv => whnf); refine Bx.mk ?_; (try simp only [zp, zq, z0, z1]))
          | ((with_reducible apply sx_alloc hp); infer_instance; exact rfl; clear hp; (try clear w1); intro g w1 hp; simp only [zp, zq, z0, z1])
          | ((with_reducible apply sx_load_agg hp); exact zt rfl; infer_instance; infer_instance; (first | exact zl rfl | exact LB_le (by omega)); (first | (with_reducible exact LB_set (by omega)) | (simp only [n0, Nat.reduceAdd, n1, n2, n3, n4, n5, n6, n7, n8, n9]; try rfl)); simp only [zp, zq, z0, z1])
          | ((with_reducible apply sx_store hp); exact zt rfl; exact za rfl; exact rfl; (first | exact AggTy.size | exact OneTy.size); exact rfl; infer_instance; (first | (with_reducible exact LB_set (by omega)) | (simp only [n0, Nat.reduceAdd, n1, n2, n3, n4, n5, n6, n7, n8, n9]; try rfl)); (first | exact zl rfl | exact LB_le (by omega)); exact rfl; infer_instance; clear hp; (try clear w1); intro w1 hp)
          | ((with_reducible first | refine sx_call hp (A1.out _) ?_ | refine sx_call hp (SH.out _) ?_ | refine sx_call hp (SQ.out _) ?_ | refine sx_call hp (MU.out _) ?_ | refine sx_call hp (WI.out _) ?_); clear hp; (try clear w1); intro w1 hp))
  exact bodyPost_ret (results_one rfl rfl) rfl ⟨rfl, hp.keep⟩
set_option maxHeartbeats 2000000 in
theorem r2sqrt_more (a n r q r1 v : Int) (o : Bool) (h : ¬ a < 0) (HB : eqb q n = false) (A1 : Hid (∀ w, Calls Tryz.prog 32 #[.int .i64 a] w (Ret (W a) w))) (SH : Hid (∀ w, Calls Tryz.prog 40 #[W a, .int .i64 32] w (Ret (.tuple #[W n, .bool true]) w)))
    (SQ : Hid (∀ w, Calls Tryz.prog 56 #[W n] w (Ret (.tuple #[W r, .bool true]) w))) (MU : Hid (∀ w, Calls Tryz.prog 31 #[W r, W r] w (Ret (.tuple #[W q, .bool true]) w)))
    (O1 : Hid (∀ w, Calls Tryz.prog 35 #[.int .i64 1] w (Ret (W 1) w))) (SM : Hid (∀ w, Calls Tryz.prog 52 #[W r, W 1] w (Ret (.tuple #[W r1, .bool o]) w)))
    (WI : Hid (∀ w, Calls Tryz.prog 33 #[W r1] w (Ret (.int .i64 v) w))) (w : World) : Calls Tryz.prog 28 #[.int .i64 a, .bool true] w (Ret (.int .i64 v) w) := by
  unfold eqb at HB
  go_enter Tryz.func28, Tryz.ntmps28
  have hp := Hp.start [] w
  go_upto_if 35 with (first
          | ((with_reducible apply sx_guard); (conv => whnf); refine Bx.mk ?_; (try simp only [zp, zq, z0, z1]))
          | ((with_reducible apply sx_alloc hp); infer_instance; exact rfl; clear hp; (try clear w1); intro g w1 hp; simp only [zp, zq, z0, z1])
          | ((with_reducible apply sx_load_agg hp); exact zt rfl; infer_instance; infer_instance; (first | exact zl rfl | exact LB_le (by omega)); (first | (with_reducible exact LB_set (by omega)) | (simp only [n0, Nat.reduceAdd, n1, n2, n3, n4, n5, n6, n7, n8, n9]; try rfl)); simp only [zp, zq, z0, z1])
          | ((with_reducible apply sx_store hp); exact zt rfl; exact za rfl; exact rfl; (first | exact AggTy.size | exact OneTy.size); exact rfl; infer_instance; (first | (with_reducible exact LB_set (by omega)) | (simp only [n0, Nat.reduceAdd, n1, n2, n3, n4, n5, n6, n7, n8, n9]; try rfl)); (first | exact zl rfl | exact LB_le (by omega)); exact rfl; infer_instance; clear hp; (try clear w1); intro w1 hp)
          | ((with_reducible first | refine sx_call hp (A1.out _) ?_ | refine sx_call hp (SH.out _) ?_ | refine sx_call hp (SQ.out _) ?_ | refine sx_call hp (MU.out _) ?_); clear hp; (try clear w1); intro w1 hp))
  go_upto_region 7 with fail
  rename_i gn gr K hK
  obtain ⟨gm, rfl⟩ : ∃ k : Nat, k = g := ⟨_, rfl⟩
  go_cut [] (fun wx => Hp [] w [⟨gm, 30, [.int .u64 (lb (q) 0), .int .u64 (lb (q) 1), .int .u64 (lb (q) 2), .int .u64 (lb (q) 3), .int .u64 (lb (q) 4), .int .u64 (lb (q) 5), .int .u64 (lb (q) 6), .int .u64 (lb (q) 7)]⟩, ⟨gr, 30, [.int .u64 (lb (r1) 0), .int .u64 (lb (r1) 1), .int .u64 (lb (r1) 2), .int .u64 (lb (r1) 3), .int .u64 (lb (r1) 4), .int .u64 (lb (r1) 5), .int .u64 (lb (r1) 6), .int .u64 (lb (r1) 7)]⟩, ⟨gn, 30, [.int .u64 (lb (n) 0), .int .u64 (lb (n) 1), .int .u64 (lb (n) 2), .int .u64 (lb (n) 3), .int .u64 (lb (n) 4), .int .u64 (lb (n) 5), .int .u64 (lb (n) 6), .int .u64 (lb (n) 7)]⟩] wx)
  case first =>
    have hq := hp
    clear hp
    have hp := hq.sub (List.nil_sublist _)
    refine wp_drawn_hp hp hq [] (.b2 0 (.l 1 (.l 2 (.q 3 (.q 4 (.q 5 (.l 6 .nil)))))) 1 (.l 0 (.l 2 (.q 3 (.q 4 (.q 5 (.l 6 .nil))))))) (by kernel_rfl) (by kernel_rfl) ?_
    clear hp hq; (try clear w1); intro w1 hp hq
    repeat' (first
      | (((with_reducible apply sd_q); exact zo rfl); (first
          | ((with_reducible apply sd_move hp); exact zu rfl; simp only [zp, zq, z0, z1])
          | ((with_reducible apply sd_pure hp); exact rfl; (focus (intro _; go_simp; (try go_ints); try with_reducible rfl)); simp only [zp, zq, z0, z1])))
      | (((with_reducible apply sd_l); exact zo rfl); (first
          | ((with_reducible apply sd_call hp); exact rfl; (focus (intro _; go_simp; try first | with_reducible rfl | exact ⟨rfl, rfl⟩)); (with_reducible first | exact fun w => O1.out w | exact fun w => SM.out w); exact hq; clear hp hq; (try clear w1); intro w1 hp hq; simp only [zp, zq, z0, z1])
          | ((with_reducible apply sd_store_far hq); exact rfl; exact zt rfl; (first | exact za rfl | exact zu rfl | exact zi rfl | exact zb rfl | exact zr rfl | exact zs rfl | exact zf rfl | exact zg rfl | exact zn rfl | exact zv rfl | exact zw rfl); exact rfl; (first | exact AggTy.size | exact OneTy.size); exact rfl; infer_instance; (first | (with_reducible exact LB_set (by omega)) | (simp only [n0, Nat.reduceAdd, n1, n2, n3, n4, n5, n6, n7, n8, n9]; try rfl)); (first | exact zl rfl | exact LB_le (by omega)); exact rfl; infer_instance; (repeat (first | exact List.Sublist.refl _ | apply List.Sublist.cons)); clear hp hq; (try clear w1); intro w1 hp hq)
          | ((with_reducible apply sd_lload_agg hp hq); exact rfl; exact zt rfl; infer_instance; infer_instance; (first | exact zl rfl | exact LB_le (by omega)); (first | (with_reducible exact LB_set (by omega)) | (simp only [n0, Nat.reduceAdd, n1, n2, n3, n4, n5, n6, n7, n8, n9]; try rfl)); simp only [zp, zq, z0, z1])
          | ((with_reducible apply sd_lload_one hp hq); exact rfl; exact zt rfl; infer_instance; infer_instance; (first | exact zio rfl | exact zbo rfl | exact zro rfl | exact zso rfl | exact zfo rfl | exact zgo rfl | exact zno rfl | exact zvo rfl | exact zwo rfl | exact LB_get (by omega)); simp only [zp, zq, z0, z1])))
      | (with_reducible apply sd_b2)
      | ((with_reducible apply sd_nil); clear hp; have hp := hq; clear hq))
    all_goals (go_wp2_with fail; go_meet; exact hp)
  case rest =>
    clear hp
    have hp := hcut
    clear hcut
    go_wp2_with (first
          | ((with_reducible apply sx_alloc hp); infer_instance; exact rfl; clear hp; (try clear w1); intro g w1 hp; simp only [zp, zq, z0, z1])
          | ((with_reducible apply sx_load_agg hp); exact zt rfl; infer_instance; infer_instance; (first | exact zl rfl | exact LB_le (by omega)); (first | (with_reducible exact LB_set (by omega)) | (simp only [n0, Nat.reduceAdd, n1, n2, n3, n4, n5, n6, n7, n8, n9]; try rfl)); simp only [zp, zq, z0, z1])
          | ((with_reducible apply sx_store hp); exact zt rfl; exact za rfl; exact rfl; (first | exact AggTy.size | exact OneTy.size); exact rfl; infer_instance; (first | (with_reducible exact LB_set (by omega)) | (simp only [n0, Nat.reduceAdd, n1, n2, n3, n4, n5, n6, n7, n8, n9]; try rfl)); (first | exact zl rfl | exact LB_le (by omega)); exact rfl; infer_instance; clear hp; (try clear w1); intro w1 hp)
          | ((with_reducible refine sx_call hp (WI.out _) ?_); clear hp; (try clear w1); intro w1 hp))
    exact bodyPost_ret (results_one rfl rfl) rfl ⟨rfl, hp.keep⟩
theorem r2sqrt_any (a : Int) (ha : I64 a) (up : Bool) (w : World) : Calls Tryz.prog 28 #[.int .i64 a, .bool up] w (Ret (.int .i64 (rootv a up)) w) := by
  have A1 := Lib.hid (r2raw_any a ha)
  have SH := Lib.hid (rshl32 a ha)
  have hn : Fit (a * 4294967296) := by unfold I64 at ha; unfold Fit M511; omega
  unfold rootv
  by_cases h : a < 0
  · rw [if_pos h]
    exact r2sqrt_no a up h w
  · rw [if_neg h]
    have sq := rsqrt_any (a * 4294967296) hn
    rw [show sqv (a * 4294967296) = rt (a * 4294967296) from if_pos (by omega), decide_eq_true (by omega)] at sq
    obtain ⟨r0, r1⟩ := root_bd ha (by omega)
    have hs := rt_spec (n := a * 4294967296) (by omega)
    have hs0 := Int.mul_nonneg r0 r0
    generalize rt (a * 4294967296) = r at *
    have hrf : Fit r := by unfold Fit M511; omega
    have hmf : Fit (r * r) := by unfold I64 at ha; unfold Fit M511; omega
    have mu := rmul_any r r hrf hrf
    rw [show fz (r * r) = r * r from if_pos hmf, decide_eq_true hmf] at mu
    have wi := rwithin_any r hrf
    rw [cl_id (by unfold I64; omega)] at wi
    cases up with
    | false =>
      rw [if_neg (by simp)]
      exact r2sqrt_down a _ _ _ _ h A1 SH (Lib.hid sq) (Lib.hid mu) (Lib.hid wi) w
    | true =>
      by_cases he : r * r = a * 4294967296
      · rw [if_neg (by simp [he])]
        exact r2sqrt_same a _ _ _ _ h (by rw [he, eqb_fit hn hn]; exact decide_eq_true rfl) A1 SH (Lib.hid sq) (Lib.hid mu) (Lib.hid wi) w
      · rw [if_pos ⟨rfl, he⟩]
        have hf1 : Fit (r + 1) := by unfold Fit M511; omega
        have wi1 := rwithin_any (r + 1) hf1
        rw [cl_id (by unfold I64; omega)] at wi1
        have ad := radd_any r 1 hrf fone
        rw [show fz (r + 1) = r + 1 from if_pos hf1] at ad
        exact r2sqrt_more a _ _ _ _ _ _ h (by rw [eqb_fit hmf hn]; exact decide_eq_false he) A1 SH (Lib.hid sq) (Lib.hid mu) (Lib.hid (rsmall_any 1 (by omega) (by omega))) (Lib.hid fun _ => ad _) (Lib.hid wi1) w
end Go.Proofs.YtbdkbmhejoakiaaGreatDoor
