/-
  Package ninepinref02: Div, Clamp; package ninepinref22: least, axis, Frame, Aim (contracts).
-/
import Derived.Test.YtboiepagonlnkaaGreatYe
import Derived.Test.YtboiepagonlnkaaGreatVf
import Derived.Test.YtboiepagonlnkaaGreatVc
set_option linter.unusedSimpArgs false
set_option linter.unusedVariables false
set_option maxRecDepth 100000
namespace Go.Proofs.YtboiepagonlnkaaGreat
open Go Go.RowKit
attribute [local irreducible] wpList

theorem ediv_bd {n b : Int} {M : Int} (hM : 0 ≤ M) (hn : -M ≤ n ∧ n ≤ M) (hb : 0 < b) : -M ≤ n / b ∧ n / b ≤ M := by
  constructor
  · rw [Int.le_ediv_iff_mul_le hb]
    have : M ≤ M * b := by
      have := Int.mul_le_mul_of_nonneg_left (show 1 ≤ b by omega) hM
      omega
    have e : -M * b = -(M * b) := Int.neg_mul _ _
    omega
  · have h : n / b < M + 1 := by
      apply Int.ediv_lt_of_lt_mul hb
      have := Int.mul_le_mul_of_nonneg_left (show 1 ≤ b by omega) (show 0 ≤ M + 1 by omega)
      omega
    omega
theorem dvq_bd {n b : Int} (hn : -39614081257132168796771975168 ≤ n ∧ n ≤ 39614081257132168796771975168) : -39614081257132168796771975168 ≤ dvq n b ∧ dvq n b ≤ 39614081257132168796771975168 := by
  unfold dvq
  split
  · rename_i h
    unfold fq
    split
    · exact ediv_bd (by omega) (by omega) (by omega)
    · exact ediv_bd (by omega) hn (by have := h.1; omega)
  · omega
set_option maxHeartbeats 2000000 in
theorem r2div_down (a b : Int) (ha : I64 a) (hb : I64 b) (w : World) : Calls Tryz.prog 28 #[.int .i64 a, .int .i64 b, .bool false] w (Ret (.int .i64 (dq a b)) w) := by
  unfold dq
  by_cases hb0 : b = 0
  · rw [if_pos hb0]
    subst hb0
    by_cases h1 : 0 < a
    · rw [if_pos h1]
      clear ha hb
      go_enter Tryz.func28, Tryz.ntmps28
      have hp := Hp.start [] w
      go_wp2_with (first
          | ((with_reducible apply sx_alloc hp); infer_instance; exact rfl; clear hp; (try clear w1); intro g w1 hp; simp only [zp, zq, z0, z1])
          | ((with_reducible apply sx_load_agg hp); exact zt rfl; infer_instance; infer_instance; (first | exact zl rfl | exact LB_le (by omega)); (first | (with_reducible exact LB_set (by omega)) | (simp only [n0, Nat.reduceAdd, n1, n2, n3, n4, n5, n6, n7, n8, n9]; try rfl)); simp only [zp, zq, z0, z1])
          | ((with_reducible apply sx_store hp); exact zt rfl; exact za rfl; exact rfl; (first | exact AggTy.size | exact OneTy.size); exact rfl; infer_instance; (first | (with_reducible exact LB_set (by omega)) | (simp only [n0, Nat.reduceAdd, n1, n2, n3, n4, n5, n6, n7, n8, n9]; try rfl)); (first | exact zl rfl | exact LB_le (by omega)); exact rfl; infer_instance; clear hp; (try clear w1); intro w1 hp))
      exact bodyPost_ret (results_one rfl rfl) rfl ⟨rfl, hp.keep⟩
    · by_cases h2 : a < 0
      · rw [if_neg h1, if_pos h2]
        clear ha hb
        go_enter Tryz.func28, Tryz.ntmps28
        have hp := Hp.start [] w
        go_wp2_with (first
          | ((with_reducible apply sx_alloc hp); infer_instance; exact rfl; clear hp; (try clear w1); intro g w1 hp; simp only [zp, zq, z0, z1])
          | ((with_reducible apply sx_load_agg hp); exact zt rfl; infer_instance; infer_instance; (first | exact zl rfl | exact LB_le (by omega)); (first | (with_reducible exact LB_set (by omega)) | (simp only [n0, Nat.reduceAdd, n1, n2, n3, n4, n5, n6, n7, n8, n9]; try rfl)); simp only [zp, zq, z0, z1])
          | ((with_reducible apply sx_store hp); exact zt rfl; exact za rfl; exact rfl; (first | exact AggTy.size | exact OneTy.size); exact rfl; infer_instance; (first | (with_reducible exact LB_set (by omega)) | (simp only [n0, Nat.reduceAdd, n1, n2, n3, n4, n5, n6, n7, n8, n9]; try rfl)); (first | exact zl rfl | exact LB_le (by omega)); exact rfl; infer_instance; clear hp; (try clear w1); intro w1 hp))
        exact bodyPost_ret (results_one rfl rfl) rfl ⟨rfl, hp.keep⟩
      · rw [if_neg h1, if_neg h2]
        clear ha hb
        go_enter Tryz.func28, Tryz.ntmps28
        have hp := Hp.start [] w
        go_wp2_with (first
          | ((with_reducible apply sx_alloc hp); infer_instance; exact rfl; clear hp; (try clear w1); intro g w1 hp; simp only [zp, zq, z0, z1])
          | ((with_reducible apply sx_load_agg hp); exact zt rfl; infer_instance; infer_instance; (first | exact zl rfl | exact LB_le (by omega)); (first | (with_reducible exact LB_set (by omega)) | (simp only [n0, Nat.reduceAdd, n1, n2, n3, n4, n5, n6, n7, n8, n9]; try rfl)); simp only [zp, zq, z0, z1])
          | ((with_reducible apply sx_store hp); exact zt rfl; exact za rfl; exact rfl; (first | exact AggTy.size | exact OneTy.size); exact rfl; infer_instance; (first | (with_reducible exact LB_set (by omega)) | (simp only [n0, Nat.reduceAdd, n1, n2, n3, n4, n5, n6, n7, n8, n9]; try rfl)); (first | exact zl rfl | exact LB_le (by omega)); exact rfl; infer_instance; clear hp; (try clear w1); intro w1 hp))
        exact bodyPost_ret (results_one rfl rfl) rfl ⟨rfl, hp.keep⟩
  · rw [if_neg hb0]
    have A1 := Lib.hid (r2raw_any a ha)
    have A2 := Lib.hid (r2raw_any b hb)
    have hx1 : -39614081257132168796771975168 ≤ a * 4294967296 ∧ a * 4294967296 ≤ 39614081257132168796771975168 := by unfold I64 at ha; omega
    have hp2 : (2 : Int) ^ (32 : Int).toNat = 4294967296 := rfl
    have hok : shok a 32 := ⟨by omega, .inr ⟨by omega, by rw [hp2]; unfold Fit M511; omega⟩⟩
    have hsh := rshl_any a 32 (fit_i64 ha)
    rw [show shlv a 32 = a * 4294967296 by unfold shlv; rw [if_pos hok, hp2], decide_eq_true hok] at hsh
    have SH := Lib.hid hsh
    have hbd := dvq_bd (b := b) hx1
    have hq := rquot_any (a * 4294967296) b false (by unfold Fit M511; omega) (fit_i64 hb) (by unfold Fit M511; omega)
    rw [show qv (a * 4294967296) b false = dvq (a * 4294967296) b from if_neg (fun h => by cases h.1)] at hq
    have A4 := Lib.hid hq
    have A5 := Lib.hid fun w => rwithin_any _ (dvq_fit (a * 4294967296) b) w
    have hb1 : (b == 0) = false := by simpa using hb0
    clear ha hb hx1 hp2 hok hsh hq hbd
    generalize a * 4294967296 = n at *
    generalize dvq n b = q at *
    generalize cl q = r at *
    go_enter Tryz.func28, Tryz.ntmps28
    have hp := Hp.start [] w
    go_upto_region 8 with (first
          | ((with_reducible apply sx_alloc hp); infer_instance; exact rfl; clear hp; (try clear w1); intro g w1 hp; simp only [zp, zq, z0, z1])
          | ((with_reducible apply sx_load_agg hp); exact zt rfl; infer_instance; infer_instance; (first | exact zl rfl | exact LB_le (by omega)); (first | (with_reducible exact LB_set (by omega)) | (simp only [n0, Nat.reduceAdd, n1, n2, n3, n4, n5, n6, n7, n8, n9]; try rfl)); simp only [zp, zq, z0, z1])
          | ((with_reducible apply sx_store hp); exact zt rfl; exact za rfl; exact rfl; (first | exact AggTy.size | exact OneTy.size); exact rfl; infer_instance; (first | (with_reducible exact LB_set (by omega)) | (simp only [n0, Nat.reduceAdd, n1, n2, n3, n4, n5, n6, n7, n8, n9]; try rfl)); (first | exact zl rfl | exact LB_le (by omega)); exact rfl; infer_instance; clear hp; (try clear w1); intro w1 hp)
          | ((with_reducible first | refine sx_call hp (A1.out _) ?_ | refine sx_call hp (SH.out _) ?_); clear hp; (try clear w1); intro w1 hp))
    have hq := hp
    refine wp_drawnG_hp hp hq [] (.q 0 (.q 1 (.q 3 (.p 2 (.p 4 (.p 5 (.q 6 .nil))))))) (by kernel_rfl) (by kernel_rfl) ?_
    clear hp hq; (try clear w1); intro w1 hp hq
    repeat' (first
      | (((with_reducible apply sg_q); exact zo rfl); (first
          | ((with_reducible apply sg_load_agg hp); exact rfl; exact zt rfl; infer_instance; infer_instance; (first | exact zl rfl | exact LB_le (by omega)); (first | (with_reducible exact LB_set (by omega)) | (simp only [n0, Nat.reduceAdd, n1, n2, n3, n4, n5, n6, n7, n8, n9]; try rfl)); simp only [zp, zq, z0, z1])
          | ((with_reducible apply sg_move hp); (first | exact zb rfl | exact zi rfl); simp only [zp, zq, z0, z1])
          | ((with_reducible apply sg_assign hp); exact zi rfl; simp only [zp, zq, z0, z1])
          | ((with_reducible apply sg_pure hp); exact rfl; (focus (intro _; go_simp; (try go_ints); try with_reducible rfl)); simp only [zp, zq, z0, z1])))
      | (((with_reducible apply sg_p); exact zo rfl); ((with_reducible apply sg_call hp); exact rfl; (focus (intro _; go_simp; try first | with_reducible rfl | exact ⟨rfl, rfl⟩)); (with_reducible first | exact fun w => A2.out w | exact fun w => A4.out w | exact fun w => A5.out w); simp only [zp, zq, z0, z1]))
      | ((with_reducible apply sg_nil hq); clear hp hq; (try clear w1); intro w1 hp))
    go_wp2
    exact bodyPost_ret (results_one rfl rfl) rfl ⟨rfl, hp.keep⟩
set_option maxHeartbeats 1000000 in
theorem r2clamp_any (a l h : Int) (w : World) : Calls Tryz.prog 30 #[.int .i64 a, .int .i64 l, .int .i64 h] w (Ret (.int .i64 (clampv a l h)) w) := by
  unfold clampv
  by_cases h1 : a < l
  · rw [if_pos h1]
    go_enter Tryz.func30, Tryz.ntmps30
    have hp := Hp.start [] w
    go_wp2_with (first
          | fail)
    exact bodyPost_ret (results_one rfl rfl) rfl ⟨rfl, hp.keep⟩
  · rw [if_neg h1]
    by_cases h2 : h < a
    · rw [if_pos h2]
      go_enter Tryz.func30, Tryz.ntmps30
      have hp := Hp.start [] w
      go_wp2_with (first
          | fail)
      exact bodyPost_ret (results_one rfl rfl) rfl ⟨rfl, hp.keep⟩
    · rw [if_neg h2]
      go_enter Tryz.func30, Tryz.ntmps30
      have hp := Hp.start [] w
      go_wp2_with (first
          | fail)
      exact bodyPost_ret (results_one rfl rfl) rfl ⟨rfl, hp.keep⟩
set_option maxHeartbeats 2000000 in
theorem raim_any (gap t : Int) (hg : I64 gap) (ht : I64 t) (w : World) : Calls Tryz.prog 9 #[.int .i64 gap, .int .i64 t] w (Ret (.tuple #[.int .i64 (aimO gap t).1, .int .i64 (aimO gap t).2]) w) := by
  unfold aimO
  by_cases h1 : t ≤ 0
  · rw [if_pos h1]
    clear hg ht
    go_enter Tryz.func9, Tryz.ntmps9
    have hp := Hp.start [] w
    go_wp2_with (first
          | fail)
    exact bodyPost_ret (results_two rfl rfl rfl) rfl ⟨rfl, hp.keep⟩
  · rw [if_neg h1]
    unfold aimv
    have i0 : I64 0 := by unfold I64; omega
    have D1 := Lib.hid (r2div_down gap t hg ht)
    have S1 := Lib.hid (r2sub_any 0 (dq gap t) i0 (dq_i64 _ _))
    have S2 := Lib.hid (r2sub_any 0 gap i0 hg)
    have M1 := Lib.hid (r2mul_down 34359738368 t (by unfold I64; omega) ht)
    have D2 := Lib.hid (r2div_down (cl (0 - gap)) (cl (34359738368 * t / 4294967296)) (cl_i64 _) (cl_i64 _))
    clear hg ht i0
    generalize dq (cl (0 - gap)) (cl (34359738368 * t / 4294967296)) = q at *
    generalize cl (34359738368 * t / 4294967296) = p at *
    generalize cl (0 - dq gap t) = s at *
    generalize dq gap t = d at *
    by_cases h2 : gap < 0
    · simp only [if_pos h2]
      generalize cl (0 - gap) = ng at *
      by_cases h3 : 8589934592 < q
      · simp only [if_pos h3]
        have CL := Lib.hid (r2clamp_any 8589934592 (-1099511627776) 1099511627776)
        generalize clampv 8589934592 (-1099511627776) 1099511627776 = r at *
        go_enter Tryz.func9, Tryz.ntmps9
        have hp := Hp.start [] w
        go_wp2_with (first
          | ((with_reducible first | refine sx_call hp (D1.out _) ?_ | refine sx_call hp (S1.out _) ?_ | refine sx_call hp (S2.out _) ?_ | refine sx_call hp (M1.out _) ?_ | refine sx_call hp (D2.out _) ?_ | refine sx_call hp (CL.out _) ?_); clear hp; (try clear w1); intro w1 hp))
        exact bodyPost_ret (results_two rfl rfl rfl) rfl ⟨rfl, hp.keep⟩
      · simp only [if_neg h3]
        have CL := Lib.hid (r2clamp_any q (-1099511627776) 1099511627776)
        generalize clampv q (-1099511627776) 1099511627776 = r at *
        go_enter Tryz.func9, Tryz.ntmps9
        have hp := Hp.start [] w
        go_wp2_with (first
          | ((with_reducible first | refine sx_call hp (D1.out _) ?_ | refine sx_call hp (S1.out _) ?_ | refine sx_call hp (S2.out _) ?_ | refine sx_call hp (M1.out _) ?_ | refine sx_call hp (D2.out _) ?_ | refine sx_call hp (CL.out _) ?_); clear hp; (try clear w1); intro w1 hp))
        exact bodyPost_ret (results_two rfl rfl rfl) rfl ⟨rfl, hp.keep⟩
    · simp only [if_neg h2]
      have CL := Lib.hid (r2clamp_any s (-1099511627776) 1099511627776)
      generalize clampv s (-1099511627776) 1099511627776 = r at *
      clear S2 M1 D2
      go_enter Tryz.func9, Tryz.ntmps9
      have hp := Hp.start [] w
      go_wp2_with (first
          | ((with_reducible first | refine sx_call hp (D1.out _) ?_ | refine sx_call hp (S1.out _) ?_ | refine sx_call hp (CL.out _) ?_); clear hp; (try clear w1); intro w1 hp))
      exact bodyPost_ret (results_two rfl rfl rfl) rfl ⟨rfl, hp.keep⟩
end Go.Proofs.YtboiepagonlnkaaGreat
