/-
  ninepinlaw02: wides, FixRoot (contracts).
-/
import Derived.Test.YtbdkbmhejoakiaaDoorTp
set_option linter.unusedSimpArgs false
set_option linter.unusedVariables false
set_option maxRecDepth 100000
namespace Go.Proofs.YtbdkbmhejoakiaaDoor
open Go Go.RowKit
attribute [local irreducible] wpList

theorem wides_any (a : Int) (ha : I64 a) (w : World) : Calls Tryd.prog 26 #[.int .i64 a] w (Ret (W (a * 4294967296)) w) := by
  have A1 := Lib.hid (of_i64 a ha)
  have A2 := Lib.hid (shl32 a ha)
  clear ha
  generalize a * 4294967296 = n at *
  go_enter Tryd.func26, Tryd.ntmps26
  have hp := Hp.start [] w
  go_wp2_with (first
          | ((with_reducible apply sx_alloc hp); infer_instance; exact rfl; clear hp; (try clear w1); intro g w1 hp; simp only [zp, zq, z0, z1])
          | ((with_reducible apply sx_load_agg hp); exact zt rfl; infer_instance; infer_instance; (first | exact zl rfl | exact LB_le (by omega)); (first | (with_reducible exact LB_set (by omega)) | (simp only [n0, Nat.reduceAdd, n1, n2, n3, n4, n5, n6, n7, n8, n9]; try rfl)); simp only [zp, zq, z0, z1])
          | ((with_reducible apply sx_store hp); exact zt rfl; exact za rfl; exact rfl; (first | exact AggTy.size | exact OneTy.size); exact rfl; infer_instance; (first | (with_reducible exact LB_set (by omega)) | (simp only [n0, Nat.reduceAdd, n1, n2, n3, n4, n5, n6, n7, n8, n9]; try rfl)); (first | exact zl rfl | exact LB_le (by omega)); exact rfl; infer_instance; clear hp; (try clear w1); intro w1 hp)
          | ((with_reducible first | refine sx_call hp (A1.out _) ?_ | refine sx_call hp (A2.out _) ?_); clear hp; (try clear w1); intro w1 hp))
  exact bodyPost_ret (results_one rfl ⟨_, rfl, run_load_agg hp (Nat.le_of_ble_eq_true rfl)⟩) rfl ⟨rfl, hp.keep⟩
theorem mul_abs {a b c d : Int} (ha : -c ≤ a ∧ a ≤ c) (hb : -d ≤ b ∧ b ≤ d) : -(c * d) ≤ a * b ∧ a * b ≤ c * d := by
  have k1 := Int.mul_nonneg (show 0 ≤ c - a by omega) (show 0 ≤ d + b by omega)
  have k2 := Int.mul_nonneg (show 0 ≤ c + a by omega) (show 0 ≤ d - b by omega)
  have k3 := Int.mul_nonneg (show 0 ≤ c - a by omega) (show 0 ≤ d - b by omega)
  have k4 := Int.mul_nonneg (show 0 ≤ c + a by omega) (show 0 ≤ d + b by omega)
  have e1 : (c - a) * (d + b) = c * d + c * b - a * d - a * b := by grind
  have e2 : (c + a) * (d - b) = c * d - c * b + a * d - a * b := by grind
  have e3 : (c - a) * (d - b) = c * d - c * b - a * d + a * b := by grind
  have e4 : (c + a) * (d + b) = c * d + c * b + a * d + a * b := by grind
  omega
theorem cmp_pos {a b : Int} : 0 < cmp a b ↔ b < a := by
  unfold cmp
  split <;> (try split) <;> omega
theorem cmp_neg {a b : Int} : cmp a b < 0 ↔ a < b := by
  unfold cmp
  split <;> (try split) <;> omega
set_option maxHeartbeats 2000000 in
theorem root_neg (a : Int) (h : a < 0) (R1 : Hid (∀ w, Calls Tryd.prog 28 #[.int .i64 a] w (Ret (.int .i64 0) w))) (R2 : Hid (∀ w, Calls Tryd.prog 29 #[.int .i64 a] w (Ret (.int .i64 0) w))) (w : World) :
    Calls Tryd.prog 8 #[.int .i64 a] w (Ret (.bool true) w) := by
  go_enter Tryd.func8, Tryd.ntmps8
  have hp := Hp.start [] w
  go_wp2_with (first
          | ((with_reducible apply sx_guard); (conv => whnf); refine Bx.mk ?_; (try simp only [zp, zq, z0, z1]))
          | ((with_reducible apply sx_alloc hp); infer_instance; exact rfl; clear hp; (try clear w1); intro g w1 hp; simp only [zp, zq, z0, z1])
          | ((with_reducible apply sx_load_agg hp); exact zt rfl; infer_instance; infer_instance; (first | exact zl rfl | exact LB_le (by omega)); (first | (with_reducible exact LB_set (by omega)) | (simp only [n0, Nat.reduceAdd, n1, n2, n3, n4, n5, n6, n7, n8, n9]; try rfl)); simp only [zp, zq, z0, z1])
          | ((with_reducible apply sx_store hp); exact zt rfl; exact za rfl; exact rfl; (first | exact AggTy.size | exact OneTy.size); exact rfl; infer_instance; (first | (with_reducible exact LB_set (by omega)) | (simp only [n0, Nat.reduceAdd, n1, n2, n3, n4, n5, n6, n7, n8, n9]; try rfl)); (first | exact zl rfl | exact LB_le (by omega)); exact rfl; infer_instance; clear hp; (try clear w1); intro w1 hp)
          | ((with_reducible first | refine sx_call hp (R1.out _) ?_ | refine sx_call hp (R2.out _) ?_ | refine sx_call hp (awake2 _) ?_); clear hp; (try clear w1); intro w1 hp))
  exact bodyPost_ret (results_one rfl rfl) rfl ⟨rfl, hp.keep⟩
set_option maxHeartbeats 8000000 in
theorem root_core (a r s r1 p q n c1 c2 : Int) (b : Bool) (h : ¬ a < 0) (h1 : decide (c1 ≤ 0) = true) (h2 : decide (0 < c2) = true) (HE : eqb p n = b) (hb : (b = true ∧ s = r) ∨ (b = false ∧ (r == s) = false ∧ (s == wrap64 (r + 1)) = true))
    (R1 : Hid (∀ w, Calls Tryd.prog 28 #[.int .i64 a] w (Ret (.int .i64 r) w))) (R2 : Hid (∀ w, Calls Tryd.prog 29 #[.int .i64 a] w (Ret (.int .i64 s) w)))
    (O1 : Hid (∀ w, Calls Tryd.prog 24 #[.int .i64 r] w (Ret (W r) w))) (M1 : Hid (∀ w, Calls Tryd.prog 23 #[W r, W r] w (Ret (.tuple #[W p, .bool true]) w)))
    (O2 : Hid (∀ w, Calls Tryd.prog 24 #[.int .i64 (wrap64 (r + 1))] w (Ret (W r1) w))) (M2 : Hid (∀ w, Calls Tryd.prog 23 #[W r1, W r1] w (Ret (.tuple #[W q, .bool true]) w)))
    (WN : Hid (∀ w, Calls Tryd.prog 26 #[.int .i64 a] w (Ret (W n) w)))
    (C1 : Hid (∀ w, Calls Tryd.prog 27 #[W p, W n] w (Ret (.int .i64 c1) w))) (C2 : Hid (∀ w, Calls Tryd.prog 27 #[W q, W n] w (Ret (.int .i64 c2) w))) (w : World) :
    Calls Tryd.prog 8 #[.int .i64 a] w (Ret (.bool true) w) := by
  unfold eqb at HE
  rcases hb with ⟨rfl, rfl⟩ | ⟨rfl, k1, k2⟩
  all_goals
    go_enter Tryd.func8, Tryd.ntmps8
    have hp := Hp.start [] w
    go_wp2_with (first
          | ((with_reducible apply sx_guard); (conv => whnf); refine Bx.mk ?_; (try simp only [zp, zq, z0, z1]))
          | ((with_reducible apply sx_alloc hp); infer_instance; exact rfl; clear hp; (try clear w1); intro g w1 hp; simp only [zp, zq, z0, z1])
          | ((with_reducible apply sx_load_agg hp); exact zt rfl; infer_instance; infer_instance; (first | exact zl rfl | exact LB_le (by omega)); (first | (with_reducible exact LB_set (by omega)) | (simp only [n0, Nat.reduceAdd, n1, n2, n3, n4, n5, n6, n7, n8, n9]; try rfl)); simp only [zp, zq, z0, z1])
          | ((with_reducible apply sx_store hp); exact zt rfl; exact za rfl; exact rfl; (first | exact AggTy.size | exact OneTy.size); exact rfl; infer_instance; (first | (with_reducible exact LB_set (by omega)) | (simp only [n0, Nat.reduceAdd, n1, n2, n3, n4, n5, n6, n7, n8, n9]; try rfl)); (first | exact zl rfl | exact LB_le (by omega)); exact rfl; infer_instance; clear hp; (try clear w1); intro w1 hp)
          | ((with_reducible first | refine sx_call hp (R1.out _) ?_ | refine sx_call hp (R2.out _) ?_ | refine sx_call hp (O1.out _) ?_ | refine sx_call hp (M1.out _) ?_ | refine sx_call hp (O2.out _) ?_ | refine sx_call hp (M2.out _) ?_ | refine sx_call hp (WN.out _) ?_ | refine sx_call hp (C1.out _) ?_ | refine sx_call hp (C2.out _) ?_ | refine sx_call hp (awake2 _) ?_); clear hp; (try clear w1); intro w1 hp))
    exact bodyPost_ret (results_one rfl rfl) rfl ⟨rfl, hp.keep⟩
theorem root_law (a : Int) (ha : I64 a) (w : World) : Calls Tryd.prog 8 #[.int .i64 a] w (Ret (.bool true) w) := by
  have R1 := fsqrt_any a ha
  have R2 := fsqrtup_any a ha
  by_cases h : a < 0
  · rw [rootv_neg h] at R1 R2
    exact root_neg a h (Lib.hid R1) (Lib.hid R2) w
  · obtain ⟨r0, rb, s1, s2, s3⟩ := rootv_facts ha (by omega)
    generalize rootv a false = r at *
    generalize rootv a true = s at *
    have hr : I64 r := by unfold I64; omega
    have hr1 : I64 (r + 1) := by unfold I64; omega
    have m1 := mul_abs (a := r) (b := r) (c := 199032864766430) (d := 199032864766430) (by omega) (by omega)
    have m2 := mul_abs (a := r + 1) (b := r + 1) (c := 199032864766431) (d := 199032864766431) (by omega) (by omega)
    have f1 : Fit (r * r) := by unfold Fit M511; omega
    have f2 : Fit ((r + 1) * (r + 1)) := by unfold Fit M511; omega
    have fn : Fit (a * 4294967296) := by unfold I64 at ha; unfold Fit M511; omega
    have M1 := mul_any r r (fit_i64 hr) (fit_i64 hr)
    rw [show fz (r * r) = r * r from if_pos f1, decide_eq_true f1] at M1
    have M2 := mul_any (r + 1) (r + 1) (fit_i64 hr1) (fit_i64 hr1)
    rw [show fz ((r + 1) * (r + 1)) = (r + 1) * (r + 1) from if_pos f2, decide_eq_true f2] at M2
    have ew : wrap64 (r + 1) = r + 1 := by unfold wrap64; omega
    have O2 := of_i64 (r + 1) hr1
    refine root_core a r s (r + 1) _ _ _ _ _ (decide (r * r = a * 4294967296)) h (decide_eq_true (cmp_le.2 s1)) (decide_eq_true (cmp_pos.2 s2)) (eqb_fit f1 fn) ?_ (Lib.hid R1) (Lib.hid R2) (Lib.hid (of_i64 r hr)) (Lib.hid M1) (Lib.hid (by rw [ew]; exact O2)) (Lib.hid M2)
      (Lib.hid (wides_any a ha)) (Lib.hid (cmp_any _ _ f1 fn)) (Lib.hid (cmp_any _ _ f2 fn)) w
    rcases s3 with ⟨s3, s4⟩ | ⟨s3, s4⟩
    · exact .inl ⟨decide_eq_true s4, s3⟩
    · refine .inr ⟨decide_eq_false s4, ?_, ?_⟩
      · have : ¬ r = s := by omega
        simpa using this
      · rw [ew, s3]; simp
end Go.Proofs.YtbdkbmhejoakiaaDoor
