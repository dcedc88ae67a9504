/-
  Package ninepinref03: Len, Ratio, Unit, square, Near, further, Move (contracts).
  Package ninepinref03: Ratio, Unit, square, Near, further, Move (contracts).
  Package ninepinref03: square, Near, further, Move (contracts).
-/
import Derived.Test.YtboiepagonlnkaaGreatVc
set_option linter.unusedSimpArgs false
set_option linter.unusedVariables false
set_option maxRecDepth 100000
namespace Go.Proofs.YtboiepagonlnkaaGreat
open Go Go.RowKit
attribute [local irreducible] wpList

/-- The root, rounded up. -/
def rtUp (n : Int) : Int := if rt n * rt n = n then rt n else rt n + 1
theorem rt_fits {n : Int} (h0 : 0 ≤ n) (hn : Fit n) : Fit (rt n) ∧ Fit (rt n + 1) ∧ Fit (rt n * rt n) := by
  have h1 := rt_bd h0 hn.2
  have h2 := rt_nonneg n
  have h3 := (rt_spec h0).1
  have h4 := Int.mul_nonneg h2 h2
  unfold Fit M511 at *
  omega
theorem rtUp_fit {n : Int} (h0 : 0 ≤ n) (hn : Fit n) : Fit (rtUp n) := by
  obtain ⟨h1, h2, _⟩ := rt_fits h0 hn
  unfold rtUp
  split
  · exact h1
  · exact h2
theorem sq_nn (x : Int) : 0 ≤ x * x := by
  rcases Int.le_total 0 x with h | h
  · exact Int.mul_nonneg h h
  · have := Int.mul_nonneg (a := -x) (b := -x) (by omega) (by omega)
    rwa [Int.neg_mul_neg] at this
theorem dot_self (a : P3) : 0 ≤ a.dot a := by
  have h1 := sq_nn a.x
  have h2 := sq_nn a.y
  have h3 := sq_nn a.z
  unfold P3.dot
  omega
def lenv (a : P3) (up : Bool) : Int := cl (if up then rtUp (a.dot a) else rt (a.dot a))
theorem sqrt_pos_any {n : Int} (hn : Fit n) (h0 : 0 ≤ n) (w : World) : Calls Tryz.prog 93 #[W n] w (Ret (.tuple #[W (rt n), .bool true]) w) := rsqrt_pos n hn h0 w
theorem fit_one : Fit 1 := by unfold Fit M511; omega
end Go.Proofs.YtboiepagonlnkaaGreat
set_option linter.unusedSimpArgs false
set_option linter.unusedVariables false
set_option maxRecDepth 100000
namespace Go.Proofs.YtboiepagonlnkaaGreat
open Go Go.RowKit
attribute [local irreducible] wpList

/-- A number by the root of a square. -/
def ratio (x s : Int) : Int :=
  if 0 ≤ x then cl (rt (x * x * 18446744073709551616 / s))
  else cl (-(if rt (x * x * 18446744073709551616 / s) * rt (x * x * 18446744073709551616 / s) * s = x * x * 18446744073709551616 then rt (x * x * 18446744073709551616 / s) else rt (x * x * 18446744073709551616 / s) + 1))
theorem dvq_pos {n s : Int} (h0 : 0 ≤ n) (hn : Fit n) (hs : 0 < s) : dvq n s = n / s ∧ dvr n s = n % s ∧ dvok n s ∧ 0 ≤ n / s ∧ n / s ≤ n ∧ Fit (n / s) := by
  have e : fq n s = n / s := by unfold fq; rw [if_neg (by omega)]
  have h1 : 0 ≤ n / s := Int.ediv_nonneg h0 (Int.le_of_lt hs)
  have h2 : n / s ≤ n := Int.ediv_le_self _ h0
  have hf : Fit (n / s) := by unfold Fit M511 at *; omega
  have hok : dvok n s := ⟨by omega, by rw [e]; exact hf⟩
  refine ⟨by unfold dvq; rw [if_pos hok, e], ?_, hok, h1, h2, hf⟩
  unfold dvr fr
  rw [if_pos hok, e]
  have := Int.mul_ediv_add_emod n s
  rw [Int.mul_comm] at this
  omega
set_option maxHeartbeats 4000000 in
theorem r3ratio_core (x s nx n q q2 r rr rs r1 : Int) (o o2 : Bool) (hx : I64 x)
    (X1 : Hid (∀ w, Calls Tryz.prog 90 #[.int .i64 x] w (Ret (W x) w)))
    (T1 : Hid (∀ w, Calls Tryz.prog 89 #[W x, W x] w (Ret (W nx) w)))
    (T2 : Hid (∀ w, Calls Tryz.prog 91 #[W nx, .int .i64 64] w (Ret (W n) w)))
    (DV : Hid (∀ w, Calls Tryz.prog 92 #[W n, W s] w (Ret (.tuple #[W q, W q2, .bool o]) w)))
    (SQ : Hid (∀ w, Calls Tryz.prog 93 #[W q] w (Ret (.tuple #[W r, .bool true]) w)))
    (W1 : Hid (∀ w, Calls Tryz.prog 65 #[W r] w (Ret (.int .i64 (cl r)) w)))
    (T3 : Hid (∀ w, Calls Tryz.prog 89 #[W r, W r] w (Ret (W rr) w)))
    (T4 : Hid (∀ w, Calls Tryz.prog 89 #[W rr, W s] w (Ret (W rs) w)))
    (PL : Hid (∀ w, Calls Tryz.prog 88 #[W r, W 1] w (Ret (W r1) w)))
    (b : Bool) (HE : eqb rs n = b) (v m : Int) (HV : Hid (v = if b = true then r else r1)) 
    (L1 : Hid (∀ w, Calls Tryz.prog 94 #[.agg #[.int .u64 0, .int .u64 0, .int .u64 0, .int .u64 0, .int .u64 0, .int .u64 0, .int .u64 0, .int .u64 0], W v] w (Ret (W m) w)))
    (W2 : Hid (∀ w, Calls Tryz.prog 65 #[W m] w (Ret (.int .i64 (cl m)) w))) (c : Int) (HC : Hid (c = if 0 ≤ x then cl r else cl m)) (w : World) :
    Calls Tryz.prog 54 #[.int .i64 x, W s] w (Ret (.int .i64 c) w) := by
  have O1 := Lib.hid fun w => rsmall_any 1 (by omega) (by omega) w
  unfold eqb at HE
  by_cases h0 : 0 ≤ x
  · obtain rfl : c = cl r := by rw [HC.out, if_pos h0]
    clear HC HE HV L1 W2 T3 T4 PL
    go_enter Tryz.func54, Tryz.ntmps54
    have hp := Hp.start [] w
    go_wp2_with (first
          | ((with_reducible apply sx_box hp); exact za rfl; exact rfl; clear hp; (try clear w1); intro g w1 hp; simp only [zp, zq, z0, z1])
          | ((with_reducible apply sx_alloc hp); infer_instance; exact rfl; clear hp; (try clear w1); intro g w1 hp; simp only [zp, zq, z0, z1])
          | ((with_reducible apply sx_load_agg hp); exact zt rfl; infer_instance; infer_instance; (first | exact zl rfl | exact LB_le (by omega)); (first | (with_reducible exact LB_set (by omega)) | (simp only [n0, Nat.reduceAdd, n1, n2, n3, n4, n5, n6, n7, n8, n9]; try rfl)); simp only [zp, zq, z0, z1])
          | ((with_reducible apply sx_store hp); exact zt rfl; exact za rfl; exact rfl; (first | exact AggTy.size | exact OneTy.size); exact rfl; infer_instance; (first | (with_reducible exact LB_set (by omega)) | (simp only [n0, Nat.reduceAdd, n1, n2, n3, n4, n5, n6, n7, n8, n9]; try rfl)); (first | exact zl rfl | exact LB_le (by omega)); exact rfl; infer_instance; clear hp; (try clear w1); intro w1 hp)
          | ((with_reducible first | refine sx_call hp (X1.out _) ?_ | refine sx_call hp (T1.out _) ?_ | refine sx_call hp (T2.out _) ?_ | refine sx_call hp (DV.out _) ?_ | refine sx_call hp (SQ.out _) ?_ | refine sx_call hp (W1.out _) ?_); clear hp; (try clear w1); intro w1 hp))
    exact bodyPost_ret (results_one rfl rfl) rfl ⟨rfl, hp.keep⟩
  · obtain rfl : c = cl m := by rw [HC.out, if_neg h0]
    clear HC W1
    cases b with
    | true =>
      obtain rfl : v = r := by rw [HV.out]; simp
      clear HV PL
      generalize cl m = c at *
      go_enter Tryz.func54, Tryz.ntmps54
      have hp := Hp.start [] w
      go_upto_region 8 with (first
          | ((with_reducible apply sx_box hp); exact za rfl; exact rfl; clear hp; (try clear w1); intro g w1 hp; simp only [zp, zq, z0, z1])
          | ((with_reducible apply sx_alloc hp); infer_instance; exact rfl; clear hp; (try clear w1); intro g w1 hp; simp only [zp, zq, z0, z1])
          | ((with_reducible apply sx_load_agg hp); exact zt rfl; infer_instance; infer_instance; (first | exact zl rfl | exact LB_le (by omega)); (first | (with_reducible exact LB_set (by omega)) | (simp only [n0, Nat.reduceAdd, n1, n2, n3, n4, n5, n6, n7, n8, n9]; try rfl)); simp only [zp, zq, z0, z1])
          | ((with_reducible apply sx_store hp); exact zt rfl; exact za rfl; exact rfl; (first | exact AggTy.size | exact OneTy.size); exact rfl; infer_instance; (first | (with_reducible exact LB_set (by omega)) | (simp only [n0, Nat.reduceAdd, n1, n2, n3, n4, n5, n6, n7, n8, n9]; try rfl)); (first | exact zl rfl | exact LB_le (by omega)); exact rfl; infer_instance; clear hp; (try clear w1); intro w1 hp)
          | ((with_reducible first | refine sx_call hp (X1.out _) ?_ | refine sx_call hp (T1.out _) ?_ | refine sx_call hp (T2.out _) ?_ | refine sx_call hp (DV.out _) ?_ | refine sx_call hp (SQ.out _) ?_); clear hp; (try clear w1); intro w1 hp))
      have hq := hp
      refine wp_drawn_hp hp hq [] (.q 0 (.q 1 (.q 3 (.q 5 (.l 2 (.l 4 (.q 6 .nil))))))) (by kernel_rfl) (by kernel_rfl) ?_
      clear hp hq; (try clear w1); intro w1 hp hq
      repeat' (first
        | (((with_reducible apply sd_q); exact zo rfl); (first
            | ((with_reducible apply sd_load_agg hp); exact rfl; exact zt rfl; infer_instance; infer_instance; (first | exact zl rfl | exact LB_le (by omega)); (first | (with_reducible exact LB_set (by omega)) | (simp only [n0, Nat.reduceAdd, n1, n2, n3, n4, n5, n6, n7, n8, n9]; try rfl)); simp only [zp, zq, z0, z1])
            | ((with_reducible apply sd_pure hp); exact rfl; (focus (intro _; go_simp; (try go_ints); try with_reducible rfl)); simp only [zp, zq, z0, z1])))
        | (((with_reducible apply sd_l); exact zo rfl); ((with_reducible apply sd_call hp); exact rfl; (focus (intro _; go_simp; try first | with_reducible rfl | exact ⟨rfl, rfl⟩)); (with_reducible first | exact fun w => T3.out w | exact fun w => T4.out w); exact hq; clear hp hq; (try clear w1); intro w1 hp hq; simp only [zp, zq, z0, z1]))
        | ((with_reducible apply sd_nil); clear hp; have hp := hq; clear hq))
      go_wp2_with (first
          | ((with_reducible apply sx_box hp); exact za rfl; exact rfl; clear hp; (try clear w1); intro g w1 hp; simp only [zp, zq, z0, z1])
          | ((with_reducible apply sx_alloc hp); infer_instance; exact rfl; clear hp; (try clear w1); intro g w1 hp; simp only [zp, zq, z0, z1])
          | ((with_reducible apply sx_load_agg hp); exact zt rfl; infer_instance; infer_instance; (first | exact zl rfl | exact LB_le (by omega)); (first | (with_reducible exact LB_set (by omega)) | (simp only [n0, Nat.reduceAdd, n1, n2, n3, n4, n5, n6, n7, n8, n9]; try rfl)); simp only [zp, zq, z0, z1])
          | ((with_reducible apply sx_store hp); exact zt rfl; exact za rfl; exact rfl; (first | exact AggTy.size | exact OneTy.size); exact rfl; infer_instance; (first | (with_reducible exact LB_set (by omega)) | (simp only [n0, Nat.reduceAdd, n1, n2, n3, n4, n5, n6, n7, n8, n9]; try rfl)); (first | exact zl rfl | exact LB_le (by omega)); exact rfl; infer_instance; clear hp; (try clear w1); intro w1 hp)
          | ((with_reducible first | refine sx_call hp (L1.out _) ?_ | refine sx_call hp (W2.out _) ?_); clear hp; (try clear w1); intro w1 hp))
      exact bodyPost_ret (results_one rfl rfl) rfl ⟨rfl, hp.keep⟩
    | false =>
      obtain rfl : v = r1 := by rw [HV.out]; simp
      clear HV
      generalize cl m = c at *
      go_enter Tryz.func54, Tryz.ntmps54
      have hp := Hp.start [] w
      go_upto_region 8 with (first
          | ((with_reducible apply sx_box hp); exact za rfl; exact rfl; clear hp; (try clear w1); intro g w1 hp; simp only [zp, zq, z0, z1])
          | ((with_reducible apply sx_alloc hp); infer_instance; exact rfl; clear hp; (try clear w1); intro g w1 hp; simp only [zp, zq, z0, z1])
          | ((with_reducible apply sx_load_agg hp); exact zt rfl; infer_instance; infer_instance; (first | exact zl rfl | exact LB_le (by omega)); (first | (with_reducible exact LB_set (by omega)) | (simp only [n0, Nat.reduceAdd, n1, n2, n3, n4, n5, n6, n7, n8, n9]; try rfl)); simp only [zp, zq, z0, z1])
          | ((with_reducible apply sx_store hp); exact zt rfl; exact za rfl; exact rfl; (first | exact AggTy.size | exact OneTy.size); exact rfl; infer_instance; (first | (with_reducible exact LB_set (by omega)) | (simp only [n0, Nat.reduceAdd, n1, n2, n3, n4, n5, n6, n7, n8, n9]; try rfl)); (first | exact zl rfl | exact LB_le (by omega)); exact rfl; infer_instance; clear hp; (try clear w1); intro w1 hp)
          | ((with_reducible first | refine sx_call hp (X1.out _) ?_ | refine sx_call hp (T1.out _) ?_ | refine sx_call hp (T2.out _) ?_ | refine sx_call hp (DV.out _) ?_ | refine sx_call hp (SQ.out _) ?_); clear hp; (try clear w1); intro w1 hp))
      have hq := hp
      refine wp_drawn_hp hp hq [] (.q 0 (.q 1 (.q 3 (.q 5 (.l 2 (.l 4 (.q 6 .nil))))))) (by kernel_rfl) (by kernel_rfl) ?_
      clear hp hq; (try clear w1); intro w1 hp hq
      repeat' (first
        | (((with_reducible apply sd_q); exact zo rfl); (first
            | ((with_reducible apply sd_load_agg hp); exact rfl; exact zt rfl; infer_instance; infer_instance; (first | exact zl rfl | exact LB_le (by omega)); (first | (with_reducible exact LB_set (by omega)) | (simp only [n0, Nat.reduceAdd, n1, n2, n3, n4, n5, n6, n7, n8, n9]; try rfl)); simp only [zp, zq, z0, z1])
            | ((with_reducible apply sd_pure hp); exact rfl; (focus (intro _; go_simp; (try go_ints); try with_reducible rfl)); simp only [zp, zq, z0, z1])))
        | (((with_reducible apply sd_l); exact zo rfl); ((with_reducible apply sd_call hp); exact rfl; (focus (intro _; go_simp; try first | with_reducible rfl | exact ⟨rfl, rfl⟩)); (with_reducible first | exact fun w => T3.out w | exact fun w => T4.out w); exact hq; clear hp hq; (try clear w1); intro w1 hp hq; simp only [zp, zq, z0, z1]))
        | ((with_reducible apply sd_nil); clear hp; have hp := hq; clear hq))
      go_upto_region 9 with (first
          | ((with_reducible apply sx_box hp); exact za rfl; exact rfl; clear hp; (try clear w1); intro g w1 hp; simp only [zp, zq, z0, z1])
          | ((with_reducible apply sx_alloc hp); infer_instance; exact rfl; clear hp; (try clear w1); intro g w1 hp; simp only [zp, zq, z0, z1])
          | ((with_reducible apply sx_load_agg hp); exact zt rfl; infer_instance; infer_instance; (first | exact zl rfl | exact LB_le (by omega)); (first | (with_reducible exact LB_set (by omega)) | (simp only [n0, Nat.reduceAdd, n1, n2, n3, n4, n5, n6, n7, n8, n9]; try rfl)); simp only [zp, zq, z0, z1])
          | ((with_reducible apply sx_store hp); exact zt rfl; exact za rfl; exact rfl; (first | exact AggTy.size | exact OneTy.size); exact rfl; infer_instance; (first | (with_reducible exact LB_set (by omega)) | (simp only [n0, Nat.reduceAdd, n1, n2, n3, n4, n5, n6, n7, n8, n9]; try rfl)); (first | exact zl rfl | exact LB_le (by omega)); exact rfl; infer_instance; clear hp; (try clear w1); intro w1 hp))
      have hq := hp
      refine wp_drawn_hp hp hq [3] (.q 0 (.l 1 (.l 2 (.l 3 .nil)))) (by kernel_rfl) (by kernel_rfl) ?_
      clear hp hq; (try clear w1); intro w1 hp hq
      repeat' (first
        | (((with_reducible apply sd_q); exact zo rfl); (first
            | ((with_reducible apply sd_load_agg hp); exact rfl; exact zt rfl; infer_instance; infer_instance; (first | exact zl rfl | exact LB_le (by omega)); (first | (with_reducible exact LB_set (by omega)) | (simp only [n0, Nat.reduceAdd, n1, n2, n3, n4, n5, n6, n7, n8, n9]; try rfl)); simp only [zp, zq, z0, z1])
            | ((with_reducible apply sd_pure hp); exact rfl; (focus (intro _; go_simp; (try go_ints); try with_reducible rfl)); simp only [zp, zq, z0, z1])))
        | (((with_reducible apply sd_l); exact zo rfl); (first
            | ((with_reducible apply sd_call hp); exact rfl; (focus (intro _; go_simp; try first | with_reducible rfl | exact ⟨rfl, rfl⟩)); (with_reducible first | exact fun w => O1.out w | exact fun w => PL.out w); exact hq; clear hp hq; (try clear w1); intro w1 hp hq; simp only [zp, zq, z0, z1])
            | ((with_reducible apply sd_store_far hq); exact rfl; exact zt rfl; (first | exact za rfl | exact zu rfl | exact zi rfl | exact zb rfl | exact zr rfl | exact zs rfl | exact zf rfl | exact zg rfl | exact zn rfl | exact zv rfl | exact zw rfl); exact rfl; (first | exact AggTy.size | exact OneTy.size); exact rfl; infer_instance; (first | (with_reducible exact LB_set (by omega)) | (simp only [n0, Nat.reduceAdd, n1, n2, n3, n4, n5, n6, n7, n8, n9]; try rfl)); (first | exact zl rfl | exact LB_le (by omega)); exact rfl; infer_instance; (repeat (first | exact List.Sublist.refl _ | apply List.Sublist.cons)); clear hp hq; (try clear w1); intro w1 hp hq)
            | ((with_reducible apply sd_store hq); exact rfl; exact zt rfl; (first | exact za rfl | exact zu rfl | exact zi rfl | exact zb rfl | exact zr rfl | exact zs rfl | exact zf rfl | exact zg rfl | exact zn rfl | exact zv rfl | exact zw rfl); exact rfl; (first | exact AggTy.size | exact OneTy.size); exact rfl; infer_instance; (first | (with_reducible exact LB_set (by omega)) | (simp only [n0, Nat.reduceAdd, n1, n2, n3, n4, n5, n6, n7, n8, n9]; try rfl)); (first | exact zl rfl | exact LB_le (by omega)); exact rfl; infer_instance; exact rfl; clear hp hq; (try clear w1); intro w1 hq; have hp := True.intro)))
        | ((with_reducible apply sd_nil); clear hp; have hp := hq; clear hq))
      go_wp2_with (first
          | ((with_reducible apply sx_box hp); exact za rfl; exact rfl; clear hp; (try clear w1); intro g w1 hp; simp only [zp, zq, z0, z1])
          | ((with_reducible apply sx_alloc hp); infer_instance; exact rfl; clear hp; (try clear w1); intro g w1 hp; simp only [zp, zq, z0, z1])
          | ((with_reducible apply sx_load_agg hp); exact zt rfl; infer_instance; infer_instance; (first | exact zl rfl | exact LB_le (by omega)); (first | (with_reducible exact LB_set (by omega)) | (simp only [n0, Nat.reduceAdd, n1, n2, n3, n4, n5, n6, n7, n8, n9]; try rfl)); simp only [zp, zq, z0, z1])
          | ((with_reducible apply sx_store hp); exact zt rfl; exact za rfl; exact rfl; (first | exact AggTy.size | exact OneTy.size); exact rfl; infer_instance; (first | (with_reducible exact LB_set (by omega)) | (simp only [n0, Nat.reduceAdd, n1, n2, n3, n4, n5, n6, n7, n8, n9]; try rfl)); (first | exact zl rfl | exact LB_le (by omega)); exact rfl; infer_instance; clear hp; (try clear w1); intro w1 hp)
          | ((with_reducible first | refine sx_call hp (L1.out _) ?_ | refine sx_call hp (W2.out _) ?_); clear hp; (try clear w1); intro w1 hp))
      exact bodyPost_ret (results_one rfl rfl) rfl ⟨rfl, hp.keep⟩
theorem sq_i64 {x : Int} (h : I64 x) : 0 ≤ x * x ∧ x * x ≤ 85070591730234615865843651857942052864 := ⟨sq_nn x, (i64_mul h h).2⟩
theorem r3ratio_any (x s : Int) (hx : I64 x) (hs : 0 < s) (hsf : Fit s) (w : World) : Calls Tryz.prog 54 #[.int .i64 x, W s] w (Ret (.int .i64 (ratio x s)) w) := by
  have hxx := sq_i64 hx
  have hn0 : Fit (x * x) := by unfold Fit M511; omega
  have hnn : 0 ≤ x * x * 18446744073709551616 := by omega
  have hn : Fit (x * x * 18446744073709551616) := by unfold Fit M511; omega
  have hp2 : (2 : Int) ^ 64 = 18446744073709551616 := rfl
  have htw := r3twice_any (x * x) 64 (by omega) hn0 (by rw [hp2]; exact hn)
  rw [hp2] at htw
  unfold ratio
  generalize x * x * 18446744073709551616 = n at *
  obtain ⟨d1, d2, d3, d4, d5, d6⟩ := dvq_pos hnn hn hs
  have hdv := rdiv_any n s hn hsf
  rw [d1, d2, decide_eq_true d3] at hdv
  obtain ⟨f1, f2, f3⟩ := rt_fits d4 d6
  obtain ⟨g1, g2⟩ := rt_spec d4
  have hle : rt (n / s) * rt (n / s) * s ≤ n := by
    have := Int.mul_le_mul_of_nonneg_right g1 (Int.le_of_lt hs)
    have h2 := Int.ediv_mul_le n (show s ≠ 0 by omega)
    omega
  have hge : 0 ≤ rt (n / s) * rt (n / s) * s := Int.mul_nonneg (sq_nn _) (Int.le_of_lt hs)
  have f4 : Fit (rt (n / s) * rt (n / s) * s) := by unfold Fit M511 at *; omega
  have hEQ := eqb_fit f4 hn
  have f5 : Fit (0 - (if rt (n / s) * rt (n / s) * s = n then rt (n / s) else rt (n / s) + 1)) := by
    have := rt_nonneg (n / s)
    split
    · unfold Fit M511 at *; omega
    · unfold Fit M511 at *; omega
  have f6 : Fit (if rt (n / s) * rt (n / s) * s = n then rt (n / s) else rt (n / s) + 1) := by
    split
    · exact f1
    · exact f2
  have hle1 := rless_fit 0 _ fit_zero f6 f5
  rw [W_zero] at hle1
  refine r3ratio_core x s (x * x) n (n / s) (n % s) (rt (n / s)) (rt (n / s) * rt (n / s)) (rt (n / s) * rt (n / s) * s) (rt (n / s) + 1) true true hx (Lib.hid (r3raw_any x hx)) (Lib.hid (rtimes_i64 x x hx hx)) (Lib.hid htw) (Lib.hid hdv)
    (Lib.hid (rsqrt_pos _ d6 d4)) (Lib.hid fun w => rwithin_any _ f1 w) (Lib.hid (rtimes_fit _ _ f1 f1 f3)) (Lib.hid (rtimes_fit _ _ f3 hsf f4)) (Lib.hid (rplus_fit _ _ f1 fit_one f2)) _ hEQ _ _ (Lib.hid ?_) (Lib.hid hle1) (Lib.hid fun w => rwithin_any _ f5 w) _ (Lib.hid ?_) w
  · simp only [decide_eq_true_eq]
  · rw [Int.zero_sub]
/-- A vector by its length. -/
def P3.cunit (a : P3) : P3 := ⟨ratio a.x (a.dot a), ratio a.y (a.dot a), ratio a.z (a.dot a)⟩
def unitV (a : P3) : Value := if a.x = 0 ∧ a.y = 0 ∧ a.z = 0 then .tuple #[.agg #[.int .i64 0, .int .i64 0, .int .i64 0], .bool false] else .tuple #[PV a.cunit, .bool true]
theorem dot_pos {a : P3} (h : ¬ (a.x = 0 ∧ a.y = 0 ∧ a.z = 0)) : 0 < a.dot a := by
  have h0 := dot_self a
  by_cases hp : 0 < a.dot a
  · exact hp
  · exfalso
    have h1 := sq_nn a.x
    have h2 := sq_nn a.y
    have h3 := sq_nn a.z
    have e : a.x * a.x + a.y * a.y + a.z * a.z = 0 := by unfold P3.dot at h0 hp; omega
    refine h ⟨?_, ?_, ?_⟩
    · exact (Int.mul_eq_zero.1 (show a.x * a.x = 0 by omega)).elim id id
    · exact (Int.mul_eq_zero.1 (show a.y * a.y = 0 by omega)).elim id id
    · exact (Int.mul_eq_zero.1 (show a.z * a.z = 0 by omega)).elim id id
set_option maxHeartbeats 4000000 in
theorem r3unit_no (x y z : Int) (h : x = 0 ∧ y = 0 ∧ z = 0) (w : World) : Calls Tryz.prog 20 #[.agg #[.int .i64 x, .int .i64 y, .int .i64 z]] w (Ret (.tuple #[.agg #[.int .i64 0, .int .i64 0, .int .i64 0], .bool false]) w) := by
  obtain ⟨rfl, rfl, rfl⟩ := h
  go_enter Tryz.func20, Tryz.ntmps20
  have hp := Hp.start [] w
  go_wp2_with (first
          | ((with_reducible apply sx_guard); (conv => whnf); refine Bx.mk ?_; (try simp only [zp, zq, z0, z1]))
          | ((with_reducible apply sx_box hp); exact za rfl; exact rfl; clear hp; (try clear w1); intro g w1 hp; simp only [zp, zq, z0, z1])
          | ((with_reducible apply sx_alloc hp); infer_instance; exact rfl; clear hp; (try clear w1); intro g w1 hp; simp only [zp, zq, z0, z1])
          | ((with_reducible apply sx_load_agg hp); exact zt rfl; infer_instance; infer_instance; (first | exact zl rfl | exact LB_le (by omega)); (first | (with_reducible exact LB_set (by omega)) | (simp only [n0, Nat.reduceAdd, n1, n2, n3, n4, n5, n6, n7, n8, n9]; try rfl)); simp only [zp, zq, z0, z1])
          | ((with_reducible apply sx_load_one hp); exact zt rfl; infer_instance; infer_instance; (first | exact zio rfl | exact LB_get (by omega)); simp only [zp, zq, z0, z1])
          | ((with_reducible apply sx_store hp); exact zt rfl; exact za rfl; exact rfl; (first | exact AggTy.size | exact OneTy.size); exact rfl; infer_instance; (first | (with_reducible exact LB_set (by omega)) | (simp only [n0, Nat.reduceAdd, n1, n2, n3, n4, n5, n6, n7, n8, n9]; try rfl)); (first | exact zl rfl | exact LB_le (by omega)); exact rfl; infer_instance; clear hp; (try clear w1); intro w1 hp))
  exact bodyPost_ret (results_two rfl ⟨_, rfl, run_load_agg hp (Nat.le_of_ble_eq_true rfl)⟩ rfl) rfl ⟨rfl, hp.keep⟩
set_option maxHeartbeats 4000000 in
theorem r3unit_yes (a : P3) (h : a.x ≠ 0 ∨ (a.x = 0 ∧ a.y ≠ 0) ∨ (a.x = 0 ∧ a.y = 0 ∧ a.z ≠ 0)) (s p q r : Int) (EX : Hid (∀ w, Calls Tryz.prog 53 #[PV a, PV a] w (Ret (W s) w)))
    (RX : Hid (∀ w, Calls Tryz.prog 54 #[.int .i64 a.x, W s] w (Ret (.int .i64 p) w)))
    (RY : Hid (∀ w, Calls Tryz.prog 54 #[.int .i64 a.y, W s] w (Ret (.int .i64 q) w)))
    (RZ : Hid (∀ w, Calls Tryz.prog 54 #[.int .i64 a.z, W s] w (Ret (.int .i64 r) w))) (w : World) :
    Calls Tryz.prog 20 #[PV a] w (Ret (.tuple #[.agg #[.int .i64 p, .int .i64 q, .int .i64 r], .bool true]) w) := by
  obtain ⟨x, y, z⟩ := a
  dsimp only at *
  rcases h with h | ⟨h1, h⟩ | ⟨h1, h2, h⟩
  · have hb : (x == 0) = false := by simp [h]
    clear h
    go_enter Tryz.func20, Tryz.ntmps20
    have hp := Hp.start [] w
    go_upto_region 4 with (first
          | ((with_reducible apply sx_guard); (conv => whnf); refine Bx.mk ?_; (try simp only [zp, zq, z0, z1]))
          | ((with_reducible apply sx_box hp); exact za rfl; exact rfl; clear hp; (try clear w1); intro g w1 hp; simp only [zp, zq, z0, z1])
          | ((with_reducible apply sx_alloc hp); infer_instance; exact rfl; clear hp; (try clear w1); intro g w1 hp; simp only [zp, zq, z0, z1])
          | ((with_reducible apply sx_load_agg hp); exact zt rfl; infer_instance; infer_instance; (first | exact zl rfl | exact LB_le (by omega)); (first | (with_reducible exact LB_set (by omega)) | (simp only [n0, Nat.reduceAdd, n1, n2, n3, n4, n5, n6, n7, n8, n9]; try rfl)); simp only [zp, zq, z0, z1])
          | ((with_reducible apply sx_load_one hp); exact zt rfl; infer_instance; infer_instance; (first | exact zio rfl | exact LB_get (by omega)); simp only [zp, zq, z0, z1])
          | ((with_reducible apply sx_store hp); exact zt rfl; exact za rfl; exact rfl; (first | exact AggTy.size | exact OneTy.size); exact rfl; infer_instance; (first | (with_reducible exact LB_set (by omega)) | (simp only [n0, Nat.reduceAdd, n1, n2, n3, n4, n5, n6, n7, n8, n9]; try rfl)); (first | exact zl rfl | exact LB_le (by omega)); exact rfl; infer_instance; clear hp; (try clear w1); intro w1 hp)
          | ((with_reducible refine sx_call hp (EX.out _) ?_); clear hp; (try clear w1); intro w1 hp))
    have hq := hp
    clear hp
    have hp := hq.sub (.cons_cons _ (.cons _ (List.Sublist.refl _)))
    refine wp_drawn_hp hp hq [13] (.q 0 (.q 1 (.q 2 (.q 4 (.q 5 (.q 6 (.q 8 (.q 9 (.q 10 (.l 3 (.l 7 (.l 11 (.q 12 (.l 13 (.q 14 .nil))))))))))))))) (by kernel_rfl) (by kernel_rfl) ?_
    clear hp hq; (try clear w1); intro w1 hp hq
    repeat' (first
      | (((with_reducible apply sd_q); exact zo rfl); (first
          | ((with_reducible apply sd_load_agg hp); exact rfl; exact zt rfl; infer_instance; infer_instance; (first | exact zl rfl | exact LB_le (by omega)); (first | (with_reducible exact LB_set (by omega)) | (simp only [n0, Nat.reduceAdd, n1, n2, n3, n4, n5, n6, n7, n8, n9]; try rfl)); simp only [zp, zq, z0, z1])
          | ((with_reducible apply sd_load_one hp); exact rfl; exact zt rfl; infer_instance; infer_instance; (first | exact zio rfl | exact LB_get (by omega)); simp only [zp, zq, z0, z1])
          | ((with_reducible apply sd_assign hp); exact zb rfl; simp only [zp, zq, z0, z1])
          | ((with_reducible apply sd_pure hp); exact rfl; (focus (intro _; go_simp; (try go_ints); try with_reducible rfl)); simp only [zp, zq, z0, z1])))
      | (((with_reducible apply sd_l); exact zo rfl); (first
          | ((with_reducible apply sd_call hp); exact rfl; (focus (intro _; go_simp; try first | with_reducible rfl | exact ⟨rfl, rfl⟩)); (with_reducible first | exact fun w => RX.out w | exact fun w => RY.out w | exact fun w => RZ.out w); exact hq; clear hp hq; (try clear w1); intro w1 hp hq; simp only [zp, zq, z0, z1])
          | ((with_reducible apply sd_store_far hq); exact rfl; exact zt rfl; (first | exact za rfl | exact zu rfl | exact zi rfl | exact zb rfl | exact zr rfl | exact zs rfl | exact zf rfl | exact zg rfl | exact zn rfl | exact zv rfl | exact zw rfl); exact rfl; (first | exact AggTy.size | exact OneTy.size); exact rfl; infer_instance; (first | (with_reducible exact LB_set (by omega)) | (simp only [n0, Nat.reduceAdd, n1, n2, n3, n4, n5, n6, n7, n8, n9]; try rfl)); (first | exact zl rfl | exact LB_le (by omega)); exact rfl; infer_instance; (repeat (first | exact List.Sublist.refl _ | exact List.nil_sublist _ | apply List.Sublist.cons_cons | apply List.Sublist.cons)); clear hp hq; (try clear w1); intro w1 hp hq)
          | ((with_reducible apply sd_store hq); exact rfl; exact zt rfl; (first | exact za rfl | exact zu rfl | exact zi rfl | exact zb rfl | exact zr rfl | exact zs rfl | exact zf rfl | exact zg rfl | exact zn rfl | exact zv rfl | exact zw rfl); exact rfl; (first | exact AggTy.size | exact OneTy.size); exact rfl; infer_instance; (first | (with_reducible exact LB_set (by omega)) | (simp only [n0, Nat.reduceAdd, n1, n2, n3, n4, n5, n6, n7, n8, n9]; try rfl)); (first | exact zl rfl | exact LB_le (by omega)); exact rfl; infer_instance; exact rfl; clear hp hq; (try clear w1); intro w1 hq; have hp := True.intro)))
      | ((with_reducible apply sd_nil); clear hp; have hp := hq; clear hq))
    go_wp2
    exact bodyPost_ret (results_two rfl ⟨_, rfl, run_load_agg hp (Nat.le_of_ble_eq_true rfl)⟩ rfl) rfl ⟨rfl, hp.keep⟩
  · have hb : (y == 0) = false := by simp [h]
    have hb1 : (x == 0) = true := by simp [h1]
    clear h h1
    go_enter Tryz.func20, Tryz.ntmps20
    have hp := Hp.start [] w
    go_upto_region 4 with (first
          | ((with_reducible apply sx_guard); (conv => whnf); refine Bx.mk ?_; (try simp only [zp, zq, z0, z1]))
          | ((with_reducible apply sx_box hp); exact za rfl; exact rfl; clear hp; (try clear w1); intro g w1 hp; simp only [zp, zq, z0, z1])
          | ((with_reducible apply sx_alloc hp); infer_instance; exact rfl; clear hp; (try clear w1); intro g w1 hp; simp only [zp, zq, z0, z1])
          | ((with_reducible apply sx_load_agg hp); exact zt rfl; infer_instance; infer_instance; (first | exact zl rfl | exact LB_le (by omega)); (first | (with_reducible exact LB_set (by omega)) | (simp only [n0, Nat.reduceAdd, n1, n2, n3, n4, n5, n6, n7, n8, n9]; try rfl)); simp only [zp, zq, z0, z1])
          | ((with_reducible apply sx_load_one hp); exact zt rfl; infer_instance; infer_instance; (first | exact zio rfl | exact LB_get (by omega)); simp only [zp, zq, z0, z1])
          | ((with_reducible apply sx_store hp); exact zt rfl; exact za rfl; exact rfl; (first | exact AggTy.size | exact OneTy.size); exact rfl; infer_instance; (first | (with_reducible exact LB_set (by omega)) | (simp only [n0, Nat.reduceAdd, n1, n2, n3, n4, n5, n6, n7, n8, n9]; try rfl)); (first | exact zl rfl | exact LB_le (by omega)); exact rfl; infer_instance; clear hp; (try clear w1); intro w1 hp)
          | ((with_reducible refine sx_call hp (EX.out _) ?_); clear hp; (try clear w1); intro w1 hp))
    have hq := hp
    clear hp
    have hp := hq.sub (.cons_cons _ (.cons _ (List.Sublist.refl _)))
    refine wp_drawn_hp hp hq [13] (.q 0 (.q 1 (.q 2 (.q 4 (.q 5 (.q 6 (.q 8 (.q 9 (.q 10 (.l 3 (.l 7 (.l 11 (.q 12 (.l 13 (.q 14 .nil))))))))))))))) (by kernel_rfl) (by kernel_rfl) ?_
    clear hp hq; (try clear w1); intro w1 hp hq
    repeat' (first
      | (((with_reducible apply sd_q); exact zo rfl); (first
          | ((with_reducible apply sd_load_agg hp); exact rfl; exact zt rfl; infer_instance; infer_instance; (first | exact zl rfl | exact LB_le (by omega)); (first | (with_reducible exact LB_set (by omega)) | (simp only [n0, Nat.reduceAdd, n1, n2, n3, n4, n5, n6, n7, n8, n9]; try rfl)); simp only [zp, zq, z0, z1])
          | ((with_reducible apply sd_load_one hp); exact rfl; exact zt rfl; infer_instance; infer_instance; (first | exact zio rfl | exact LB_get (by omega)); simp only [zp, zq, z0, z1])
          | ((with_reducible apply sd_assign hp); exact zb rfl; simp only [zp, zq, z0, z1])
          | ((with_reducible apply sd_pure hp); exact rfl; (focus (intro _; go_simp; (try go_ints); try with_reducible rfl)); simp only [zp, zq, z0, z1])))
      | (((with_reducible apply sd_l); exact zo rfl); (first
          | ((with_reducible apply sd_call hp); exact rfl; (focus (intro _; go_simp; try first | with_reducible rfl | exact ⟨rfl, rfl⟩)); (with_reducible first | exact fun w => RX.out w | exact fun w => RY.out w | exact fun w => RZ.out w); exact hq; clear hp hq; (try clear w1); intro w1 hp hq; simp only [zp, zq, z0, z1])
          | ((with_reducible apply sd_store_far hq); exact rfl; exact zt rfl; (first | exact za rfl | exact zu rfl | exact zi rfl | exact zb rfl | exact zr rfl | exact zs rfl | exact zf rfl | exact zg rfl | exact zn rfl | exact zv rfl | exact zw rfl); exact rfl; (first | exact AggTy.size | exact OneTy.size); exact rfl; infer_instance; (first | (with_reducible exact LB_set (by omega)) | (simp only [n0, Nat.reduceAdd, n1, n2, n3, n4, n5, n6, n7, n8, n9]; try rfl)); (first | exact zl rfl | exact LB_le (by omega)); exact rfl; infer_instance; (repeat (first | exact List.Sublist.refl _ | exact List.nil_sublist _ | apply List.Sublist.cons_cons | apply List.Sublist.cons)); clear hp hq; (try clear w1); intro w1 hp hq)
          | ((with_reducible apply sd_store hq); exact rfl; exact zt rfl; (first | exact za rfl | exact zu rfl | exact zi rfl | exact zb rfl | exact zr rfl | exact zs rfl | exact zf rfl | exact zg rfl | exact zn rfl | exact zv rfl | exact zw rfl); exact rfl; (first | exact AggTy.size | exact OneTy.size); exact rfl; infer_instance; (first | (with_reducible exact LB_set (by omega)) | (simp only [n0, Nat.reduceAdd, n1, n2, n3, n4, n5, n6, n7, n8, n9]; try rfl)); (first | exact zl rfl | exact LB_le (by omega)); exact rfl; infer_instance; exact rfl; clear hp hq; (try clear w1); intro w1 hq; have hp := True.intro)))
      | ((with_reducible apply sd_nil); clear hp; have hp := hq; clear hq))
    go_wp2
    exact bodyPost_ret (results_two rfl ⟨_, rfl, run_load_agg hp (Nat.le_of_ble_eq_true rfl)⟩ rfl) rfl ⟨rfl, hp.keep⟩
  · have hb : (z == 0) = false := by simp [h]
    have hb1 : (x == 0) = true := by simp [h1]
    have hb2 : (y == 0) = true := by simp [h2]
    clear h h1 h2
    go_enter Tryz.func20, Tryz.ntmps20
    have hp := Hp.start [] w
    go_upto_region 4 with (first
          | ((with_reducible apply sx_guard); (conv => whnf); refine Bx.mk ?_; (try simp only [zp, zq, z0, z1]))
          | ((with_reducible apply sx_box hp); exact za rfl; exact rfl; clear hp; (try clear w1); intro g w1 hp; simp only [zp, zq, z0, z1])
          | ((with_reducible apply sx_alloc hp); infer_instance; exact rfl; clear hp; (try clear w1); intro g w1 hp; simp only [zp, zq, z0, z1])
          | ((with_reducible apply sx_load_agg hp); exact zt rfl; infer_instance; infer_instance; (first | exact zl rfl | exact LB_le (by omega)); (first | (with_reducible exact LB_set (by omega)) | (simp only [n0, Nat.reduceAdd, n1, n2, n3, n4, n5, n6, n7, n8, n9]; try rfl)); simp only [zp, zq, z0, z1])
          | ((with_reducible apply sx_load_one hp); exact zt rfl; infer_instance; infer_instance; (first | exact zio rfl | exact LB_get (by omega)); simp only [zp, zq, z0, z1])
          | ((with_reducible apply sx_store hp); exact zt rfl; exact za rfl; exact rfl; (first | exact AggTy.size | exact OneTy.size); exact rfl; infer_instance; (first | (with_reducible exact LB_set (by omega)) | (simp only [n0, Nat.reduceAdd, n1, n2, n3, n4, n5, n6, n7, n8, n9]; try rfl)); (first | exact zl rfl | exact LB_le (by omega)); exact rfl; infer_instance; clear hp; (try clear w1); intro w1 hp)
          | ((with_reducible refine sx_call hp (EX.out _) ?_); clear hp; (try clear w1); intro w1 hp))
    have hq := hp
    clear hp
    have hp := hq.sub (.cons_cons _ (.cons _ (List.Sublist.refl _)))
    refine wp_drawn_hp hp hq [13] (.q 0 (.q 1 (.q 2 (.q 4 (.q 5 (.q 6 (.q 8 (.q 9 (.q 10 (.l 3 (.l 7 (.l 11 (.q 12 (.l 13 (.q 14 .nil))))))))))))))) (by kernel_rfl) (by kernel_rfl) ?_
    clear hp hq; (try clear w1); intro w1 hp hq
    repeat' (first
      | (((with_reducible apply sd_q); exact zo rfl); (first
          | ((with_reducible apply sd_load_agg hp); exact rfl; exact zt rfl; infer_instance; infer_instance; (first | exact zl rfl | exact LB_le (by omega)); (first | (with_reducible exact LB_set (by omega)) | (simp only [n0, Nat.reduceAdd, n1, n2, n3, n4, n5, n6, n7, n8, n9]; try rfl)); simp only [zp, zq, z0, z1])
          | ((with_reducible apply sd_load_one hp); exact rfl; exact zt rfl; infer_instance; infer_instance; (first | exact zio rfl | exact LB_get (by omega)); simp only [zp, zq, z0, z1])
          | ((with_reducible apply sd_assign hp); exact zb rfl; simp only [zp, zq, z0, z1])
          | ((with_reducible apply sd_pure hp); exact rfl; (focus (intro _; go_simp; (try go_ints); try with_reducible rfl)); simp only [zp, zq, z0, z1])))
      | (((with_reducible apply sd_l); exact zo rfl); (first
          | ((with_reducible apply sd_call hp); exact rfl; (focus (intro _; go_simp; try first | with_reducible rfl | exact ⟨rfl, rfl⟩)); (with_reducible first | exact fun w => RX.out w | exact fun w => RY.out w | exact fun w => RZ.out w); exact hq; clear hp hq; (try clear w1); intro w1 hp hq; simp only [zp, zq, z0, z1])
          | ((with_reducible apply sd_store_far hq); exact rfl; exact zt rfl; (first | exact za rfl | exact zu rfl | exact zi rfl | exact zb rfl | exact zr rfl | exact zs rfl | exact zf rfl | exact zg rfl | exact zn rfl | exact zv rfl | exact zw rfl); exact rfl; (first | exact AggTy.size | exact OneTy.size); exact rfl; infer_instance; (first | (with_reducible exact LB_set (by omega)) | (simp only [n0, Nat.reduceAdd, n1, n2, n3, n4, n5, n6, n7, n8, n9]; try rfl)); (first | exact zl rfl | exact LB_le (by omega)); exact rfl; infer_instance; (repeat (first | exact List.Sublist.refl _ | exact List.nil_sublist _ | apply List.Sublist.cons_cons | apply List.Sublist.cons)); clear hp hq; (try clear w1); intro w1 hp hq)
          | ((with_reducible apply sd_store hq); exact rfl; exact zt rfl; (first | exact za rfl | exact zu rfl | exact zi rfl | exact zb rfl | exact zr rfl | exact zs rfl | exact zf rfl | exact zg rfl | exact zn rfl | exact zv rfl | exact zw rfl); exact rfl; (first | exact AggTy.size | exact OneTy.size); exact rfl; infer_instance; (first | (with_reducible exact LB_set (by omega)) | (simp only [n0, Nat.reduceAdd, n1, n2, n3, n4, n5, n6, n7, n8, n9]; try rfl)); (first | exact zl rfl | exact LB_le (by omega)); exact rfl; infer_instance; exact rfl; clear hp hq; (try clear w1); intro w1 hq; have hp := True.intro)))
      | ((with_reducible apply sd_nil); clear hp; have hp := hq; clear hq))
    go_wp2
    exact bodyPost_ret (results_two rfl ⟨_, rfl, run_load_agg hp (Nat.le_of_ble_eq_true rfl)⟩ rfl) rfl ⟨rfl, hp.keep⟩
theorem r3unit_any (a : P3) (ha : a.i64) (w : World) : Calls Tryz.prog 20 #[PV a] w (Ret (unitV a) w) := by
  unfold unitV
  by_cases h : a.x = 0 ∧ a.y = 0 ∧ a.z = 0
  · rw [if_pos h]
    exact r3unit_no a.x a.y a.z h w
  · rw [if_neg h]
    have hs := dot_pos h
    have hd := dot_bd ha ha
    have hf : Fit (a.dot a) := by unfold Fit M511; omega
    exact r3unit_yes a (by omega) _ _ _ _ (Lib.hid (exact_any a a ha ha)) (Lib.hid (r3ratio_any _ _ ha.1 hs hf)) (Lib.hid (r3ratio_any _ _ ha.2.1 hs hf)) (Lib.hid (r3ratio_any _ _ ha.2.2 hs hf)) w
end Go.Proofs.YtboiepagonlnkaaGreat
set_option linter.unusedSimpArgs false
set_option linter.unusedVariables false
set_option maxRecDepth 100000
namespace Go.Proofs.YtboiepagonlnkaaGreat
open Go Go.RowKit
attribute [local irreducible] wpList

theorem dif_fit {a b : Int} (ha : I64 a) (hb : I64 b) : Fit (a - b) ∧ Fit ((a - b) * (a - b)) ∧ 0 ≤ (a - b) * (a - b) ∧ (a - b) * (a - b) ≤ 340282366920938463463374607431768211456 := by
  have h1 : -((18446744073709551616 : Nat) : Int) ≤ a - b ∧ a - b ≤ ((18446744073709551616 : Nat) : Int) := by unfold I64 at *; omega
  have h2 := bd_mul h1 h1
  have h3 := sq_nn (a - b)
  unfold Fit M511
  unfold I64 at *
  omega
/-- The square of the distance. -/
def P3.dist (a b : P3) : Int := (a.x - b.x) * (a.x - b.x) + (a.y - b.y) * (a.y - b.y) + (a.z - b.z) * (a.z - b.z)
def nearv (a b : P3) (r : Int) : Bool := decide (0 ≤ r) && decide (a.dist b ≤ r * r)
theorem dist_fit {a b : P3} (ha : a.i64) (hb : b.i64) : 0 ≤ a.dist b ∧ a.dist b ≤ 1020847100762815390390123822295304634368 := by
  have h1 := dif_fit ha.1 hb.1
  have h2 := dif_fit ha.2.1 hb.2.1
  have h3 := dif_fit ha.2.2 hb.2.2
  unfold P3.dist
  omega
theorem sgn_le {n : Int} : sgn n ≤ 0 ↔ n ≤ 0 := by unfold sgn; split <;> (try split) <;> omega
/-- A place, further. -/
def furv (x v t : Int) : Int := cl ((x * 4294967296 + v * t) / 4294967296)
def P3.cmove (a v : P3) (t : Int) : P3 := ⟨furv a.x v.x t, furv a.y v.y t, furv a.z v.z t⟩
end Go.Proofs.YtboiepagonlnkaaGreat
