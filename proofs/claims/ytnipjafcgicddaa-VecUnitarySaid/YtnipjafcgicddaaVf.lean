/-
  Package ninepinref03: Len, Ratio, Unit, square, Near, further, Move (contracts).
  Package ninepinref03: Ratio, Unit, square, Near, further, Move (contracts).
  Package ninepinref03: square, Near, further, Move (contracts).
-/
import Derived.Test.YtnipjafcgicddaaVc
set_option linter.unusedSimpArgs false
set_option linter.unusedVariables false
set_option maxRecDepth 100000
namespace Go.Proofs.Ytnipjafcgicddaa
open Go Go.RowKit
attribute [local irreducible] wpList

/-- The root, rounded up. -/
def rtUp (n : Int) : Int := if rt n * rt n = n then rt n else rt n + 1
theorem rt_fits {n : Int} (h0 : 0 ≤ n) (hn : Fit n) : Fit (rt n) ∧ Fit (rt n + 1) ∧ Fit (rt n * rt n) := by
  have h1 := rt_bd h0 hn.2
  have h2 := rt_nonneg n
  have h3 := (rt_spec h0).1
  have h4 := Int.mul_nonneg h2 h2
  unfold Fit M511 at *
  omega
theorem rtUp_fit {n : Int} (h0 : 0 ≤ n) (hn : Fit n) : Fit (rtUp n) := by
  obtain ⟨h1, h2, _⟩ := rt_fits h0 hn
  unfold rtUp
  split
  · exact h1
  · exact h2
theorem sq_nn (x : Int) : 0 ≤ x * x := by
  rcases Int.le_total 0 x with h | h
  · exact Int.mul_nonneg h h
  · have := Int.mul_nonneg (a := -x) (b := -x) (by omega) (by omega)
    rwa [Int.neg_mul_neg] at this
theorem dot_self (a : P3) : 0 ≤ a.dot a := by
  have h1 := sq_nn a.x
  have h2 := sq_nn a.y
  have h3 := sq_nn a.z
  unfold P3.dot
  omega
def lenv (a : P3) (up : Bool) : Int := cl (if up then rtUp (a.dot a) else rt (a.dot a))
set_option maxHeartbeats 2000000 in
theorem r3len_core (a : P3) (n r v : Int) (up : Bool)
    (EX : Hid (∀ w, Calls Try.prog 48 #[PV a, PV a] w (Ret (W n) w)))
    (SQ : Hid (∀ w, Calls Try.prog 67 #[W n] w (Ret (.tuple #[W r, .bool true]) w)))
    (TM : Hid (∀ w, Calls Try.prog 68 #[W r, W r] w (Ret (W (r * r)) w)))
    (PL : Hid (∀ w, Calls Try.prog 69 #[W r, W 1] w (Ret (W (r + 1)) w)))
    (WI : Hid (∀ w, Calls Try.prog 71 #[W v] w (Ret (.int .i64 (cl v)) w)))
    (b : Bool) (HE : eqb (r * r) n = b) (HV : Hid (v = if up = true ∧ b = false then r + 1 else r)) (w : World) :
    Calls Try.prog 31 #[PV a, .bool up] w (Ret (.int .i64 (cl v)) w) := by
  have O1 := Lib.hid fun w => rsmall_any 1 (by omega) (by omega) w
  unfold eqb at HE
  generalize r * r = q at *
  generalize r + 1 = r1 at *
  cases up with
  | false =>
    obtain rfl : v = r := by rw [HV.out]; simp
    clear HV HE TM PL
    generalize cl v = c at *
    go_enter Try.func31, Try.ntmps31
    have hp := Hp.start [] w
    go_upto_region 3 with (first
          | ((with_reducible apply sx_box hp); exact za rfl; exact rfl; clear hp; (try clear w1); intro g w1 hp; simp only [zp, zq, z0, z1])
          | ((with_reducible apply sx_alloc hp); infer_instance; exact rfl; clear hp; (try clear w1); intro g w1 hp; simp only [zp, zq, z0, z1])
          | ((with_reducible apply sx_load_agg hp); exact zt rfl; infer_instance; infer_instance; (first | exact zl rfl | exact LB_le (by omega)); (first | (with_reducible exact LB_set (by omega)) | (simp only [n0, Nat.reduceAdd, n1, n2, n3, n4, n5, n6, n7, n8, n9]; try rfl)); simp only [zp, zq, z0, z1])
          | ((with_reducible apply sx_store hp); exact zt rfl; exact za rfl; exact rfl; (first | exact AggTy.size | exact OneTy.size); exact rfl; infer_instance; (first | (with_reducible exact LB_set (by omega)) | (simp only [n0, Nat.reduceAdd, n1, n2, n3, n4, n5, n6, n7, n8, n9]; try rfl)); (first | exact zl rfl | exact LB_le (by omega)); exact rfl; infer_instance; clear hp; (try clear w1); intro w1 hp)
          | ((with_reducible first | refine sx_call hp (EX.out _) ?_ | refine sx_call hp (SQ.out _) ?_); clear hp; (try clear w1); intro w1 hp))
    have hq := hp
    refine wp_drawnG_hp hp hq [] (.q 0 (.q 1 (.q 2 (.q 3 (.q 5 (.p 4 (.q 6 (.q 7 .nil)))))))) (by kernel_rfl) (by kernel_rfl) ?_
    clear hp hq; (try clear w1); intro w1 hp hq
    repeat' (first
      | (((with_reducible apply sg_q); exact zo rfl); (first
          | ((with_reducible apply sg_load_agg hp); exact rfl; exact zt rfl; infer_instance; infer_instance; (first | exact zl rfl | exact LB_le (by omega)); (first | (with_reducible exact LB_set (by omega)) | (simp only [n0, Nat.reduceAdd, n1, n2, n3, n4, n5, n6, n7, n8, n9]; try rfl)); simp only [zp, zq, z0, z1])
          | ((with_reducible apply sg_move hp); exact zb rfl; simp only [zp, zq, z0, z1])
          | ((with_reducible apply sg_pure hp); exact rfl; (focus (intro _; go_simp; (try go_ints); try with_reducible rfl)); simp only [zp, zq, z0, z1])
          | ((with_reducible apply sg_skip hp); exact rfl; simp only [zp, zq, z0, z1])))
      | (((with_reducible apply sg_p); exact zo rfl); ((with_reducible apply sg_skipP hp); exact rfl; simp only [zp, zq, z0, z1]))
      | ((with_reducible apply sg_nil hq); clear hp hq; (try clear w1); intro w1 hp))
    go_wp2_with (first
          | ((with_reducible apply sx_box hp); exact za rfl; exact rfl; clear hp; (try clear w1); intro g w1 hp; simp only [zp, zq, z0, z1])
          | ((with_reducible apply sx_alloc hp); infer_instance; exact rfl; clear hp; (try clear w1); intro g w1 hp; simp only [zp, zq, z0, z1])
          | ((with_reducible apply sx_load_agg hp); exact zt rfl; infer_instance; infer_instance; (first | exact zl rfl | exact LB_le (by omega)); (first | (with_reducible exact LB_set (by omega)) | (simp only [n0, Nat.reduceAdd, n1, n2, n3, n4, n5, n6, n7, n8, n9]; try rfl)); simp only [zp, zq, z0, z1])
          | ((with_reducible apply sx_store hp); exact zt rfl; exact za rfl; exact rfl; (first | exact AggTy.size | exact OneTy.size); exact rfl; infer_instance; (first | (with_reducible exact LB_set (by omega)) | (simp only [n0, Nat.reduceAdd, n1, n2, n3, n4, n5, n6, n7, n8, n9]; try rfl)); (first | exact zl rfl | exact LB_le (by omega)); exact rfl; infer_instance; clear hp; (try clear w1); intro w1 hp)
          | ((with_reducible refine sx_call hp (WI.out _) ?_); clear hp; (try clear w1); intro w1 hp))
    exact bodyPost_ret (results_one rfl rfl) rfl ⟨rfl, hp.keep⟩
  | true =>
    cases b with
    | true =>
      obtain rfl : v = r := by rw [HV.out]; simp
      clear HV PL
      generalize cl v = c at *
      go_enter Try.func31, Try.ntmps31
      have hp := Hp.start [] w
      go_upto_region 3 with (first
          | ((with_reducible apply sx_box hp); exact za rfl; exact rfl; clear hp; (try clear w1); intro g w1 hp; simp only [zp, zq, z0, z1])
          | ((with_reducible apply sx_alloc hp); infer_instance; exact rfl; clear hp; (try clear w1); intro g w1 hp; simp only [zp, zq, z0, z1])
          | ((with_reducible apply sx_load_agg hp); exact zt rfl; infer_instance; infer_instance; (first | exact zl rfl | exact LB_le (by omega)); (first | (with_reducible exact LB_set (by omega)) | (simp only [n0, Nat.reduceAdd, n1, n2, n3, n4, n5, n6, n7, n8, n9]; try rfl)); simp only [zp, zq, z0, z1])
          | ((with_reducible apply sx_store hp); exact zt rfl; exact za rfl; exact rfl; (first | exact AggTy.size | exact OneTy.size); exact rfl; infer_instance; (first | (with_reducible exact LB_set (by omega)) | (simp only [n0, Nat.reduceAdd, n1, n2, n3, n4, n5, n6, n7, n8, n9]; try rfl)); (first | exact zl rfl | exact LB_le (by omega)); exact rfl; infer_instance; clear hp; (try clear w1); intro w1 hp)
          | ((with_reducible first | refine sx_call hp (EX.out _) ?_ | refine sx_call hp (SQ.out _) ?_); clear hp; (try clear w1); intro w1 hp))
      have hq := hp
      refine wp_drawnG_hp hp hq [] (.q 0 (.q 1 (.q 2 (.q 3 (.q 5 (.p 4 (.q 6 (.q 7 .nil)))))))) (by kernel_rfl) (by kernel_rfl) ?_
      clear hp hq; (try clear w1); intro w1 hp hq
      repeat' (first
        | (((with_reducible apply sg_q); exact zo rfl); (first
            | ((with_reducible apply sg_load_agg hp); exact rfl; exact zt rfl; infer_instance; infer_instance; (first | exact zl rfl | exact LB_le (by omega)); (first | (with_reducible exact LB_set (by omega)) | (simp only [n0, Nat.reduceAdd, n1, n2, n3, n4, n5, n6, n7, n8, n9]; try rfl)); simp only [zp, zq, z0, z1])
            | ((with_reducible apply sg_move hp); exact zb rfl; simp only [zp, zq, z0, z1])
            | ((with_reducible apply sg_pure hp); exact rfl; (focus (intro _; go_simp; (try go_ints); try with_reducible rfl)); simp only [zp, zq, z0, z1])
            | ((with_reducible apply sg_skip hp); exact rfl; simp only [zp, zq, z0, z1])))
        | (((with_reducible apply sg_p); exact zo rfl); (first
            | ((with_reducible apply sg_call hp); exact rfl; (focus (intro _; go_simp; try first | with_reducible rfl | exact ⟨rfl, rfl⟩)); (with_reducible first | exact fun w => TM.out w); simp only [zp, zq, z0, z1])
            | ((with_reducible apply sg_skipP hp); exact rfl; simp only [zp, zq, z0, z1])))
        | ((with_reducible apply sg_nil hq); clear hp hq; (try clear w1); intro w1 hp))
      go_wp2_with (first
          | ((with_reducible apply sx_box hp); exact za rfl; exact rfl; clear hp; (try clear w1); intro g w1 hp; simp only [zp, zq, z0, z1])
          | ((with_reducible apply sx_alloc hp); infer_instance; exact rfl; clear hp; (try clear w1); intro g w1 hp; simp only [zp, zq, z0, z1])
          | ((with_reducible apply sx_load_agg hp); exact zt rfl; infer_instance; infer_instance; (first | exact zl rfl | exact LB_le (by omega)); (first | (with_reducible exact LB_set (by omega)) | (simp only [n0, Nat.reduceAdd, n1, n2, n3, n4, n5, n6, n7, n8, n9]; try rfl)); simp only [zp, zq, z0, z1])
          | ((with_reducible apply sx_store hp); exact zt rfl; exact za rfl; exact rfl; (first | exact AggTy.size | exact OneTy.size); exact rfl; infer_instance; (first | (with_reducible exact LB_set (by omega)) | (simp only [n0, Nat.reduceAdd, n1, n2, n3, n4, n5, n6, n7, n8, n9]; try rfl)); (first | exact zl rfl | exact LB_le (by omega)); exact rfl; infer_instance; clear hp; (try clear w1); intro w1 hp)
          | ((with_reducible refine sx_call hp (WI.out _) ?_); clear hp; (try clear w1); intro w1 hp))
      exact bodyPost_ret (results_one rfl rfl) rfl ⟨rfl, hp.keep⟩
    | false =>
      obtain rfl : v = r1 := by rw [HV.out]; simp
      clear HV
      generalize cl v = c at *
      go_enter Try.func31, Try.ntmps31
      have hp := Hp.start [] w
      go_upto_region 3 with (first
          | ((with_reducible apply sx_box hp); exact za rfl; exact rfl; clear hp; (try clear w1); intro g w1 hp; simp only [zp, zq, z0, z1])
          | ((with_reducible apply sx_alloc hp); infer_instance; exact rfl; clear hp; (try clear w1); intro g w1 hp; simp only [zp, zq, z0, z1])
          | ((with_reducible apply sx_load_agg hp); exact zt rfl; infer_instance; infer_instance; (first | exact zl rfl | exact LB_le (by omega)); (first | (with_reducible exact LB_set (by omega)) | (simp only [n0, Nat.reduceAdd, n1, n2, n3, n4, n5, n6, n7, n8, n9]; try rfl)); simp only [zp, zq, z0, z1])
          | ((with_reducible apply sx_store hp); exact zt rfl; exact za rfl; exact rfl; (first | exact AggTy.size | exact OneTy.size); exact rfl; infer_instance; (first | (with_reducible exact LB_set (by omega)) | (simp only [n0, Nat.reduceAdd, n1, n2, n3, n4, n5, n6, n7, n8, n9]; try rfl)); (first | exact zl rfl | exact LB_le (by omega)); exact rfl; infer_instance; clear hp; (try clear w1); intro w1 hp)
          | ((with_reducible first | refine sx_call hp (EX.out _) ?_ | refine sx_call hp (SQ.out _) ?_); clear hp; (try clear w1); intro w1 hp))
      have hq := hp
      refine wp_drawnG_hp hp hq [] (.q 0 (.q 1 (.q 2 (.q 3 (.q 5 (.p 4 (.q 6 (.q 7 .nil)))))))) (by kernel_rfl) (by kernel_rfl) ?_
      clear hp hq; (try clear w1); intro w1 hp hq
      repeat' (first
        | (((with_reducible apply sg_q); exact zo rfl); (first
            | ((with_reducible apply sg_load_agg hp); exact rfl; exact zt rfl; infer_instance; infer_instance; (first | exact zl rfl | exact LB_le (by omega)); (first | (with_reducible exact LB_set (by omega)) | (simp only [n0, Nat.reduceAdd, n1, n2, n3, n4, n5, n6, n7, n8, n9]; try rfl)); simp only [zp, zq, z0, z1])
            | ((with_reducible apply sg_move hp); exact zb rfl; simp only [zp, zq, z0, z1])
            | ((with_reducible apply sg_pure hp); exact rfl; (focus (intro _; go_simp; (try go_ints); try with_reducible rfl)); simp only [zp, zq, z0, z1])
            | ((with_reducible apply sg_skip hp); exact rfl; simp only [zp, zq, z0, z1])))
        | (((with_reducible apply sg_p); exact zo rfl); (first
            | ((with_reducible apply sg_call hp); exact rfl; (focus (intro _; go_simp; try first | with_reducible rfl | exact ⟨rfl, rfl⟩)); (with_reducible first | exact fun w => TM.out w); simp only [zp, zq, z0, z1])
            | ((with_reducible apply sg_skipP hp); exact rfl; simp only [zp, zq, z0, z1])))
        | ((with_reducible apply sg_nil hq); clear hp hq; (try clear w1); intro w1 hp))
      go_upto_region 4 with (first
          | ((with_reducible apply sx_box hp); exact za rfl; exact rfl; clear hp; (try clear w1); intro g w1 hp; simp only [zp, zq, z0, z1])
          | ((with_reducible apply sx_alloc hp); infer_instance; exact rfl; clear hp; (try clear w1); intro g w1 hp; simp only [zp, zq, z0, z1])
          | ((with_reducible apply sx_load_agg hp); exact zt rfl; infer_instance; infer_instance; (first | exact zl rfl | exact LB_le (by omega)); (first | (with_reducible exact LB_set (by omega)) | (simp only [n0, Nat.reduceAdd, n1, n2, n3, n4, n5, n6, n7, n8, n9]; try rfl)); simp only [zp, zq, z0, z1])
          | ((with_reducible apply sx_store hp); exact zt rfl; exact za rfl; exact rfl; (first | exact AggTy.size | exact OneTy.size); exact rfl; infer_instance; (first | (with_reducible exact LB_set (by omega)) | (simp only [n0, Nat.reduceAdd, n1, n2, n3, n4, n5, n6, n7, n8, n9]; try rfl)); (first | exact zl rfl | exact LB_le (by omega)); exact rfl; infer_instance; clear hp; (try clear w1); intro w1 hp))
      have hq := hp
      refine wp_drawn_hp hp hq [3] (.q 0 (.l 1 (.l 2 (.l 3 .nil)))) (by kernel_rfl) (by kernel_rfl) ?_
      clear hp hq; (try clear w1); intro w1 hp hq
      repeat' (first
        | (((with_reducible apply sd_q); exact zo rfl); (first
            | ((with_reducible apply sd_load_agg hp); exact rfl; exact zt rfl; infer_instance; infer_instance; (first | exact zl rfl | exact LB_le (by omega)); (first | (with_reducible exact LB_set (by omega)) | (simp only [n0, Nat.reduceAdd, n1, n2, n3, n4, n5, n6, n7, n8, n9]; try rfl)); simp only [zp, zq, z0, z1])
            | ((with_reducible apply sd_pure hp); exact rfl; (focus (intro _; go_simp; (try go_ints); try with_reducible rfl)); simp only [zp, zq, z0, z1])))
        | (((with_reducible apply sd_l); exact zo rfl); (first
            | ((with_reducible apply sd_call hp); exact rfl; (focus (intro _; go_simp; try first | with_reducible rfl | exact ⟨rfl, rfl⟩)); (with_reducible first | exact fun w => O1.out w | exact fun w => PL.out w); exact hq; clear hp hq; (try clear w1); intro w1 hp hq; simp only [zp, zq, z0, z1])
            | ((with_reducible apply sd_store_far hq); exact rfl; exact zt rfl; (first | exact za rfl | exact zu rfl | exact zi rfl | exact zb rfl | exact zr rfl | exact zs rfl | exact zf rfl | exact zg rfl | exact zn rfl | exact zv rfl | exact zw rfl); exact rfl; (first | exact AggTy.size | exact OneTy.size); exact rfl; infer_instance; (first | (with_reducible exact LB_set (by omega)) | (simp only [n0, Nat.reduceAdd, n1, n2, n3, n4, n5, n6, n7, n8, n9]; try rfl)); (first | exact zl rfl | exact LB_le (by omega)); exact rfl; infer_instance; (repeat (first | exact List.Sublist.refl _ | apply List.Sublist.cons)); clear hp hq; (try clear w1); intro w1 hp hq)
            | ((with_reducible apply sd_store hq); exact rfl; exact zt rfl; (first | exact za rfl | exact zu rfl | exact zi rfl | exact zb rfl | exact zr rfl | exact zs rfl | exact zf rfl | exact zg rfl | exact zn rfl | exact zv rfl | exact zw rfl); exact rfl; (first | exact AggTy.size | exact OneTy.size); exact rfl; infer_instance; (first | (with_reducible exact LB_set (by omega)) | (simp only [n0, Nat.reduceAdd, n1, n2, n3, n4, n5, n6, n7, n8, n9]; try rfl)); (first | exact zl rfl | exact LB_le (by omega)); exact rfl; infer_instance; exact rfl; clear hp hq; (try clear w1); intro w1 hq; have hp := True.intro)))
        | ((with_reducible apply sd_nil); clear hp; have hp := hq; clear hq))
      go_wp2_with (first
          | ((with_reducible apply sx_box hp); exact za rfl; exact rfl; clear hp; (try clear w1); intro g w1 hp; simp only [zp, zq, z0, z1])
          | ((with_reducible apply sx_alloc hp); infer_instance; exact rfl; clear hp; (try clear w1); intro g w1 hp; simp only [zp, zq, z0, z1])
          | ((with_reducible apply sx_load_agg hp); exact zt rfl; infer_instance; infer_instance; (first | exact zl rfl | exact LB_le (by omega)); (first | (with_reducible exact LB_set (by omega)) | (simp only [n0, Nat.reduceAdd, n1, n2, n3, n4, n5, n6, n7, n8, n9]; try rfl)); simp only [zp, zq, z0, z1])
          | ((with_reducible apply sx_store hp); exact zt rfl; exact za rfl; exact rfl; (first | exact AggTy.size | exact OneTy.size); exact rfl; infer_instance; (first | (with_reducible exact LB_set (by omega)) | (simp only [n0, Nat.reduceAdd, n1, n2, n3, n4, n5, n6, n7, n8, n9]; try rfl)); (first | exact zl rfl | exact LB_le (by omega)); exact rfl; infer_instance; clear hp; (try clear w1); intro w1 hp)
          | ((with_reducible refine sx_call hp (WI.out _) ?_); clear hp; (try clear w1); intro w1 hp))
      exact bodyPost_ret (results_one rfl rfl) rfl ⟨rfl, hp.keep⟩
theorem sqrt_pos_any {n : Int} (hn : Fit n) (h0 : 0 ≤ n) (w : World) : Calls Try.prog 67 #[W n] w (Ret (.tuple #[W (rt n), .bool true]) w) := rsqrt_pos n hn h0 w
theorem fit_one : Fit 1 := by unfold Fit M511; omega
theorem r3len_any (a : P3) (up : Bool) (ha : a.i64) (w : World) : Calls Try.prog 31 #[PV a, .bool up] w (Ret (.int .i64 (lenv a up)) w) := by
  have hd := dot_bd ha ha
  have h0 := dot_self a
  have hn : Fit (a.dot a) := by unfold Fit M511; omega
  obtain ⟨f1, f2, f3⟩ := rt_fits h0 hn
  have hu := rtUp_fit h0 hn
  have hEQ := eqb_fit f3 hn
  unfold lenv
  refine r3len_core a (a.dot a) (rt (a.dot a)) _ up (Lib.hid (exact_any a a ha ha)) (Lib.hid (rsqrt_pos _ hn h0)) (Lib.hid (rtimes_fit _ _ f1 f1 f3)) (Lib.hid (rplus_fit _ _ f1 fit_one f2)) (Lib.hid fun w => rwithin_any _ ?_ w) _ hEQ (Lib.hid ?_) w
  · split
    · exact hu
    · exact f1
  · cases up
    · simp
    · unfold rtUp
      by_cases h : rt (a.dot a) * rt (a.dot a) = a.dot a <;> simp [h]
end Go.Proofs.Ytnipjafcgicddaa
set_option linter.unusedSimpArgs false
set_option linter.unusedVariables false
set_option maxRecDepth 100000
namespace Go.Proofs.Ytnipjafcgicddaa
open Go Go.RowKit
attribute [local irreducible] wpList

/-- A number by the root of a square. -/
def ratio (x s : Int) : Int :=
  if 0 ≤ x then cl (rt (x * x * 18446744073709551616 / s))
  else cl (-(if rt (x * x * 18446744073709551616 / s) * rt (x * x * 18446744073709551616 / s) * s = x * x * 18446744073709551616 then rt (x * x * 18446744073709551616 / s) else rt (x * x * 18446744073709551616 / s) + 1))
theorem dvq_pos {n s : Int} (h0 : 0 ≤ n) (hn : Fit n) (hs : 0 < s) : dvq n s = n / s ∧ dvr n s = n % s ∧ dvok n s ∧ 0 ≤ n / s ∧ n / s ≤ n ∧ Fit (n / s) := by
  have e : fq n s = n / s := by unfold fq; rw [if_neg (by omega)]
  have h1 : 0 ≤ n / s := Int.ediv_nonneg h0 (Int.le_of_lt hs)
  have h2 : n / s ≤ n := Int.ediv_le_self _ h0
  have hf : Fit (n / s) := by unfold Fit M511 at *; omega
  have hok : dvok n s := ⟨by omega, by rw [e]; exact hf⟩
  refine ⟨by unfold dvq; rw [if_pos hok, e], ?_, hok, h1, h2, hf⟩
  unfold dvr fr
  rw [if_pos hok, e]
  have := Int.mul_ediv_add_emod n s
  rw [Int.mul_comm] at this
  omega
set_option maxHeartbeats 4000000 in
theorem r3ratio_core (x s nx n q q2 r rr rs r1 : Int) (o o2 : Bool) (hx : I64 x)
    (X1 : Hid (∀ w, Calls Try.prog 77 #[.int .i64 x] w (Ret (W x) w)))
    (T1 : Hid (∀ w, Calls Try.prog 68 #[W x, W x] w (Ret (W nx) w)))
    (T2 : Hid (∀ w, Calls Try.prog 99 #[W nx, .int .i64 64] w (Ret (W n) w)))
    (DV : Hid (∀ w, Calls Try.prog 100 #[W n, W s] w (Ret (.tuple #[W q, W q2, .bool o]) w)))
    (SQ : Hid (∀ w, Calls Try.prog 67 #[W q] w (Ret (.tuple #[W r, .bool true]) w)))
    (W1 : Hid (∀ w, Calls Try.prog 71 #[W r] w (Ret (.int .i64 (cl r)) w)))
    (T3 : Hid (∀ w, Calls Try.prog 68 #[W r, W r] w (Ret (W rr) w)))
    (T4 : Hid (∀ w, Calls Try.prog 68 #[W rr, W s] w (Ret (W rs) w)))
    (PL : Hid (∀ w, Calls Try.prog 69 #[W r, W 1] w (Ret (W r1) w)))
    (b : Bool) (HE : eqb rs n = b) (v m : Int) (HV : Hid (v = if b = true then r else r1)) 
    (L1 : Hid (∀ w, Calls Try.prog 94 #[.agg #[.int .u64 0, .int .u64 0, .int .u64 0, .int .u64 0, .int .u64 0, .int .u64 0, .int .u64 0, .int .u64 0], W v] w (Ret (W m) w)))
    (W2 : Hid (∀ w, Calls Try.prog 71 #[W m] w (Ret (.int .i64 (cl m)) w))) (c : Int) (HC : Hid (c = if 0 ≤ x then cl r else cl m)) (w : World) :
    Calls Try.prog 60 #[.int .i64 x, W s] w (Ret (.int .i64 c) w) := by
  have O1 := Lib.hid fun w => rsmall_any 1 (by omega) (by omega) w
  unfold eqb at HE
  by_cases h0 : 0 ≤ x
  · obtain rfl : c = cl r := by rw [HC.out, if_pos h0]
    clear HC HE HV L1 W2 T3 T4 PL
    go_enter Try.func60, Try.ntmps60
    have hp := Hp.start [] w
    go_wp2_with (first
          | ((with_reducible apply sx_box hp); exact za rfl; exact rfl; clear hp; (try clear w1); intro g w1 hp; simp only [zp, zq, z0, z1])
          | ((with_reducible apply sx_alloc hp); infer_instance; exact rfl; clear hp; (try clear w1); intro g w1 hp; simp only [zp, zq, z0, z1])
          | ((with_reducible apply sx_load_agg hp); exact zt rfl; infer_instance; infer_instance; (first | exact zl rfl | exact LB_le (by omega)); (first | (with_reducible exact LB_set (by omega)) | (simp only [n0, Nat.reduceAdd, n1, n2, n3, n4, n5, n6, n7, n8, n9]; try rfl)); simp only [zp, zq, z0, z1])
          | ((with_reducible apply sx_store hp); exact zt rfl; exact za rfl; exact rfl; (first | exact AggTy.size | exact OneTy.size); exact rfl; infer_instance; (first | (with_reducible exact LB_set (by omega)) | (simp only [n0, Nat.reduceAdd, n1, n2, n3, n4, n5, n6, n7, n8, n9]; try rfl)); (first | exact zl rfl | exact LB_le (by omega)); exact rfl; infer_instance; clear hp; (try clear w1); intro w1 hp)
          | ((with_reducible first | refine sx_call hp (X1.out _) ?_ | refine sx_call hp (T1.out _) ?_ | refine sx_call hp (T2.out _) ?_ | refine sx_call hp (DV.out _) ?_ | refine sx_call hp (SQ.out _) ?_ | refine sx_call hp (W1.out _) ?_); clear hp; (try clear w1); intro w1 hp))
    exact bodyPost_ret (results_one rfl rfl) rfl ⟨rfl, hp.keep⟩
  · obtain rfl : c = cl m := by rw [HC.out, if_neg h0]
    clear HC W1
    cases b with
    | true =>
      obtain rfl : v = r := by rw [HV.out]; simp
      clear HV PL
      generalize cl m = c at *
      go_enter Try.func60, Try.ntmps60
      have hp := Hp.start [] w
      go_upto_region 8 with (first
          | ((with_reducible apply sx_box hp); exact za rfl; exact rfl; clear hp; (try clear w1); intro g w1 hp; simp only [zp, zq, z0, z1])
          | ((with_reducible apply sx_alloc hp); infer_instance; exact rfl; clear hp; (try clear w1); intro g w1 hp; simp only [zp, zq, z0, z1])
          | ((with_reducible apply sx_load_agg hp); exact zt rfl; infer_instance; infer_instance; (first | exact zl rfl | exact LB_le (by omega)); (first | (with_reducible exact LB_set (by omega)) | (simp only [n0, Nat.reduceAdd, n1, n2, n3, n4, n5, n6, n7, n8, n9]; try rfl)); simp only [zp, zq, z0, z1])
          | ((with_reducible apply sx_store hp); exact zt rfl; exact za rfl; exact rfl; (first | exact AggTy.size | exact OneTy.size); exact rfl; infer_instance; (first | (with_reducible exact LB_set (by omega)) | (simp only [n0, Nat.reduceAdd, n1, n2, n3, n4, n5, n6, n7, n8, n9]; try rfl)); (first | exact zl rfl | exact LB_le (by omega)); exact rfl; infer_instance; clear hp; (try clear w1); intro w1 hp)
          | ((with_reducible first | refine sx_call hp (X1.out _) ?_ | refine sx_call hp (T1.out _) ?_ | refine sx_call hp (T2.out _) ?_ | refine sx_call hp (DV.out _) ?_ | refine sx_call hp (SQ.out _) ?_); clear hp; (try clear w1); intro w1 hp))
      have hq := hp
      refine wp_drawn_hp hp hq [] (.q 0 (.q 1 (.q 3 (.q 5 (.l 2 (.l 4 (.q 6 .nil))))))) (by kernel_rfl) (by kernel_rfl) ?_
      clear hp hq; (try clear w1); intro w1 hp hq
      repeat' (first
        | (((with_reducible apply sd_q); exact zo rfl); (first
            | ((with_reducible apply sd_load_agg hp); exact rfl; exact zt rfl; infer_instance; infer_instance; (first | exact zl rfl | exact LB_le (by omega)); (first | (with_reducible exact LB_set (by omega)) | (simp only [n0, Nat.reduceAdd, n1, n2, n3, n4, n5, n6, n7, n8, n9]; try rfl)); simp only [zp, zq, z0, z1])
            | ((with_reducible apply sd_pure hp); exact rfl; (focus (intro _; go_simp; (try go_ints); try with_reducible rfl)); simp only [zp, zq, z0, z1])))
        | (((with_reducible apply sd_l); exact zo rfl); ((with_reducible apply sd_call hp); exact rfl; (focus (intro _; go_simp; try first | with_reducible rfl | exact ⟨rfl, rfl⟩)); (with_reducible first | exact fun w => T3.out w | exact fun w => T4.out w); exact hq; clear hp hq; (try clear w1); intro w1 hp hq; simp only [zp, zq, z0, z1]))
        | ((with_reducible apply sd_nil); clear hp; have hp := hq; clear hq))
      go_wp2_with (first
          | ((with_reducible apply sx_box hp); exact za rfl; exact rfl; clear hp; (try clear w1); intro g w1 hp; simp only [zp, zq, z0, z1])
          | ((with_reducible apply sx_alloc hp); infer_instance; exact rfl; clear hp; (try clear w1); intro g w1 hp; simp only [zp, zq, z0, z1])
          | ((with_reducible apply sx_load_agg hp); exact zt rfl; infer_instance; infer_instance; (first | exact zl rfl | exact LB_le (by omega)); (first | (with_reducible exact LB_set (by omega)) | (simp only [n0, Nat.reduceAdd, n1, n2, n3, n4, n5, n6, n7, n8, n9]; try rfl)); simp only [zp, zq, z0, z1])
          | ((with_reducible apply sx_store hp); exact zt rfl; exact za rfl; exact rfl; (first | exact AggTy.size | exact OneTy.size); exact rfl; infer_instance; (first | (with_reducible exact LB_set (by omega)) | (simp only [n0, Nat.reduceAdd, n1, n2, n3, n4, n5, n6, n7, n8, n9]; try rfl)); (first | exact zl rfl | exact LB_le (by omega)); exact rfl; infer_instance; clear hp; (try clear w1); intro w1 hp)
          | ((with_reducible first | refine sx_call hp (L1.out _) ?_ | refine sx_call hp (W2.out _) ?_); clear hp; (try clear w1); intro w1 hp))
      exact bodyPost_ret (results_one rfl rfl) rfl ⟨rfl, hp.keep⟩
    | false =>
      obtain rfl : v = r1 := by rw [HV.out]; simp
      clear HV
      generalize cl m = c at *
      go_enter Try.func60, Try.ntmps60
      have hp := Hp.start [] w
      go_upto_region 8 with (first
          | ((with_reducible apply sx_box hp); exact za rfl; exact rfl; clear hp; (try clear w1); intro g w1 hp; simp only [zp, zq, z0, z1])
          | ((with_reducible apply sx_alloc hp); infer_instance; exact rfl; clear hp; (try clear w1); intro g w1 hp; simp only [zp, zq, z0, z1])
          | ((with_reducible apply sx_load_agg hp); exact zt rfl; infer_instance; infer_instance; (first | exact zl rfl | exact LB_le (by omega)); (first | (with_reducible exact LB_set (by omega)) | (simp only [n0, Nat.reduceAdd, n1, n2, n3, n4, n5, n6, n7, n8, n9]; try rfl)); simp only [zp, zq, z0, z1])
          | ((with_reducible apply sx_store hp); exact zt rfl; exact za rfl; exact rfl; (first | exact AggTy.size | exact OneTy.size); exact rfl; infer_instance; (first | (with_reducible exact LB_set (by omega)) | (simp only [n0, Nat.reduceAdd, n1, n2, n3, n4, n5, n6, n7, n8, n9]; try rfl)); (first | exact zl rfl | exact LB_le (by omega)); exact rfl; infer_instance; clear hp; (try clear w1); intro w1 hp)
          | ((with_reducible first | refine sx_call hp (X1.out _) ?_ | refine sx_call hp (T1.out _) ?_ | refine sx_call hp (T2.out _) ?_ | refine sx_call hp (DV.out _) ?_ | refine sx_call hp (SQ.out _) ?_); clear hp; (try clear w1); intro w1 hp))
      have hq := hp
      refine wp_drawn_hp hp hq [] (.q 0 (.q 1 (.q 3 (.q 5 (.l 2 (.l 4 (.q 6 .nil))))))) (by kernel_rfl) (by kernel_rfl) ?_
      clear hp hq; (try clear w1); intro w1 hp hq
      repeat' (first
        | (((with_reducible apply sd_q); exact zo rfl); (first
            | ((with_reducible apply sd_load_agg hp); exact rfl; exact zt rfl; infer_instance; infer_instance; (first | exact zl rfl | exact LB_le (by omega)); (first | (with_reducible exact LB_set (by omega)) | (simp only [n0, Nat.reduceAdd, n1, n2, n3, n4, n5, n6, n7, n8, n9]; try rfl)); simp only [zp, zq, z0, z1])
            | ((with_reducible apply sd_pure hp); exact rfl; (focus (intro _; go_simp; (try go_ints); try with_reducible rfl)); simp only [zp, zq, z0, z1])))
        | (((with_reducible apply sd_l); exact zo rfl); ((with_reducible apply sd_call hp); exact rfl; (focus (intro _; go_simp; try first | with_reducible rfl | exact ⟨rfl, rfl⟩)); (with_reducible first | exact fun w => T3.out w | exact fun w => T4.out w); exact hq; clear hp hq; (try clear w1); intro w1 hp hq; simp only [zp, zq, z0, z1]))
        | ((with_reducible apply sd_nil); clear hp; have hp := hq; clear hq))
      go_upto_region 9 with (first
          | ((with_reducible apply sx_box hp); exact za rfl; exact rfl; clear hp; (try clear w1); intro g w1 hp; simp only [zp, zq, z0, z1])
          | ((with_reducible apply sx_alloc hp); infer_instance; exact rfl; clear hp; (try clear w1); intro g w1 hp; simp only [zp, zq, z0, z1])
          | ((with_reducible apply sx_load_agg hp); exact zt rfl; infer_instance; infer_instance; (first | exact zl rfl | exact LB_le (by omega)); (first | (with_reducible exact LB_set (by omega)) | (simp only [n0, Nat.reduceAdd, n1, n2, n3, n4, n5, n6, n7, n8, n9]; try rfl)); simp only [zp, zq, z0, z1])
          | ((with_reducible apply sx_store hp); exact zt rfl; exact za rfl; exact rfl; (first | exact AggTy.size | exact OneTy.size); exact rfl; infer_instance; (first | (with_reducible exact LB_set (by omega)) | (simp only [n0, Nat.reduceAdd, n1, n2, n3, n4, n5, n6, n7, n8, n9]; try rfl)); (first | exact zl rfl | exact LB_le (by omega)); exact rfl; infer_instance; clear hp; (try clear w1); intro w1 hp))
      have hq := hp
      refine wp_drawn_hp hp hq [3] (.q 0 (.l 1 (.l 2 (.l 3 .nil)))) (by kernel_rfl) (by kernel_rfl) ?_
      clear hp hq; (try clear w1); intro w1 hp hq
      repeat' (first
        | (((with_reducible apply sd_q); exact zo rfl); (first
            | ((with_reducible apply sd_load_agg hp); exact rfl; exact zt rfl; infer_instance; infer_instance; (first | exact zl rfl | exact LB_le (by omega)); (first | (with_reducible exact LB_set (by omega)) | (simp only [n0, Nat.reduceAdd, n1, n2, n3, n4, n5, n6, n7, n8, n9]; try rfl)); simp only [zp, zq, z0, z1])
            | ((with_reducible apply sd_pure hp); exact rfl; (focus (intro _; go_simp; (try go_ints); try with_reducible rfl)); simp only [zp, zq, z0, z1])))
        | (((with_reducible apply sd_l); exact zo rfl); (first
            | ((with_reducible apply sd_call hp); exact rfl; (focus (intro _; go_simp; try first | with_reducible rfl | exact ⟨rfl, rfl⟩)); (with_reducible first | exact fun w => O1.out w | exact fun w => PL.out w); exact hq; clear hp hq; (try clear w1); intro w1 hp hq; simp only [zp, zq, z0, z1])
            | ((with_reducible apply sd_store_far hq); exact rfl; exact zt rfl; (first | exact za rfl | exact zu rfl | exact zi rfl | exact zb rfl | exact zr rfl | exact zs rfl | exact zf rfl | exact zg rfl | exact zn rfl | exact zv rfl | exact zw rfl); exact rfl; (first | exact AggTy.size | exact OneTy.size); exact rfl; infer_instance; (first | (with_reducible exact LB_set (by omega)) | (simp only [n0, Nat.reduceAdd, n1, n2, n3, n4, n5, n6, n7, n8, n9]; try rfl)); (first | exact zl rfl | exact LB_le (by omega)); exact rfl; infer_instance; (repeat (first | exact List.Sublist.refl _ | apply List.Sublist.cons)); clear hp hq; (try clear w1); intro w1 hp hq)
            | ((with_reducible apply sd_store hq); exact rfl; exact zt rfl; (first | exact za rfl | exact zu rfl | exact zi rfl | exact zb rfl | exact zr rfl | exact zs rfl | exact zf rfl | exact zg rfl | exact zn rfl | exact zv rfl | exact zw rfl); exact rfl; (first | exact AggTy.size | exact OneTy.size); exact rfl; infer_instance; (first | (with_reducible exact LB_set (by omega)) | (simp only [n0, Nat.reduceAdd, n1, n2, n3, n4, n5, n6, n7, n8, n9]; try rfl)); (first | exact zl rfl | exact LB_le (by omega)); exact rfl; infer_instance; exact rfl; clear hp hq; (try clear w1); intro w1 hq; have hp := True.intro)))
        | ((with_reducible apply sd_nil); clear hp; have hp := hq; clear hq))
      go_wp2_with (first
          | ((with_reducible apply sx_box hp); exact za rfl; exact rfl; clear hp; (try clear w1); intro g w1 hp; simp only [zp, zq, z0, z1])
          | ((with_reducible apply sx_alloc hp); infer_instance; exact rfl; clear hp; (try clear w1); intro g w1 hp; simp only [zp, zq, z0, z1])
          | ((with_reducible apply sx_load_agg hp); exact zt rfl; infer_instance; infer_instance; (first | exact zl rfl | exact LB_le (by omega)); (first | (with_reducible exact LB_set (by omega)) | (simp only [n0, Nat.reduceAdd, n1, n2, n3, n4, n5, n6, n7, n8, n9]; try rfl)); simp only [zp, zq, z0, z1])
          | ((with_reducible apply sx_store hp); exact zt rfl; exact za rfl; exact rfl; (first | exact AggTy.size | exact OneTy.size); exact rfl; infer_instance; (first | (with_reducible exact LB_set (by omega)) | (simp only [n0, Nat.reduceAdd, n1, n2, n3, n4, n5, n6, n7, n8, n9]; try rfl)); (first | exact zl rfl | exact LB_le (by omega)); exact rfl; infer_instance; clear hp; (try clear w1); intro w1 hp)
          | ((with_reducible first | refine sx_call hp (L1.out _) ?_ | refine sx_call hp (W2.out _) ?_); clear hp; (try clear w1); intro w1 hp))
      exact bodyPost_ret (results_one rfl rfl) rfl ⟨rfl, hp.keep⟩
theorem sq_i64 {x : Int} (h : I64 x) : 0 ≤ x * x ∧ x * x ≤ 85070591730234615865843651857942052864 := ⟨sq_nn x, (i64_mul h h).2⟩
theorem r3ratio_any (x s : Int) (hx : I64 x) (hs : 0 < s) (hsf : Fit s) (w : World) : Calls Try.prog 60 #[.int .i64 x, W s] w (Ret (.int .i64 (ratio x s)) w) := by
  have hxx := sq_i64 hx
  have hn0 : Fit (x * x) := by unfold Fit M511; omega
  have hnn : 0 ≤ x * x * 18446744073709551616 := by omega
  have hn : Fit (x * x * 18446744073709551616) := by unfold Fit M511; omega
  have hp2 : (2 : Int) ^ 64 = 18446744073709551616 := rfl
  have htw := r3twice_any (x * x) 64 (by omega) hn0 (by rw [hp2]; exact hn)
  rw [hp2] at htw
  unfold ratio
  generalize x * x * 18446744073709551616 = n at *
  obtain ⟨d1, d2, d3, d4, d5, d6⟩ := dvq_pos hnn hn hs
  have hdv := rdiv_any n s hn hsf
  rw [d1, d2, decide_eq_true d3] at hdv
  obtain ⟨f1, f2, f3⟩ := rt_fits d4 d6
  obtain ⟨g1, g2⟩ := rt_spec d4
  have hle : rt (n / s) * rt (n / s) * s ≤ n := by
    have := Int.mul_le_mul_of_nonneg_right g1 (Int.le_of_lt hs)
    have h2 := Int.ediv_mul_le n (show s ≠ 0 by omega)
    omega
  have hge : 0 ≤ rt (n / s) * rt (n / s) * s := Int.mul_nonneg (sq_nn _) (Int.le_of_lt hs)
  have f4 : Fit (rt (n / s) * rt (n / s) * s) := by unfold Fit M511 at *; omega
  have hEQ := eqb_fit f4 hn
  have f5 : Fit (0 - (if rt (n / s) * rt (n / s) * s = n then rt (n / s) else rt (n / s) + 1)) := by
    have := rt_nonneg (n / s)
    split
    · unfold Fit M511 at *; omega
    · unfold Fit M511 at *; omega
  have f6 : Fit (if rt (n / s) * rt (n / s) * s = n then rt (n / s) else rt (n / s) + 1) := by
    split
    · exact f1
    · exact f2
  have hle1 := rless_fit 0 _ fit_zero f6 f5
  rw [W_zero] at hle1
  refine r3ratio_core x s (x * x) n (n / s) (n % s) (rt (n / s)) (rt (n / s) * rt (n / s)) (rt (n / s) * rt (n / s) * s) (rt (n / s) + 1) true true hx (Lib.hid (r3raw_any x hx)) (Lib.hid (rtimes_i64 x x hx hx)) (Lib.hid htw) (Lib.hid hdv)
    (Lib.hid (rsqrt_pos _ d6 d4)) (Lib.hid fun w => rwithin_any _ f1 w) (Lib.hid (rtimes_fit _ _ f1 f1 f3)) (Lib.hid (rtimes_fit _ _ f3 hsf f4)) (Lib.hid (rplus_fit _ _ f1 fit_one f2)) _ hEQ _ _ (Lib.hid ?_) (Lib.hid hle1) (Lib.hid fun w => rwithin_any _ f5 w) _ (Lib.hid ?_) w
  · simp only [decide_eq_true_eq]
  · rw [Int.zero_sub]
/-- A vector by its length. -/
def P3.cunit (a : P3) : P3 := ⟨ratio a.x (a.dot a), ratio a.y (a.dot a), ratio a.z (a.dot a)⟩
def unitV (a : P3) : Value := if a.x = 0 ∧ a.y = 0 ∧ a.z = 0 then .tuple #[.agg #[.int .i64 0, .int .i64 0, .int .i64 0], .bool false] else .tuple #[PV a.cunit, .bool true]
theorem dot_pos {a : P3} (h : ¬ (a.x = 0 ∧ a.y = 0 ∧ a.z = 0)) : 0 < a.dot a := by
  have h0 := dot_self a
  by_cases hp : 0 < a.dot a
  · exact hp
  · exfalso
    have h1 := sq_nn a.x
    have h2 := sq_nn a.y
    have h3 := sq_nn a.z
    have e : a.x * a.x + a.y * a.y + a.z * a.z = 0 := by unfold P3.dot at h0 hp; omega
    refine h ⟨?_, ?_, ?_⟩
    · exact (Int.mul_eq_zero.1 (show a.x * a.x = 0 by omega)).elim id id
    · exact (Int.mul_eq_zero.1 (show a.y * a.y = 0 by omega)).elim id id
    · exact (Int.mul_eq_zero.1 (show a.z * a.z = 0 by omega)).elim id id
set_option maxHeartbeats 4000000 in
theorem r3unit_no (x y z : Int) (h : x = 0 ∧ y = 0 ∧ z = 0) (w : World) : Calls Try.prog 21 #[.agg #[.int .i64 x, .int .i64 y, .int .i64 z]] w (Ret (.tuple #[.agg #[.int .i64 0, .int .i64 0, .int .i64 0], .bool false]) w) := by
  obtain ⟨rfl, rfl, rfl⟩ := h
  go_enter Try.func21, Try.ntmps21
  have hp := Hp.start [] w
  go_wp2_with (first
          | ((with_reducible apply sx_guard); (conv => whnf); refine Bx.mk ?_; (try simp only [zp, zq, z0, z1]))
          | ((with_reducible apply sx_box hp); exact za rfl; exact rfl; clear hp; (try clear w1); intro g w1 hp; simp only [zp, zq, z0, z1])
          | ((with_reducible apply sx_alloc hp); infer_instance; exact rfl; clear hp; (try clear w1); intro g w1 hp; simp only [zp, zq, z0, z1])
          | ((with_reducible apply sx_load_agg hp); exact zt rfl; infer_instance; infer_instance; (first | exact zl rfl | exact LB_le (by omega)); (first | (with_reducible exact LB_set (by omega)) | (simp only [n0, Nat.reduceAdd, n1, n2, n3, n4, n5, n6, n7, n8, n9]; try rfl)); simp only [zp, zq, z0, z1])
          | ((with_reducible apply sx_load_one hp); exact zt rfl; infer_instance; infer_instance; (first | exact zio rfl | exact LB_get (by omega)); simp only [zp, zq, z0, z1])
          | ((with_reducible apply sx_store hp); exact zt rfl; exact za rfl; exact rfl; (first | exact AggTy.size | exact OneTy.size); exact rfl; infer_instance; (first | (with_reducible exact LB_set (by omega)) | (simp only [n0, Nat.reduceAdd, n1, n2, n3, n4, n5, n6, n7, n8, n9]; try rfl)); (first | exact zl rfl | exact LB_le (by omega)); exact rfl; infer_instance; clear hp; (try clear w1); intro w1 hp))
  exact bodyPost_ret (results_two rfl ⟨_, rfl, run_load_agg hp (Nat.le_of_ble_eq_true rfl)⟩ rfl) rfl ⟨rfl, hp.keep⟩
set_option maxHeartbeats 4000000 in
theorem r3unit_yes (a : P3) (h : a.x ≠ 0 ∨ (a.x = 0 ∧ a.y ≠ 0) ∨ (a.x = 0 ∧ a.y = 0 ∧ a.z ≠ 0)) (s p q r : Int) (EX : Hid (∀ w, Calls Try.prog 48 #[PV a, PV a] w (Ret (W s) w)))
    (RX : Hid (∀ w, Calls Try.prog 60 #[.int .i64 a.x, W s] w (Ret (.int .i64 p) w)))
    (RY : Hid (∀ w, Calls Try.prog 60 #[.int .i64 a.y, W s] w (Ret (.int .i64 q) w)))
    (RZ : Hid (∀ w, Calls Try.prog 60 #[.int .i64 a.z, W s] w (Ret (.int .i64 r) w))) (w : World) :
    Calls Try.prog 21 #[PV a] w (Ret (.tuple #[.agg #[.int .i64 p, .int .i64 q, .int .i64 r], .bool true]) w) := by
  obtain ⟨x, y, z⟩ := a
  dsimp only at *
  rcases h with h | ⟨h1, h⟩ | ⟨h1, h2, h⟩
  · have hb : (x == 0) = false := by simp [h]
    clear h
    go_enter Try.func21, Try.ntmps21
    have hp := Hp.start [] w
    go_upto_region 4 with (first
          | ((with_reducible apply sx_guard); (conv => whnf); refine Bx.mk ?_; (try simp only [zp, zq, z0, z1]))
          | ((with_reducible apply sx_box hp); exact za rfl; exact rfl; clear hp; (try clear w1); intro g w1 hp; simp only [zp, zq, z0, z1])
          | ((with_reducible apply sx_alloc hp); infer_instance; exact rfl; clear hp; (try clear w1); intro g w1 hp; simp only [zp, zq, z0, z1])
          | ((with_reducible apply sx_load_agg hp); exact zt rfl; infer_instance; infer_instance; (first | exact zl rfl | exact LB_le (by omega)); (first | (with_reducible exact LB_set (by omega)) | (simp only [n0, Nat.reduceAdd, n1, n2, n3, n4, n5, n6, n7, n8, n9]; try rfl)); simp only [zp, zq, z0, z1])
          | ((with_reducible apply sx_load_one hp); exact zt rfl; infer_instance; infer_instance; (first | exact zio rfl | exact LB_get (by omega)); simp only [zp, zq, z0, z1])
          | ((with_reducible apply sx_store hp); exact zt rfl; exact za rfl; exact rfl; (first | exact AggTy.size | exact OneTy.size); exact rfl; infer_instance; (first | (with_reducible exact LB_set (by omega)) | (simp only [n0, Nat.reduceAdd, n1, n2, n3, n4, n5, n6, n7, n8, n9]; try rfl)); (first | exact zl rfl | exact LB_le (by omega)); exact rfl; infer_instance; clear hp; (try clear w1); intro w1 hp)
          | ((with_reducible refine sx_call hp (EX.out _) ?_); clear hp; (try clear w1); intro w1 hp))
    have hq := hp
    clear hp
    have hp := hq.sub (.cons_cons _ (.cons _ (List.Sublist.refl _)))
    refine wp_drawn_hp hp hq [13] (.q 0 (.q 1 (.q 2 (.q 4 (.q 5 (.q 6 (.q 8 (.q 9 (.q 10 (.l 3 (.l 7 (.l 11 (.q 12 (.l 13 (.q 14 .nil))))))))))))))) (by kernel_rfl) (by kernel_rfl) ?_
    clear hp hq; (try clear w1); intro w1 hp hq
    repeat' (first
      | (((with_reducible apply sd_q); exact zo rfl); (first
          | ((with_reducible apply sd_load_agg hp); exact rfl; exact zt rfl; infer_instance; infer_instance; (first | exact zl rfl | exact LB_le (by omega)); (first | (with_reducible exact LB_set (by omega)) | (simp only [n0, Nat.reduceAdd, n1, n2, n3, n4, n5, n6, n7, n8, n9]; try rfl)); simp only [zp, zq, z0, z1])
          | ((with_reducible apply sd_load_one hp); exact rfl; exact zt rfl; infer_instance; infer_instance; (first | exact zio rfl | exact LB_get (by omega)); simp only [zp, zq, z0, z1])
          | ((with_reducible apply sd_assign hp); exact zb rfl; simp only [zp, zq, z0, z1])
          | ((with_reducible apply sd_pure hp); exact rfl; (focus (intro _; go_simp; (try go_ints); try with_reducible rfl)); simp only [zp, zq, z0, z1])))
      | (((with_reducible apply sd_l); exact zo rfl); (first
          | ((with_reducible apply sd_call hp); exact rfl; (focus (intro _; go_simp; try first | with_reducible rfl | exact ⟨rfl, rfl⟩)); (with_reducible first | exact fun w => RX.out w | exact fun w => RY.out w | exact fun w => RZ.out w); exact hq; clear hp hq; (try clear w1); intro w1 hp hq; simp only [zp, zq, z0, z1])
          | ((with_reducible apply sd_store_far hq); exact rfl; exact zt rfl; (first | exact za rfl | exact zu rfl | exact zi rfl | exact zb rfl | exact zr rfl | exact zs rfl | exact zf rfl | exact zg rfl | exact zn rfl | exact zv rfl | exact zw rfl); exact rfl; (first | exact AggTy.size | exact OneTy.size); exact rfl; infer_instance; (first | (with_reducible exact LB_set (by omega)) | (simp only [n0, Nat.reduceAdd, n1, n2, n3, n4, n5, n6, n7, n8, n9]; try rfl)); (first | exact zl rfl | exact LB_le (by omega)); exact rfl; infer_instance; (repeat (first | exact List.Sublist.refl _ | exact List.nil_sublist _ | apply List.Sublist.cons_cons | apply List.Sublist.cons)); clear hp hq; (try clear w1); intro w1 hp hq)
          | ((with_reducible apply sd_store hq); exact rfl; exact zt rfl; (first | exact za rfl | exact zu rfl | exact zi rfl | exact zb rfl | exact zr rfl | exact zs rfl | exact zf rfl | exact zg rfl | exact zn rfl | exact zv rfl | exact zw rfl); exact rfl; (first | exact AggTy.size | exact OneTy.size); exact rfl; infer_instance; (first | (with_reducible exact LB_set (by omega)) | (simp only [n0, Nat.reduceAdd, n1, n2, n3, n4, n5, n6, n7, n8, n9]; try rfl)); (first | exact zl rfl | exact LB_le (by omega)); exact rfl; infer_instance; exact rfl; clear hp hq; (try clear w1); intro w1 hq; have hp := True.intro)))
      | ((with_reducible apply sd_nil); clear hp; have hp := hq; clear hq))
    go_wp2
    exact bodyPost_ret (results_two rfl ⟨_, rfl, run_load_agg hp (Nat.le_of_ble_eq_true rfl)⟩ rfl) rfl ⟨rfl, hp.keep⟩
  · have hb : (y == 0) = false := by simp [h]
    have hb1 : (x == 0) = true := by simp [h1]
    clear h h1
    go_enter Try.func21, Try.ntmps21
    have hp := Hp.start [] w
    go_upto_region 4 with (first
          | ((with_reducible apply sx_guard); (conv => whnf); refine Bx.mk ?_; (try simp only [zp, zq, z0, z1]))
          | ((with_reducible apply sx_box hp); exact za rfl; exact rfl; clear hp; (try clear w1); intro g w1 hp; simp only [zp, zq, z0, z1])
          | ((with_reducible apply sx_alloc hp); infer_instance; exact rfl; clear hp; (try clear w1); intro g w1 hp; simp only [zp, zq, z0, z1])
          | ((with_reducible apply sx_load_agg hp); exact zt rfl; infer_instance; infer_instance; (first | exact zl rfl | exact LB_le (by omega)); (first | (with_reducible exact LB_set (by omega)) | (simp only [n0, Nat.reduceAdd, n1, n2, n3, n4, n5, n6, n7, n8, n9]; try rfl)); simp only [zp, zq, z0, z1])
          | ((with_reducible apply sx_load_one hp); exact zt rfl; infer_instance; infer_instance; (first | exact zio rfl | exact LB_get (by omega)); simp only [zp, zq, z0, z1])
          | ((with_reducible apply sx_store hp); exact zt rfl; exact za rfl; exact rfl; (first | exact AggTy.size | exact OneTy.size); exact rfl; infer_instance; (first | (with_reducible exact LB_set (by omega)) | (simp only [n0, Nat.reduceAdd, n1, n2, n3, n4, n5, n6, n7, n8, n9]; try rfl)); (first | exact zl rfl | exact LB_le (by omega)); exact rfl; infer_instance; clear hp; (try clear w1); intro w1 hp)
          | ((with_reducible refine sx_call hp (EX.out _) ?_); clear hp; (try clear w1); intro w1 hp))
    have hq := hp
    clear hp
    have hp := hq.sub (.cons_cons _ (.cons _ (List.Sublist.refl _)))
    refine wp_drawn_hp hp hq [13] (.q 0 (.q 1 (.q 2 (.q 4 (.q 5 (.q 6 (.q 8 (.q 9 (.q 10 (.l 3 (.l 7 (.l 11 (.q 12 (.l 13 (.q 14 .nil))))))))))))))) (by kernel_rfl) (by kernel_rfl) ?_
    clear hp hq; (try clear w1); intro w1 hp hq
    repeat' (first
      | (((with_reducible apply sd_q); exact zo rfl); (first
          | ((with_reducible apply sd_load_agg hp); exact rfl; exact zt rfl; infer_instance; infer_instance; (first | exact zl rfl | exact LB_le (by omega)); (first | (with_reducible exact LB_set (by omega)) | (simp only [n0, Nat.reduceAdd, n1, n2, n3, n4, n5, n6, n7, n8, n9]; try rfl)); simp only [zp, zq, z0, z1])
          | ((with_reducible apply sd_load_one hp); exact rfl; exact zt rfl; infer_instance; infer_instance; (first | exact zio rfl | exact LB_get (by omega)); simp only [zp, zq, z0, z1])
          | ((with_reducible apply sd_assign hp); exact zb rfl; simp only [zp, zq, z0, z1])
          | ((with_reducible apply sd_pure hp); exact rfl; (focus (intro _; go_simp; (try go_ints); try with_reducible rfl)); simp only [zp, zq, z0, z1])))
      | (((with_reducible apply sd_l); exact zo rfl); (first
          | ((with_reducible apply sd_call hp); exact rfl; (focus (intro _; go_simp; try first | with_reducible rfl | exact ⟨rfl, rfl⟩)); (with_reducible first | exact fun w => RX.out w | exact fun w => RY.out w | exact fun w => RZ.out w); exact hq; clear hp hq; (try clear w1); intro w1 hp hq; simp only [zp, zq, z0, z1])
          | ((with_reducible apply sd_store_far hq); exact rfl; exact zt rfl; (first | exact za rfl | exact zu rfl | exact zi rfl | exact zb rfl | exact zr rfl | exact zs rfl | exact zf rfl | exact zg rfl | exact zn rfl | exact zv rfl | exact zw rfl); exact rfl; (first | exact AggTy.size | exact OneTy.size); exact rfl; infer_instance; (first | (with_reducible exact LB_set (by omega)) | (simp only [n0, Nat.reduceAdd, n1, n2, n3, n4, n5, n6, n7, n8, n9]; try rfl)); (first | exact zl rfl | exact LB_le (by omega)); exact rfl; infer_instance; (repeat (first | exact List.Sublist.refl _ | exact List.nil_sublist _ | apply List.Sublist.cons_cons | apply List.Sublist.cons)); clear hp hq; (try clear w1); intro w1 hp hq)
          | ((with_reducible apply sd_store hq); exact rfl; exact zt rfl; (first | exact za rfl | exact zu rfl | exact zi rfl | exact zb rfl | exact zr rfl | exact zs rfl | exact zf rfl | exact zg rfl | exact zn rfl | exact zv rfl | exact zw rfl); exact rfl; (first | exact AggTy.size | exact OneTy.size); exact rfl; infer_instance; (first | (with_reducible exact LB_set (by omega)) | (simp only [n0, Nat.reduceAdd, n1, n2, n3, n4, n5, n6, n7, n8, n9]; try rfl)); (first | exact zl rfl | exact LB_le (by omega)); exact rfl; infer_instance; exact rfl; clear hp hq; (try clear w1); intro w1 hq; have hp := True.intro)))
      | ((with_reducible apply sd_nil); clear hp; have hp := hq; clear hq))
    go_wp2
    exact bodyPost_ret (results_two rfl ⟨_, rfl, run_load_agg hp (Nat.le_of_ble_eq_true rfl)⟩ rfl) rfl ⟨rfl, hp.keep⟩
  · have hb : (z == 0) = false := by simp [h]
    have hb1 : (x == 0) = true := by simp [h1]
    have hb2 : (y == 0) = true := by simp [h2]
    clear h h1 h2
    go_enter Try.func21, Try.ntmps21
    have hp := Hp.start [] w
    go_upto_region 4 with (first
          | ((with_reducible apply sx_guard); (conv => whnf); refine Bx.mk ?_; (try simp only [zp, zq, z0, z1]))
          | ((with_reducible apply sx_box hp); exact za rfl; exact rfl; clear hp; (try clear w1); intro g w1 hp; simp only [zp, zq, z0, z1])
          | ((with_reducible apply sx_alloc hp); infer_instance; exact rfl; clear hp; (try clear w1); intro g w1 hp; simp only [zp, zq, z0, z1])
          | ((with_reducible apply sx_load_agg hp); exact zt rfl; infer_instance; infer_instance; (first | exact zl rfl | exact LB_le (by omega)); (first | (with_reducible exact LB_set (by omega)) | (simp only [n0, Nat.reduceAdd, n1, n2, n3, n4, n5, n6, n7, n8, n9]; try rfl)); simp only [zp, zq, z0, z1])
          | ((with_reducible apply sx_load_one hp); exact zt rfl; infer_instance; infer_instance; (first | exact zio rfl | exact LB_get (by omega)); simp only [zp, zq, z0, z1])
          | ((with_reducible apply sx_store hp); exact zt rfl; exact za rfl; exact rfl; (first | exact AggTy.size | exact OneTy.size); exact rfl; infer_instance; (first | (with_reducible exact LB_set (by omega)) | (simp only [n0, Nat.reduceAdd, n1, n2, n3, n4, n5, n6, n7, n8, n9]; try rfl)); (first | exact zl rfl | exact LB_le (by omega)); exact rfl; infer_instance; clear hp; (try clear w1); intro w1 hp)
          | ((with_reducible refine sx_call hp (EX.out _) ?_); clear hp; (try clear w1); intro w1 hp))
    have hq := hp
    clear hp
    have hp := hq.sub (.cons_cons _ (.cons _ (List.Sublist.refl _)))
    refine wp_drawn_hp hp hq [13] (.q 0 (.q 1 (.q 2 (.q 4 (.q 5 (.q 6 (.q 8 (.q 9 (.q 10 (.l 3 (.l 7 (.l 11 (.q 12 (.l 13 (.q 14 .nil))))))))))))))) (by kernel_rfl) (by kernel_rfl) ?_
    clear hp hq; (try clear w1); intro w1 hp hq
    repeat' (first
      | (((with_reducible apply sd_q); exact zo rfl); (first
          | ((with_reducible apply sd_load_agg hp); exact rfl; exact zt rfl; infer_instance; infer_instance; (first | exact zl rfl | exact LB_le (by omega)); (first | (with_reducible exact LB_set (by omega)) | (simp only [n0, Nat.reduceAdd, n1, n2, n3, n4, n5, n6, n7, n8, n9]; try rfl)); simp only [zp, zq, z0, z1])
          | ((with_reducible apply sd_load_one hp); exact rfl; exact zt rfl; infer_instance; infer_instance; (first | exact zio rfl | exact LB_get (by omega)); simp only [zp, zq, z0, z1])
          | ((with_reducible apply sd_assign hp); exact zb rfl; simp only [zp, zq, z0, z1])
          | ((with_reducible apply sd_pure hp); exact rfl; (focus (intro _; go_simp; (try go_ints); try with_reducible rfl)); simp only [zp, zq, z0, z1])))
      | (((with_reducible apply sd_l); exact zo rfl); (first
          | ((with_reducible apply sd_call hp); exact rfl; (focus (intro _; go_simp; try first | with_reducible rfl | exact ⟨rfl, rfl⟩)); (with_reducible first | exact fun w => RX.out w | exact fun w => RY.out w | exact fun w => RZ.out w); exact hq; clear hp hq; (try clear w1); intro w1 hp hq; simp only [zp, zq, z0, z1])
          | ((with_reducible apply sd_store_far hq); exact rfl; exact zt rfl; (first | exact za rfl | exact zu rfl | exact zi rfl | exact zb rfl | exact zr rfl | exact zs rfl | exact zf rfl | exact zg rfl | exact zn rfl | exact zv rfl | exact zw rfl); exact rfl; (first | exact AggTy.size | exact OneTy.size); exact rfl; infer_instance; (first | (with_reducible exact LB_set (by omega)) | (simp only [n0, Nat.reduceAdd, n1, n2, n3, n4, n5, n6, n7, n8, n9]; try rfl)); (first | exact zl rfl | exact LB_le (by omega)); exact rfl; infer_instance; (repeat (first | exact List.Sublist.refl _ | exact List.nil_sublist _ | apply List.Sublist.cons_cons | apply List.Sublist.cons)); clear hp hq; (try clear w1); intro w1 hp hq)
          | ((with_reducible apply sd_store hq); exact rfl; exact zt rfl; (first | exact za rfl | exact zu rfl | exact zi rfl | exact zb rfl | exact zr rfl | exact zs rfl | exact zf rfl | exact zg rfl | exact zn rfl | exact zv rfl | exact zw rfl); exact rfl; (first | exact AggTy.size | exact OneTy.size); exact rfl; infer_instance; (first | (with_reducible exact LB_set (by omega)) | (simp only [n0, Nat.reduceAdd, n1, n2, n3, n4, n5, n6, n7, n8, n9]; try rfl)); (first | exact zl rfl | exact LB_le (by omega)); exact rfl; infer_instance; exact rfl; clear hp hq; (try clear w1); intro w1 hq; have hp := True.intro)))
      | ((with_reducible apply sd_nil); clear hp; have hp := hq; clear hq))
    go_wp2
    exact bodyPost_ret (results_two rfl ⟨_, rfl, run_load_agg hp (Nat.le_of_ble_eq_true rfl)⟩ rfl) rfl ⟨rfl, hp.keep⟩
theorem r3unit_any (a : P3) (ha : a.i64) (w : World) : Calls Try.prog 21 #[PV a] w (Ret (unitV a) w) := by
  unfold unitV
  by_cases h : a.x = 0 ∧ a.y = 0 ∧ a.z = 0
  · rw [if_pos h]
    exact r3unit_no a.x a.y a.z h w
  · rw [if_neg h]
    have hs := dot_pos h
    have hd := dot_bd ha ha
    have hf : Fit (a.dot a) := by unfold Fit M511; omega
    exact r3unit_yes a (by omega) _ _ _ _ (Lib.hid (exact_any a a ha ha)) (Lib.hid (r3ratio_any _ _ ha.1 hs hf)) (Lib.hid (r3ratio_any _ _ ha.2.1 hs hf)) (Lib.hid (r3ratio_any _ _ ha.2.2 hs hf)) w
end Go.Proofs.Ytnipjafcgicddaa
set_option linter.unusedSimpArgs false
set_option linter.unusedVariables false
set_option maxRecDepth 100000
namespace Go.Proofs.Ytnipjafcgicddaa
open Go Go.RowKit
attribute [local irreducible] wpList

theorem dif_fit {a b : Int} (ha : I64 a) (hb : I64 b) : Fit (a - b) ∧ Fit ((a - b) * (a - b)) ∧ 0 ≤ (a - b) * (a - b) ∧ (a - b) * (a - b) ≤ 340282366920938463463374607431768211456 := by
  have h1 : -((18446744073709551616 : Nat) : Int) ≤ a - b ∧ a - b ≤ ((18446744073709551616 : Nat) : Int) := by unfold I64 at *; omega
  have h2 := bd_mul h1 h1
  have h3 := sq_nn (a - b)
  unfold Fit M511
  unfold I64 at *
  omega
set_option maxHeartbeats 1000000 in
theorem r3square_any (a b : Int) (ha : I64 a) (hb : I64 b) (w : World) : Calls Try.prog 75 #[.int .i64 a, .int .i64 b] w (Ret (W ((a - b) * (a - b))) w) := by
  obtain ⟨f1, f2, _⟩ := dif_fit ha hb
  have X1 := Lib.hid (r3raw_any a ha)
  have X2 := Lib.hid (r3raw_any b hb)
  have L1 := Lib.hid (rless_fit a b (fit_i64 ha) (fit_i64 hb) f1)
  have T1 := Lib.hid (rtimes_fit (a - b) (a - b) f1 f1 f2)
  clear ha hb f1 f2
  generalize (a - b) * (a - b) = s at *
  generalize a - b = d at *
  go_enter Try.func75, Try.ntmps75
  have hp := Hp.start [] w
  go_wp2_with (first
          | ((with_reducible apply sx_alloc hp); infer_instance; exact rfl; clear hp; (try clear w1); intro g w1 hp; simp only [zp, zq, z0, z1])
          | ((with_reducible apply sx_load_agg hp); exact zt rfl; infer_instance; infer_instance; (first | exact zl rfl | exact LB_le (by omega)); (first | (with_reducible exact LB_set (by omega)) | (simp only [n0, Nat.reduceAdd, n1, n2, n3, n4, n5, n6, n7, n8, n9]; try rfl)); simp only [zp, zq, z0, z1])
          | ((with_reducible apply sx_store hp); exact zt rfl; exact za rfl; exact rfl; (first | exact AggTy.size | exact OneTy.size); exact rfl; infer_instance; (first | (with_reducible exact LB_set (by omega)) | (simp only [n0, Nat.reduceAdd, n1, n2, n3, n4, n5, n6, n7, n8, n9]; try rfl)); (first | exact zl rfl | exact LB_le (by omega)); exact rfl; infer_instance; clear hp; (try clear w1); intro w1 hp)
          | ((with_reducible first | refine sx_call hp (X1.out _) ?_ | refine sx_call hp (X2.out _) ?_ | refine sx_call hp (L1.out _) ?_ | refine sx_call hp (T1.out _) ?_); clear hp; (try clear w1); intro w1 hp))
  exact bodyPost_ret (results_one rfl ⟨_, rfl, run_load_agg hp (Nat.le_of_ble_eq_true rfl)⟩) rfl ⟨rfl, hp.keep⟩
/-- The square of the distance. -/
def P3.dist (a b : P3) : Int := (a.x - b.x) * (a.x - b.x) + (a.y - b.y) * (a.y - b.y) + (a.z - b.z) * (a.z - b.z)
def nearv (a b : P3) (r : Int) : Bool := decide (0 ≤ r) && decide (a.dist b ≤ r * r)
set_option maxHeartbeats 4000000 in
theorem r3near_core (a b : P3) (r p q t pq s c rr : Int)
    (S1 : Hid (∀ w, Calls Try.prog 75 #[.int .i64 a.x, .int .i64 b.x] w (Ret (W p) w)))
    (S2 : Hid (∀ w, Calls Try.prog 75 #[.int .i64 a.y, .int .i64 b.y] w (Ret (W q) w)))
    (S3 : Hid (∀ w, Calls Try.prog 75 #[.int .i64 a.z, .int .i64 b.z] w (Ret (W t) w)))
    (P1 : Hid (∀ w, Calls Try.prog 69 #[W p, W q] w (Ret (W pq) w)))
    (P2 : Hid (∀ w, Calls Try.prog 69 #[W pq, W t] w (Ret (W s) w)))
    (X1 : Hid (∀ w, Calls Try.prog 77 #[.int .i64 r] w (Ret (W r) w)))
    (T1 : Hid (∀ w, Calls Try.prog 68 #[W r, W r] w (Ret (W rr) w)))
    (C1 : Hid (∀ w, Calls Try.prog 76 #[W s, W rr] w (Ret (.int .i64 c) w))) (v : Bool) (HV : Hid (v = (decide (0 ≤ r) && decide (c ≤ 0)))) (w : World) :
    Calls Try.prog 34 #[PV a, PV b, .int .i64 r] w (Ret (.bool v) w) := by
  obtain ⟨ax, ay, az⟩ := a
  obtain ⟨bx, by', bz⟩ := b
  dsimp only at *
  go_enter Try.func34, Try.ntmps34
  have hp := Hp.start [] w
  go_upto_region 1 with (first
          | ((with_reducible apply sx_box hp); (first | exact za rfl | exact zu rfl | exact zi rfl | exact zb rfl | exact zr rfl | exact zs rfl | exact zf rfl | exact zg rfl | exact zn rfl | exact zv rfl | exact zw rfl); exact rfl; clear hp; (try clear w1); intro g w1 hp; simp only [zp, zq, z0, z1])
          | ((with_reducible apply sx_alloc hp); infer_instance; exact rfl; clear hp; (try clear w1); intro g w1 hp; simp only [zp, zq, z0, z1]))
  rename_i ga K hK
  obtain ⟨gb, rfl⟩ : ∃ k : Nat, k = g := ⟨_, rfl⟩
  go_cut [7] (fun s7 wx => ∃ gs, s7 = .pointer (some ⟨gs, 0, none⟩) ∧ Hp [] w [⟨gs, 36, [.int .u64 (lb (s) 0), .int .u64 (lb (s) 1), .int .u64 (lb (s) 2), .int .u64 (lb (s) 3), .int .u64 (lb (s) 4), .int .u64 (lb (s) 5), .int .u64 (lb (s) 6), .int .u64 (lb (s) 7)]⟩] wx)
  case first =>
    skip
    have hq := hp
    refine wp_drawnG_hp hp hq [18] (.q 0 (.q 1 (.q 2 (.q 3 (.q 5 (.q 6 (.q 7 (.q 8 (.q 11 (.q 12 (.q 13 (.q 14 (.p 4 (.p 9 (.p 10 (.p 15 (.p 16 (.l 17 (.l 18 .nil))))))))))))))))))) (by kernel_rfl) (by kernel_rfl) ?_
    clear hp hq; (try clear w1); intro w1 hp hq
    repeat' (first
      | (((with_reducible apply sg_q); exact zo rfl); (first
          | ((with_reducible apply sg_load_one hp); exact rfl; exact zt rfl; infer_instance; infer_instance; (first | exact zio rfl | exact LB_get (by omega)); simp only [zp, zq, z0, z1])
          | ((with_reducible apply sg_pure hp); exact rfl; (focus (intro _; go_simp; (try go_ints); try with_reducible rfl)); simp only [zp, zq, z0, z1])))
      | (((with_reducible apply sg_p); exact zo rfl); ((with_reducible apply sg_call hp); exact rfl; (focus (intro _; go_simp; try first | with_reducible rfl | exact ⟨rfl, rfl⟩)); (with_reducible first | exact fun w => S1.out w | exact fun w => S2.out w | exact fun w => S3.out w | exact fun w => P1.out w | exact fun w => P2.out w); simp only [zp, zq, z0, z1]))
      | (((with_reducible apply sg_l); exact zo rfl); (first
          | ((with_reducible apply sg_alloc hq); (repeat (first | exact List.Sublist.refl _ | apply List.Sublist.cons)); exact rfl; infer_instance; exact rfl; clear hp hq; (try clear w1); intro g w1 hp hq; simp only [zp, zq, z0, z1])
          | ((with_reducible apply sg_store_far hq); exact rfl; exact zt rfl; (first | exact za rfl | exact zu rfl | exact zi rfl | exact zb rfl | exact zr rfl | exact zs rfl | exact zf rfl | exact zg rfl | exact zn rfl | exact zv rfl | exact zw rfl); exact rfl; (first | exact AggTy.size | exact OneTy.size); exact rfl; infer_instance; (first | (with_reducible exact LB_set (by omega)) | (simp only [n0, Nat.reduceAdd, n1, n2, n3, n4, n5, n6, n7, n8, n9]; try rfl)); (first | exact zl rfl | exact LB_le (by omega)); exact rfl; infer_instance; (repeat (first | exact List.Sublist.refl _ | apply List.Sublist.cons)); clear hp hq; (try clear w1); intro w1 hp hq)
          | ((with_reducible apply sg_store hq); exact rfl; exact zt rfl; (first | exact za rfl | exact zu rfl | exact zi rfl | exact zb rfl | exact zr rfl | exact zs rfl | exact zf rfl | exact zg rfl | exact zn rfl | exact zv rfl | exact zw rfl); exact rfl; (first | exact AggTy.size | exact OneTy.size); exact rfl; infer_instance; (first | (with_reducible exact LB_set (by omega)) | (simp only [n0, Nat.reduceAdd, n1, n2, n3, n4, n5, n6, n7, n8, n9]; try rfl)); (first | exact zl rfl | exact LB_le (by omega)); exact rfl; infer_instance; exact rfl; clear hp hq; (try clear w1); intro w1 hq; have hp := True.intro)))
      | ((with_reducible apply sg_nil hq); clear hp hq; (try clear w1); intro w1 hp))
    go_wp2_with fail
    go_meet
    exact ⟨_, rfl, hp.sub (.cons_cons _ (List.nil_sublist _))⟩
  case rest =>
    clear hp S1 S2 S3 P1 P2
    obtain ⟨gs, rfl, hp⟩ := hcut
    go_upto_region 2 with fail
    by_cases h0 : 0 ≤ r
    · have hv : v = decide (c ≤ 0) := by rw [HV.out]; simp [h0]
      have HV' := Lib.hid hv
      clear hv HV
      have hq := hp
      refine wp_drawnG_hp hp hq [] (.q 0 (.q 1 (.q 2 (.q 3 (.q 4 (.q 6 (.p 5 (.p 7 (.p 8 (.p 9 (.q 10 (.q 11 (.q 12 .nil))))))))))))) (by kernel_rfl) (by kernel_rfl) ?_
      clear hp hq; (try clear w1); intro w1 hp hq
      repeat' (first
        | (((with_reducible apply sg_q); exact zo rfl); (first
            | ((with_reducible apply sg_load_agg hp); exact rfl; exact zt rfl; infer_instance; infer_instance; (first | exact zl rfl | exact LB_le (by omega)); (first | (with_reducible exact LB_set (by omega)) | (simp only [n0, Nat.reduceAdd, n1, n2, n3, n4, n5, n6, n7, n8, n9]; try rfl)); simp only [zp, zq, z0, z1])
            | ((with_reducible apply sg_move hp); (first | exact zb rfl | exact zi rfl); simp only [zp, zq, z0, z1])
            | ((with_reducible apply sg_assign hp); exact zb rfl; simp only [zp, zq, z0, z1])
            | ((with_reducible apply sg_pure hp); exact rfl; (focus (intro _; go_simp; (try go_ints); try with_reducible rfl)); simp only [zp, zq, z0, z1])
            | ((with_reducible apply sg_skip hp); exact rfl; simp only [zp, zq, z0, z1])))
        | (((with_reducible apply sg_p); exact zo rfl); (first
            | ((with_reducible apply sg_call hp); exact rfl; (focus (intro _; go_simp; try first | with_reducible rfl | exact ⟨rfl, rfl⟩)); (with_reducible first | exact fun w => X1.out w | exact fun w => T1.out w | exact fun w => C1.out w); simp only [zp, zq, z0, z1])
            | ((with_reducible apply sg_skipP hp); exact rfl; simp only [zp, zq, z0, z1])))
        | ((with_reducible apply sg_nil hq); clear hp hq; (try clear w1); intro w1 hp))
      go_wp2
      exact bodyPost_ret (results_one rfl rfl) rfl ⟨by rw [HV'.out]; rfl, hp.keep⟩
    · have hv : v = false := by rw [HV.out]; simp [h0]
      subst hv
      clear HV
      have h1 : ¬ (0 ≤ r) := h0
      have hq := hp
      refine wp_drawnG_hp hp hq [] (.q 0 (.q 1 (.q 2 (.q 3 (.q 4 (.q 6 (.p 5 (.p 7 (.p 8 (.p 9 (.q 10 (.q 11 (.q 12 .nil))))))))))))) (by kernel_rfl) (by kernel_rfl) ?_
      clear hp hq; (try clear w1); intro w1 hp hq
      repeat' (first
        | (((with_reducible apply sg_q); exact zo rfl); (first
            | ((with_reducible apply sg_load_agg hp); exact rfl; exact zt rfl; infer_instance; infer_instance; (first | exact zl rfl | exact LB_le (by omega)); (first | (with_reducible exact LB_set (by omega)) | (simp only [n0, Nat.reduceAdd, n1, n2, n3, n4, n5, n6, n7, n8, n9]; try rfl)); simp only [zp, zq, z0, z1])
            | ((with_reducible apply sg_move hp); (first | exact zb rfl | exact zi rfl); simp only [zp, zq, z0, z1])
            | ((with_reducible apply sg_assign hp); exact zb rfl; simp only [zp, zq, z0, z1])
            | ((with_reducible apply sg_pure hp); exact rfl; (focus (intro _; go_simp; (try go_ints); try with_reducible rfl)); simp only [zp, zq, z0, z1])
            | ((with_reducible apply sg_skip hp); exact rfl; simp only [zp, zq, z0, z1])))
        | (((with_reducible apply sg_p); exact zo rfl); (first
            | ((with_reducible apply sg_call hp); exact rfl; (focus (intro _; go_simp; try first | with_reducible rfl | exact ⟨rfl, rfl⟩)); (with_reducible first | exact fun w => X1.out w | exact fun w => T1.out w | exact fun w => C1.out w); simp only [zp, zq, z0, z1])
            | ((with_reducible apply sg_skipP hp); exact rfl; simp only [zp, zq, z0, z1])))
        | ((with_reducible apply sg_nil hq); clear hp hq; (try clear w1); intro w1 hp))
      go_wp2
      exact bodyPost_ret (results_one rfl rfl) rfl ⟨rfl, hp.keep⟩
theorem dist_fit {a b : P3} (ha : a.i64) (hb : b.i64) : 0 ≤ a.dist b ∧ a.dist b ≤ 1020847100762815390390123822295304634368 := by
  have h1 := dif_fit ha.1 hb.1
  have h2 := dif_fit ha.2.1 hb.2.1
  have h3 := dif_fit ha.2.2 hb.2.2
  unfold P3.dist
  omega
theorem sgn_le {n : Int} : sgn n ≤ 0 ↔ n ≤ 0 := by unfold sgn; split <;> (try split) <;> omega
theorem r3near_any (a b : P3) (r : Int) (ha : a.i64) (hb : b.i64) (hr : I64 r) (w : World) : Calls Try.prog 34 #[PV a, PV b, .int .i64 r] w (Ret (.bool (nearv a b r)) w) := by
  have h1 := dif_fit ha.1 hb.1
  have h2 := dif_fit ha.2.1 hb.2.1
  have h3 := dif_fit ha.2.2 hb.2.2
  have hs := sq_i64 hr
  have hfs : Fit (a.dist b) := by have := dist_fit ha hb; unfold Fit M511; omega
  have hfr : Fit (r * r) := by unfold Fit M511; omega
  refine r3near_core a b r _ _ _ ((a.x - b.x) * (a.x - b.x) + (a.y - b.y) * (a.y - b.y)) (a.dist b) (sgn (a.dist b - r * r)) (r * r) (Lib.hid (r3square_any _ _ ha.1 hb.1)) (Lib.hid (r3square_any _ _ ha.2.1 hb.2.1)) (Lib.hid (r3square_any _ _ ha.2.2 hb.2.2))
    (Lib.hid (rplus_fit _ _ h1.2.1 h2.2.1 (by unfold Fit M511; omega))) (Lib.hid (rplus_fit _ _ (by unfold Fit M511; omega) h3.2.1 hfs)) (Lib.hid (r3raw_any r hr)) (Lib.hid (rtimes_i64 r r hr hr)) (Lib.hid (rcmp1_any _ _ hfs hfr)) _ (Lib.hid ?_) w
  unfold nearv
  congr 1
  rw [decide_eq_decide, sgn_le]
  omega
/-- A place, further. -/
def furv (x v t : Int) : Int := cl ((x * 4294967296 + v * t) / 4294967296)
set_option maxHeartbeats 1000000 in
theorem r3further_any (x v t : Int) (hx : I64 x) (hv : I64 v) (ht : I64 t) (w : World) : Calls Try.prog 79 #[.int .i64 x, .int .i64 v, .int .i64 t] w (Ret (.int .i64 (furv x v t)) w) := by
  have h1 := i64_mul hv ht
  have hx1 : -39614081257132168796771975168 ≤ x * 4294967296 ∧ x * 4294967296 ≤ 39614081257132168796771975168 := by unfold I64 at hx; omega
  have X1 := Lib.hid (r3raw_any x hx)
  have X2 := Lib.hid (r3raw_any v hv)
  have X3 := Lib.hid (r3raw_any t ht)
  have hp2 : (2 : Int) ^ 32 = 4294967296 := rfl
  have htw := r3twice_any x 32 (by omega) (fit_i64 hx) (by rw [hp2]; unfold Fit M511; omega)
  rw [hp2] at htw
  have TW := Lib.hid htw
  have T1 := Lib.hid (rtimes_i64 v t hv ht)
  have P1 := Lib.hid (rplus_fit (x * 4294967296) (v * t) (by unfold Fit M511; omega) (by unfold Fit M511; omega) (by unfold Fit M511; omega))
  have I1 := Lib.hid fun w => r2in_any (x * 4294967296 + v * t) 64 (by unfold Fit M511; omega) i64_64 w
  rw [inv_64] at I1
  unfold furv
  clear hx hv ht h1 hx1 htw hp2
  generalize cl ((x * 4294967296 + v * t) / 4294967296) = r at *
  generalize x * 4294967296 + v * t = s at *
  generalize x * 4294967296 = p at *
  generalize v * t = q at *
  go_enter Try.func79, Try.ntmps79
  have hp := Hp.start [] w
  go_wp2_with (first
          | ((with_reducible first | refine sx_call hp (X1.out _) ?_ | refine sx_call hp (X2.out _) ?_ | refine sx_call hp (X3.out _) ?_ | refine sx_call hp (TW.out _) ?_ | refine sx_call hp (T1.out _) ?_ | refine sx_call hp (P1.out _) ?_ | refine sx_call hp (I1.out _) ?_); clear hp; (try clear w1); intro w1 hp))
  exact bodyPost_ret (results_one rfl rfl) rfl ⟨rfl, hp.keep⟩
def P3.cmove (a v : P3) (t : Int) : P3 := ⟨furv a.x v.x t, furv a.y v.y t, furv a.z v.z t⟩
set_option maxHeartbeats 2000000 in
theorem r3move_any (a b : P3) (t : Int) (ha : a.i64) (hb : b.i64) (ht : I64 t) (w : World) : Calls Try.prog 36 #[PV a, PV b, .int .i64 t] w (Ret (PV (a.cmove b t)) w) := by
  have X1 := Lib.hid (r3further_any a.x b.x t ha.1 hb.1 ht)
  have X2 := Lib.hid (r3further_any a.y b.y t ha.2.1 hb.2.1 ht)
  have X3 := Lib.hid (r3further_any a.z b.z t ha.2.2 hb.2.2 ht)
  clear ha hb ht
  unfold P3.cmove
  generalize furv a.x b.x t = p at *
  generalize furv a.y b.y t = q at *
  generalize furv a.z b.z t = r at *
  go_enter Try.func36, Try.ntmps36
  have hp := Hp.start [] w
  go_upto_region 1 with (first
          | ((with_reducible apply sx_box hp); (first | exact za rfl | exact zu rfl | exact zi rfl | exact zb rfl | exact zr rfl | exact zs rfl | exact zf rfl | exact zg rfl | exact zn rfl | exact zv rfl | exact zw rfl); exact rfl; clear hp; (try clear w1); intro g w1 hp; simp only [zp, zq, z0, z1])
          | ((with_reducible apply sx_alloc hp); infer_instance; exact rfl; clear hp; (try clear w1); intro g w1 hp; simp only [zp, zq, z0, z1]))
  have hq := hp
  refine wp_drawn_hp hp hq [19] (.q 0 (.q 1 (.q 2 (.q 3 (.q 4 (.q 6 (.q 7 (.q 8 (.q 9 (.q 10 (.q 12 (.q 13 (.q 14 (.q 15 (.q 16 (.l 5 (.l 11 (.l 17 (.q 18 (.l 19 .nil)))))))))))))))))))) (by kernel_rfl) (by kernel_rfl) ?_
  clear hp hq; (try clear w1); intro w1 hp hq
  repeat' (first
    | (((with_reducible apply sd_q); exact zo rfl); (first
        | ((with_reducible apply sd_load_one hp); exact rfl; exact zt rfl; infer_instance; infer_instance; (first | exact zio rfl | exact LB_get (by omega)); simp only [zp, zq, z0, z1])
        | ((with_reducible apply sd_move hp); exact zi rfl; simp only [zp, zq, z0, z1])
        | ((with_reducible apply sd_pure hp); exact rfl; (focus (intro _; go_simp; (try go_ints); try with_reducible rfl)); simp only [zp, zq, z0, z1])))
    | (((with_reducible apply sd_l); exact zo rfl); (first
        | ((with_reducible apply sd_call hp); exact rfl; (focus (intro _; go_simp; try first | with_reducible rfl | exact ⟨rfl, rfl⟩)); (with_reducible first | exact fun w => X1.out w | exact fun w => X2.out w | exact fun w => X3.out w); exact hq; clear hp hq; (try clear w1); intro w1 hp hq; simp only [zp, zq, z0, z1])
        | ((with_reducible apply sd_store_far hq); exact rfl; exact zt rfl; (first | exact za rfl | exact zu rfl | exact zi rfl | exact zb rfl | exact zr rfl | exact zs rfl | exact zf rfl | exact zg rfl | exact zn rfl | exact zv rfl | exact zw rfl); exact rfl; (first | exact AggTy.size | exact OneTy.size); exact rfl; infer_instance; (first | (with_reducible exact LB_set (by omega)) | (simp only [n0, Nat.reduceAdd, n1, n2, n3, n4, n5, n6, n7, n8, n9]; try rfl)); (first | exact zl rfl | exact LB_le (by omega)); exact rfl; infer_instance; (repeat (first | exact List.Sublist.refl _ | apply List.Sublist.cons)); clear hp hq; (try clear w1); intro w1 hp hq)
        | ((with_reducible apply sd_store hq); exact rfl; exact zt rfl; (first | exact za rfl | exact zu rfl | exact zi rfl | exact zb rfl | exact zr rfl | exact zs rfl | exact zf rfl | exact zg rfl | exact zn rfl | exact zv rfl | exact zw rfl); exact rfl; (first | exact AggTy.size | exact OneTy.size); exact rfl; infer_instance; (first | (with_reducible exact LB_set (by omega)) | (simp only [n0, Nat.reduceAdd, n1, n2, n3, n4, n5, n6, n7, n8, n9]; try rfl)); (first | exact zl rfl | exact LB_le (by omega)); exact rfl; infer_instance; exact rfl; clear hp hq; (try clear w1); intro w1 hq; have hp := True.intro)))
    | ((with_reducible apply sd_nil); clear hp; have hp := hq; clear hq))
  go_wp2
  exact bodyPost_ret (results_one rfl ⟨_, rfl, run_load_agg hp (Nat.le_of_ble_eq_true rfl)⟩) rfl ⟨rfl, hp.keep⟩
end Go.Proofs.Ytnipjafcgicddaa
