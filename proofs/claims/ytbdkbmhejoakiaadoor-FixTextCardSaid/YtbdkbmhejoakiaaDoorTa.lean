/-
  Package fix: Div, Clamp, MulUp, DivUp, Sqrt, SqrtUp, Floor, Of (contracts).
-/
import Derived.Test.YtbdkbmhejoakiaaDoorVb
import Derived.Test.YtbdkbmhejoakiaaDoorSa
import Derived.Test.YtbdkbmhejoakiaaDoorPd
import Derived.Test.YtbdkbmhejoakiaaDoorSg
set_option linter.unusedSimpArgs false
set_option linter.unusedVariables false
set_option maxRecDepth 100000
namespace Go.Proofs.YtbdkbmhejoakiaaDoor
open Go Go.RowKit
attribute [local irreducible] wpList

theorem run_minR {P : Program} (ts : Array TypeId) (t : TypeId) (a b m : Int) (h : m = if b < a then b else a) : ∀ w, (Builtin.min_ ts t #[.int .i64 a, .int .i64 b]).run P w = .ok (.int .i64 m) w := by
  intro w
  subst h
  simp [Builtin.min_, Builtin.min2]
/-- What a quotient of two numbers comes to. -/
def dq (a b : Int) : Int := if b = 0 then (if 0 < a then 9223372036854775807 else if a < 0 then -9223372036854775808 else 0) else cl (dvq (a * 4294967296) b)
theorem dq_i64 (a b : Int) : I64 (dq a b) := by
  unfold dq
  split
  · unfold I64
    split
    · omega
    · split <;> omega
  · exact cl_i64 _
set_option maxHeartbeats 2000000 in
theorem fover_down (a b : Int) (ha : I64 a) (hb : I64 b) (w : World) : Calls Tryd.prog 40 #[.int .i64 a, .int .i64 b] w (Ret (.int .i64 (dq a b)) w) := by
  unfold dq
  by_cases hb0 : b = 0
  · rw [if_pos hb0]
    subst hb0
    by_cases h1 : 0 < a
    · rw [if_pos h1]
      clear ha hb
      go_enter Tryd.func40, Tryd.ntmps40
      have hp := Hp.start [] w
      go_wp2_with (first
          | ((with_reducible apply sx_alloc hp); infer_instance; exact rfl; clear hp; (try clear w1); intro g w1 hp; simp only [zp, zq, z0, z1])
          | ((with_reducible apply sx_load_agg hp); exact zt rfl; infer_instance; infer_instance; (first | exact zl rfl | exact LB_le (by omega)); (first | (with_reducible exact LB_set (by omega)) | (simp only [n0, Nat.reduceAdd, n1, n2, n3, n4, n5, n6, n7, n8, n9]; try rfl)); simp only [zp, zq, z0, z1])
          | ((with_reducible apply sx_store hp); exact zt rfl; exact za rfl; exact rfl; (first | exact AggTy.size | exact OneTy.size); exact rfl; infer_instance; (first | (with_reducible exact LB_set (by omega)) | (simp only [n0, Nat.reduceAdd, n1, n2, n3, n4, n5, n6, n7, n8, n9]; try rfl)); (first | exact zl rfl | exact LB_le (by omega)); exact rfl; infer_instance; clear hp; (try clear w1); intro w1 hp))
      exact bodyPost_ret (results_one rfl rfl) rfl ⟨rfl, hp.keep⟩
    · by_cases h2 : a < 0
      · rw [if_neg h1, if_pos h2]
        clear ha hb
        go_enter Tryd.func40, Tryd.ntmps40
        have hp := Hp.start [] w
        go_wp2_with (first
          | ((with_reducible apply sx_alloc hp); infer_instance; exact rfl; clear hp; (try clear w1); intro g w1 hp; simp only [zp, zq, z0, z1])
          | ((with_reducible apply sx_load_agg hp); exact zt rfl; infer_instance; infer_instance; (first | exact zl rfl | exact LB_le (by omega)); (first | (with_reducible exact LB_set (by omega)) | (simp only [n0, Nat.reduceAdd, n1, n2, n3, n4, n5, n6, n7, n8, n9]; try rfl)); simp only [zp, zq, z0, z1])
          | ((with_reducible apply sx_store hp); exact zt rfl; exact za rfl; exact rfl; (first | exact AggTy.size | exact OneTy.size); exact rfl; infer_instance; (first | (with_reducible exact LB_set (by omega)) | (simp only [n0, Nat.reduceAdd, n1, n2, n3, n4, n5, n6, n7, n8, n9]; try rfl)); (first | exact zl rfl | exact LB_le (by omega)); exact rfl; infer_instance; clear hp; (try clear w1); intro w1 hp))
        exact bodyPost_ret (results_one rfl rfl) rfl ⟨rfl, hp.keep⟩
      · rw [if_neg h1, if_neg h2]
        clear ha hb
        go_enter Tryd.func40, Tryd.ntmps40
        have hp := Hp.start [] w
        go_wp2_with (first
          | ((with_reducible apply sx_alloc hp); infer_instance; exact rfl; clear hp; (try clear w1); intro g w1 hp; simp only [zp, zq, z0, z1])
          | ((with_reducible apply sx_load_agg hp); exact zt rfl; infer_instance; infer_instance; (first | exact zl rfl | exact LB_le (by omega)); (first | (with_reducible exact LB_set (by omega)) | (simp only [n0, Nat.reduceAdd, n1, n2, n3, n4, n5, n6, n7, n8, n9]; try rfl)); simp only [zp, zq, z0, z1])
          | ((with_reducible apply sx_store hp); exact zt rfl; exact za rfl; exact rfl; (first | exact AggTy.size | exact OneTy.size); exact rfl; infer_instance; (first | (with_reducible exact LB_set (by omega)) | (simp only [n0, Nat.reduceAdd, n1, n2, n3, n4, n5, n6, n7, n8, n9]; try rfl)); (first | exact zl rfl | exact LB_le (by omega)); exact rfl; infer_instance; clear hp; (try clear w1); intro w1 hp))
        exact bodyPost_ret (results_one rfl rfl) rfl ⟨rfl, hp.keep⟩
  · rw [if_neg hb0]
    have A1 := Lib.hid (fraw_any a ha)
    have A2 := Lib.hid (fraw_any b hb)
    have hx1 : -39614081257132168796771975168 ≤ a * 4294967296 ∧ a * 4294967296 ≤ 39614081257132168796771975168 := by unfold I64 at ha; omega
    have hp2 : (2 : Int) ^ (32 : Int).toNat = 4294967296 := rfl
    have hok : shok a 32 := ⟨by omega, .inr ⟨by omega, by rw [hp2]; unfold Fit M511; omega⟩⟩
    have hsh := shl_any a 32 (fit_i64 ha)
    rw [show shlv a 32 = a * 4294967296 by unfold shlv; rw [if_pos hok, hp2], decide_eq_true hok] at hsh
    have SH := Lib.hid hsh
    have hq := fquot_down (a * 4294967296) b (by unfold Fit M511; omega) (fit_i64 hb)
    have A4 := Lib.hid hq
    have A5 := Lib.hid fun w => within_any _ (dvq_fit (a * 4294967296) b) w
    have hb1 : (b == 0) = false := by simpa using hb0
    clear ha hb hx1 hp2 hok hsh hq
    generalize a * 4294967296 = n at *
    generalize dvq n b = q at *
    generalize cl q = r at *
    go_enter Tryd.func40, Tryd.ntmps40
    have hp := Hp.start [] w
    go_upto_region 8 with (first
          | ((with_reducible apply sx_alloc hp); infer_instance; exact rfl; clear hp; (try clear w1); intro g w1 hp; simp only [zp, zq, z0, z1])
          | ((with_reducible apply sx_load_agg hp); exact zt rfl; infer_instance; infer_instance; (first | exact zl rfl | exact LB_le (by omega)); (first | (with_reducible exact LB_set (by omega)) | (simp only [n0, Nat.reduceAdd, n1, n2, n3, n4, n5, n6, n7, n8, n9]; try rfl)); simp only [zp, zq, z0, z1])
          | ((with_reducible apply sx_store hp); exact zt rfl; exact za rfl; exact rfl; (first | exact AggTy.size | exact OneTy.size); exact rfl; infer_instance; (first | (with_reducible exact LB_set (by omega)) | (simp only [n0, Nat.reduceAdd, n1, n2, n3, n4, n5, n6, n7, n8, n9]; try rfl)); (first | exact zl rfl | exact LB_le (by omega)); exact rfl; infer_instance; clear hp; (try clear w1); intro w1 hp)
          | ((with_reducible first | refine sx_call hp (A1.out _) ?_ | refine sx_call hp (SH.out _) ?_); clear hp; (try clear w1); intro w1 hp))
    have hq := hp
    refine wp_drawnG_hp hp hq [] (.q 0 (.q 1 (.p 2 (.p 3 (.p 4 (.q 5 .nil)))))) (by kernel_rfl) (by kernel_rfl) ?_
    clear hp hq; (try clear w1); intro w1 hp hq
    repeat' (first
      | (((with_reducible apply sg_q); exact zo rfl); (first
          | ((with_reducible apply sg_load_agg hp); exact rfl; exact zt rfl; infer_instance; infer_instance; (first | exact zl rfl | exact LB_le (by omega)); (first | (with_reducible exact LB_set (by omega)) | (simp only [n0, Nat.reduceAdd, n1, n2, n3, n4, n5, n6, n7, n8, n9]; try rfl)); simp only [zp, zq, z0, z1])
          | ((with_reducible apply sg_move hp); exact zi rfl; simp only [zp, zq, z0, z1])
          | ((with_reducible apply sg_assign hp); exact zi rfl; simp only [zp, zq, z0, z1])
          | ((with_reducible apply sg_pure hp); exact rfl; (focus (intro _; go_simp; (try go_ints); try with_reducible rfl)); simp only [zp, zq, z0, z1])))
      | (((with_reducible apply sg_p); exact zo rfl); ((with_reducible apply sg_call hp); exact rfl; (focus (intro _; go_simp; try first | with_reducible rfl | exact ⟨rfl, rfl⟩)); (with_reducible first | exact fun w => A2.out w | exact fun w => A4.out w | exact fun w => A5.out w); simp only [zp, zq, z0, z1]))
      | ((with_reducible apply sg_nil hq); clear hp hq; (try clear w1); intro w1 hp))
    go_wp2
    exact bodyPost_ret (results_one rfl rfl) rfl ⟨rfl, hp.keep⟩
theorem fdiv_any (a b : Int) (ha : I64 a) (hb : I64 b) (w : World) : Calls Tryd.prog 19 #[.int .i64 a, .int .i64 b] w (Ret (.int .i64 (dq a b)) w) := by
  have A1 := Lib.hid (fover_down a b ha hb)
  clear ha hb
  generalize dq a b = r at *
  go_enter Tryd.func19, Tryd.ntmps19
  have hp := Hp.start [] w
  go_wp2_with (first
          | ((with_reducible refine sx_call hp (A1.out _) ?_); clear hp; (try clear w1); intro w1 hp))
  exact bodyPost_ret (results_one rfl rfl) rfl ⟨rfl, hp.keep⟩
/-- A clamped number. -/
def clampv (a l h : Int) : Int := if a < l then l else if h < a then h else a
set_option maxHeartbeats 1000000 in
theorem fclamp_any (a l h : Int) (w : World) : Calls Tryd.prog 22 #[.int .i64 a, .int .i64 l, .int .i64 h] w (Ret (.int .i64 (clampv a l h)) w) := by
  unfold clampv
  have hmn := run_minR (P := Tryd.prog) #[22, 22] 22 a h _ rfl
  generalize (if h < a then h else a) = m at *
  by_cases h1 : a < l
  · rw [if_pos h1]
    clear hmn
    go_enter Tryd.func22, Tryd.ntmps22
    have hp := Hp.start [] w
    go_wp2_with (first
          | fail)
    exact bodyPost_ret (results_one rfl rfl) rfl ⟨rfl, hp.keep⟩
  · rw [if_neg h1]
    go_enter Tryd.func22, Tryd.ntmps22
    have hp := Hp.start [] w
    go_wp2_with (first
          | fail)
    exact bodyPost_ret (results_one rfl rfl) rfl ⟨rfl, hp.keep⟩
/-! ### Rounded up -/
theorem as_up (x : TypeId) (w : World) : (Instr.typeAssert (.iface 64 (.agg #[])) x 64 true).run Tryd.prog w = .ok (.tuple #[.agg #[], .bool true]) w := by
  have hz : ∀ w, (zeroValue 64).run Tryd.prog w = .ok (.agg #[]) w := fun w => by
    have : ZeroTy Tryd.prog 64 (.agg #[]) := ZeroTy.mk' (by kernel_rfl)
    exact this.zero w
  simp [Instr.typeAssert, run_underlying Tryd.underlying64, hz, Result.andThen]
set_option maxHeartbeats 1000000 in
theorem upup_any (w : World) : Calls Tryd.prog 70 #[] w (Ret (.bool true) w) := by
  have hta := as_up
  go_enter Tryd.func70, Tryd.ntmps70
  have hp := Hp.start [] w
  go_wp2_with (first
          | ((with_reducible apply sx_alloc hp); infer_instance; exact rfl; clear hp; (try clear w1); intro g w1 hp; simp only [zp, zq, z0, z1])
          | ((with_reducible apply sx_load_agg hp); exact zt rfl; infer_instance; infer_instance; (first | exact zl rfl | exact LB_le (by omega)); (first | (with_reducible exact LB_set (by omega)) | (simp only [n0, Nat.reduceAdd, n1, n2, n3, n4, n5, n6, n7, n8, n9]; try rfl)); simp only [zp, zq, z0, z1])
          | ((with_reducible apply sx_store hp); exact zt rfl; exact za rfl; exact rfl; (first | exact AggTy.size | exact OneTy.size); exact rfl; infer_instance; (first | (with_reducible exact LB_set (by omega)) | (simp only [n0, Nat.reduceAdd, n1, n2, n3, n4, n5, n6, n7, n8, n9]; try rfl)); (first | exact zl rfl | exact LB_le (by omega)); exact rfl; infer_instance; clear hp; (try clear w1); intro w1 hp))
  exact bodyPost_ret (results_one rfl rfl) rfl ⟨rfl, (((Hp.start [] w).alloc 64 []).alloc 64 []).keep⟩
set_option maxHeartbeats 2000000 in
theorem fquot_up0 (a b q r : Int) (o : Bool) (HD : Hid (∀ w, Calls Tryd.prog 85 #[W a, W b] w (Ret (.tuple #[W q, W r, .bool o]) w)))
    (SG : Hid (∀ w, Calls Tryd.prog 62 #[W r] w (Ret (.int .i64 0) w))) (w : World) : Calls Tryd.prog 64 #[W a, W b] w (Ret (W q) w) := by
  go_enter Tryd.func64, Tryd.ntmps64
  have hp := Hp.start [] w
  go_wp2_with (first
          | ((with_reducible apply sx_guard); (conv => whnf); refine Bx.mk ?_; (try simp only [zp, zq, z0, z1]))
          | ((with_reducible apply sx_box hp); exact za rfl; exact rfl; clear hp; (try clear w1); intro g w1 hp; simp only [zp, zq, z0, z1])
          | ((with_reducible apply sx_alloc hp); infer_instance; exact rfl; clear hp; (try clear w1); intro g w1 hp; simp only [zp, zq, z0, z1])
          | ((with_reducible apply sx_load_agg hp); exact zt rfl; infer_instance; infer_instance; (first | exact zl rfl | exact LB_le (by omega)); (first | (with_reducible exact LB_set (by omega)) | (simp only [n0, Nat.reduceAdd, n1, n2, n3, n4, n5, n6, n7, n8, n9]; try rfl)); simp only [zp, zq, z0, z1])
          | ((with_reducible apply sx_store hp); exact zt rfl; exact za rfl; exact rfl; (first | exact AggTy.size | exact OneTy.size); exact rfl; infer_instance; (first | (with_reducible exact LB_set (by omega)) | (simp only [n0, Nat.reduceAdd, n1, n2, n3, n4, n5, n6, n7, n8, n9]; try rfl)); (first | exact zl rfl | exact LB_le (by omega)); exact rfl; infer_instance; clear hp; (try clear w1); intro w1 hp)
          | ((with_reducible first | refine sx_call hp (HD.out _) ?_ | refine sx_call hp (upup_any _) ?_ | refine sx_call hp (SG.out _) ?_); clear hp; (try clear w1); intro w1 hp))
  exact bodyPost_ret (results_one rfl ⟨_, rfl, run_load_agg hp (Nat.le_of_ble_eq_true rfl)⟩) rfl ⟨rfl, hp.keep⟩
set_option maxHeartbeats 2000000 in
theorem fquot_up1 (a b q r q1 k : Int) (o : Bool) (hk : (k == 0) = false) (HD : Hid (∀ w, Calls Tryd.prog 85 #[W a, W b] w (Ret (.tuple #[W q, W r, .bool o]) w)))
    (SG : Hid (∀ w, Calls Tryd.prog 62 #[W r] w (Ret (.int .i64 k) w))) (O1 : Hid (∀ w, Calls Tryd.prog 24 #[.int .i64 1] w (Ret (W 1) w)))
    (SM : Hid (∀ w, Calls Tryd.prog 43 #[W q, W 1] w (Ret (W q1) w))) (w : World) : Calls Tryd.prog 64 #[W a, W b] w (Ret (W q1) w) := by
  go_enter Tryd.func64, Tryd.ntmps64
  have hp := Hp.start [] w
  go_upto_region 3 with (first
          | ((with_reducible apply sx_guard); (conv => whnf); refine Bx.mk ?_; (try simp only [zp, zq, z0, z1]))
          | ((with_reducible apply sx_box hp); exact za rfl; exact rfl; clear hp; (try clear w1); intro g w1 hp; simp only [zp, zq, z0, z1])
          | ((with_reducible apply sx_alloc hp); infer_instance; exact rfl; clear hp; (try clear w1); intro g w1 hp; simp only [zp, zq, z0, z1])
          | ((with_reducible apply sx_load_agg hp); exact zt rfl; infer_instance; infer_instance; (first | exact zl rfl | exact LB_le (by omega)); (first | (with_reducible exact LB_set (by omega)) | (simp only [n0, Nat.reduceAdd, n1, n2, n3, n4, n5, n6, n7, n8, n9]; try rfl)); simp only [zp, zq, z0, z1])
          | ((with_reducible apply sx_store hp); exact zt rfl; exact za rfl; exact rfl; (first | exact AggTy.size | exact OneTy.size); exact rfl; infer_instance; (first | (with_reducible exact LB_set (by omega)) | (simp only [n0, Nat.reduceAdd, n1, n2, n3, n4, n5, n6, n7, n8, n9]; try rfl)); (first | exact zl rfl | exact LB_le (by omega)); exact rfl; infer_instance; clear hp; (try clear w1); intro w1 hp)
          | ((with_reducible first | refine sx_call hp (HD.out _) ?_ | refine sx_call hp (upup_any _) ?_ | refine sx_call hp (SG.out _) ?_); clear hp; (try clear w1); intro w1 hp))
  have hq := hp
  refine wp_drawn_hp hp hq [3] (.q 0 (.l 1 (.l 2 (.l 3 .nil)))) (by kernel_rfl) (by kernel_rfl) ?_
  clear hp hq; (try clear w1); intro w1 hp hq
  repeat' (first
    | (((with_reducible apply sd_q); exact zo rfl); (first
        | ((with_reducible apply sd_load_agg hp); exact rfl; exact zt rfl; infer_instance; infer_instance; (first | exact zl rfl | exact LB_le (by omega)); (first | (with_reducible exact LB_set (by omega)) | (simp only [n0, Nat.reduceAdd, n1, n2, n3, n4, n5, n6, n7, n8, n9]; try rfl)); simp only [zp, zq, z0, z1])
        | ((with_reducible apply sd_pure hp); exact rfl; (focus (intro _; go_simp; (try go_ints); try with_reducible rfl)); simp only [zp, zq, z0, z1])))
    | (((with_reducible apply sd_l); exact zo rfl); (first
        | ((with_reducible apply sd_call hp); exact rfl; (focus (intro _; go_simp; try first | with_reducible rfl | exact ⟨rfl, rfl⟩)); (with_reducible first | exact fun w => O1.out w | exact fun w => SM.out w); exact hq; clear hp hq; (try clear w1); intro w1 hp hq; simp only [zp, zq, z0, z1])
        | ((with_reducible apply sd_store_far hq); exact rfl; exact zt rfl; (first | exact za rfl | exact zu rfl | exact zi rfl | exact zb rfl | exact zr rfl | exact zs rfl | exact zf rfl | exact zg rfl | exact zn rfl | exact zv rfl | exact zw rfl); exact rfl; (first | exact AggTy.size | exact OneTy.size); exact rfl; infer_instance; (first | (with_reducible exact LB_set (by omega)) | (simp only [n0, Nat.reduceAdd, n1, n2, n3, n4, n5, n6, n7, n8, n9]; try rfl)); (first | exact zl rfl | exact LB_le (by omega)); exact rfl; infer_instance; (repeat (first | exact List.Sublist.refl _ | apply List.Sublist.cons)); clear hp hq; (try clear w1); intro w1 hp hq)
        | ((with_reducible apply sd_store hq); exact rfl; exact zt rfl; (first | exact za rfl | exact zu rfl | exact zi rfl | exact zb rfl | exact zr rfl | exact zs rfl | exact zf rfl | exact zg rfl | exact zn rfl | exact zv rfl | exact zw rfl); exact rfl; (first | exact AggTy.size | exact OneTy.size); exact rfl; infer_instance; (first | (with_reducible exact LB_set (by omega)) | (simp only [n0, Nat.reduceAdd, n1, n2, n3, n4, n5, n6, n7, n8, n9]; try rfl)); (first | exact zl rfl | exact LB_le (by omega)); exact rfl; infer_instance; exact rfl; clear hp hq; (try clear w1); intro w1 hq; have hp := True.intro)))
    | ((with_reducible apply sd_nil); clear hp; have hp := hq; clear hq))
  go_wp2_with (first
          | ((with_reducible apply sx_box hp); exact za rfl; exact rfl; clear hp; (try clear w1); intro g w1 hp; simp only [zp, zq, z0, z1])
          | ((with_reducible apply sx_alloc hp); infer_instance; exact rfl; clear hp; (try clear w1); intro g w1 hp; simp only [zp, zq, z0, z1])
          | ((with_reducible apply sx_load_agg hp); exact zt rfl; infer_instance; infer_instance; (first | exact zl rfl | exact LB_le (by omega)); (first | (with_reducible exact LB_set (by omega)) | (simp only [n0, Nat.reduceAdd, n1, n2, n3, n4, n5, n6, n7, n8, n9]; try rfl)); simp only [zp, zq, z0, z1])
          | ((with_reducible apply sx_store hp); exact zt rfl; exact za rfl; exact rfl; (first | exact AggTy.size | exact OneTy.size); exact rfl; infer_instance; (first | (with_reducible exact LB_set (by omega)) | (simp only [n0, Nat.reduceAdd, n1, n2, n3, n4, n5, n6, n7, n8, n9]; try rfl)); (first | exact zl rfl | exact LB_le (by omega)); exact rfl; infer_instance; clear hp; (try clear w1); intro w1 hp))
  exact bodyPost_ret (results_one rfl ⟨_, rfl, run_load_agg hp (Nat.le_of_ble_eq_true rfl)⟩) rfl ⟨rfl, hp.keep⟩
theorem fone : Fit 1 := by unfold Fit M511; omega
theorem dvr_fit (a b : Int) (ha : Fit a) (hb : Fit b) : Fit (dvr a b) := by
  unfold dvr
  split
  · rename_i h; exact fr_fit hb h.1
  · exact fit_zero
theorem fquot_up (a b : Int) (ha : Fit a) (hb : Fit b) (hq : Fit (dvq a b + 1)) (w : World) : Calls Tryd.prog 64 #[W a, W b] w (Ret (W (qv a b true)) w) := by
  have HD := Lib.hid (div_any a b ha hb)
  have SG := sign_any (dvr a b) (dvr_fit a b ha hb)
  unfold qv
  by_cases h : dvr a b = 0
  · rw [if_neg (by simp [h])]
    rw [h] at SG HD
    exact fquot_up0 a b _ _ _ HD (Lib.hid SG) w
  · rw [if_pos ⟨rfl, h⟩]
    exact fquot_up1 a b _ _ _ _ _ (by simpa using fun e => h (sgn_zero.1 e)) HD (Lib.hid SG) (Lib.hid (of_i64 1 (by unfold I64; omega))) (Lib.hid (fsum_any _ 1 (dvq_fit a b) fone hq)) w
/-- A product, rounded up. -/
def mulU (a b : Int) : Int := cl (qv (a * b) 4294967296 true)
set_option maxHeartbeats 2000000 in
theorem ftimes_up (a b : Int) (ha : I64 a) (hb : I64 b) (w : World) : Calls Tryd.prog 39 #[.int .i64 a, .int .i64 b] w (Ret (.int .i64 (mulU a b)) w) := by
  have A1 := Lib.hid (fraw_any a ha)
  have A2 := Lib.hid (fraw_any b hb)
  have hp := prod_i64 ha hb
  have hi := i64_mul ha hb
  obtain ⟨e, hf⟩ := dvq_32 hi
  have hm := mul_any a b (fit_i64 ha) (fit_i64 hb)
  rw [show fz (a * b) = a * b from if_pos hp] at hm
  have A3 := Lib.hid hm
  have A4 := Lib.hid (fquot_up (a * b) 4294967296 hp fit_two32 (by rw [e]; unfold Fit M511; omega))
  have A5 := Lib.hid fun w => within_any (qv (a * b) 4294967296 true) (by unfold qv; rw [e]; split <;> (unfold Fit M511; omega)) w
  have A6 := Lib.hid fun w => of_i64 4294967296 (by unfold I64; omega) w
  clear ha hb hp hi e hf hm
  unfold mulU
  generalize decide (Fit (a * b)) = o at *
  generalize a * b = s at *
  generalize qv s 4294967296 true = q at *
  generalize cl q = r at *
  go_enter Tryd.func39, Tryd.ntmps39
  have hp := Hp.start [] w
  go_upto_region 2 with (first
          | ((with_reducible apply sx_alloc hp); infer_instance; exact rfl; clear hp; (try clear w1); intro g w1 hp; simp only [zp, zq, z0, z1])
          | ((with_reducible apply sx_load_agg hp); exact zt rfl; infer_instance; infer_instance; (first | exact zl rfl | exact LB_le (by omega)); (first | (with_reducible exact LB_set (by omega)) | (simp only [n0, Nat.reduceAdd, n1, n2, n3, n4, n5, n6, n7, n8, n9]; try rfl)); simp only [zp, zq, z0, z1])
          | ((with_reducible apply sx_store hp); exact zt rfl; exact za rfl; exact rfl; (first | exact AggTy.size | exact OneTy.size); exact rfl; infer_instance; (first | (with_reducible exact LB_set (by omega)) | (simp only [n0, Nat.reduceAdd, n1, n2, n3, n4, n5, n6, n7, n8, n9]; try rfl)); (first | exact zl rfl | exact LB_le (by omega)); exact rfl; infer_instance; clear hp; (try clear w1); intro w1 hp)
          | ((with_reducible first | refine sx_call hp (A1.out _) ?_ | refine sx_call hp (A2.out _) ?_ | refine sx_call hp (A3.out _) ?_); clear hp; (try clear w1); intro w1 hp))
  have hq := hp
  refine wp_drawn_hp hp hq [] (.q 0 (.l 1 (.l 2 (.l 3 (.q 4 .nil))))) (by kernel_rfl) (by kernel_rfl) ?_
  clear hp hq; (try clear w1); intro w1 hp hq
  repeat' (first
    | (((with_reducible apply sd_q); exact zo rfl); (first
        | ((with_reducible apply sd_load_agg hp); exact rfl; exact zt rfl; infer_instance; infer_instance; (first | exact zl rfl | exact LB_le (by omega)); (first | (with_reducible exact LB_set (by omega)) | (simp only [n0, Nat.reduceAdd, n1, n2, n3, n4, n5, n6, n7, n8, n9]; try rfl)); simp only [zp, zq, z0, z1])
        | ((with_reducible apply sd_assign hp); exact zi rfl; simp only [zp, zq, z0, z1])
        | ((with_reducible apply sd_pure hp); exact rfl; (focus (intro _; go_simp; (try go_ints); try with_reducible rfl)); simp only [zp, zq, z0, z1])))
    | (((with_reducible apply sd_l); exact zo rfl); ((with_reducible apply sd_call hp); exact rfl; (focus (intro _; go_simp; try first | with_reducible rfl | exact ⟨rfl, rfl⟩)); (with_reducible first | exact fun w => A4.out w | exact fun w => A5.out w | exact fun w => A6.out w); exact hq; clear hp hq; (try clear w1); intro w1 hp hq; simp only [zp, zq, z0, z1]))
    | ((with_reducible apply sd_nil); clear hp; have hp := hq; clear hq))
  go_wp2
  exact bodyPost_ret (results_one rfl rfl) rfl ⟨rfl, hp.keep⟩
theorem fmulup_any (a b : Int) (ha : I64 a) (hb : I64 b) (w : World) : Calls Tryd.prog 18 #[.int .i64 a, .int .i64 b] w (Ret (.int .i64 (mulU a b)) w) := by
  have A1 := Lib.hid (ftimes_up a b ha hb)
  clear ha hb
  generalize mulU a b = r at *
  go_enter Tryd.func18, Tryd.ntmps18
  have hp := Hp.start [] w
  go_wp2_with (first
          | ((with_reducible refine sx_call hp (A1.out _) ?_); clear hp; (try clear w1); intro w1 hp))
  exact bodyPost_ret (results_one rfl rfl) rfl ⟨rfl, hp.keep⟩
/-- A quotient, rounded up. -/
def dqU (a b : Int) : Int := if b = 0 then (if 0 < a then 9223372036854775807 else if a < 0 then -9223372036854775808 else 0) else cl (qv (a * 4294967296) b true)
theorem ediv_bd {n b : Int} {M : Int} (hM : 0 ≤ M) (hn : -M ≤ n ∧ n ≤ M) (hb : 0 < b) : -M ≤ n / b ∧ n / b ≤ M := by
  constructor
  · rw [Int.le_ediv_iff_mul_le hb]
    have : M ≤ M * b := by
      have := Int.mul_le_mul_of_nonneg_left (show 1 ≤ b by omega) hM
      omega
    have e : -M * b = -(M * b) := Int.neg_mul _ _
    omega
  · have h : n / b < M + 1 := by
      apply Int.ediv_lt_of_lt_mul hb
      have := Int.mul_le_mul_of_nonneg_left (show 1 ≤ b by omega) (show 0 ≤ M + 1 by omega)
      omega
    omega
theorem dvq_less {n b : Int} (hn : -39614081257132168796771975168 ≤ n ∧ n ≤ 39614081257132168796771975168) : -39614081257132168796771975168 ≤ dvq n b ∧ dvq n b ≤ 39614081257132168796771975168 := by
  unfold dvq
  split
  · rename_i h
    unfold fq
    split
    · exact ediv_bd (by omega) (by omega) (by omega)
    · exact ediv_bd (by omega) hn (by have := h.1; omega)
  · omega
set_option maxHeartbeats 2000000 in
theorem fover_up (a b : Int) (ha : I64 a) (hb : I64 b) (w : World) : Calls Tryd.prog 41 #[.int .i64 a, .int .i64 b] w (Ret (.int .i64 (dqU a b)) w) := by
  unfold dqU
  by_cases hb0 : b = 0
  · rw [if_pos hb0]
    subst hb0
    by_cases h1 : 0 < a
    · rw [if_pos h1]
      clear ha hb
      go_enter Tryd.func41, Tryd.ntmps41
      have hp := Hp.start [] w
      go_wp2_with (first
          | ((with_reducible apply sx_alloc hp); infer_instance; exact rfl; clear hp; (try clear w1); intro g w1 hp; simp only [zp, zq, z0, z1])
          | ((with_reducible apply sx_load_agg hp); exact zt rfl; infer_instance; infer_instance; (first | exact zl rfl | exact LB_le (by omega)); (first | (with_reducible exact LB_set (by omega)) | (simp only [n0, Nat.reduceAdd, n1, n2, n3, n4, n5, n6, n7, n8, n9]; try rfl)); simp only [zp, zq, z0, z1])
          | ((with_reducible apply sx_store hp); exact zt rfl; exact za rfl; exact rfl; (first | exact AggTy.size | exact OneTy.size); exact rfl; infer_instance; (first | (with_reducible exact LB_set (by omega)) | (simp only [n0, Nat.reduceAdd, n1, n2, n3, n4, n5, n6, n7, n8, n9]; try rfl)); (first | exact zl rfl | exact LB_le (by omega)); exact rfl; infer_instance; clear hp; (try clear w1); intro w1 hp))
      exact bodyPost_ret (results_one rfl rfl) rfl ⟨rfl, hp.keep⟩
    · by_cases h2 : a < 0
      · rw [if_neg h1, if_pos h2]
        clear ha hb
        go_enter Tryd.func41, Tryd.ntmps41
        have hp := Hp.start [] w
        go_wp2_with (first
          | ((with_reducible apply sx_alloc hp); infer_instance; exact rfl; clear hp; (try clear w1); intro g w1 hp; simp only [zp, zq, z0, z1])
          | ((with_reducible apply sx_load_agg hp); exact zt rfl; infer_instance; infer_instance; (first | exact zl rfl | exact LB_le (by omega)); (first | (with_reducible exact LB_set (by omega)) | (simp only [n0, Nat.reduceAdd, n1, n2, n3, n4, n5, n6, n7, n8, n9]; try rfl)); simp only [zp, zq, z0, z1])
          | ((with_reducible apply sx_store hp); exact zt rfl; exact za rfl; exact rfl; (first | exact AggTy.size | exact OneTy.size); exact rfl; infer_instance; (first | (with_reducible exact LB_set (by omega)) | (simp only [n0, Nat.reduceAdd, n1, n2, n3, n4, n5, n6, n7, n8, n9]; try rfl)); (first | exact zl rfl | exact LB_le (by omega)); exact rfl; infer_instance; clear hp; (try clear w1); intro w1 hp))
        exact bodyPost_ret (results_one rfl rfl) rfl ⟨rfl, hp.keep⟩
      · rw [if_neg h1, if_neg h2]
        clear ha hb
        go_enter Tryd.func41, Tryd.ntmps41
        have hp := Hp.start [] w
        go_wp2_with (first
          | ((with_reducible apply sx_alloc hp); infer_instance; exact rfl; clear hp; (try clear w1); intro g w1 hp; simp only [zp, zq, z0, z1])
          | ((with_reducible apply sx_load_agg hp); exact zt rfl; infer_instance; infer_instance; (first | exact zl rfl | exact LB_le (by omega)); (first | (with_reducible exact LB_set (by omega)) | (simp only [n0, Nat.reduceAdd, n1, n2, n3, n4, n5, n6, n7, n8, n9]; try rfl)); simp only [zp, zq, z0, z1])
          | ((with_reducible apply sx_store hp); exact zt rfl; exact za rfl; exact rfl; (first | exact AggTy.size | exact OneTy.size); exact rfl; infer_instance; (first | (with_reducible exact LB_set (by omega)) | (simp only [n0, Nat.reduceAdd, n1, n2, n3, n4, n5, n6, n7, n8, n9]; try rfl)); (first | exact zl rfl | exact LB_le (by omega)); exact rfl; infer_instance; clear hp; (try clear w1); intro w1 hp))
        exact bodyPost_ret (results_one rfl rfl) rfl ⟨rfl, hp.keep⟩
  · rw [if_neg hb0]
    have A1 := Lib.hid (fraw_any a ha)
    have A2 := Lib.hid (fraw_any b hb)
    have hx1 : -39614081257132168796771975168 ≤ a * 4294967296 ∧ a * 4294967296 ≤ 39614081257132168796771975168 := by unfold I64 at ha; omega
    have hp2 : (2 : Int) ^ (32 : Int).toNat = 4294967296 := rfl
    have hok : shok a 32 := ⟨by omega, .inr ⟨by omega, by rw [hp2]; unfold Fit M511; omega⟩⟩
    have hsh := shl_any a 32 (fit_i64 ha)
    rw [show shlv a 32 = a * 4294967296 by unfold shlv; rw [if_pos hok, hp2], decide_eq_true hok] at hsh
    have SH := Lib.hid hsh
    have hl := dvq_less (b := b) hx1
    have A4 := Lib.hid (fquot_up (a * 4294967296) b (by unfold Fit M511; omega) (fit_i64 hb) (by unfold Fit M511; omega))
    have A5 := Lib.hid fun w => within_any (qv (a * 4294967296) b true) (by unfold qv; split <;> (unfold Fit M511; omega)) w
    have hb1 : (b == 0) = false := by simpa using hb0
    clear ha hb hx1 hp2 hok hsh hl
    generalize a * 4294967296 = n at *
    generalize qv n b true = q at *
    generalize cl q = r at *
    go_enter Tryd.func41, Tryd.ntmps41
    have hp := Hp.start [] w
    go_upto_region 8 with (first
          | ((with_reducible apply sx_alloc hp); infer_instance; exact rfl; clear hp; (try clear w1); intro g w1 hp; simp only [zp, zq, z0, z1])
          | ((with_reducible apply sx_load_agg hp); exact zt rfl; infer_instance; infer_instance; (first | exact zl rfl | exact LB_le (by omega)); (first | (with_reducible exact LB_set (by omega)) | (simp only [n0, Nat.reduceAdd, n1, n2, n3, n4, n5, n6, n7, n8, n9]; try rfl)); simp only [zp, zq, z0, z1])
          | ((with_reducible apply sx_store hp); exact zt rfl; exact za rfl; exact rfl; (first | exact AggTy.size | exact OneTy.size); exact rfl; infer_instance; (first | (with_reducible exact LB_set (by omega)) | (simp only [n0, Nat.reduceAdd, n1, n2, n3, n4, n5, n6, n7, n8, n9]; try rfl)); (first | exact zl rfl | exact LB_le (by omega)); exact rfl; infer_instance; clear hp; (try clear w1); intro w1 hp)
          | ((with_reducible first | refine sx_call hp (A1.out _) ?_ | refine sx_call hp (SH.out _) ?_); clear hp; (try clear w1); intro w1 hp))
    have hq := hp
    refine wp_drawnG_hp hp hq [] (.q 0 (.q 1 (.p 2 (.p 3 (.p 4 (.q 5 .nil)))))) (by kernel_rfl) (by kernel_rfl) ?_
    clear hp hq; (try clear w1); intro w1 hp hq
    repeat' (first
      | (((with_reducible apply sg_q); exact zo rfl); (first
          | ((with_reducible apply sg_load_agg hp); exact rfl; exact zt rfl; infer_instance; infer_instance; (first | exact zl rfl | exact LB_le (by omega)); (first | (with_reducible exact LB_set (by omega)) | (simp only [n0, Nat.reduceAdd, n1, n2, n3, n4, n5, n6, n7, n8, n9]; try rfl)); simp only [zp, zq, z0, z1])
          | ((with_reducible apply sg_move hp); exact zi rfl; simp only [zp, zq, z0, z1])
          | ((with_reducible apply sg_assign hp); exact zi rfl; simp only [zp, zq, z0, z1])
          | ((with_reducible apply sg_pure hp); exact rfl; (focus (intro _; go_simp; (try go_ints); try with_reducible rfl)); simp only [zp, zq, z0, z1])))
      | (((with_reducible apply sg_p); exact zo rfl); ((with_reducible apply sg_call hp); exact rfl; (focus (intro _; go_simp; try first | with_reducible rfl | exact ⟨rfl, rfl⟩)); (with_reducible first | exact fun w => A2.out w | exact fun w => A4.out w | exact fun w => A5.out w); simp only [zp, zq, z0, z1]))
      | ((with_reducible apply sg_nil hq); clear hp hq; (try clear w1); intro w1 hp))
    go_wp2
    exact bodyPost_ret (results_one rfl rfl) rfl ⟨rfl, hp.keep⟩
theorem fdivup_any (a b : Int) (ha : I64 a) (hb : I64 b) (w : World) : Calls Tryd.prog 20 #[.int .i64 a, .int .i64 b] w (Ret (.int .i64 (dqU a b)) w) := by
  have A1 := Lib.hid (fover_up a b ha hb)
  clear ha hb
  generalize dqU a b = r at *
  go_enter Tryd.func20, Tryd.ntmps20
  have hp := Hp.start [] w
  go_wp2_with (first
          | ((with_reducible refine sx_call hp (A1.out _) ?_); clear hp; (try clear w1); intro w1 hp))
  exact bodyPost_ret (results_one rfl rfl) rfl ⟨rfl, hp.keep⟩
/-! ### Roots -/
/-- A root, rounded down, or up. -/
def rootv (a : Int) (up : Bool) : Int := if a < 0 then 0 else if up = true ∧ rt (a * 4294967296) * rt (a * 4294967296) ≠ a * 4294967296 then rt (a * 4294967296) + 1 else rt (a * 4294967296)
theorem root_bd {a : Int} (ha : I64 a) (h : 0 ≤ a) : 0 ≤ rt (a * 4294967296) ∧ rt (a * 4294967296) ≤ 199032864766430 := by
  have h0 := rt_nonneg (a * 4294967296)
  obtain ⟨h1, h2⟩ := rt_spec (n := a * 4294967296) (by omega)
  refine ⟨h0, ?_⟩
  by_cases h3 : rt (a * 4294967296) ≤ 199032864766430
  · exact h3
  · have := sq_mono (a := 199032864766431) (b := rt (a * 4294967296)) (by omega) (by omega)
    unfold I64 at ha
    omega
theorem shl32 (a : Int) (ha : I64 a) : ∀ w, Calls Tryd.prog 51 #[W a, .int .i64 32] w (Ret (.tuple #[W (a * 4294967296), .bool true]) w) := by
  have hp2 : (2 : Int) ^ (32 : Int).toNat = 4294967296 := rfl
  have hok : shok a 32 := ⟨by omega, .inr ⟨by omega, by rw [hp2]; unfold I64 at ha; unfold Fit M511; omega⟩⟩
  have hsh := shl_any a 32 (fit_i64 ha)
  rwa [show shlv a 32 = a * 4294967296 by unfold shlv; rw [if_pos hok, hp2], decide_eq_true hok] at hsh
set_option maxHeartbeats 2000000 in
theorem froot_down_no (a n : Int) (A1 : Hid (∀ w, Calls Tryd.prog 44 #[.int .i64 a] w (Ret (W a) w))) (SH : Hid (∀ w, Calls Tryd.prog 51 #[W a, .int .i64 32] w (Ret (.tuple #[W n, .bool true]) w)))
    (SQ : Hid (∀ w, Calls Tryd.prog 68 #[W n] w (Ret (.tuple #[.agg #[.int .u64 0, .int .u64 0, .int .u64 0, .int .u64 0, .int .u64 0, .int .u64 0, .int .u64 0, .int .u64 0], .bool false]) w))) (w : World) : Calls Tryd.prog 53 #[.int .i64 a] w (Ret (.int .i64 0) w) := by
  go_enter Tryd.func53, Tryd.ntmps53
  have hp := Hp.start [] w
  go_wp2_with (first
          | ((with_reducible apply sx_alloc hp); infer_instance; exact rfl; clear hp; (try clear w1); intro g w1 hp; simp only [zp, zq, z0, z1])
          | ((with_reducible apply sx_load_agg hp); exact zt rfl; infer_instance; infer_instance; (first | exact zl rfl | exact LB_le (by omega)); (first | (with_reducible exact LB_set (by omega)) | (simp only [n0, Nat.reduceAdd, n1, n2, n3, n4, n5, n6, n7, n8, n9]; try rfl)); simp only [zp, zq, z0, z1])
          | ((with_reducible apply sx_store hp); exact zt rfl; exact za rfl; exact rfl; (first | exact AggTy.size | exact OneTy.size); exact rfl; infer_instance; (first | (with_reducible exact LB_set (by omega)) | (simp only [n0, Nat.reduceAdd, n1, n2, n3, n4, n5, n6, n7, n8, n9]; try rfl)); (first | exact zl rfl | exact LB_le (by omega)); exact rfl; infer_instance; clear hp; (try clear w1); intro w1 hp)
          | ((with_reducible first | refine sx_call hp (A1.out _) ?_ | refine sx_call hp (SH.out _) ?_ | refine sx_call hp (SQ.out _) ?_); clear hp; (try clear w1); intro w1 hp))
  exact bodyPost_ret (results_one rfl rfl) rfl ⟨rfl, hp.keep⟩
set_option maxHeartbeats 2000000 in
theorem froot_down_same (a n r q v : Int) (b : Bool) (HB : eqb q n = b) (A1 : Hid (∀ w, Calls Tryd.prog 44 #[.int .i64 a] w (Ret (W a) w))) (SH : Hid (∀ w, Calls Tryd.prog 51 #[W a, .int .i64 32] w (Ret (.tuple #[W n, .bool true]) w)))
    (SQ : Hid (∀ w, Calls Tryd.prog 68 #[W n] w (Ret (.tuple #[W r, .bool true]) w))) (MU : Hid (∀ w, Calls Tryd.prog 23 #[W r, W r] w (Ret (.tuple #[W q, .bool true]) w)))
    (WI : Hid (∀ w, Calls Tryd.prog 42 #[W r] w (Ret (.int .i64 v) w))) (w : World) : Calls Tryd.prog 53 #[.int .i64 a] w (Ret (.int .i64 v) w) := by
  unfold eqb at HB
  go_enter Tryd.func53, Tryd.ntmps53
  have hp := Hp.start [] w
  go_wp2_with (first
          | ((with_reducible apply sx_guard); (conv => whnf); refine Bx.mk ?_; (try simp only [zp, zq, z0, z1]))
          | ((with_reducible apply sx_alloc hp); infer_instance; exact rfl; clear hp; (try clear w1); intro g w1 hp; simp only [zp, zq, z0, z1])
          | ((with_reducible apply sx_load_agg hp); exact zt rfl; infer_instance; infer_instance; (first | exact zl rfl | exact LB_le (by omega)); (first | (with_reducible exact LB_set (by omega)) | (simp only [n0, Nat.reduceAdd, n1, n2, n3, n4, n5, n6, n7, n8, n9]; try rfl)); simp only [zp, zq, z0, z1])
          | ((with_reducible apply sx_store hp); exact zt rfl; exact za rfl; exact rfl; (first | exact AggTy.size | exact OneTy.size); exact rfl; infer_instance; (first | (with_reducible exact LB_set (by omega)) | (simp only [n0, Nat.reduceAdd, n1, n2, n3, n4, n5, n6, n7, n8, n9]; try rfl)); (first | exact zl rfl | exact LB_le (by omega)); exact rfl; infer_instance; clear hp; (try clear w1); intro w1 hp)
          | ((with_reducible first | refine sx_call hp (A1.out _) ?_ | refine sx_call hp (SH.out _) ?_ | refine sx_call hp (SQ.out _) ?_ | refine sx_call hp (MU.out _) ?_ | refine sx_call hp (updown_any _) ?_ | refine sx_call hp (WI.out _) ?_); clear hp; (try clear w1); intro w1 hp))
  exact bodyPost_ret (results_one rfl rfl) rfl ⟨rfl, hp.keep⟩
set_option maxHeartbeats 2000000 in
theorem froot_up_no (a n : Int) (A1 : Hid (∀ w, Calls Tryd.prog 44 #[.int .i64 a] w (Ret (W a) w))) (SH : Hid (∀ w, Calls Tryd.prog 51 #[W a, .int .i64 32] w (Ret (.tuple #[W n, .bool true]) w)))
    (SQ : Hid (∀ w, Calls Tryd.prog 68 #[W n] w (Ret (.tuple #[.agg #[.int .u64 0, .int .u64 0, .int .u64 0, .int .u64 0, .int .u64 0, .int .u64 0, .int .u64 0, .int .u64 0], .bool false]) w))) (w : World) : Calls Tryd.prog 54 #[.int .i64 a] w (Ret (.int .i64 0) w) := by
  go_enter Tryd.func54, Tryd.ntmps54
  have hp := Hp.start [] w
  go_wp2_with (first
          | ((with_reducible apply sx_alloc hp); infer_instance; exact rfl; clear hp; (try clear w1); intro g w1 hp; simp only [zp, zq, z0, z1])
          | ((with_reducible apply sx_load_agg hp); exact zt rfl; infer_instance; infer_instance; (first | exact zl rfl | exact LB_le (by omega)); (first | (with_reducible exact LB_set (by omega)) | (simp only [n0, Nat.reduceAdd, n1, n2, n3, n4, n5, n6, n7, n8, n9]; try rfl)); simp only [zp, zq, z0, z1])
          | ((with_reducible apply sx_store hp); exact zt rfl; exact za rfl; exact rfl; (first | exact AggTy.size | exact OneTy.size); exact rfl; infer_instance; (first | (with_reducible exact LB_set (by omega)) | (simp only [n0, Nat.reduceAdd, n1, n2, n3, n4, n5, n6, n7, n8, n9]; try rfl)); (first | exact zl rfl | exact LB_le (by omega)); exact rfl; infer_instance; clear hp; (try clear w1); intro w1 hp)
          | ((with_reducible first | refine sx_call hp (A1.out _) ?_ | refine sx_call hp (SH.out _) ?_ | refine sx_call hp (SQ.out _) ?_); clear hp; (try clear w1); intro w1 hp))
  exact bodyPost_ret (results_one rfl rfl) rfl ⟨rfl, hp.keep⟩
set_option maxHeartbeats 2000000 in
theorem froot_up_same (a n r q v : Int) (b : Bool) (HB : eqb q n = true) (A1 : Hid (∀ w, Calls Tryd.prog 44 #[.int .i64 a] w (Ret (W a) w))) (SH : Hid (∀ w, Calls Tryd.prog 51 #[W a, .int .i64 32] w (Ret (.tuple #[W n, .bool true]) w)))
    (SQ : Hid (∀ w, Calls Tryd.prog 68 #[W n] w (Ret (.tuple #[W r, .bool true]) w))) (MU : Hid (∀ w, Calls Tryd.prog 23 #[W r, W r] w (Ret (.tuple #[W q, .bool true]) w)))
    (WI : Hid (∀ w, Calls Tryd.prog 42 #[W r] w (Ret (.int .i64 v) w))) (w : World) : Calls Tryd.prog 54 #[.int .i64 a] w (Ret (.int .i64 v) w) := by
  unfold eqb at HB
  go_enter Tryd.func54, Tryd.ntmps54
  have hp := Hp.start [] w
  go_wp2_with (first
          | ((with_reducible apply sx_guard); (conv => whnf); refine Bx.mk ?_; (try simp only [zp, zq, z0, z1]))
          | ((with_reducible apply sx_alloc hp); infer_instance; exact rfl; clear hp; (try clear w1); intro g w1 hp; simp only [zp, zq, z0, z1])
          | ((with_reducible apply sx_load_agg hp); exact zt rfl; infer_instance; infer_instance; (first | exact zl rfl | exact LB_le (by omega)); (first | (with_reducible exact LB_set (by omega)) | (simp only [n0, Nat.reduceAdd, n1, n2, n3, n4, n5, n6, n7, n8, n9]; try rfl)); simp only [zp, zq, z0, z1])
          | ((with_reducible apply sx_store hp); exact zt rfl; exact za rfl; exact rfl; (first | exact AggTy.size | exact OneTy.size); exact rfl; infer_instance; (first | (with_reducible exact LB_set (by omega)) | (simp only [n0, Nat.reduceAdd, n1, n2, n3, n4, n5, n6, n7, n8, n9]; try rfl)); (first | exact zl rfl | exact LB_le (by omega)); exact rfl; infer_instance; clear hp; (try clear w1); intro w1 hp)
          | ((with_reducible first | refine sx_call hp (A1.out _) ?_ | refine sx_call hp (SH.out _) ?_ | refine sx_call hp (SQ.out _) ?_ | refine sx_call hp (MU.out _) ?_ | refine sx_call hp (upup_any _) ?_ | refine sx_call hp (WI.out _) ?_); clear hp; (try clear w1); intro w1 hp))
  exact bodyPost_ret (results_one rfl rfl) rfl ⟨rfl, hp.keep⟩
set_option maxHeartbeats 2000000 in
theorem froot_up_more (a n r q r1 v : Int) (HB : eqb q n = false) (A1 : Hid (∀ w, Calls Tryd.prog 44 #[.int .i64 a] w (Ret (W a) w))) (SH : Hid (∀ w, Calls Tryd.prog 51 #[W a, .int .i64 32] w (Ret (.tuple #[W n, .bool true]) w)))
    (SQ : Hid (∀ w, Calls Tryd.prog 68 #[W n] w (Ret (.tuple #[W r, .bool true]) w))) (MU : Hid (∀ w, Calls Tryd.prog 23 #[W r, W r] w (Ret (.tuple #[W q, .bool true]) w)))
    (O1 : Hid (∀ w, Calls Tryd.prog 24 #[.int .i64 1] w (Ret (W 1) w))) (SM : Hid (∀ w, Calls Tryd.prog 43 #[W r, W 1] w (Ret (W r1) w)))
    (WI : Hid (∀ w, Calls Tryd.prog 42 #[W r1] w (Ret (.int .i64 v) w))) (w : World) : Calls Tryd.prog 54 #[.int .i64 a] w (Ret (.int .i64 v) w) := by
  unfold eqb at HB
  go_enter Tryd.func54, Tryd.ntmps54
  have hp := Hp.start [] w
  go_upto_region 7 with (first
          | ((with_reducible apply sx_guard); (conv => whnf); refine Bx.mk ?_; (try simp only [zp, zq, z0, z1]))
          | ((with_reducible apply sx_alloc hp); infer_instance; exact rfl; clear hp; (try clear w1); intro g w1 hp; simp only [zp, zq, z0, z1])
          | ((with_reducible apply sx_load_agg hp); exact zt rfl; infer_instance; infer_instance; (first | exact zl rfl | exact LB_le (by omega)); (first | (with_reducible exact LB_set (by omega)) | (simp only [n0, Nat.reduceAdd, n1, n2, n3, n4, n5, n6, n7, n8, n9]; try rfl)); simp only [zp, zq, z0, z1])
          | ((with_reducible apply sx_store hp); exact zt rfl; exact za rfl; exact rfl; (first | exact AggTy.size | exact OneTy.size); exact rfl; infer_instance; (first | (with_reducible exact LB_set (by omega)) | (simp only [n0, Nat.reduceAdd, n1, n2, n3, n4, n5, n6, n7, n8, n9]; try rfl)); (first | exact zl rfl | exact LB_le (by omega)); exact rfl; infer_instance; clear hp; (try clear w1); intro w1 hp)
          | ((with_reducible first | refine sx_call hp (A1.out _) ?_ | refine sx_call hp (SH.out _) ?_ | refine sx_call hp (SQ.out _) ?_ | refine sx_call hp (MU.out _) ?_ | refine sx_call hp (upup_any _) ?_); clear hp; (try clear w1); intro w1 hp))
  have hq := hp
  refine wp_drawn_hp hp hq [3] (.q 0 (.l 1 (.l 2 (.l 3 .nil)))) (by kernel_rfl) (by kernel_rfl) ?_
  clear hp hq; (try clear w1); intro w1 hp hq
  repeat' (first
    | (((with_reducible apply sd_q); exact zo rfl); (first
        | ((with_reducible apply sd_load_agg hp); exact rfl; exact zt rfl; infer_instance; infer_instance; (first | exact zl rfl | exact LB_le (by omega)); (first | (with_reducible exact LB_set (by omega)) | (simp only [n0, Nat.reduceAdd, n1, n2, n3, n4, n5, n6, n7, n8, n9]; try rfl)); simp only [zp, zq, z0, z1])
        | ((with_reducible apply sd_pure hp); exact rfl; (focus (intro _; go_simp; (try go_ints); try with_reducible rfl)); simp only [zp, zq, z0, z1])))
    | (((with_reducible apply sd_l); exact zo rfl); (first
        | ((with_reducible apply sd_call hp); exact rfl; (focus (intro _; go_simp; try first | with_reducible rfl | exact ⟨rfl, rfl⟩)); (with_reducible first | exact fun w => O1.out w | exact fun w => SM.out w); exact hq; clear hp hq; (try clear w1); intro w1 hp hq; simp only [zp, zq, z0, z1])
        | ((with_reducible apply sd_store_far hq); exact rfl; exact zt rfl; (first | exact za rfl | exact zu rfl | exact zi rfl | exact zb rfl | exact zr rfl | exact zs rfl | exact zf rfl | exact zg rfl | exact zn rfl | exact zv rfl | exact zw rfl); exact rfl; (first | exact AggTy.size | exact OneTy.size); exact rfl; infer_instance; (first | (with_reducible exact LB_set (by omega)) | (simp only [n0, Nat.reduceAdd, n1, n2, n3, n4, n5, n6, n7, n8, n9]; try rfl)); (first | exact zl rfl | exact LB_le (by omega)); exact rfl; infer_instance; (repeat (first | exact List.Sublist.refl _ | apply List.Sublist.cons)); clear hp hq; (try clear w1); intro w1 hp hq)
        | ((with_reducible apply sd_store hq); exact rfl; exact zt rfl; (first | exact za rfl | exact zu rfl | exact zi rfl | exact zb rfl | exact zr rfl | exact zs rfl | exact zf rfl | exact zg rfl | exact zn rfl | exact zv rfl | exact zw rfl); exact rfl; (first | exact AggTy.size | exact OneTy.size); exact rfl; infer_instance; (first | (with_reducible exact LB_set (by omega)) | (simp only [n0, Nat.reduceAdd, n1, n2, n3, n4, n5, n6, n7, n8, n9]; try rfl)); (first | exact zl rfl | exact LB_le (by omega)); exact rfl; infer_instance; exact rfl; clear hp hq; (try clear w1); intro w1 hq; have hp := True.intro)))
    | ((with_reducible apply sd_nil); clear hp; have hp := hq; clear hq))
  go_wp2_with (first
          | ((with_reducible apply sx_alloc hp); infer_instance; exact rfl; clear hp; (try clear w1); intro g w1 hp; simp only [zp, zq, z0, z1])
          | ((with_reducible apply sx_load_agg hp); exact zt rfl; infer_instance; infer_instance; (first | exact zl rfl | exact LB_le (by omega)); (first | (with_reducible exact LB_set (by omega)) | (simp only [n0, Nat.reduceAdd, n1, n2, n3, n4, n5, n6, n7, n8, n9]; try rfl)); simp only [zp, zq, z0, z1])
          | ((with_reducible apply sx_store hp); exact zt rfl; exact za rfl; exact rfl; (first | exact AggTy.size | exact OneTy.size); exact rfl; infer_instance; (first | (with_reducible exact LB_set (by omega)) | (simp only [n0, Nat.reduceAdd, n1, n2, n3, n4, n5, n6, n7, n8, n9]; try rfl)); (first | exact zl rfl | exact LB_le (by omega)); exact rfl; infer_instance; clear hp; (try clear w1); intro w1 hp)
          | ((with_reducible refine sx_call hp (WI.out _) ?_); clear hp; (try clear w1); intro w1 hp))
  exact bodyPost_ret (results_one rfl rfl) rfl ⟨rfl, hp.keep⟩
theorem froot_any (a : Int) (ha : I64 a) : (∀ w, Calls Tryd.prog 53 #[.int .i64 a] w (Ret (.int .i64 (rootv a false)) w)) ∧ (∀ w, Calls Tryd.prog 54 #[.int .i64 a] w (Ret (.int .i64 (rootv a true)) w)) := by
  have A1 := Lib.hid (fraw_any a ha)
  have SH := Lib.hid (shl32 a ha)
  have hn : Fit (a * 4294967296) := by unfold I64 at ha; unfold Fit M511; omega
  by_cases h : a < 0
  · have SQ := Lib.hid (sqrt_neg (a * 4294967296) hn (by omega))
    have e : ∀ up, rootv a up = 0 := fun up => by unfold rootv; rw [if_pos h]
    rw [e, e]
    exact ⟨froot_down_no a _ A1 SH SQ, froot_up_no a _ A1 SH SQ⟩
  · have sq := sqrt_any (a * 4294967296) hn
    rw [show sqv (a * 4294967296) = rt (a * 4294967296) from if_pos (by omega), decide_eq_true (by omega)] at sq
    obtain ⟨r0, r1⟩ := root_bd ha (by omega)
    have e : ∀ up, rootv a up = if up = true ∧ rt (a * 4294967296) * rt (a * 4294967296) ≠ a * 4294967296 then rt (a * 4294967296) + 1 else rt (a * 4294967296) := fun up => by unfold rootv; rw [if_neg h]
    rw [e, e, if_neg (by simp)]
    have hs := rt_spec (n := a * 4294967296) (by omega)
    have hs0 := Int.mul_nonneg r0 r0
    generalize rt (a * 4294967296) = r at *
    have hrf : Fit r := by unfold Fit M511; omega
    have hmf : Fit (r * r) := by unfold I64 at ha; unfold Fit M511; omega
    have mu := mul_any r r hrf hrf
    rw [show fz (r * r) = r * r from if_pos hmf, decide_eq_true hmf] at mu
    have wi := within_any r hrf
    rw [cl_id (by unfold I64; omega)] at wi
    refine ⟨froot_down_same a _ _ _ _ _ rfl A1 SH (Lib.hid sq) (Lib.hid mu) (Lib.hid wi), ?_⟩
    by_cases he : r * r = a * 4294967296
    · rw [if_neg (by simp [he])]
      exact froot_up_same a _ _ _ _ true (by rw [he, eqb_fit hn hn]; exact decide_eq_true rfl) A1 SH (Lib.hid sq) (Lib.hid mu) (Lib.hid wi)
    · rw [if_pos ⟨rfl, he⟩]
      have hf1 : Fit (r + 1) := by unfold Fit M511; omega
      have wi1 := within_any (r + 1) hf1
      rw [cl_id (by unfold I64; omega)] at wi1
      exact froot_up_more a _ _ _ _ _ (by rw [eqb_fit hmf hn]; exact decide_eq_false he) A1 SH (Lib.hid sq) (Lib.hid mu) (Lib.hid (of_i64 1 (by unfold I64; omega))) (Lib.hid (fsum_any r 1 hrf fone hf1)) (Lib.hid wi1)
theorem fsqrt_any (a : Int) (ha : I64 a) (w : World) : Calls Tryd.prog 28 #[.int .i64 a] w (Ret (.int .i64 (rootv a false)) w) := by
  have A1 := Lib.hid (froot_any a ha).1
  clear ha
  generalize rootv a false = r at *
  go_enter Tryd.func28, Tryd.ntmps28
  have hp := Hp.start [] w
  go_wp2_with (first
          | ((with_reducible refine sx_call hp (A1.out _) ?_); clear hp; (try clear w1); intro w1 hp))
  exact bodyPost_ret (results_one rfl rfl) rfl ⟨rfl, hp.keep⟩
theorem fsqrtup_any (a : Int) (ha : I64 a) (w : World) : Calls Tryd.prog 29 #[.int .i64 a] w (Ret (.int .i64 (rootv a true)) w) := by
  have A1 := Lib.hid (froot_any a ha).2
  clear ha
  generalize rootv a true = r at *
  go_enter Tryd.func29, Tryd.ntmps29
  have hp := Hp.start [] w
  go_wp2_with (first
          | ((with_reducible refine sx_call hp (A1.out _) ?_); clear hp; (try clear w1); intro w1 hp))
  exact bodyPost_ret (results_one rfl rfl) rfl ⟨rfl, hp.keep⟩
/-! ### Whole numbers -/
def ofv (n : Int) : Int := cl (n * 4294967296)
theorem inv_0 (n : Int) : inv n 0 = cl (n * 4294967296) := by
  unfold inv
  rw [if_neg (by omega)]
  rfl
theorem fof_any (n : Int) (hn : I64 n) (w : World) : Calls Tryd.prog 16 #[.int .i64 n] w (Ret (.int .i64 (ofv n)) w) := by
  have A1 := Lib.hid (of_i64 n hn)
  have A2 := in_any n 0 (fit_i64 hn) (by unfold I64; omega)
  rw [inv_0] at A2
  have A3 := Lib.hid A2
  clear hn A2
  unfold ofv
  generalize cl (n * 4294967296) = r at *
  go_enter Tryd.func16, Tryd.ntmps16
  have hp := Hp.start [] w
  go_wp2_with (first
          | ((with_reducible first | refine sx_call hp (A1.out _) ?_ | refine sx_call hp (A3.out _) ?_); clear hp; (try clear w1); intro w1 hp))
  exact bodyPost_ret (results_one rfl rfl) rfl ⟨rfl, hp.keep⟩
theorem ffloor_any (a : Int) (ha : I64 a) (w : World) : Calls Tryd.prog 15 #[.int .i64 a] w (Ret (.int .i64 (a / 4294967296)) w) := by
  have h1 : -9223372036854775808 ≤ a := ha.1
  have h2 : a < 9223372036854775808 := ha.2
  clear ha
  go_enter Tryd.func15, Tryd.ntmps15
  have hp := Hp.start [] w
  go_wp2_with (first
          | fail)
  exact bodyPost_ret (results_one rfl rfl) rfl ⟨rfl, hp.keep⟩
end Go.Proofs.YtbdkbmhejoakiaaDoor
