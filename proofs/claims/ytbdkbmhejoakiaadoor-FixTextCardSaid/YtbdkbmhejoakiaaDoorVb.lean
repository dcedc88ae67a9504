/-
  Package ninepinref01: Shr; package ninepinref02: In, raw, Add, Sub, Quotient, Mul; package fix: raw, sum, opposite, Add, Sub, quotient, times, Mul (contracts).
  Package fix: raw, sum, opposite, Add, Sub, quotient, times, Mul; package ninepinref02: raw, Add, Sub, Quotient, Mul (contracts).
-/
import Derived.Test.YtbdkbmhejoakiaaDoorSb
import Derived.Test.YtbdkbmhejoakiaaDoorCd
import Derived.Test.YtbdkbmhejoakiaaDoorDf
set_option linter.unusedSimpArgs false
set_option linter.unusedVariables false
set_option maxRecDepth 100000
namespace Go.Proofs.YtbdkbmhejoakiaaDoor
open Go Go.RowKit
attribute [local irreducible] wpList

theorem bt_down (a : Int) (n k : Nat) : bt a (n + k) = bt (a / 2 ^ n) k := by
  unfold bt
  rw [Int.pow_add, Int.ediv_ediv_of_nonneg (Int.le_of_lt (pow_pos' n))]
theorem BSl.window {w : World} {g cap n : Nat} {t : TypeId} {x : Int} {L : Nat} (h : w.heap[g]? = some (.cells (tab (bt x) L).toArray t (0, 0))) (m : Nat) (hm : n + m ≤ L) : BSl w (.slice (some ⟨g, n, none⟩) m cap) (x / 2 ^ n) m :=
  ⟨g, n, cap, _, t, _, rfl, h, fun k hk => by
    rw [Nat.mul_one, tab_get (by omega), bt_down]⟩
theorem shr_bd {a : Int} (ha : Fit a) (n : Nat) : Fit (a / 2 ^ n) := by
  have h := shv_fit (n := (n : Int)) ha
  by_cases hn : n ≤ 511
  · unfold shv at h
    rw [if_neg (by omega), Int.toNat_natCast, Nat.min_eq_left hn] at h
    exact h
  · have h1 := pow_pos' n
    unfold Fit at *
    have e : (2 : Int) ^ n = M511 * 2 ^ (n - 511) := by rw [M511_pow (a := 511) rfl, ← Int.pow_add, show 511 + (n - 511) = n by omega]
    have h2 := pow_pos' (n - 511)
    have h3 : M511 ≤ 2 ^ n := by
      rw [e]
      have := Int.mul_le_mul_of_nonneg_left (show (1 : Int) ≤ 2 ^ (n - 511) by omega) (show (0 : Int) ≤ M511 by unfold M511; omega)
      omega
    constructor
    · exact (Int.le_ediv_iff_mul_le h1).2 (by have := Int.mul_le_mul_of_nonneg_left (show (1 : Int) ≤ 2 ^ n by omega) (show (0 : Int) ≤ M511 by unfold M511; omega); rw [Int.neg_mul]; omega)
    · exact Int.lt_of_lt_of_le (Int.ediv_lt_of_lt_mul h1 (by have := Int.mul_le_mul_of_nonneg_left (show (1 : Int) ≤ 2 ^ n by omega) (show (0 : Int) ≤ M511 by unfold M511; omega); omega)) (Int.le_refl _)
end Go.Proofs.YtbdkbmhejoakiaaDoor
set_option linter.unusedSimpArgs false
set_option linter.unusedVariables false
set_option maxRecDepth 100000
namespace Go.Proofs.YtbdkbmhejoakiaaDoor
open Go Go.RowKit
attribute [local irreducible] wpList

set_option maxHeartbeats 1000000 in
theorem fraw_any (n : Int) (h : I64 n) (w : World) : Calls Tryd.prog 44 #[.int .i64 n] w (Ret (W n) w) := by
  have HO := Lib.hid fun w => of_i64 n h w
  clear h
  go_enter Tryd.func44, Tryd.ntmps44
  have hp := Hp.start [] w
  go_wp2_with (first
          | ((with_reducible apply sx_alloc hp); infer_instance; exact rfl; clear hp; (try clear w1); intro g w1 hp; simp only [zp, zq, z0, z1])
          | ((with_reducible apply sx_store hp); exact zt rfl; exact za rfl; exact rfl; (first | exact AggTy.size | exact OneTy.size); exact rfl; infer_instance; (first | (with_reducible exact LB_set (by omega)) | (simp only [n0, Nat.reduceAdd, n1, n2, n3, n4, n5, n6, n7, n8, n9]; try rfl)); (first | exact zl rfl | exact LB_le (by omega)); exact rfl; infer_instance; clear hp; (try clear w1); intro w1 hp)
          | ((with_reducible refine sx_call hp (HO.out _) ?_); clear hp; (try clear w1); intro w1 hp))
  exact bodyPost_ret (results_one rfl ⟨_, rfl, run_load_agg hp (Nat.le_of_ble_eq_true rfl)⟩) rfl ⟨rfl, hp.keep⟩
set_option maxHeartbeats 1000000 in
theorem fsum_any (a b : Int) (ha : Fit a) (hb : Fit b) (h : Fit (a + b)) (w : World) : Calls Tryd.prog 43 #[W a, W b] w (Ret (W (a + b)) w) := by
  have hc := add_any a b ha hb
  rw [show fz (a + b) = a + b from if_pos h] at hc
  have HC := Lib.hid hc
  clear hc ha hb h
  go_enter Tryd.func43, Tryd.ntmps43
  have hp := Hp.start [] w
  go_wp2_with (first
          | ((with_reducible apply sx_box hp); exact za rfl; exact rfl; clear hp; (try clear w1); intro g w1 hp; simp only [zp, zq, z0, z1])
          | ((with_reducible apply sx_alloc hp); infer_instance; exact rfl; clear hp; (try clear w1); intro g w1 hp; simp only [zp, zq, z0, z1])
          | ((with_reducible apply sx_load_agg hp); exact zt rfl; infer_instance; infer_instance; (first | exact zl rfl | exact LB_le (by omega)); (first | (with_reducible exact LB_set (by omega)) | (simp only [n0, Nat.reduceAdd, n1, n2, n3, n4, n5, n6, n7, n8, n9]; try rfl)); simp only [zp, zq, z0, z1])
          | ((with_reducible apply sx_store hp); exact zt rfl; exact za rfl; exact rfl; (first | exact AggTy.size | exact OneTy.size); exact rfl; infer_instance; (first | (with_reducible exact LB_set (by omega)) | (simp only [n0, Nat.reduceAdd, n1, n2, n3, n4, n5, n6, n7, n8, n9]; try rfl)); (first | exact zl rfl | exact LB_le (by omega)); exact rfl; infer_instance; clear hp; (try clear w1); intro w1 hp)
          | ((with_reducible refine sx_call hp (HC.out _) ?_); clear hp; (try clear w1); intro w1 hp))
  exact bodyPost_ret (results_one rfl ⟨_, rfl, run_load_agg hp (Nat.le_of_ble_eq_true rfl)⟩) rfl ⟨rfl, hp.keep⟩
theorem i64_add_fit {a b : Int} (ha : I64 a) (hb : I64 b) : Fit (a + b) := by unfold I64 at *; unfold Fit M511; omega
theorem i64_neg_fit {a : Int} (ha : I64 a) : Fit (-a) := by unfold I64 at *; unfold Fit M511; omega
theorem i64_sub_fit {a b : Int} (ha : I64 a) (hb : I64 b) : Fit (a + -b) := by unfold I64 at *; unfold Fit M511; omega
set_option maxHeartbeats 1000000 in
theorem fadd_any (a b : Int) (ha : I64 a) (hb : I64 b) (w : World) : Calls Tryd.prog 21 #[.int .i64 a, .int .i64 b] w (Ret (.int .i64 (cl (a + b))) w) := by
  have A1 := Lib.hid (fraw_any a ha)
  have A2 := Lib.hid (fraw_any b hb)
  have A3 := Lib.hid (fsum_any a b (fit_i64 ha) (fit_i64 hb) (i64_add_fit ha hb))
  have A4 := Lib.hid fun w => within_any (a + b) (i64_add_fit ha hb) w
  clear ha hb
  generalize a + b = s at *
  generalize cl s = r at *
  go_enter Tryd.func21, Tryd.ntmps21
  have hp := Hp.start [] w
  go_wp2_with (first
          | ((with_reducible first | refine sx_call hp (A1.out _) ?_ | refine sx_call hp (A2.out _) ?_ | refine sx_call hp (A3.out _) ?_ | refine sx_call hp (A4.out _) ?_); clear hp; (try clear w1); intro w1 hp))
  exact bodyPost_ret (results_one rfl rfl) rfl ⟨rfl, hp.keep⟩
/-! ### Quotients -/
theorem as_down (x : TypeId) (w : World) : (Instr.typeAssert (.iface 63 (.agg #[])) x 64 true).run Tryd.prog w = .ok (.tuple #[.agg #[], .bool false]) w := by
  have hz : ∀ w, (zeroValue 64).run Tryd.prog w = .ok (.agg #[]) w := fun w => by
    have : ZeroTy Tryd.prog 64 (.agg #[]) := ZeroTy.mk' (by kernel_rfl)
    exact this.zero w
  simp [Instr.typeAssert, run_underlying Tryd.underlying64, hz, Result.andThen]
set_option maxHeartbeats 1000000 in
theorem updown_any (w : World) : Calls Tryd.prog 69 #[] w (Ret (.bool false) w) := by
  have hta := as_down
  go_enter Tryd.func69, Tryd.ntmps69
  have hp := Hp.start [] w
  go_wp2_with (first
          | ((with_reducible apply sx_alloc hp); infer_instance; exact rfl; clear hp; (try clear w1); intro g w1 hp; simp only [zp, zq, z0, z1])
          | ((with_reducible apply sx_load_agg hp); exact zt rfl; infer_instance; infer_instance; (first | exact zl rfl | exact LB_le (by omega)); (first | (with_reducible exact LB_set (by omega)) | (simp only [n0, Nat.reduceAdd, n1, n2, n3, n4, n5, n6, n7, n8, n9]; try rfl)); simp only [zp, zq, z0, z1])
          | ((with_reducible apply sx_store hp); exact zt rfl; exact za rfl; exact rfl; (first | exact AggTy.size | exact OneTy.size); exact rfl; infer_instance; (first | (with_reducible exact LB_set (by omega)) | (simp only [n0, Nat.reduceAdd, n1, n2, n3, n4, n5, n6, n7, n8, n9]; try rfl)); (first | exact zl rfl | exact LB_le (by omega)); exact rfl; infer_instance; clear hp; (try clear w1); intro w1 hp))
  exact bodyPost_ret (results_one rfl rfl) rfl ⟨rfl, (((Hp.start [] w).alloc 63 []).alloc 64 []).keep⟩
set_option maxHeartbeats 2000000 in
theorem fquot_down (a b : Int) (ha : Fit a) (hb : Fit b) (w : World) : Calls Tryd.prog 63 #[W a, W b] w (Ret (W (dvq a b)) w) := by
  have HD := Lib.hid (div_any a b ha hb)
  clear ha hb
  generalize dvq a b = q at *
  generalize dvr a b = r at *
  generalize decide (dvok a b) = o at *
  go_enter Tryd.func63, Tryd.ntmps63
  have hp := Hp.start [] w
  go_wp2_with (first
          | ((with_reducible apply sx_guard); (conv => whnf); refine Bx.mk ?_; (try simp only [zp, zq, z0, z1]))
          | ((with_reducible apply sx_box hp); exact za rfl; exact rfl; clear hp; (try clear w1); intro g w1 hp; simp only [zp, zq, z0, z1])
          | ((with_reducible apply sx_alloc hp); infer_instance; exact rfl; clear hp; (try clear w1); intro g w1 hp; simp only [zp, zq, z0, z1])
          | ((with_reducible apply sx_load_agg hp); exact zt rfl; infer_instance; infer_instance; (first | exact zl rfl | exact LB_le (by omega)); (first | (with_reducible exact LB_set (by omega)) | (simp only [n0, Nat.reduceAdd, n1, n2, n3, n4, n5, n6, n7, n8, n9]; try rfl)); simp only [zp, zq, z0, z1])
          | ((with_reducible apply sx_store hp); exact zt rfl; exact za rfl; exact rfl; (first | exact AggTy.size | exact OneTy.size); exact rfl; infer_instance; (first | (with_reducible exact LB_set (by omega)) | (simp only [n0, Nat.reduceAdd, n1, n2, n3, n4, n5, n6, n7, n8, n9]; try rfl)); (first | exact zl rfl | exact LB_le (by omega)); exact rfl; infer_instance; clear hp; (try clear w1); intro w1 hp)
          | ((with_reducible first | refine sx_call hp (HD.out _) ?_ | refine sx_call hp (updown_any _) ?_); clear hp; (try clear w1); intro w1 hp))
  exact bodyPost_ret (results_one rfl ⟨_, rfl, run_load_agg hp (Nat.le_of_ble_eq_true rfl)⟩) rfl ⟨rfl, hp.keep⟩
/-- A product, rounded down, before it is brought in. -/
theorem fit_two32 : Fit 4294967296 := by unfold Fit M511; omega
theorem prod_i64 {a b : Int} (ha : I64 a) (hb : I64 b) : Fit (a * b) := by
  have := i64_mul ha hb
  unfold Fit M511
  omega
theorem dvq_32 {p : Int} (h : -85070591730234615865843651857942052864 ≤ p ∧ p ≤ 85070591730234615865843651857942052864) : dvq p 4294967296 = p / 4294967296 ∧ Fit (p / 4294967296) := by
  have e : fq p 4294967296 = p / 4294967296 := by unfold fq; rw [if_neg (by omega)]
  have hf : Fit (p / 4294967296) := by unfold Fit M511; omega
  unfold dvq
  rw [if_pos ⟨by omega, by rw [e]; exact hf⟩, e]
  exact ⟨rfl, hf⟩
set_option maxHeartbeats 2000000 in
theorem ftimes_down (a b : Int) (ha : I64 a) (hb : I64 b) (w : World) : Calls Tryd.prog 38 #[.int .i64 a, .int .i64 b] w (Ret (.int .i64 (cl (a * b / 4294967296))) w) := by
  have A1 := Lib.hid (fraw_any a ha)
  have A2 := Lib.hid (fraw_any b hb)
  have hp := prod_i64 ha hb
  obtain ⟨e, hf⟩ := dvq_32 (i64_mul ha hb)
  have hm := mul_any a b (fit_i64 ha) (fit_i64 hb)
  rw [show fz (a * b) = a * b from if_pos hp] at hm
  have A3 := Lib.hid hm
  have hq := fquot_down (a * b) 4294967296 hp fit_two32
  rw [e] at hq
  have A4 := Lib.hid hq
  have A5 := Lib.hid fun w => within_any _ hf w
  have A6 := Lib.hid fun w => of_i64 4294967296 (by unfold I64; omega) w
  clear ha hb hp e hf hm hq
  generalize decide (Fit (a * b)) = o at *
  generalize a * b = s at *
  generalize s / 4294967296 = q at *
  generalize cl q = r at *
  go_enter Tryd.func38, Tryd.ntmps38
  have hp := Hp.start [] w
  go_upto_region 2 with (first
          | ((with_reducible apply sx_alloc hp); infer_instance; exact rfl; clear hp; (try clear w1); intro g w1 hp; simp only [zp, zq, z0, z1])
          | ((with_reducible apply sx_load_agg hp); exact zt rfl; infer_instance; infer_instance; (first | exact zl rfl | exact LB_le (by omega)); (first | (with_reducible exact LB_set (by omega)) | (simp only [n0, Nat.reduceAdd, n1, n2, n3, n4, n5, n6, n7, n8, n9]; try rfl)); simp only [zp, zq, z0, z1])
          | ((with_reducible apply sx_store hp); exact zt rfl; exact za rfl; exact rfl; (first | exact AggTy.size | exact OneTy.size); exact rfl; infer_instance; (first | (with_reducible exact LB_set (by omega)) | (simp only [n0, Nat.reduceAdd, n1, n2, n3, n4, n5, n6, n7, n8, n9]; try rfl)); (first | exact zl rfl | exact LB_le (by omega)); exact rfl; infer_instance; clear hp; (try clear w1); intro w1 hp)
          | ((with_reducible first | refine sx_call hp (A1.out _) ?_ | refine sx_call hp (A2.out _) ?_ | refine sx_call hp (A3.out _) ?_); clear hp; (try clear w1); intro w1 hp))
  have hq := hp
  refine wp_drawn_hp hp hq [] (.q 0 (.l 1 (.l 2 (.l 3 (.q 4 .nil))))) (by kernel_rfl) (by kernel_rfl) ?_
  clear hp hq; (try clear w1); intro w1 hp hq
  repeat' (first
    | (((with_reducible apply sd_q); exact zo rfl); (first
        | ((with_reducible apply sd_load_agg hp); exact rfl; exact zt rfl; infer_instance; infer_instance; (first | exact zl rfl | exact LB_le (by omega)); (first | (with_reducible exact LB_set (by omega)) | (simp only [n0, Nat.reduceAdd, n1, n2, n3, n4, n5, n6, n7, n8, n9]; try rfl)); simp only [zp, zq, z0, z1])
        | ((with_reducible apply sd_assign hp); exact zi rfl; simp only [zp, zq, z0, z1])
        | ((with_reducible apply sd_pure hp); exact rfl; (focus (intro _; go_simp; (try go_ints); try with_reducible rfl)); simp only [zp, zq, z0, z1])))
    | (((with_reducible apply sd_l); exact zo rfl); ((with_reducible apply sd_call hp); exact rfl; (focus (intro _; go_simp; try first | with_reducible rfl | exact ⟨rfl, rfl⟩)); (with_reducible first | exact fun w => A4.out w | exact fun w => A5.out w | exact fun w => A6.out w); exact hq; clear hp hq; (try clear w1); intro w1 hp hq; simp only [zp, zq, z0, z1]))
    | ((with_reducible apply sd_nil); clear hp; have hp := hq; clear hq))
  go_wp2
  exact bodyPost_ret (results_one rfl rfl) rfl ⟨rfl, hp.keep⟩
theorem fmul_any (a b : Int) (ha : I64 a) (hb : I64 b) (w : World) : Calls Tryd.prog 17 #[.int .i64 a, .int .i64 b] w (Ret (.int .i64 (cl (a * b / 4294967296))) w) := by
  have A1 := Lib.hid (ftimes_down a b ha hb)
  clear ha hb
  generalize cl (a * b / 4294967296) = r at *
  go_enter Tryd.func17, Tryd.ntmps17
  have hp := Hp.start [] w
  go_wp2_with (first
          | ((with_reducible refine sx_call hp (A1.out _) ?_); clear hp; (try clear w1); intro w1 hp))
  exact bodyPost_ret (results_one rfl rfl) rfl ⟨rfl, hp.keep⟩
/-- What the document's Quotient hands back. -/
def qv (a b : Int) (up : Bool) : Int := if up = true ∧ dvr a b ≠ 0 then dvq a b + 1 else dvq a b
theorem sgn_zero {n : Int} : sgn n = 0 ↔ n = 0 := by unfold sgn; split <;> (try split) <;> omega
theorem dvq_fit (a b : Int) : Fit (dvq a b) := by
  unfold dvq
  split
  · rename_i h; exact h.2
  · exact fit_zero
end Go.Proofs.YtbdkbmhejoakiaaDoor
