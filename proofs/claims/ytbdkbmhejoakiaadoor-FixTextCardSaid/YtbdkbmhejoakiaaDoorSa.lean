/-
  Package wide: Sqrt (contract).
-/
import Derived.Test.YtbdkbmhejoakiaaDoorJd
import Derived.Test.YtbdkbmhejoakiaaDoorDc
set_option linter.unusedSimpArgs false
set_option linter.unusedVariables false
set_option maxRecDepth 100000
namespace Go.Proofs.YtbdkbmhejoakiaaDoor
open Go Go.RowKit
attribute [local irreducible] wpList

/-- The root of a number, rounded down. -/
def rtN : Nat → Nat
  | 0 => 0
  | n + 1 => if (rtN n + 1) * (rtN n + 1) ≤ n + 1 then rtN n + 1 else rtN n
theorem rtN_spec : ∀ n, rtN n * rtN n ≤ n ∧ n < (rtN n + 1) * (rtN n + 1)
  | 0 => by simp [rtN]
  | n + 1 => by
    obtain ⟨h1, h2⟩ := rtN_spec n
    unfold rtN
    split
    · rename_i h
      refine ⟨h, ?_⟩
      generalize rtN n = r at *
      have : (r + 1 + 1) * (r + 1 + 1) = (r + 1) * (r + 1) + 2 * r + 3 := by grind
      omega
    · exact ⟨by omega, by omega⟩
def rt (n : Int) : Int := rtN n.toNat
theorem rt_nonneg (n : Int) : 0 ≤ rt n := by unfold rt; omega
theorem rt_spec {n : Int} (h : 0 ≤ n) : rt n * rt n ≤ n ∧ n < (rt n + 1) * (rt n + 1) := by
  obtain ⟨h1, h2⟩ := rtN_spec n.toNat
  unfold rt
  have e1 : ((rtN n.toNat : Nat) : Int) * (rtN n.toNat : Nat) = ((rtN n.toNat * rtN n.toNat : Nat) : Int) := by simp
  have e2 : (((rtN n.toNat : Nat) : Int) + 1) * ((rtN n.toNat : Nat) + 1) = (((rtN n.toNat + 1) * (rtN n.toNat + 1) : Nat) : Int) := by simp
  rw [e1, e2]
  omega
theorem sq_mono {a b : Int} (h0 : 0 ≤ a) (h : a ≤ b) : a * a ≤ b * b := Int.mul_le_mul h h h0 (by omega)
theorem le_rt {n m : Int} (h : 0 ≤ n) (hm : 0 ≤ m) : m ≤ rt n ↔ m * m ≤ n := by
  obtain ⟨h1, h2⟩ := rt_spec h
  have h0 := rt_nonneg n
  constructor
  · intro h3
    have := sq_mono hm h3
    omega
  · intro h3
    by_cases h4 : m ≤ rt n
    · exact h4
    · have := sq_mono (a := rt n + 1) (b := m) (by omega) (by omega)
      omega
theorem rt_uniq {n r : Int} (h0 : 0 ≤ r) (h1 : r * r ≤ n) (h2 : n < (r + 1) * (r + 1)) : rt n = r := by
  have hn : 0 ≤ n := by have := Int.mul_nonneg h0 h0; omega
  have h3 := (le_rt hn h0).2 h1
  have h4 : ¬ r + 1 ≤ rt n := fun h => by
    have := (le_rt hn (by omega)).1 h
    omega
  omega
/-- The bits of r above bit i. -/
def hi (r : Int) (i : Nat) : Int := r / 2 ^ i * 2 ^ i
theorem hi_zero (r : Int) : hi r 0 = r := by simp [hi]
theorem hi_mult (r : Int) (i : Nat) : hi r i % 2 ^ i = 0 := Int.mul_emod_left _ _
theorem hi_nonneg {r : Int} (h : 0 ≤ r) (i : Nat) : 0 ≤ hi r i := Int.mul_nonneg (Int.ediv_nonneg h (Int.le_of_lt (pow_pos' i))) (Int.le_of_lt (pow_pos' i))
theorem hi_le {r : Int} (i : Nat) : hi r i ≤ r := Int.ediv_mul_le _ (by have := pow_pos' i; omega)
theorem hi_small {r : Int} (h : 0 ≤ r) {i : Nat} (h1 : r < 2 ^ i) : hi r i = 0 := by
  unfold hi
  rw [Int.ediv_eq_zero_of_lt h h1, Int.zero_mul]
theorem hi_step {r : Int} (h : 0 ≤ r) (i : Nat) : (hi r (i + 1) + 2 ^ i ≤ r → hi r i = hi r (i + 1) + 2 ^ i) ∧ (¬ hi r (i + 1) + 2 ^ i ≤ r → hi r i = hi r (i + 1)) := by
  unfold hi
  have hp := pow_pos' i
  have e : (2 : Int) ^ (i + 1) = 2 ^ i * 2 := Int.pow_succ _ _
  have e2 : r / 2 ^ (i + 1) = r / 2 ^ i / 2 := by rw [e, Int.ediv_ediv_of_nonneg (Int.le_of_lt hp)]
  rw [e2, e]
  have hr := Int.mul_ediv_add_emod r (2 ^ i)
  have h0 := Int.emod_nonneg r (show (2 : Int) ^ i ≠ 0 by omega)
  have h1 := Int.emod_lt_of_pos r hp
  generalize (2 : Int) ^ i = P at *
  generalize r / P = q at *
  generalize r % P = t at *
  have e3 : q / 2 * (P * 2) = (q / 2 * 2) * P := by grind
  rw [e3]
  have e4 : P * q = q * P := Int.mul_comm _ _
  rcases (show q = q / 2 * 2 ∨ q = q / 2 * 2 + 1 by omega) with hq | hq
  · generalize q / 2 * 2 = f at *
    subst hq
    exact ⟨fun _ => by omega, fun _ => rfl⟩
  · generalize q / 2 * 2 = f at *
    subst hq
    rw [Int.add_mul, Int.one_mul] at e4 ⊢
    exact ⟨fun _ => rfl, fun _ => by omega⟩
theorem rt_room {a : Int} (h0 : 0 ≤ a) (n : Nat) (h : a < 2 ^ n) : rt a < 2 ^ ((n + 1) / 2) := by
  by_cases h1 : rt a < 2 ^ ((n + 1) / 2)
  · exact h1
  · exfalso
    have h2 := (le_rt h0 (Int.le_of_lt (pow_pos' ((n + 1) / 2)))).1 (by omega)
    rw [← Int.pow_add] at h2
    have h3 := psplit (i := (n + 1) / 2 + (n + 1) / 2) (j := n) (by omega)
    have h4 := pow_pos' ((n + 1) / 2 + (n + 1) / 2 - n)
    have h5 := Int.mul_le_mul_of_nonneg_left (show (1 : Int) ≤ 2 ^ ((n + 1) / 2 + (n + 1) / 2 - n) by omega) (Int.le_of_lt (pow_pos' n))
    omega
theorem cmp_le {a b : Int} : cmp a b ≤ 0 ↔ a ≤ b := by
  unfold cmp
  split
  · exact ⟨fun _ => by omega, fun _ => by omega⟩
  · split
    · exact ⟨fun _ => by omega, fun _ => by omega⟩
    · exact ⟨fun _ => by omega, fun _ => by omega⟩
set_option maxHeartbeats 1000000 in
theorem sqrt_neg (a : Int) (ha : Fit a) (h : a < 0) (w : World) : Calls Tryd.prog 68 #[W a] w (Ret (.tuple #[.agg #[.int .u64 0, .int .u64 0, .int .u64 0, .int .u64 0, .int .u64 0, .int .u64 0, .int .u64 0, .int .u64 0], .bool false]) w) := by
  have HN := Lib.hid (negT a (by rw [ng_fit ha]; simpa using h))
  clear ha h
  go_enter Tryd.func68, Tryd.ntmps68
  have hp := Hp.start [] w
  go_wp2_with (first
          | ((with_reducible apply sx_box hp); exact za rfl; exact rfl; clear hp; (try clear w1); intro g w1 hp; simp only [zp, zq, z0, z1])
          | ((with_reducible apply sx_alloc hp); infer_instance; exact rfl; clear hp; (try clear w1); intro g w1 hp; simp only [zp, zq, z0, z1])
          | ((with_reducible apply sx_load_agg hp); exact zt rfl; infer_instance; infer_instance; (first | exact zl rfl | exact LB_le (by omega)); (first | (with_reducible exact LB_set (by omega)) | (simp only [n0, Nat.reduceAdd, n1, n2, n3, n4, n5, n6, n7, n8, n9]; try rfl)); simp only [zp, zq, z0, z1])
          | ((with_reducible apply sx_load_one hp); exact zt rfl; infer_instance; infer_instance; (first | exact zio rfl | exact LB_get (by omega)); simp only [zp, zq, z0, z1])
          | ((with_reducible apply sx_store hp); exact zt rfl; (first | exact za rfl | exact zi rfl); exact rfl; (first | exact AggTy.size | exact OneTy.size); exact rfl; infer_instance; (first | (with_reducible exact LB_set (by omega)) | (simp only [n0, Nat.reduceAdd, n1, n2, n3, n4, n5, n6, n7, n8, n9]; try rfl)); (first | exact zl rfl | exact LB_le (by omega)); exact rfl; infer_instance; clear hp; (try clear w1); intro w1 hp)
          | ((with_reducible refine sx_call hp (HN.out _) ?_); clear hp; (try clear w1); intro w1 hp))
  exact bodyPost_ret (results_two rfl ⟨_, rfl, run_load_agg hp (Nat.le_of_ble_eq_true rfl)⟩ rfl) rfl ⟨rfl, hp.keep⟩
set_option maxHeartbeats 8000000 in
theorem sqrt_core (a r : Int) (n : Nat) (hn : n ≤ 512) (HN : Hid (∀ w, Calls Tryd.prog 50 #[W a] w (Ret (.bool false) w)))
    (HB : Hid (∀ w, Calls Tryd.prog 61 #[W a] w (Ret (.int .i64 (n : Int)) w))) (R0 : Hid (0 ≤ r)) (R1 : Hid (r < 2 ^ ((n + 1) / 2))) (RL : Hid (∀ m, 0 ≤ m → (m ≤ r ↔ m * m ≤ a))) (HF : Hid (Fit a)) (w : World) :
    Calls Tryd.prog 68 #[W a] w (Ret (.tuple #[W r, .bool true]) w) := by
  go_enter Tryd.func68, Tryd.ntmps68
  have hp := Hp.start [] w
  go_wp2_with (first
          | ((with_reducible apply sx_box hp); exact za rfl; exact rfl; clear hp; (try clear w1); intro g w1 hp; simp only [zp, zq, z0, z1])
          | ((with_reducible apply sx_alloc hp); infer_instance; exact rfl; clear hp; (try clear w1); intro g w1 hp; simp only [zp, zq, z0, z1])
          | ((with_reducible apply sx_load_agg hp); exact zt rfl; infer_instance; infer_instance; (first | exact zl rfl | exact LB_le (by omega)); (first | (with_reducible exact LB_set (by omega)) | (simp only [n0, Nat.reduceAdd, n1, n2, n3, n4, n5, n6, n7, n8, n9]; try rfl)); simp only [zp, zq, z0, z1])
          | ((with_reducible apply sx_load_one hp); exact zt rfl; infer_instance; infer_instance; (first | exact zio rfl | exact LB_get (by omega)); simp only [zp, zq, z0, z1])
          | ((with_reducible apply sx_store hp); exact zt rfl; (first | exact za rfl | exact zi rfl); exact rfl; (first | exact AggTy.size | exact OneTy.size); exact rfl; infer_instance; (first | (with_reducible exact LB_set (by omega)) | (simp only [n0, Nat.reduceAdd, n1, n2, n3, n4, n5, n6, n7, n8, n9]; try rfl)); (first | exact zl rfl | exact LB_le (by omega)); exact rfl; infer_instance; clear hp; (try clear w1); intro w1 hp)
          | ((with_reducible first | refine sx_call hp (HN.out _) ?_ | refine sx_call hp (HB.out _) ?_); clear hp; (try clear w1); intro w1 hp))
  rename_i ga gp K hK
  obtain ⟨gr, rfl⟩ : ∃ k : Nat, k = g := ⟨_, rfl⟩
  obtain ⟨m, hm⟩ : ∃ m : Nat, m = (n + 1) / 2 := ⟨_, rfl⟩
  rw [show ((n : Int) + 1) / 2 = (m : Int) by omega]
  rw [← hm] at R1
  have hm1 : m ≤ 256 := by omega
  have hm2 : (2 : Int) ^ m ≤ 115792089237316195423570985008687907853269984665640564039457584007913129639936 := by
    have h9 : (2 : Int) ^ 256 = 115792089237316195423570985008687907853269984665640564039457584007913129639936 := rfl
    have h1 := psplit (i := 256) (j := m) hm1
    have h2 := pow_pos' (256 - m)
    have h3 := Int.mul_le_mul_of_nonneg_left (show (1 : Int) ≤ 2 ^ (256 - m) by omega) (Int.le_of_lt (pow_pos' m))
    omega
  have RB := Lib.hid (show r < 115792089237316195423570985008687907853269984665640564039457584007913129639936 by have := R1.out; omega)
  clear hm hm2 HB HN
  go_loopw [5] (fun iv wr => ∃ k : Nat, k ≤ m + 1 ∧ iv = .int .i64 ((k : Int) - 1) ∧ Hp [] w [⟨gr, 38, [.int .u64 (lb (hi r k) 0), .int .u64 (lb (hi r k) 1), .int .u64 (lb (hi r k) 2), .int .u64 (lb (hi r k) 3), .int .u64 (lb (hi r k) 4), .int .u64 (lb (hi r k) 5), .int .u64 (lb (hi r k) 6), .int .u64 (lb (hi r k) 7)]⟩, ⟨gp, 38, [.int .u64 0, .int .u64 0, .int .u64 0, .int .u64 0, .int .u64 0, .int .u64 0, .int .u64 0, .int .u64 0]⟩, ⟨ga, 38, [.int .u64 (lb (a) 0), .int .u64 (lb (a) 1), .int .u64 (lb (a) 2), .int .u64 (lb (a) 3), .int .u64 (lb (a) 4), .int .u64 (lb (a) 5), .int .u64 (lb (a) 6), .int .u64 (lb (a) 7)]⟩] wr) (fun iv _ => (intOf iv + 1).toNat)
  case atStart =>
    refine ⟨m + 1, by omega, by go_num, ?_⟩
    rw [hi_small R0.out (by have h1 := R1.out; have h2 : (2 : Int) ^ (m + 1) = 2 ^ m * 2 := Int.pow_succ _ _; have := pow_pos' m; omega)]
    simp only [lb_zero]
    exact hp
  case round =>
    clear hp
    obtain ⟨k, hk, rfl, hp⟩ := hrel
    cases k with
    | zero =>
      rw [show (((0 : Nat)) : Int) - 1 = -1 from rfl]
      rw [hi_zero] at hp
      go_wp2_with (first
          | ((with_reducible apply sx_box hp); exact za rfl; exact rfl; clear hp; (try clear w1); intro g w1 hp; simp only [zp, zq, z0, z1])
          | ((with_reducible apply sx_alloc hp); infer_instance; exact rfl; clear hp; (try clear w1); intro g w1 hp; simp only [zp, zq, z0, z1])
          | ((with_reducible apply sx_load_agg hp); exact zt rfl; infer_instance; infer_instance; (first | exact zl rfl | exact LB_le (by omega)); (first | (with_reducible exact LB_set (by omega)) | (simp only [n0, Nat.reduceAdd, n1, n2, n3, n4, n5, n6, n7, n8, n9]; try rfl)); simp only [zp, zq, z0, z1])
          | ((with_reducible apply sx_load_one hp); exact zt rfl; infer_instance; infer_instance; (first | exact zio rfl | exact LB_get (by omega)); simp only [zp, zq, z0, z1])
          | ((with_reducible apply sx_store hp); exact zt rfl; (first | exact za rfl | exact zi rfl); exact rfl; (first | exact AggTy.size | exact OneTy.size); exact rfl; infer_instance; (first | (with_reducible exact LB_set (by omega)) | (simp only [n0, Nat.reduceAdd, n1, n2, n3, n4, n5, n6, n7, n8, n9]; try rfl)); (first | exact zl rfl | exact LB_le (by omega)); exact rfl; infer_instance; clear hp; (try clear w1); intro w1 hp))
      exact bodyPost_ret (results_two rfl ⟨_, rfl, run_load_agg hp (Nat.le_of_ble_eq_true rfl)⟩ rfl) rfl ⟨rfl, hp.keep⟩
    | succ i =>
      rw [show ((i + 1 : Nat) : Int) - 1 = (i : Int) by omega]
      have hi5 : i < 257 := by omega
      have hst := hi_step R0.out i
      have hml := hi_mult r (i + 1)
      have h0 := hi_nonneg R0.out (i + 1)
      have h1 := hi_le (r := r) (i + 1)
      have hp2 : (2 : Int) ^ i ≤ 115792089237316195423570985008687907853269984665640564039457584007913129639936 := by
        have h9 : (2 : Int) ^ 256 = 115792089237316195423570985008687907853269984665640564039457584007913129639936 := rfl
        have h1 := psplit (i := 256) (j := i) (by omega)
        have h2 := pow_pos' (256 - i)
        have h3 := Int.mul_le_mul_of_nonneg_left (show (1 : Int) ≤ 2 ^ (256 - i) by omega) (Int.le_of_lt (pow_pos' i))
        omega
      have hpi := pow_pos' i
      have HSB := Lib.hid (set_bit hml)
      obtain ⟨M, hM⟩ : ∃ M, M = hi r (i + 1) + 2 ^ i := ⟨_, rfl⟩
      rw [← hM] at hst HSB
      have hM0 : 0 ≤ M := by omega
      have hMF : Fit M := by
        have h9 := RB.out
        unfold Fit M511
        omega
      have hrl := RL.out M hM0
      have HMU := Lib.hid (mul_any M M hMF hMF)
      have hsq0 := Int.mul_nonneg hM0 hM0
      have hq0 : (0 : Int) ≤ (i : Int) / 64 := by omega
      have hq1 : (i : Int) / 64 < 8 := by omega
      have hq2 : (0 : Int) ≤ (i : Int) % 64 := by omega
      have HST := Lib.hid hst
      have HRL := Lib.hid hrl
      have HSQ := Lib.hid hsq0
      have HM := Lib.hid hM
      clear hst hml h0 h1 hp2 hpi hM hM0 hMF hrl hsq0
      generalize hi r (i + 1) = R at *
      go_upto_region 8 with (first
          | ((with_reducible apply sx_box hp); exact za rfl; exact rfl; clear hp; (try clear w1); intro g w1 hp; simp only [zp, zq, z0, z1])
          | ((with_reducible apply sx_alloc hp); infer_instance; exact rfl; clear hp; (try clear w1); intro g w1 hp; simp only [zp, zq, z0, z1])
          | ((with_reducible apply sx_load_agg hp); exact zt rfl; infer_instance; infer_instance; (first | exact zl rfl | exact LB_le (by omega)); (first | (with_reducible exact LB_set (by omega)) | (simp only [n0, Nat.reduceAdd, n1, n2, n3, n4, n5, n6, n7, n8, n9]; try rfl)); simp only [zp, zq, z0, z1])
          | ((with_reducible apply sx_load_one hp); exact zt rfl; infer_instance; infer_instance; (first | exact zio rfl | exact LB_get (by omega)); simp only [zp, zq, z0, z1])
          | ((with_reducible apply sx_store hp); exact zt rfl; (first | exact za rfl | exact zi rfl); exact rfl; (first | exact AggTy.size | exact OneTy.size); exact rfl; infer_instance; (first | (with_reducible exact LB_set (by omega)) | (simp only [n0, Nat.reduceAdd, n1, n2, n3, n4, n5, n6, n7, n8, n9]; try rfl)); (first | exact zl rfl | exact LB_le (by omega)); exact rfl; infer_instance; clear hp; (try clear w1); intro w1 hp))
      obtain ⟨gm, rfl⟩ : ∃ k : Nat, k = g := ⟨_, rfl⟩
      have hp' : Hp [] w [⟨gm, 38, LB (lb R)⟩, ⟨gr, 38, [.int .u64 (lb (R) 0), .int .u64 (lb (R) 1), .int .u64 (lb (R) 2), .int .u64 (lb (R) 3), .int .u64 (lb (R) 4), .int .u64 (lb (R) 5), .int .u64 (lb (R) 6), .int .u64 (lb (R) 7)]⟩, ⟨gp, 38, [.int .u64 0, .int .u64 0, .int .u64 0, .int .u64 0, .int .u64 0, .int .u64 0, .int .u64 0, .int .u64 0]⟩, ⟨ga, 38, [.int .u64 (lb (a) 0), .int .u64 (lb (a) 1), .int .u64 (lb (a) 2), .int .u64 (lb (a) 3), .int .u64 (lb (a) 4), .int .u64 (lb (a) 5), .int .u64 (lb (a) 6), .int .u64 (lb (a) 7)]⟩] w1 := hp
      clear hp
      have hp := hp'
      clear hp'
      have hq := hp
      refine wp_drawn_hp hp hq [11] (.q 0 (.q 1 (.q 2 (.q 3 (.q 4 (.q 5 (.q 6 (.q 7 (.q 8 (.l 9 (.q 10 (.l 11 .nil)))))))))))) (by kernel_rfl) (by kernel_rfl) ?_
      clear hp hq; (try clear w1); intro w1 hp hq
      repeat' (first
        | (((with_reducible apply sd_q); exact zo rfl); (first
            | ((with_reducible apply sd_load_one hp); exact rfl; exact zt rfl; infer_instance; infer_instance; (first | exact zio rfl | exact LB_get (by omega)); simp only [zp, zq, z0, z1])
            | ((with_reducible apply sd_move hp); exact zi rfl; simp only [zp, zq, z0, z1])
            | ((with_reducible apply sd_indexAddr hp); exact rfl; exact zx rfl; exact zk rfl; infer_instance; (first | exact AggTy.size | exact OneTy.size); omega; omega; ((try simp only [m0, Int.reduceToNat, m1, m2, Nat.reduceMul, Nat.reduceAdd, m3, m4, m5, n0]); exact rfl); simp only [zp, zq, z0, z1])
            | ((with_reducible apply sd_pure hp); exact rfl; (focus (intro _; go_simp; (try go_ints); try with_reducible rfl)); simp only [zp, zq, z0, z1])))
        | (((with_reducible apply sd_l); exact zo rfl); (first
            | ((with_reducible apply sd_store_far hq); exact rfl; exact zt rfl; (first | exact za rfl | exact zu rfl | exact zi rfl | exact zb rfl | exact zr rfl | exact zs rfl | exact zf rfl | exact zg rfl | exact zn rfl | exact zv rfl | exact zw rfl); exact rfl; (first | exact AggTy.size | exact OneTy.size); exact rfl; infer_instance; (first | (with_reducible exact LB_set (by omega)) | (simp only [n0, Nat.reduceAdd, n1, n2, n3, n4, n5, n6, n7, n8, n9]; try rfl)); (first | exact zl rfl | exact LB_le (by omega)); exact rfl; infer_instance; (repeat (first | exact List.Sublist.refl _ | apply List.Sublist.cons)); clear hp hq; (try clear w1); intro w1 hp hq)
            | ((with_reducible apply sd_store hq); exact rfl; exact zt rfl; (first | exact za rfl | exact zu rfl | exact zi rfl | exact zb rfl | exact zr rfl | exact zs rfl | exact zf rfl | exact zg rfl | exact zn rfl | exact zv rfl | exact zw rfl); exact rfl; (first | exact AggTy.size | exact OneTy.size); exact rfl; infer_instance; (first | (with_reducible exact LB_set (by omega)) | (simp only [n0, Nat.reduceAdd, n1, n2, n3, n4, n5, n6, n7, n8, n9]; try rfl)); (first | exact zl rfl | exact LB_le (by omega)); exact rfl; infer_instance; exact rfl; clear hp hq; (try clear w1); intro w1 hq; have hp := True.intro)
            | ((with_reducible apply sd_lpure hp); exact rfl; (focus (intro _; go_simp; (try go_ints); try with_reducible rfl)); simp only [zp, zq, z0, z1])))
        | ((with_reducible apply sd_nil); clear hp; have hp := hq; clear hq))
      rw [bit_wrap _ (by omega)] at hp
      rw [HSB.out] at hp
      have hp' : Hp [] w [⟨gm, 38, [.int .u64 (lb (M) 0), .int .u64 (lb (M) 1), .int .u64 (lb (M) 2), .int .u64 (lb (M) 3), .int .u64 (lb (M) 4), .int .u64 (lb (M) 5), .int .u64 (lb (M) 6), .int .u64 (lb (M) 7)]⟩, ⟨gr, 38, [.int .u64 (lb (R) 0), .int .u64 (lb (R) 1), .int .u64 (lb (R) 2), .int .u64 (lb (R) 3), .int .u64 (lb (R) 4), .int .u64 (lb (R) 5), .int .u64 (lb (R) 6), .int .u64 (lb (R) 7)]⟩, ⟨gp, 38, [.int .u64 0, .int .u64 0, .int .u64 0, .int .u64 0, .int .u64 0, .int .u64 0, .int .u64 0, .int .u64 0]⟩, ⟨ga, 38, [.int .u64 (lb (a) 0), .int .u64 (lb (a) 1), .int .u64 (lb (a) 2), .int .u64 (lb (a) 3), .int .u64 (lb (a) 4), .int .u64 (lb (a) 5), .int .u64 (lb (a) 6), .int .u64 (lb (a) 7)]⟩] w1 := hp
      clear hp HSB
      have hp := hp'
      clear hp' hq0 hq1 hq2
      have hmu := HMU.out
      by_cases hle : M * M ≤ a
      · have hF : Fit (M * M) := by
          have h9 := HF.out
          have h8 := HSQ.out
          unfold Fit M511 at *
          omega
        have hmr : M ≤ r := HRL.out.2 hle
        have HR' := Lib.hid (HST.out.1 hmr)
        rw [show fz (M * M) = M * M from if_pos hF, decide_eq_true hF] at hmu
        have HM2 := Lib.hid hmu
        have CM := Lib.hid (cmp_any (M * M) a hF HF.out)
        have hcm : cmp (M * M) a ≤ 0 := cmp_le.2 hle
        clear hmu HMU hF hle hmr HRL HST HSQ RL HF R0 R1 RB
        generalize cmp (M * M) a = c at *
        generalize M * M = q at *
        go_wp2_with (first
          | ((with_reducible apply sx_guard); (conv => whnf); refine Bx.mk ?_; (try simp only [zp, zq, z0, z1]))
          | ((with_reducible apply sx_box hp); exact za rfl; exact rfl; clear hp; (try clear w1); intro g w1 hp; simp only [zp, zq, z0, z1])
          | ((with_reducible apply sx_alloc hp); infer_instance; exact rfl; clear hp; (try clear w1); intro g w1 hp; simp only [zp, zq, z0, z1])
          | ((with_reducible apply sx_load_agg hp); exact zt rfl; infer_instance; infer_instance; (first | exact zl rfl | exact LB_le (by omega)); (first | (with_reducible exact LB_set (by omega)) | (simp only [n0, Nat.reduceAdd, n1, n2, n3, n4, n5, n6, n7, n8, n9]; try rfl)); simp only [zp, zq, z0, z1])
          | ((with_reducible apply sx_load_one hp); exact zt rfl; infer_instance; infer_instance; (first | exact zio rfl | exact LB_get (by omega)); simp only [zp, zq, z0, z1])
          | ((with_reducible apply sx_store hp); exact zt rfl; (first | exact za rfl | exact zi rfl); exact rfl; (first | exact AggTy.size | exact OneTy.size); exact rfl; infer_instance; (first | (with_reducible exact LB_set (by omega)) | (simp only [n0, Nat.reduceAdd, n1, n2, n3, n4, n5, n6, n7, n8, n9]; try rfl)); (first | exact zl rfl | exact LB_le (by omega)); exact rfl; infer_instance; clear hp; (try clear w1); intro w1 hp)
          | ((with_reducible first | refine sx_call hp (HM2.out _) ?_ | refine sx_call hp (CM.out _) ?_); clear hp; (try clear w1); intro w1 hp))
        go_roundw
        case rel =>
          refine ⟨i, by omega, rfl, ?_⟩
          rw [HR'.out]
          exact hp.sub (by repeat (first | exact List.Sublist.refl _ | apply List.Sublist.cons_cons | apply List.Sublist.cons))
        case measure => simp [intOf]
      · have hmr : ¬ M ≤ r := fun h => hle (HRL.out.1 h)
        have HR' := Lib.hid (HST.out.2 hmr)
        by_cases hF : Fit (M * M)
        · rw [show fz (M * M) = M * M from if_pos hF, decide_eq_true hF] at hmu
          have HM2 := Lib.hid hmu
          have CM := Lib.hid (cmp_any (M * M) a hF HF.out)
          have hcm : ¬ cmp (M * M) a ≤ 0 := fun h => hle (cmp_le.1 h)
          clear hmu HMU hF hle hmr HRL HST HSQ RL HF R0 R1 RB
          generalize cmp (M * M) a = c at *
          generalize M * M = q at *
          go_wp2_with (first
          | ((with_reducible apply sx_guard); (conv => whnf); refine Bx.mk ?_; (try simp only [zp, zq, z0, z1]))
          | ((with_reducible apply sx_box hp); exact za rfl; exact rfl; clear hp; (try clear w1); intro g w1 hp; simp only [zp, zq, z0, z1])
          | ((with_reducible apply sx_alloc hp); infer_instance; exact rfl; clear hp; (try clear w1); intro g w1 hp; simp only [zp, zq, z0, z1])
          | ((with_reducible apply sx_load_agg hp); exact zt rfl; infer_instance; infer_instance; (first | exact zl rfl | exact LB_le (by omega)); (first | (with_reducible exact LB_set (by omega)) | (simp only [n0, Nat.reduceAdd, n1, n2, n3, n4, n5, n6, n7, n8, n9]; try rfl)); simp only [zp, zq, z0, z1])
          | ((with_reducible apply sx_load_one hp); exact zt rfl; infer_instance; infer_instance; (first | exact zio rfl | exact LB_get (by omega)); simp only [zp, zq, z0, z1])
          | ((with_reducible apply sx_store hp); exact zt rfl; (first | exact za rfl | exact zi rfl); exact rfl; (first | exact AggTy.size | exact OneTy.size); exact rfl; infer_instance; (first | (with_reducible exact LB_set (by omega)) | (simp only [n0, Nat.reduceAdd, n1, n2, n3, n4, n5, n6, n7, n8, n9]; try rfl)); (first | exact zl rfl | exact LB_le (by omega)); exact rfl; infer_instance; clear hp; (try clear w1); intro w1 hp)
          | ((with_reducible first | refine sx_call hp (HM2.out _) ?_ | refine sx_call hp (CM.out _) ?_); clear hp; (try clear w1); intro w1 hp))
          go_roundw
          case rel =>
            refine ⟨i, by omega, rfl, ?_⟩
            rw [HR'.out]
            exact hp.sub (by repeat (first | exact List.Sublist.refl _ | apply List.Sublist.cons_cons | apply List.Sublist.cons))
          case measure => simp [intOf]
        · rw [decide_eq_false hF] at hmu
          have HM2 := Lib.hid hmu
          clear hmu HMU hF hle hmr HRL HST HSQ RL HF R0 R1 RB
          generalize fz (M * M) = q at *
          go_wp2_with (first
          | ((with_reducible apply sx_guard); (conv => whnf); refine Bx.mk ?_; (try simp only [zp, zq, z0, z1]))
          | ((with_reducible apply sx_box hp); exact za rfl; exact rfl; clear hp; (try clear w1); intro g w1 hp; simp only [zp, zq, z0, z1])
          | ((with_reducible apply sx_alloc hp); infer_instance; exact rfl; clear hp; (try clear w1); intro g w1 hp; simp only [zp, zq, z0, z1])
          | ((with_reducible apply sx_load_agg hp); exact zt rfl; infer_instance; infer_instance; (first | exact zl rfl | exact LB_le (by omega)); (first | (with_reducible exact LB_set (by omega)) | (simp only [n0, Nat.reduceAdd, n1, n2, n3, n4, n5, n6, n7, n8, n9]; try rfl)); simp only [zp, zq, z0, z1])
          | ((with_reducible apply sx_load_one hp); exact zt rfl; infer_instance; infer_instance; (first | exact zio rfl | exact LB_get (by omega)); simp only [zp, zq, z0, z1])
          | ((with_reducible apply sx_store hp); exact zt rfl; (first | exact za rfl | exact zi rfl); exact rfl; (first | exact AggTy.size | exact OneTy.size); exact rfl; infer_instance; (first | (with_reducible exact LB_set (by omega)) | (simp only [n0, Nat.reduceAdd, n1, n2, n3, n4, n5, n6, n7, n8, n9]; try rfl)); (first | exact zl rfl | exact LB_le (by omega)); exact rfl; infer_instance; clear hp; (try clear w1); intro w1 hp)
          | ((with_reducible refine sx_call hp (HM2.out _) ?_); clear hp; (try clear w1); intro w1 hp))
          go_roundw
          case rel =>
            refine ⟨i, by omega, rfl, ?_⟩
            rw [HR'.out]
            exact hp.sub (by repeat (first | exact List.Sublist.refl _ | apply List.Sublist.cons_cons | apply List.Sublist.cons))
          case measure => simp [intOf]
/-- What Sqrt hands back. -/
def sqv (a : Int) : Int := if 0 ≤ a then rt a else 0
theorem sqrt_any (a : Int) (ha : Fit a) (w : World) : Calls Tryd.prog 68 #[W a] w (Ret (.tuple #[W (sqv a), .bool (decide (0 ≤ a))]) w) := by
  unfold sqv
  by_cases h : 0 ≤ a
  · rw [if_pos h, decide_eq_true h]
    have e : sz a = a := by rw [sz_is ha, if_neg (by omega)]
    have h1 : a < M512 := by unfold Fit M511 at ha; unfold M512; omega
    have hb := nb_le h h1
    refine sqrt_core a (rt a) (nb a) (by omega) (Lib.hid (negF a (by rw [ng_fit ha]; simp; omega))) (Lib.hid fun w => ?_) (Lib.hid (rt_nonneg a)) (Lib.hid (rt_room h _ (nb_spec h).1)) (Lib.hid fun m hm => le_rt h hm) (Lib.hid ha) w
    have := bits_any a (by omega) (by omega) w
    rw [e] at this
    exact this
  · rw [if_neg h, decide_eq_false h, W_zero]
    exact sqrt_neg a ha (by omega) w
end Go.Proofs.YtbdkbmhejoakiaaDoor
