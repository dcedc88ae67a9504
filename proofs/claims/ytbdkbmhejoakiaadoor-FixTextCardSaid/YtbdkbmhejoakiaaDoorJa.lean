/-
  Package wide: Shr (contract).
-/
import Derived.Test.YtbdkbmhejoakiaaDoorDb
import Derived.Test.YtbdkbmhejoakiaaDoorDd
import Derived.Test.YtbdkbmhejoakiaaDoorBg
set_option linter.unusedSimpArgs false
set_option linter.unusedVariables false
set_option maxRecDepth 100000
namespace Go.Proofs.YtbdkbmhejoakiaaDoor
open Go Go.RowKit

/-- What stands above the highest limb. -/
def flb (a : Int) : Int := if a < 0 then 18446744073709551615 else 0
theorem lb_fill {a : Int} (ha : Fit a) {k : Nat} (hk : 8 ≤ k) : lb a k = flb a := by
  unfold lb flb
  have hP : M512 ≤ 2 ^ (64 * k) := by
    have e : (2 : Int) ^ (64 * k) = 2 ^ (64 * 8) * 2 ^ (64 * (k - 8)) := by rw [← Int.pow_add, show 64 * 8 + 64 * (k - 8) = 64 * k by omega]
    rw [e, ← M512_eq]
    have h1 := pow_pos' (64 * (k - 8))
    have := Int.mul_le_mul_of_nonneg_left (show (1 : Int) ≤ 2 ^ (64 * (k - 8)) by omega) (show (0 : Int) ≤ M512 by unfold M512; omega)
    omega
  generalize (2 : Int) ^ (64 * k) = P at *
  unfold Fit M511 at ha
  unfold M512 at hP
  split
  · have : a / P = -1 := by
      rw [Int.ediv_eq_iff_of_pos (by omega)]
      omega
    rw [this]; rfl
  · rw [Int.ediv_eq_zero_of_lt (by omega) (by omega)]; rfl
set_option maxHeartbeats 2000000 in
theorem shr_at (a : Int) (ha : Fit a) (k : Nat) (hk4 : k < 4096) (ga gf : Nat) (w : World) (h1 : w.heap[ga]? = some (.cells [.int .u64 (lb (a) 0), .int .u64 (lb (a) 1), .int .u64 (lb (a) 2), .int .u64 (lb (a) 3), .int .u64 (lb (a) 4), .int .u64 (lb (a) 5), .int .u64 (lb (a) 6), .int .u64 (lb (a) 7)].toArray 38 (0, 0))) (h2 : w.heap[gf]? = some (.cells [.int .u64 (flb a)].toArray 35 (0, 0))) : Calls Tryd.prog 83 #[.int .i64 k, .pointer (some ⟨ga, 0, none⟩), .pointer (some ⟨gf, 0, none⟩)] w (Ret (.int .u64 (lb a k)) w) := by
  have H1 : (w.heap[ga]? = some (.cells (LB (lb a)).toArray 38 (0, 0))) := h1
  have HF : Hid (8 ≤ k → lb a k = flb a) := Lib.hid (fun h => lb_fill ha h)
  clear ha
  by_cases hk : k < 8
  · have hk2 : (k : Int) < 8 := by omega
    have hg : (LB (lb a))[k]? = some (.int .u64 (lb a k)) := LB_get hk
    clear HF h1
    go_enter Tryd.func83, Tryd.ntmps83
    have hp := Hp.start [] w
    go_wp2_with (first
          | ((with_reducible apply sx_load_one hp); exact zt rfl; infer_instance; infer_instance; (first | exact zio rfl | exact LB_get (by omega)); simp only [zp, zq, z0, z1])
          | ((with_reducible apply sx_load_far1 hp); exact zt rfl; assumption; infer_instance; assumption; simp only [zp, zq, z0, z1]))
    exact bodyPost_ret (results_one rfl rfl) rfl ⟨rfl, hp.keep⟩
  · have hk2 : ¬ (k : Int) < 8 := by omega
    have e := HF.out (show 8 ≤ k by omega)
    have E := Lib.hid e
    have hg : ([.int .u64 (flb a)] : List Value)[0]? = some (.int .u64 (flb a)) := rfl
    clear HF e h1
    go_enter Tryd.func83, Tryd.ntmps83
    have hp := Hp.start [] w
    go_wp2_with (first
          | ((with_reducible apply sx_load_one hp); exact zt rfl; infer_instance; infer_instance; (first | exact zio rfl | exact LB_get (by omega)); simp only [zp, zq, z0, z1])
          | ((with_reducible apply sx_load_far1 hp); exact zt rfl; assumption; infer_instance; assumption; simp only [zp, zq, z0, z1]))
    exact bodyPost_ret (results_one rfl rfl) rfl ⟨by rw [E.out]; rfl, hp.keep⟩

/-! ### A limb of a number that was taken down -/
theorem shr_even (x : Int) {n : Nat} (h : n % 64 = 0) (i : Nat) : lb (x / 2 ^ n) i = lb x (i + n / 64) := by
  unfold lb
  rw [Int.ediv_ediv_of_nonneg (Int.le_of_lt (pow_pos' _)), ← Int.pow_add, show n + 64 * i = 64 * (i + n / 64) by omega]
theorem shr_odd (x : Int) {n : Nat} (h : n % 64 ≠ 0) (i : Nat) : lb (x / 2 ^ n) i = lb x (i + n / 64 + 1) * 2 ^ (64 - n % 64) % 18446744073709551616 + lb x (i + n / 64) / 2 ^ (n % 64) ∧ lb x (i + n / 64 + 1) * 2 ^ (64 - n % 64) % 18446744073709551616 % 2 ^ (64 - n % 64) = 0 ∧ lb x (i + n / 64) / 2 ^ (n % 64) < 2 ^ (64 - n % 64) := by
  have hR := pow_pos' (n % 64)
  have hT := pow_pos' (64 - n % 64)
  have hB : (18446744073709551616 : Int) = 2 ^ (n % 64) * 2 ^ (64 - n % 64) := by rw [← Int.pow_add, show n % 64 + (64 - n % 64) = 64 by omega]; rfl
  have e1 : lb (x / 2 ^ n) i = x / 2 ^ (64 * (i + n / 64)) / 2 ^ (n % 64) % 18446744073709551616 := by
    unfold lb
    rw [Int.ediv_ediv_of_nonneg (Int.le_of_lt (pow_pos' _)), ← Int.pow_add, Int.ediv_ediv_of_nonneg (Int.le_of_lt (pow_pos' _)), ← Int.pow_add, show n + 64 * i = 64 * (i + n / 64) + n % 64 by omega]
  have e2 : lb x (i + n / 64 + 1) = x / 2 ^ (64 * (i + n / 64)) / 18446744073709551616 % 18446744073709551616 := by
    unfold lb
    rw [pow64_succ, ← Int.ediv_ediv_of_nonneg (Int.le_of_lt (pow_pos' _))]
  have e3 : lb x (i + n / 64) = x / 2 ^ (64 * (i + n / 64)) % 18446744073709551616 := rfl
  rw [e1, e2, e3]
  generalize x / 2 ^ (64 * (i + n / 64)) = y
  generalize (2 : Int) ^ (n % 64) = R at *
  generalize (2 : Int) ^ (64 - n % 64) = T at *
  have hd := Int.mul_ediv_add_emod y 18446744073709551616
  have hm0 := Int.emod_nonneg y (show (18446744073709551616 : Int) ≠ 0 by omega)
  have hm1 := Int.emod_lt_of_pos y (show (0 : Int) < 18446744073709551616 by omega)
  have hmul : ∀ a : Int, a % 18446744073709551616 * T % 18446744073709551616 = T * (a % R) := fun a => by
    rw [hB, Int.mul_comm R T, Int.mul_comm _ T, Int.mul_emod_mul_of_pos _ _ hT, Int.emod_emod_of_dvd _ (Int.dvd_mul_left _ _)]
  have hup : y % 18446744073709551616 / R < T := by
    rw [Int.ediv_lt_iff_lt_mul hR, Int.mul_comm, ← hB]; exact hm1
  refine ⟨?_, by rw [hmul]; exact Int.mul_emod_right _ _, hup⟩
  rw [hmul]
  generalize y / 18446744073709551616 = y1 at *
  generalize y % 18446744073709551616 = y0 at *
  have e4 : y / R = T * y1 + y0 / R := by
    rw [← hd, hB, show R * T * y1 + y0 = y0 + R * (T * y1) by grind, Int.add_mul_ediv_left _ _ (by omega)]
    omega
  have hc0 : 0 ≤ y0 / R := Int.ediv_nonneg hm0 (by omega)
  rw [e4]
  generalize y0 / R = c at *
  rw [hB, Int.mul_comm R T, emod_split _ _ _ hT hR, Int.add_comm (T * y1), Int.add_mul_ediv_left _ _ (by omega), Int.ediv_eq_zero_of_lt hc0 hup, Int.zero_add, Int.add_mul_emod_self_left, Int.emod_eq_of_lt hc0 hup]
/-- The limbs of a number that was taken down, so many of them. -/
def rf (x : Int) (n k : Nat) : Nat → Int := fun j => if j < k then lb (x / 2 ^ n) j else 0
theorem rf_start (x : Int) (n : Nat) : LB (rf x n 0) = [.int .u64 0, .int .u64 0, .int .u64 0, .int .u64 0, .int .u64 0, .int .u64 0, .int .u64 0, .int .u64 0] := rfl
theorem rf_step {x V : Int} {n k : Nat} (hV : V = lb (x / 2 ^ n) k) : LB (upd (rf x n k) k V) = LB (rf x n (k + 1)) := by
  refine LB_congr fun j _ => ?_
  unfold rf
  by_cases h : j = k
  · subst h; rw [upd_same, hV, if_pos (by omega)]
  · rw [upd_ne _ _ h]
    by_cases h2 : j < k
    · rw [if_pos h2, if_pos (by omega)]
    · rw [if_neg h2, if_neg (by omega)]

theorem fill_is {a : Int} (ha : Fit a) : IntKind.u64.wrap (wrap64 (lb a 7) / 9223372036854775808) = flb a := by
  have h := ng_fit ha
  unfold ng at h
  rw [decide_eq_decide] at h
  have h0 := lb_nonneg a 7
  have h1 := lb_lt a 7
  rw [IntKind.wrap_u64]
  unfold flb wrap64
  split <;> omega
set_option maxHeartbeats 8000000 in
theorem shr_core (a : Int) (ha : Fit a) (nn : Int) (n : Nat) (hn : (nn = n ∧ n ≤ 511) ∨ (511 < nn ∧ n = 511)) (w : World) : Calls Tryd.prog 60 #[W a, .int .i64 nn] w (Ret (W (a / 2 ^ n)) w) := by
  have HFI := Lib.hid (fill_is ha)
  have HA := Lib.hid ha
  have HN := Lib.hid hn
  have hn0 : ¬ nn < 0 := by omega
  clear ha hn
  go_enter Tryd.func60, Tryd.ntmps60
  have hp := Hp.start [] w
  go_upto_if 20 with (first
          | ((with_reducible apply sx_box hp); exact za rfl; exact rfl; clear hp; (try clear w1); intro g w1 hp; simp only [zp, zq, z0, z1])
          | ((with_reducible apply sx_alloc hp); infer_instance; exact rfl; clear hp; (try clear w1); intro g w1 hp; simp only [zp, zq, z0, z1])
          | ((with_reducible apply sx_load_agg hp); exact zt rfl; infer_instance; infer_instance; (first | exact zl rfl | exact LB_le (by omega)); (first | (with_reducible exact LB_set (by omega)) | (simp only [n0, Nat.reduceAdd, n1, n2, n3, n4, n5, n6, n7, n8, n9]; try rfl)); simp only [zp, zq, z0, z1])
          | ((with_reducible apply sx_load_one hp); exact zt rfl; infer_instance; infer_instance; (first | exact zio rfl | exact LB_get (by omega)); simp only [zp, zq, z0, z1])
          | ((with_reducible apply sx_store hp); exact zt rfl; (first | exact za rfl | exact zi rfl); exact rfl; (first | exact AggTy.size | exact OneTy.size); exact rfl; infer_instance; (first | (with_reducible exact LB_set (by omega)) | (simp only [n0, Nat.reduceAdd, n1, n2, n3, n4, n5, n6, n7, n8, n9]; try rfl)); (first | exact zl rfl | exact LB_le (by omega)); exact rfl; infer_instance; clear hp; (try clear w1); intro w1 hp))
  rename_i ga gp K hK
  obtain ⟨gf, rfl⟩ : ∃ y : Nat, y = g := ⟨_, rfl⟩
  go_cut [1] (fun s1 wx => s1 = .int .i64 (n : Int) ∧ Hp [] w [⟨gf, 35, [.int .u64 (flb a)]⟩, ⟨gp, 38, [.int .u64 0, .int .u64 0, .int .u64 0, .int .u64 0, .int .u64 0, .int .u64 0, .int .u64 0, .int .u64 0]⟩, ⟨ga, 38, [.int .u64 (lb (a) 0), .int .u64 (lb (a) 1), .int .u64 (lb (a) 2), .int .u64 (lb (a) 3), .int .u64 (lb (a) 4), .int .u64 (lb (a) 5), .int .u64 (lb (a) 6), .int .u64 (lb (a) 7)]⟩] wx)
  case first =>
    rw [HFI.out] at hp
    rcases HN.out with ⟨h1, h2⟩ | ⟨h1, h2⟩
    · have h3 : ¬ 511 < nn := by omega
      have H1 := Lib.hid h1
      clear h1 h2
      go_wp2_with (first
          | ((with_reducible apply sx_box hp); exact za rfl; exact rfl; clear hp; (try clear w1); intro g w1 hp; simp only [zp, zq, z0, z1])
          | ((with_reducible apply sx_alloc hp); infer_instance; exact rfl; clear hp; (try clear w1); intro g w1 hp; simp only [zp, zq, z0, z1])
          | ((with_reducible apply sx_load_agg hp); exact zt rfl; infer_instance; infer_instance; (first | exact zl rfl | exact LB_le (by omega)); (first | (with_reducible exact LB_set (by omega)) | (simp only [n0, Nat.reduceAdd, n1, n2, n3, n4, n5, n6, n7, n8, n9]; try rfl)); simp only [zp, zq, z0, z1])
          | ((with_reducible apply sx_load_one hp); exact zt rfl; infer_instance; infer_instance; (first | exact zio rfl | exact LB_get (by omega)); simp only [zp, zq, z0, z1])
          | ((with_reducible apply sx_store hp); exact zt rfl; (first | exact za rfl | exact zi rfl); exact rfl; (first | exact AggTy.size | exact OneTy.size); exact rfl; infer_instance; (first | (with_reducible exact LB_set (by omega)) | (simp only [n0, Nat.reduceAdd, n1, n2, n3, n4, n5, n6, n7, n8, n9]; try rfl)); (first | exact zl rfl | exact LB_le (by omega)); exact rfl; infer_instance; clear hp; (try clear w1); intro w1 hp))
      go_meet
      exact ⟨by rw [H1.out], hp⟩
    · have H2 := Lib.hid h2
      clear h2
      go_wp2_with (first
          | ((with_reducible apply sx_box hp); exact za rfl; exact rfl; clear hp; (try clear w1); intro g w1 hp; simp only [zp, zq, z0, z1])
          | ((with_reducible apply sx_alloc hp); infer_instance; exact rfl; clear hp; (try clear w1); intro g w1 hp; simp only [zp, zq, z0, z1])
          | ((with_reducible apply sx_load_agg hp); exact zt rfl; infer_instance; infer_instance; (first | exact zl rfl | exact LB_le (by omega)); (first | (with_reducible exact LB_set (by omega)) | (simp only [n0, Nat.reduceAdd, n1, n2, n3, n4, n5, n6, n7, n8, n9]; try rfl)); simp only [zp, zq, z0, z1])
          | ((with_reducible apply sx_load_one hp); exact zt rfl; infer_instance; infer_instance; (first | exact zio rfl | exact LB_get (by omega)); simp only [zp, zq, z0, z1])
          | ((with_reducible apply sx_store hp); exact zt rfl; (first | exact za rfl | exact zi rfl); exact rfl; (first | exact AggTy.size | exact OneTy.size); exact rfl; infer_instance; (first | (with_reducible exact LB_set (by omega)) | (simp only [n0, Nat.reduceAdd, n1, n2, n3, n4, n5, n6, n7, n8, n9]; try rfl)); (first | exact zl rfl | exact LB_le (by omega)); exact rfl; infer_instance; clear hp; (try clear w1); intro w1 hp))
      go_meet
      exact ⟨by rw [H2.out]; rfl, hp⟩
  case rest =>
  clear hp HFI
  obtain ⟨rfl, hp⟩ := hcut
  have hn : n ≤ 511 := by have := HN.out; omega
  clear HN hn0
  go_wp2_with (first
          | ((with_reducible apply sx_box hp); exact za rfl; exact rfl; clear hp; (try clear w1); intro g w1 hp; simp only [zp, zq, z0, z1])
          | ((with_reducible apply sx_alloc hp); infer_instance; exact rfl; clear hp; (try clear w1); intro g w1 hp; simp only [zp, zq, z0, z1])
          | ((with_reducible apply sx_load_agg hp); exact zt rfl; infer_instance; infer_instance; (first | exact zl rfl | exact LB_le (by omega)); (first | (with_reducible exact LB_set (by omega)) | (simp only [n0, Nat.reduceAdd, n1, n2, n3, n4, n5, n6, n7, n8, n9]; try rfl)); simp only [zp, zq, z0, z1])
          | ((with_reducible apply sx_load_one hp); exact zt rfl; infer_instance; infer_instance; (first | exact zio rfl | exact LB_get (by omega)); simp only [zp, zq, z0, z1])
          | ((with_reducible apply sx_store hp); exact zt rfl; (first | exact za rfl | exact zi rfl); exact rfl; (first | exact AggTy.size | exact OneTy.size); exact rfl; infer_instance; (first | (with_reducible exact LB_set (by omega)) | (simp only [n0, Nat.reduceAdd, n1, n2, n3, n4, n5, n6, n7, n8, n9]; try rfl)); (first | exact zl rfl | exact LB_le (by omega)); exact rfl; infer_instance; clear hp; (try clear w1); intro w1 hp))
  obtain ⟨gl, rfl⟩ : ∃ y : Nat, y = g := ⟨_, rfl⟩
  go_loopw [22] (fun i wr => ∃ k : Nat, k ≤ 8 ∧ i = .int .i64 k ∧ Hp [] w [⟨gl, 67, LB (rf a n k)⟩, ⟨gf, 35, [.int .u64 (flb a)]⟩, ⟨gp, 38, [.int .u64 0, .int .u64 0, .int .u64 0, .int .u64 0, .int .u64 0, .int .u64 0, .int .u64 0, .int .u64 0]⟩, ⟨ga, 38, [.int .u64 (lb (a) 0), .int .u64 (lb (a) 1), .int .u64 (lb (a) 2), .int .u64 (lb (a) 3), .int .u64 (lb (a) 4), .int .u64 (lb (a) 5), .int .u64 (lb (a) 6), .int .u64 (lb (a) 7)]⟩] wr) (fun i _ => 8 - (intOf i).toNat)
  case atStart => exact ⟨0, by omega, rfl, by rw [rf_start]; exact hp⟩
  case round =>
    clear hp
    obtain ⟨k, hk, rfl, hp⟩ := hrel
    by_cases hk1 : k < 8
    · have hk2 : (k : Int) < 8 := by omega
      have A1 : Hid (∀ w, w.heap[ga]? = some (.cells [.int .u64 (lb (a) 0), .int .u64 (lb (a) 1), .int .u64 (lb (a) 2), .int .u64 (lb (a) 3), .int .u64 (lb (a) 4), .int .u64 (lb (a) 5), .int .u64 (lb (a) 6), .int .u64 (lb (a) 7)].toArray 38 (0, 0)) → w.heap[gf]? = some (.cells [.int .u64 (flb a)].toArray 35 (0, 0)) → Calls Tryd.prog 83 #[.int .i64 ((k : Int) + (n : Int) / 64), .pointer (some ⟨ga, 0, none⟩), .pointer (some ⟨gf, 0, none⟩)] w (Ret (.int .u64 (lb a (k + n / 64))) w)) := Lib.hid fun w h1 h2 => by
        have := shr_at a HA.out (k + n / 64) (by omega) ga gf w h1 h2
        rw [show ((k + n / 64 : Nat) : Int) = (k : Int) + (n : Int) / 64 by omega] at this
        exact this
      have A2 : Hid (∀ w, w.heap[ga]? = some (.cells [.int .u64 (lb (a) 0), .int .u64 (lb (a) 1), .int .u64 (lb (a) 2), .int .u64 (lb (a) 3), .int .u64 (lb (a) 4), .int .u64 (lb (a) 5), .int .u64 (lb (a) 6), .int .u64 (lb (a) 7)].toArray 38 (0, 0)) → w.heap[gf]? = some (.cells [.int .u64 (flb a)].toArray 35 (0, 0)) → Calls Tryd.prog 83 #[.int .i64 ((k : Int) + (n : Int) / 64 + 1), .pointer (some ⟨ga, 0, none⟩), .pointer (some ⟨gf, 0, none⟩)] w (Ret (.int .u64 (lb a (k + n / 64 + 1))) w)) := Lib.hid fun w h1 h2 => by
        have := shr_at a HA.out (k + n / 64 + 1) (by omega) ga gf w h1 h2
        rw [show ((k + n / 64 + 1 : Nat) : Int) = (k : Int) + (n : Int) / 64 + 1 by omega] at this
        exact this
      have ha0 := lb_nonneg a (k + n / 64)
      have ha1 := lb_lt a (k + n / 64)
      by_cases hr : (n : Int) % 64 = 0
      · have hr0 : ¬ (0 : Int) < (n : Int) % 64 := by omega
        go_wp2_with (first
          | ((with_reducible apply sx_box hp); exact za rfl; exact rfl; clear hp; (try clear w1); intro g w1 hp; simp only [zp, zq, z0, z1])
          | ((with_reducible apply sx_alloc hp); infer_instance; exact rfl; clear hp; (try clear w1); intro g w1 hp; simp only [zp, zq, z0, z1])
          | ((with_reducible apply sx_load_agg hp); exact zt rfl; infer_instance; infer_instance; (first | exact zl rfl | exact LB_le (by omega)); (first | (with_reducible exact LB_set (by omega)) | (simp only [n0, Nat.reduceAdd, n1, n2, n3, n4, n5, n6, n7, n8, n9]; try rfl)); simp only [zp, zq, z0, z1])
          | ((with_reducible apply sx_load_one hp); exact zt rfl; infer_instance; infer_instance; (first | exact zio rfl | exact LB_get (by omega)); simp only [zp, zq, z0, z1])
          | ((with_reducible apply sx_store hp); exact zt rfl; (first | exact za rfl | exact zi rfl); exact rfl; (first | exact AggTy.size | exact OneTy.size); exact rfl; infer_instance; (first | (with_reducible exact LB_set (by omega)) | (simp only [n0, Nat.reduceAdd, n1, n2, n3, n4, n5, n6, n7, n8, n9]; try rfl)); (first | exact zl rfl | exact LB_le (by omega)); exact rfl; infer_instance; clear hp; (try clear w1); intro w1 hp)
          | ((with_reducible refine sx_call hp (A1.out _ hp.blk hp.blk) ?_); clear hp; (try clear w1); intro w1 hp))
        go_roundw
        case rel =>
          refine ⟨k + 1, by omega, by go_num, ?_⟩
          rw [rf_step (shr_even a (by omega) k).symm] at hp
          exact hp
        case measure => simp [intOf]; omega
      · have hr0 : (0 : Int) < (n : Int) % 64 := by omega
        have hr1 : (n : Int) % 64 < 64 := by omega
        have hb0 := lb_nonneg a (k + n / 64 + 1)
        have hb1 := lb_lt a (k + n / 64 + 1)
        go_wp2_with (first
          | ((with_reducible apply sx_box hp); exact za rfl; exact rfl; clear hp; (try clear w1); intro g w1 hp; simp only [zp, zq, z0, z1])
          | ((with_reducible apply sx_alloc hp); infer_instance; exact rfl; clear hp; (try clear w1); intro g w1 hp; simp only [zp, zq, z0, z1])
          | ((with_reducible apply sx_load_agg hp); exact zt rfl; infer_instance; infer_instance; (first | exact zl rfl | exact LB_le (by omega)); (first | (with_reducible exact LB_set (by omega)) | (simp only [n0, Nat.reduceAdd, n1, n2, n3, n4, n5, n6, n7, n8, n9]; try rfl)); simp only [zp, zq, z0, z1])
          | ((with_reducible apply sx_load_one hp); exact zt rfl; infer_instance; infer_instance; (first | exact zio rfl | exact LB_get (by omega)); simp only [zp, zq, z0, z1])
          | ((with_reducible apply sx_store hp); exact zt rfl; (first | exact za rfl | exact zi rfl); exact rfl; (first | exact AggTy.size | exact OneTy.size); exact rfl; infer_instance; (first | (with_reducible exact LB_set (by omega)) | (simp only [n0, Nat.reduceAdd, n1, n2, n3, n4, n5, n6, n7, n8, n9]; try rfl)); (first | exact zl rfl | exact LB_le (by omega)); exact rfl; infer_instance; clear hp; (try clear w1); intro w1 hp)
          | ((with_reducible refine sx_call hp (A1.out _ hp.blk hp.blk) ?_); clear hp; (try clear w1); intro w1 hp))
        obtain ⟨V, hV⟩ : ∃ V, V = lb a (k + n / 64) / 2 ^ (n % 64) := ⟨_, rfl⟩
        rw [← hV] at hp
        have HV := Lib.hid hV
        obtain ⟨F, hF⟩ : ∃ F, F = upd (rf a n k) k V := ⟨_, rfl⟩
        rw [← hF] at hp
        have f0 : F k = V := by rw [hF, upd_same]
        have F0 := Lib.hid f0
        have HF := Lib.hid hF
        have b0 : 0 ≤ F k ∧ F k < 18446744073709551616 := by
          rw [f0, hV]
          have c0 : 0 ≤ lb a (k + n / 64) / 2 ^ (n % 64) := Int.ediv_nonneg (lb_nonneg _ _) (Int.le_of_lt (pow_pos' _))
          have c1 := Int.ediv_le_self (a := lb a (k + n / 64)) (2 ^ (n % 64)) (lb_nonneg _ _)
          have c2 := lb_lt a (k + n / 64)
          omega
        clear hF f0 hV
        have hsh : (0 : Int) ≤ 64 - (n : Int) % 64 := by omega
        have hq := hp
        refine wp_drawn_hp hp hq [13] (.q 0 (.q 1 (.q 2 (.q 3 (.q 4 (.q 5 (.q 7 (.q 8 (.q 9 (.l 6 (.q 10 (.q 11 (.q 12 (.l 13 .nil)))))))))))))) (by kernel_rfl) (by kernel_rfl) ?_
        clear hp hq; (try clear w1); intro w1 hp hq
        repeat' (first
          | (((with_reducible apply sd_q); exact zo rfl); (first
              | ((with_reducible apply sd_load_one hp); exact rfl; exact zt rfl; infer_instance; infer_instance; (first | exact zio rfl | exact LB_get (by omega)); simp only [zp, zq, z0, z1])
              | ((with_reducible apply sd_move hp); (first | exact zf rfl | exact zn rfl | exact zi rfl); simp only [zp, zq, z0, z1])
              | ((with_reducible apply sd_indexAddr hp); exact rfl; exact zx rfl; exact zk rfl; infer_instance; (first | exact AggTy.size | exact OneTy.size); omega; omega; ((try simp only [m0, Int.reduceToNat, m1, m2, Nat.reduceMul, Nat.reduceAdd, m3, m4, m5, n0]); exact rfl); simp only [zp, zq, z0, z1])
              | ((with_reducible apply sd_pure hp); exact rfl; (focus (intro _; go_simp; (try go_ints); try with_reducible rfl)); simp only [zp, zq, z0, z1])))
          | (((with_reducible apply sd_l); exact zo rfl); (first
              | ((with_reducible apply sd_callM hp); exact rfl; (focus (intro _; go_simp; try first | with_reducible rfl | exact ⟨rfl, rfl⟩)); (with_reducible exact A2.out _ hq.blk hq.blk); exact hq; clear hp hq; (try clear w1); intro w1 hp hq; simp only [zp, zq, z0, z1])
              | ((with_reducible apply sd_store_far hq); exact rfl; exact zt rfl; (first | exact za rfl | exact zu rfl | exact zi rfl | exact zb rfl | exact zr rfl | exact zs rfl | exact zf rfl | exact zg rfl | exact zn rfl | exact zv rfl | exact zw rfl); exact rfl; (first | exact AggTy.size | exact OneTy.size); exact rfl; infer_instance; (first | (with_reducible exact LB_set (by omega)) | (simp only [n0, Nat.reduceAdd, n1, n2, n3, n4, n5, n6, n7, n8, n9]; try rfl)); (first | exact zl rfl | exact LB_le (by omega)); exact rfl; infer_instance; (repeat (first | exact List.Sublist.refl _ | apply List.Sublist.cons)); clear hp hq; (try clear w1); intro w1 hp hq)
              | ((with_reducible apply sd_store hq); exact rfl; exact zt rfl; (first | exact za rfl | exact zu rfl | exact zi rfl | exact zb rfl | exact zr rfl | exact zs rfl | exact zf rfl | exact zg rfl | exact zn rfl | exact zv rfl | exact zw rfl); exact rfl; (first | exact AggTy.size | exact OneTy.size); exact rfl; infer_instance; (first | (with_reducible exact LB_set (by omega)) | (simp only [n0, Nat.reduceAdd, n1, n2, n3, n4, n5, n6, n7, n8, n9]; try rfl)); (first | exact zl rfl | exact LB_le (by omega)); exact rfl; infer_instance; exact rfl; clear hp hq; (try clear w1); intro w1 hq; have hp := True.intro)))
          | ((with_reducible apply sd_nil); clear hp; have hp := hq; clear hq))
        go_wp2
        go_roundw
        case rel =>
          refine ⟨k + 1, by omega, by go_num, ?_⟩
          obtain ⟨e1, e2, e3⟩ := shr_odd a (n := n) (by omega) k
          have e4 : F k = lb a (k + n / 64) / 2 ^ (n % 64) := by rw [F0.out, HV.out]
          rw [← e4] at e1 e3
          rw [IntKind.wrap_u64] at hp
          rw [(or_join (64 - n % 64) _ _ (by omega) (by omega) e2 b0.1 b0.2 e3).2, ← e1, HF.out] at hp
          have e5 : upd (upd (rf a n k) k V) k (lb (a / 2 ^ n) k) = upd (rf a n k) k (lb (a / 2 ^ n) k) := by
            funext j
            unfold upd
            split <;> rfl
          rw [e5, rf_step rfl] at hp
          exact hp
        case measure => simp [intOf]; omega
    · obtain rfl : k = 8 := by omega
      have e : LB (rf a n 8) = LB (lb (a / 2 ^ n)) := LB_congr fun j hj => if_pos hj
      rw [e] at hp
      simp only [LB] at hp
      rw [show ((8 : Nat) : Int) = 8 from rfl]
      go_wp2_with (first
          | ((with_reducible apply sx_box hp); exact za rfl; exact rfl; clear hp; (try clear w1); intro g w1 hp; simp only [zp, zq, z0, z1])
          | ((with_reducible apply sx_alloc hp); infer_instance; exact rfl; clear hp; (try clear w1); intro g w1 hp; simp only [zp, zq, z0, z1])
          | ((with_reducible apply sx_load_agg hp); exact zt rfl; infer_instance; infer_instance; (first | exact zl rfl | exact LB_le (by omega)); (first | (with_reducible exact LB_set (by omega)) | (simp only [n0, Nat.reduceAdd, n1, n2, n3, n4, n5, n6, n7, n8, n9]; try rfl)); simp only [zp, zq, z0, z1])
          | ((with_reducible apply sx_load_one hp); exact zt rfl; infer_instance; infer_instance; (first | exact zio rfl | exact LB_get (by omega)); simp only [zp, zq, z0, z1])
          | ((with_reducible apply sx_store hp); exact zt rfl; (first | exact za rfl | exact zi rfl); exact rfl; (first | exact AggTy.size | exact OneTy.size); exact rfl; infer_instance; (first | (with_reducible exact LB_set (by omega)) | (simp only [n0, Nat.reduceAdd, n1, n2, n3, n4, n5, n6, n7, n8, n9]; try rfl)); (first | exact zl rfl | exact LB_le (by omega)); exact rfl; infer_instance; clear hp; (try clear w1); intro w1 hp))
      exact bodyPost_ret (results_one rfl ⟨_, rfl, run_load_agg hp (Nat.le_of_ble_eq_true rfl)⟩) rfl ⟨rfl, hp.keep⟩
/-- By a power of two, rounded down, as the document says. -/
def shv (a n : Int) : Int := if n < 0 then a else a / 2 ^ (min n.toNat 511)
set_option maxHeartbeats 4000000 in
theorem shr_any (a n : Int) (ha : Fit a) (w : World) : Calls Tryd.prog 60 #[W a, .int .i64 n] w (Ret (W (shv a n)) w) := by
  unfold shv
  by_cases h0 : n < 0
  · rw [if_pos h0]
    clear ha
    go_enter Tryd.func60, Tryd.ntmps60
    have hp := Hp.start [] w
    go_wp2_with (first
          | ((with_reducible apply sx_box hp); exact za rfl; exact rfl; clear hp; (try clear w1); intro g w1 hp; simp only [zp, zq, z0, z1])
          | ((with_reducible apply sx_alloc hp); infer_instance; exact rfl; clear hp; (try clear w1); intro g w1 hp; simp only [zp, zq, z0, z1])
          | ((with_reducible apply sx_load_agg hp); exact zt rfl; infer_instance; infer_instance; (first | exact zl rfl | exact LB_le (by omega)); (first | (with_reducible exact LB_set (by omega)) | (simp only [n0, Nat.reduceAdd, n1, n2, n3, n4, n5, n6, n7, n8, n9]; try rfl)); simp only [zp, zq, z0, z1])
          | ((with_reducible apply sx_load_one hp); exact zt rfl; infer_instance; infer_instance; (first | exact zio rfl | exact LB_get (by omega)); simp only [zp, zq, z0, z1])
          | ((with_reducible apply sx_store hp); exact zt rfl; (first | exact za rfl | exact zi rfl); exact rfl; (first | exact AggTy.size | exact OneTy.size); exact rfl; infer_instance; (first | (with_reducible exact LB_set (by omega)) | (simp only [n0, Nat.reduceAdd, n1, n2, n3, n4, n5, n6, n7, n8, n9]; try rfl)); (first | exact zl rfl | exact LB_le (by omega)); exact rfl; infer_instance; clear hp; (try clear w1); intro w1 hp))
    exact bodyPost_ret (results_one rfl ⟨_, rfl, run_load_agg hp (Nat.le_of_ble_eq_true rfl)⟩) rfl ⟨rfl, hp.keep⟩
  · rw [if_neg h0]
    by_cases h1 : n ≤ 511
    · exact shr_core a ha n (min n.toNat 511) (.inl ⟨by omega, by omega⟩) w
    · exact shr_core a ha n (min n.toNat 511) (.inr ⟨by omega, by omega⟩) w
end Go.Proofs.YtbdkbmhejoakiaaDoor
