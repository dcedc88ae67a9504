/-
  Package wide: numbers of an int64, signs, comparing, sums and differences (contracts).
-/
import Derived.Test.YtbdkbmhejoakiaaGreatDoorWb
import Derived.Test.YtbdkbmhejoakiaaGreatDoorEq
set_option linter.unusedSimpArgs false
set_option maxRecDepth 100000
namespace Go.Proofs.YtbdkbmhejoakiaaGreatDoor
open Go Go.RowKit

theorem lb_small (n : Int) (h0 : -9223372036854775808 ≤ n) (h1 : n < 9223372036854775808) (i : Nat) (hi : 1 ≤ i) : lb n i = if n < 0 then 18446744073709551615 else 0 := by
  have hp : (9223372036854775808 : Int) ≤ 2 ^ (64 * i) := by
    obtain ⟨j, rfl⟩ : ∃ j, i = j + 1 := ⟨i - 1, by omega⟩
    rw [pow64_succ]
    have := pow_pos' (64 * j)
    omega
  unfold lb
  split
  · have : n / 2 ^ (64 * i) = -1 := by
      have h2 : n / 2 ^ (64 * i) < 0 := Int.ediv_neg_of_neg_of_pos (by omega) (by omega)
      have h3 : -1 ≤ n / 2 ^ (64 * i) := by
        rw [Int.le_ediv_iff_mul_le (by omega)]
        omega
      omega
    rw [this]; omega
  · rw [Int.ediv_eq_zero_of_lt (by omega) (by omega)]; rfl
theorem lb_zero_ix (n : Int) : lb n 0 = n % 18446744073709551616 := by simp [lb]

set_option maxHeartbeats 4000000 in
theorem of_any (n : Int) (h0 : -9223372036854775808 ≤ n) (h1 : n < 9223372036854775808) (w : World) : Calls Tryz.prog 49 #[.int .i64 n] w (Ret (W n) w) := by
  go_enter Tryz.func49, Tryz.ntmps49
  have hp := Hp.start [] w
  go_wp2_with (first
          | ((with_reducible apply sx_alloc hp); infer_instance; exact rfl; clear hp; (try clear w1); intro g w1 hp; simp only [zp, zq, z0, z1])
          | ((with_reducible apply sx_load_agg hp); exact zt rfl; infer_instance; infer_instance; (first | exact zl rfl | exact LB_le (by omega)); (first | (with_reducible exact LB_set (by omega)) | (simp only [n0, Nat.reduceAdd, n1, n2, n3, n4, n5, n6, n7, n8, n9]; try rfl)); simp only [zp, zq, z0, z1])
          | ((with_reducible apply sx_store hp); exact zt rfl; (first | exact za rfl | exact zi rfl); exact rfl; (first | exact AggTy.size | exact OneTy.size); exact rfl; infer_instance; (first | (with_reducible exact LB_set (by omega)) | (simp only [n0, Nat.reduceAdd, n1, n2, n3, n4, n5, n6, n7, n8, n9]; try rfl)); (first | exact zl rfl | exact LB_le (by omega)); exact rfl; infer_instance; clear hp; (try clear w1); intro w1 hp))
  rename_i ga K hK
  go_loopw [5] (fun i wr => ∃ (k : Nat) (F : Nat → Int), k ≤ 8 ∧ i = .int .i64 k ∧ (∀ j, j < k → F j = if n < 0 then 18446744073709551615 else 0) ∧
      Hp [] w [⟨g, 84, LB F⟩, ⟨ga, 30, [.int .u64 0, .int .u64 0, .int .u64 0, .int .u64 0, .int .u64 0, .int .u64 0, .int .u64 0, .int .u64 0]⟩] wr) (fun i _ => 8 - (intOf i).toNat)
  case atStart => exact ⟨0, fun _ => 0, by omega, rfl, fun j h => by omega, hp⟩
  case round =>
    clear hp
    obtain ⟨k, F, hk, rfl, hlo, hp⟩ := hrel
    have Hlo := Lib.hid hlo
    clear hlo
    by_cases hlt : k < 8
    · go_wp2_with (first
          | ((with_reducible apply sx_alloc hp); infer_instance; exact rfl; clear hp; (try clear w1); intro g w1 hp; simp only [zp, zq, z0, z1])
          | ((with_reducible apply sx_load_agg hp); exact zt rfl; infer_instance; infer_instance; (first | exact zl rfl | exact LB_le (by omega)); (first | (with_reducible exact LB_set (by omega)) | (simp only [n0, Nat.reduceAdd, n1, n2, n3, n4, n5, n6, n7, n8, n9]; try rfl)); simp only [zp, zq, z0, z1])
          | ((with_reducible apply sx_store hp); exact zt rfl; (first | exact za rfl | exact zi rfl); exact rfl; (first | exact AggTy.size | exact OneTy.size); exact rfl; infer_instance; (first | (with_reducible exact LB_set (by omega)) | (simp only [n0, Nat.reduceAdd, n1, n2, n3, n4, n5, n6, n7, n8, n9]; try rfl)); (first | exact zl rfl | exact LB_le (by omega)); exact rfl; infer_instance; clear hp; (try clear w1); intro w1 hp))
      go_roundw
      case rel =>
        have e : IntKind.u64.wrap (n / 9223372036854775808) = if n < 0 then 18446744073709551615 else 0 := by
          rw [IntKind.wrap_u64]
          split <;> omega
        rw [e] at hp
        refine ⟨k + 1, upd F k (if n < 0 then 18446744073709551615 else 0), by omega, by go_num, ?_, hp⟩
        intro j hj
        by_cases e : j = k
        · subst e; rw [upd_same]
        · rw [upd_ne _ _ e]; exact Hlo.out j (by omega)
      case measure => simp [intOf]; omega
    · obtain rfl : k = 8 := by omega
      have e : LB F = LB (fun _ => if n < 0 then 18446744073709551615 else 0) := LB_congr fun j hj => Hlo.out j hj
      rw [e] at hp
      clear e Hlo
      have e0 : IntKind.u64.wrap n = lb n 0 := by rw [IntKind.wrap_u64, lb_zero_ix]
      have E0 := Lib.hid e0
      clear e0
      generalize hf : (if n < 0 then 18446744073709551615 else 0 : Int) = f at hp
      have Hf := Lib.hid hf
      clear hf
      have hp' : Hp [] w [⟨g, 84, [.int .u64 f, .int .u64 f, .int .u64 f, .int .u64 f, .int .u64 f, .int .u64 f, .int .u64 f, .int .u64 f]⟩, ⟨ga, 30, [.int .u64 0, .int .u64 0, .int .u64 0, .int .u64 0, .int .u64 0, .int .u64 0, .int .u64 0, .int .u64 0]⟩] wr := hp
      clear hp
      have hp := hp'
      clear hp'
      go_wp2_with (first
          | ((with_reducible apply sx_alloc hp); infer_instance; exact rfl; clear hp; (try clear w1); intro g w1 hp; simp only [zp, zq, z0, z1])
          | ((with_reducible apply sx_load_agg hp); exact zt rfl; infer_instance; infer_instance; (first | exact zl rfl | exact LB_le (by omega)); (first | (with_reducible exact LB_set (by omega)) | (simp only [n0, Nat.reduceAdd, n1, n2, n3, n4, n5, n6, n7, n8, n9]; try rfl)); simp only [zp, zq, z0, z1])
          | ((with_reducible apply sx_store hp); exact zt rfl; (first | exact za rfl | exact zi rfl); exact rfl; (first | exact AggTy.size | exact OneTy.size); exact rfl; infer_instance; (first | (with_reducible exact LB_set (by omega)) | (simp only [n0, Nat.reduceAdd, n1, n2, n3, n4, n5, n6, n7, n8, n9]; try rfl)); (first | exact zl rfl | exact LB_le (by omega)); exact rfl; infer_instance; clear hp; (try clear w1); intro w1 hp))
      have hl : ∀ i, 1 ≤ i → f = lb n i := fun i hi => by rw [lb_small n h0 h1 i hi, Hf.out]
      have e : W n = .agg #[.int .u64 (IntKind.u64.wrap n), .int .u64 f, .int .u64 f, .int .u64 f, .int .u64 f, .int .u64 f, .int .u64 f, .int .u64 f] := by
        simp only [W, ← hl 1 (by omega), ← hl 2 (by omega), ← hl 3 (by omega), ← hl 4 (by omega), ← hl 5 (by omega), ← hl 6 (by omega), ← hl 7 (by omega), E0.out]
      exact bodyPost_ret (results_one rfl ⟨_, rfl, run_load_agg hp (Nat.le_of_ble_eq_true rfl)⟩) rfl ⟨congrArg Ending.returned e.symm, hp.keep⟩

/-- The sign of a number. -/
def sgn (n : Int) : Int := if n < 0 then -1 else if n = 0 then 0 else 1
theorem sign_any (n : Int) (h : Fit n) (w : World) : Calls Tryz.prog 45 #[W n] w (Ret (.int .i64 (sgn n)) w) := by
  unfold sgn
  have hn := ng_fit h
  have hz := eqb_fit h fit_zero
  rw [eqb_zero] at hz
  by_cases hlt : n < 0
  · rw [if_pos hlt]
    rw [decide_eq_true hlt] at hn
    clear hz
    go_enter Tryz.func45, Tryz.ntmps45
    have hp := Hp.start [] w
    go_wp2_with (first
          | ((with_reducible apply sx_box hp); exact za rfl; exact rfl; clear hp; (try clear w1); intro g w1 hp; simp only [zp, zq, z0, z1])
          | ((with_reducible apply sx_load_agg hp); exact zt rfl; infer_instance; infer_instance; (first | exact zl rfl | exact LB_le (by omega)); (first | (with_reducible exact LB_set (by omega)) | (simp only [n0, Nat.reduceAdd, n1, n2, n3, n4, n5, n6, n7, n8, n9]; try rfl)); simp only [zp, zq, z0, z1])
          | ((with_reducible refine sx_call hp (negT _ (by assumption) _) ?_); clear hp; (try clear w1); intro w1 hp))
    exact bodyPost_ret (results_one rfl rfl) rfl ⟨rfl, hp.keep⟩
  · rw [if_neg hlt]
    rw [decide_eq_false hlt] at hn
    by_cases h0 : n = 0
    · rw [if_pos h0]
      rw [decide_eq_true h0] at hz
      clear h0 h hlt
      go_enter Tryz.func45, Tryz.ntmps45
      have hp := Hp.start [] w
      go_wp2_with (first
          | ((with_reducible apply sx_box hp); exact za rfl; exact rfl; clear hp; (try clear w1); intro g w1 hp; simp only [zp, zq, z0, z1])
          | ((with_reducible apply sx_load_agg hp); exact zt rfl; infer_instance; infer_instance; (first | exact zl rfl | exact LB_le (by omega)); (first | (with_reducible exact LB_set (by omega)) | (simp only [n0, Nat.reduceAdd, n1, n2, n3, n4, n5, n6, n7, n8, n9]; try rfl)); simp only [zp, zq, z0, z1])
          | ((with_reducible refine sx_call hp (negF _ (by assumption) _) ?_); clear hp; (try clear w1); intro w1 hp))
      exact bodyPost_ret (results_one rfl rfl) rfl ⟨rfl, hp.keep⟩
    · rw [if_neg h0]
      rw [decide_eq_false h0] at hz
      clear h0 h hlt
      go_enter Tryz.func45, Tryz.ntmps45
      have hp := Hp.start [] w
      go_wp2_with (first
          | ((with_reducible apply sx_box hp); exact za rfl; exact rfl; clear hp; (try clear w1); intro g w1 hp; simp only [zp, zq, z0, z1])
          | ((with_reducible apply sx_load_agg hp); exact zt rfl; infer_instance; infer_instance; (first | exact zl rfl | exact LB_le (by omega)); (first | (with_reducible exact LB_set (by omega)) | (simp only [n0, Nat.reduceAdd, n1, n2, n3, n4, n5, n6, n7, n8, n9]; try rfl)); simp only [zp, zq, z0, z1])
          | ((with_reducible refine sx_call hp (negF _ (by assumption) _) ?_); clear hp; (try clear w1); intro w1 hp))
      exact bodyPost_ret (results_one rfl rfl) rfl ⟨rfl, hp.keep⟩
end Go.Proofs.YtbdkbmhejoakiaaGreatDoor
