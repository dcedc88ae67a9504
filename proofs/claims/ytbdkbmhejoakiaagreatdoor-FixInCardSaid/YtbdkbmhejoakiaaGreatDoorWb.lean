/-
  Package wide: turning over, sizes (contracts).
-/
import Derived.Test.YtbdkbmhejoakiaaGreatDoorWa
set_option linter.unusedSimpArgs false
set_option maxRecDepth 100000
namespace Go.Proofs.YtbdkbmhejoakiaaGreatDoor
open Go Go.RowKit

theorem negative_any (n : Int) (w : World) : Calls Tryz.prog 78 #[W n] w (Ret (.bool (ng n)) w) := by
  have h0 := lb_nonneg n 7
  have h1 := lb_lt n 7
  go_enter Tryz.func78, Tryz.ntmps78
  have hp := Hp.start [] w
  go_wp2_with (first
          | ((with_reducible apply sx_box hp); exact za rfl; exact rfl; clear hp; (try clear w1); intro g w1 hp; simp only [zp, zq, z0, z1])
          | ((with_reducible apply sx_load_one hp); exact zt rfl; infer_instance; infer_instance; (first | exact zio rfl | exact LB_get (by omega)); simp only [zp, zq, z0, z1]))
  refine bodyPost_ret (results_one (v := .bool (ng n)) rfl ?_) rfl ⟨rfl, hp.keep⟩
  show Value.bool _ = Value.bool _
  congr 1
  unfold ng
  rw [Bool.eq_iff_iff, beq_iff_eq, decide_eq_true_iff]
  omega
theorem negT (n : Int) (h : ng n = true) (w : World) : Calls Tryz.prog 78 #[W n] w (Ret (.bool true) w) := h ▸ negative_any n w
theorem negF (n : Int) (h : ng n = false) (w : World) : Calls Tryz.prog 78 #[W n] w (Ret (.bool false) w) := h ▸ negative_any n w

set_option maxHeartbeats 4000000 in
theorem not_any (a : Int) (w : World) : Calls Tryz.prog 104 #[W a] w (Ret (W (-a - 1)) w) := by
  go_enter Tryz.func104, Tryz.ntmps104
  have hp := Hp.start [] w
  go_wp2_with (first
          | ((with_reducible apply sx_box hp); exact za rfl; exact rfl; clear hp; (try clear w1); intro g w1 hp; simp only [zp, zq, z0, z1])
          | ((with_reducible apply sx_alloc hp); infer_instance; exact rfl; clear hp; (try clear w1); intro g w1 hp; simp only [zp, zq, z0, z1])
          | ((with_reducible apply sx_load_agg hp); exact zt rfl; infer_instance; infer_instance; (first | exact zl rfl | exact LB_le (by omega)); (first | (with_reducible exact LB_set (by omega)) | (simp only [n0, Nat.reduceAdd, n1, n2, n3, n4, n5, n6, n7, n8, n9]; try rfl)); simp only [zp, zq, z0, z1])
          | ((with_reducible apply sx_load_one hp); exact zt rfl; infer_instance; infer_instance; (first | exact zio rfl | exact LB_get (by omega)); simp only [zp, zq, z0, z1])
          | ((with_reducible apply sx_store hp); exact zt rfl; (first | exact za rfl | exact zi rfl); exact rfl; (first | exact AggTy.size | exact OneTy.size); exact rfl; infer_instance; (first | (with_reducible exact LB_set (by omega)) | (simp only [n0, Nat.reduceAdd, n1, n2, n3, n4, n5, n6, n7, n8, n9]; try rfl)); (first | exact zl rfl | exact LB_le (by omega)); exact rfl; infer_instance; clear hp; (try clear w1); intro w1 hp))
  rename_i ga K hK
  go_loopw [4] (fun i wr => ∃ (k : Nat) (F : Nat → Int), k ≤ 8 ∧ i = .int .i64 k ∧ (∀ j, j < k → F j = lb (-a - 1) j) ∧ (∀ j, k ≤ j → F j = lb a j) ∧
      Hp [] w [⟨g, 84, [.int .u64 0, .int .u64 0, .int .u64 0, .int .u64 0, .int .u64 0, .int .u64 0, .int .u64 0, .int .u64 0]⟩, ⟨ga, 84, LB F⟩] wr) (fun i _ => 8 - (intOf i).toNat)
  case atStart => exact ⟨0, lb a, by omega, rfl, fun j h => by omega, fun j _ => rfl, hp⟩
  case round =>
    clear hp
    obtain ⟨k, F, hk, rfl, hlo, hhi, hp⟩ := hrel
    have hF := Lib.hid (hhi k (Nat.le_refl _))
    have hFn : 0 ≤ F k := by rw [hF.out]; exact lb_nonneg _ _
    have hFn' : F k < 18446744073709551616 := by rw [hF.out]; exact lb_lt _ _
    have Hlo := Lib.hid hlo
    clear hlo
    have Hhi := Lib.hid hhi
    clear hhi
    by_cases hlt : k < 8
    · go_wp2_with (first
          | ((with_reducible apply sx_box hp); exact za rfl; exact rfl; clear hp; (try clear w1); intro g w1 hp; simp only [zp, zq, z0, z1])
          | ((with_reducible apply sx_alloc hp); infer_instance; exact rfl; clear hp; (try clear w1); intro g w1 hp; simp only [zp, zq, z0, z1])
          | ((with_reducible apply sx_load_agg hp); exact zt rfl; infer_instance; infer_instance; (first | exact zl rfl | exact LB_le (by omega)); (first | (with_reducible exact LB_set (by omega)) | (simp only [n0, Nat.reduceAdd, n1, n2, n3, n4, n5, n6, n7, n8, n9]; try rfl)); simp only [zp, zq, z0, z1])
          | ((with_reducible apply sx_load_one hp); exact zt rfl; infer_instance; infer_instance; (first | exact zio rfl | exact LB_get (by omega)); simp only [zp, zq, z0, z1])
          | ((with_reducible apply sx_store hp); exact zt rfl; (first | exact za rfl | exact zi rfl); exact rfl; (first | exact AggTy.size | exact OneTy.size); exact rfl; infer_instance; (first | (with_reducible exact LB_set (by omega)) | (simp only [n0, Nat.reduceAdd, n1, n2, n3, n4, n5, n6, n7, n8, n9]; try rfl)); (first | exact zl rfl | exact LB_le (by omega)); exact rfl; infer_instance; clear hp; (try clear w1); intro w1 hp))
      go_roundw
      case rel =>
        rw [bits_not_u64 _ hFn hFn', hF.out, ← lb_not a k] at hp
        refine ⟨k + 1, upd F k (lb (-a - 1) k), by omega, by go_num, ?_, ?_, hp⟩
        · intro j hj
          by_cases e : j = k
          · subst e; rw [upd_same]
          · rw [upd_ne _ _ e]; exact Hlo.out j (by omega)
        · intro j hj
          rw [upd_ne _ _ (by omega)]; exact Hhi.out j (by omega)
      case measure => simp [intOf]; omega
    · obtain rfl : k = 8 := by omega
      have e : LB F = LB (lb (-a - 1)) := LB_congr fun j hj => Hlo.out j hj
      rw [e] at hp
      clear e Hlo Hhi hF hFn hFn'
      have hp' : Hp [] w [⟨g, 84, [.int .u64 0, .int .u64 0, .int .u64 0, .int .u64 0, .int .u64 0, .int .u64 0, .int .u64 0, .int .u64 0]⟩, ⟨ga, 84, [.int .u64 (lb (-a - 1) 0), .int .u64 (lb (-a - 1) 1), .int .u64 (lb (-a - 1) 2), .int .u64 (lb (-a - 1) 3), .int .u64 (lb (-a - 1) 4), .int .u64 (lb (-a - 1) 5), .int .u64 (lb (-a - 1) 6), .int .u64 (lb (-a - 1) 7)]⟩] wr := hp
      clear hp
      have hp := hp'
      clear hp'
      go_wp2_with (first
          | ((with_reducible apply sx_box hp); exact za rfl; exact rfl; clear hp; (try clear w1); intro g w1 hp; simp only [zp, zq, z0, z1])
          | ((with_reducible apply sx_alloc hp); infer_instance; exact rfl; clear hp; (try clear w1); intro g w1 hp; simp only [zp, zq, z0, z1])
          | ((with_reducible apply sx_load_agg hp); exact zt rfl; infer_instance; infer_instance; (first | exact zl rfl | exact LB_le (by omega)); (first | (with_reducible exact LB_set (by omega)) | (simp only [n0, Nat.reduceAdd, n1, n2, n3, n4, n5, n6, n7, n8, n9]; try rfl)); simp only [zp, zq, z0, z1])
          | ((with_reducible apply sx_load_one hp); exact zt rfl; infer_instance; infer_instance; (first | exact zio rfl | exact LB_get (by omega)); simp only [zp, zq, z0, z1])
          | ((with_reducible apply sx_store hp); exact zt rfl; (first | exact za rfl | exact zi rfl); exact rfl; (first | exact AggTy.size | exact OneTy.size); exact rfl; infer_instance; (first | (with_reducible exact LB_set (by omega)) | (simp only [n0, Nat.reduceAdd, n1, n2, n3, n4, n5, n6, n7, n8, n9]; try rfl)); (first | exact zl rfl | exact LB_le (by omega)); exact rfl; infer_instance; clear hp; (try clear w1); intro w1 hp))
      exact bodyPost_ret (results_one rfl ⟨_, rfl, run_load_agg hp (Nat.le_of_ble_eq_true rfl)⟩) rfl ⟨rfl, hp.keep⟩

theorem plus_zero (a c : Int) (h0 : 0 ≤ c) (h1 : c ≤ 1) (w : World) : Calls Tryz.prog 99 #[W a, .agg #[.int .u64 0, .int .u64 0, .int .u64 0, .int .u64 0, .int .u64 0, .int .u64 0, .int .u64 0, .int .u64 0], .int .u64 c] w (Ret (W (a + c)) w) := by
  have h := plus_any a 0 c h0 h1 w
  rw [W_zero, Int.add_zero] at h
  exact h

theorem plus_not (a : Int) (w : World) : Calls Tryz.prog 99 #[W (-a - 1), .agg #[.int .u64 0, .int .u64 0, .int .u64 0, .int .u64 0, .int .u64 0, .int .u64 0, .int .u64 0, .int .u64 0], .int .u64 1] w (Ret (W (-a)) w) := by
  have h := plus_zero (-a - 1) 1 (by omega) (by omega) w
  rw [show -a - 1 + 1 = -a by omega] at h
  exact h
theorem minus_any (a : Int) (w : World) : Calls Tryz.prog 98 #[W a] w (Ret (W (-a)) w) := by
  go_enter Tryz.func98, Tryz.ntmps98
  have hp := Hp.start [] w
  go_wp2_with (first
          | ((with_reducible apply sx_box hp); exact za rfl; exact rfl; clear hp; (try clear w1); intro g w1 hp; simp only [zp, zq, z0, z1])
          | ((with_reducible apply sx_alloc hp); infer_instance; exact rfl; clear hp; (try clear w1); intro g w1 hp; simp only [zp, zq, z0, z1])
          | ((with_reducible apply sx_load_agg hp); exact zt rfl; infer_instance; infer_instance; (first | exact zl rfl | exact LB_le (by omega)); (first | (with_reducible exact LB_set (by omega)) | (simp only [n0, Nat.reduceAdd, n1, n2, n3, n4, n5, n6, n7, n8, n9]; try rfl)); simp only [zp, zq, z0, z1])
          | ((with_reducible apply sx_store hp); exact zt rfl; exact za rfl; exact rfl; (first | exact AggTy.size | exact OneTy.size); exact rfl; infer_instance; (first | (with_reducible exact LB_set (by omega)) | (simp only [n0, Nat.reduceAdd, n1, n2, n3, n4, n5, n6, n7, n8, n9]; try rfl)); (first | exact zl rfl | exact LB_le (by omega)); exact rfl; infer_instance; clear hp; (try clear w1); intro w1 hp)
          | ((with_reducible first | refine sx_call hp (not_any _ _) ?_ | refine sx_call hp (plus_not _ _) ?_); clear hp; (try clear w1); intro w1 hp))
  exact bodyPost_ret (results_one rfl ⟨_, rfl, run_load_agg hp (Nat.le_of_ble_eq_true rfl)⟩) rfl ⟨rfl, hp.keep⟩

/-- What 'size' makes of a number of 512 bits: its absolute value, if it is read with a sign. -/
def sz (a : Int) : Int := if ng a then -a else a
theorem size_any (a : Int) (w : World) : Calls Tryz.prog 77 #[W a] w (Ret (W (sz a)) w) := by
  unfold sz
  cases h : ng a
  all_goals
    go_enter Tryz.func77, Tryz.ntmps77
    have hp := Hp.start [] w
    go_wp2_with (first
          | ((with_reducible apply sx_box hp); exact za rfl; exact rfl; clear hp; (try clear w1); intro g w1 hp; simp only [zp, zq, z0, z1])
          | ((with_reducible apply sx_alloc hp); infer_instance; exact rfl; clear hp; (try clear w1); intro g w1 hp; simp only [zp, zq, z0, z1])
          | ((with_reducible apply sx_load_agg hp); exact zt rfl; infer_instance; infer_instance; (first | exact zl rfl | exact LB_le (by omega)); (first | (with_reducible exact LB_set (by omega)) | (simp only [n0, Nat.reduceAdd, n1, n2, n3, n4, n5, n6, n7, n8, n9]; try rfl)); simp only [zp, zq, z0, z1])
          | ((with_reducible apply sx_store hp); exact zt rfl; exact za rfl; exact rfl; (first | exact AggTy.size | exact OneTy.size); exact rfl; infer_instance; (first | (with_reducible exact LB_set (by omega)) | (simp only [n0, Nat.reduceAdd, n1, n2, n3, n4, n5, n6, n7, n8, n9]; try rfl)); (first | exact zl rfl | exact LB_le (by omega)); exact rfl; infer_instance; clear hp; (try clear w1); intro w1 hp)
          | ((with_reducible first | refine sx_call hp (negF _ (by assumption) _) ?_ | refine sx_call hp (negT _ (by assumption) _) ?_ | refine sx_call hp (minus_any _ _) ?_); clear hp; (try clear w1); intro w1 hp))
    exact bodyPost_ret (results_one rfl ⟨_, rfl, run_load_agg hp (Nat.le_of_ble_eq_true rfl)⟩) rfl ⟨rfl, hp.keep⟩
end Go.Proofs.YtbdkbmhejoakiaaGreatDoor
