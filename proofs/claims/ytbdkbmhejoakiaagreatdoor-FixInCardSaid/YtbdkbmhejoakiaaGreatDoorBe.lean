/-
  Package ninepinref01: Below, Small, Sign, Add, Sub, top, size (contracts).
  Package ninepinref01: Small, top, size, Add, Sub (contracts).
-/
import Derived.Test.YtbdkbmhejoakiaaGreatDoorBc
import Derived.Test.YtbdkbmhejoakiaaGreatDoorMc
set_option linter.unusedSimpArgs false
set_option linter.unusedVariables false
set_option maxRecDepth 100000
namespace Go.Proofs.YtbdkbmhejoakiaaGreatDoor
open Go Go.RowKit

theorem lb7_neg {n : Int} (h : Fit n) (hn : n < 0) : 9223372036854775808 ≤ lb n 7 := by
  have := ng_fit h
  unfold ng at this
  rw [decide_eq_true hn] at this
  exact of_decide_eq_true this
theorem lb7_pos {n : Int} (h : Fit n) (hn : ¬ n < 0) : ¬ 9223372036854775808 ≤ lb n 7 := by
  have := ng_fit h
  unfold ng at this
  rw [decide_eq_false hn] at this
  exact of_decide_eq_false this
set_option maxHeartbeats 4000000 in
theorem rbelow_any (n : Int) (hn : Fit n) (w : World) : Calls Tryz.prog 48 #[W n] w (Ret (.bool (decide (n < 0))) w) := by
  by_cases h : n < 0
  · rw [decide_eq_true h]
    have h7 := lb7_neg hn h
    clear hn h
    go_enter Tryz.func48, Tryz.ntmps48
    have hp := Hp.start [] w
    go_wp2_with (first
          | ((with_reducible apply sx_box hp); exact za rfl; exact rfl; clear hp; (try clear w1); intro g w1 hp; simp only [zp, zq, z0, z1])
          | ((with_reducible apply sx_load_one hp); exact zt rfl; infer_instance; infer_instance; (first | exact zio rfl | exact LB_get (by omega)); simp only [zp, zq, z0, z1]))
    exact bodyPost_ret (results_one rfl rfl) rfl ⟨rfl, hp.keep⟩
  · rw [decide_eq_false h]
    have h7 := lb7_pos hn h
    clear hn h
    go_enter Tryz.func48, Tryz.ntmps48
    have hp := Hp.start [] w
    go_wp2_with (first
          | ((with_reducible apply sx_box hp); exact za rfl; exact rfl; clear hp; (try clear w1); intro g w1 hp; simp only [zp, zq, z0, z1])
          | ((with_reducible apply sx_load_one hp); exact zt rfl; infer_instance; infer_instance; (first | exact zio rfl | exact LB_get (by omega)); simp only [zp, zq, z0, z1]))
    exact bodyPost_ret (results_one rfl rfl) rfl ⟨rfl, hp.keep⟩
set_option maxHeartbeats 4000000 in
theorem rsign_any (n : Int) (hn : Fit n) (w : World) : Calls Tryz.prog 66 #[W n] w (Ret (.int .i64 (sgn n)) w) := by
  have hb := fun w => rbelow_any n hn w
  by_cases h : n < 0
  · rw [decide_eq_true h] at hb
    unfold sgn
    rw [if_pos h]
    have HB := Lib.hid hb
    clear hb h hn
    go_enter Tryz.func66, Tryz.ntmps66
    have hp := Hp.start [] w
    go_wp2_with (first
          | ((with_reducible apply sx_box hp); exact za rfl; exact rfl; clear hp; (try clear w1); intro g w1 hp; simp only [zp, zq, z0, z1])
          | ((with_reducible apply sx_load_agg hp); exact zt rfl; infer_instance; infer_instance; (first | exact zl rfl | exact LB_le (by omega)); (first | (with_reducible exact LB_set (by omega)) | (simp only [n0, Nat.reduceAdd, n1, n2, n3, n4, n5, n6, n7, n8, n9]; try rfl)); simp only [zp, zq, z0, z1])
          | ((with_reducible apply sx_load_one hp); exact zt rfl; infer_instance; infer_instance; (first | exact zio rfl | exact LB_get (by omega)); simp only [zp, zq, z0, z1])
          | ((with_reducible refine sx_call hp (HB.out _) ?_); clear hp; (try clear w1); intro w1 hp))
    exact bodyPost_ret (results_one rfl rfl) rfl ⟨rfl, hp.keep⟩
  · rw [decide_eq_false h] at hb
    have HB := Lib.hid hb
    obtain ⟨s, hs⟩ : ∃ s, s = sgn n := ⟨_, rfl⟩
    have HP : Hid (n ≠ 0 → s = 1) := Lib.hid fun h0 => by rw [hs]; unfold sgn; rw [if_neg h, if_neg h0]
    have HZ : Hid (n = 0 → s = 0) := Lib.hid fun h0 => by rw [hs]; unfold sgn; rw [if_neg h, if_pos h0]
    rw [← hs]
    have HN := Lib.hid hn
    clear hb h hn hs
    go_enter Tryz.func66, Tryz.ntmps66
    have hp := Hp.start [] w
    go_wp2_with (first
          | ((with_reducible apply sx_box hp); exact za rfl; exact rfl; clear hp; (try clear w1); intro g w1 hp; simp only [zp, zq, z0, z1])
          | ((with_reducible apply sx_load_agg hp); exact zt rfl; infer_instance; infer_instance; (first | exact zl rfl | exact LB_le (by omega)); (first | (with_reducible exact LB_set (by omega)) | (simp only [n0, Nat.reduceAdd, n1, n2, n3, n4, n5, n6, n7, n8, n9]; try rfl)); simp only [zp, zq, z0, z1])
          | ((with_reducible apply sx_load_one hp); exact zt rfl; infer_instance; infer_instance; (first | exact zio rfl | exact LB_get (by omega)); simp only [zp, zq, z0, z1])
          | ((with_reducible refine sx_call hp (HB.out _) ?_); clear hp; (try clear w1); intro w1 hp))
    obtain ⟨g1, rfl⟩ : ∃ x : Nat, x = g := ⟨_, rfl⟩
    go_loopw [3] (fun i wr => ∃ k : Nat, k ≤ 8 ∧ i = .int .i64 k ∧ (∀ j, j < k → lb n j = 0) ∧ Hp [] w [⟨g1, 30, LB (lb n)⟩] wr) (fun i _ => 8 - (intOf i).toNat)
    case atStart => exact ⟨0, by omega, rfl, fun j _ => by omega, hp⟩
    case round =>
      clear hp
      obtain ⟨k, hk, rfl, hall, hp⟩ := hrel
      have HALL := Lib.hid hall
      clear hall
      by_cases hk1 : k < 8
      · have hk2 : (k : Int) < 8 := by omega
        obtain ⟨a, ha⟩ : ∃ a, a = lb n k := ⟨_, rfl⟩
        have HA := Lib.hid ha
        by_cases he : lb n k = 0
        · have hne : (lb n k != 0) = false := by simp [he]
          have HE := Lib.hid he
          clear he ha
          go_wp2_with (first
          | ((with_reducible apply sx_box hp); exact za rfl; exact rfl; clear hp; (try clear w1); intro g w1 hp; simp only [zp, zq, z0, z1])
          | ((with_reducible apply sx_load_agg hp); exact zt rfl; infer_instance; infer_instance; (first | exact zl rfl | exact LB_le (by omega)); (first | (with_reducible exact LB_set (by omega)) | (simp only [n0, Nat.reduceAdd, n1, n2, n3, n4, n5, n6, n7, n8, n9]; try rfl)); simp only [zp, zq, z0, z1])
          | ((with_reducible apply sx_load_one hp); exact zt rfl; infer_instance; infer_instance; (first | exact zio rfl | exact LB_get (by omega)); simp only [zp, zq, z0, z1]))
          go_roundw
          case rel =>
            refine ⟨k + 1, by omega, by go_num, fun j h1 => ?_, hp⟩
            by_cases hj : j = k
            · rw [hj]; exact HE.out
            · exact HALL.out j (by omega)
          case measure => simp [intOf]; omega
        · obtain rfl := HP.out fun h0 => he (by rw [h0, lb_zero])
          have hne : (lb n k != 0) = true := by simp [he]
          clear he ha
          go_wp2_with (first
          | ((with_reducible apply sx_box hp); exact za rfl; exact rfl; clear hp; (try clear w1); intro g w1 hp; simp only [zp, zq, z0, z1])
          | ((with_reducible apply sx_load_agg hp); exact zt rfl; infer_instance; infer_instance; (first | exact zl rfl | exact LB_le (by omega)); (first | (with_reducible exact LB_set (by omega)) | (simp only [n0, Nat.reduceAdd, n1, n2, n3, n4, n5, n6, n7, n8, n9]; try rfl)); simp only [zp, zq, z0, z1])
          | ((with_reducible apply sx_load_one hp); exact zt rfl; infer_instance; infer_instance; (first | exact zio rfl | exact LB_get (by omega)); simp only [zp, zq, z0, z1]))
          exact bodyPost_ret (results_one rfl rfl) rfl ⟨rfl, hp.keep⟩
      · obtain rfl : k = 8 := by omega
        obtain rfl := HZ.out (eq_of_lb HN.out fit_zero fun i hi => by rw [HALL.out i hi, lb_zero])
        go_wp2_with (first
          | ((with_reducible apply sx_box hp); exact za rfl; exact rfl; clear hp; (try clear w1); intro g w1 hp; simp only [zp, zq, z0, z1])
          | ((with_reducible apply sx_load_agg hp); exact zt rfl; infer_instance; infer_instance; (first | exact zl rfl | exact LB_le (by omega)); (first | (with_reducible exact LB_set (by omega)) | (simp only [n0, Nat.reduceAdd, n1, n2, n3, n4, n5, n6, n7, n8, n9]; try rfl)); simp only [zp, zq, z0, z1])
          | ((with_reducible apply sx_load_one hp); exact zt rfl; infer_instance; infer_instance; (first | exact zio rfl | exact LB_get (by omega)); simp only [zp, zq, z0, z1]))
        exact bodyPost_ret (results_one rfl rfl) rfl ⟨rfl, hp.keep⟩
end Go.Proofs.YtbdkbmhejoakiaaGreatDoor
set_option linter.unusedSimpArgs false
set_option linter.unusedVariables false
set_option maxRecDepth 100000
namespace Go.Proofs.YtbdkbmhejoakiaaGreatDoor
open Go Go.RowKit

set_option maxHeartbeats 4000000 in
theorem rsmall_any (n : Int) (h0 : -9223372036854775808 ≤ n) (h1 : n < 9223372036854775808) (w : World) : Calls Tryz.prog 35 #[.int .i64 n] w (Ret (W n) w) := by
  go_enter Tryz.func35, Tryz.ntmps35
  have hp := Hp.start [] w
  go_wp2_with (first
          | ((with_reducible apply sx_alloc hp); infer_instance; exact rfl; clear hp; (try clear w1); intro g w1 hp; simp only [zp, zq, z0, z1])
          | ((with_reducible apply sx_load_agg hp); exact zt rfl; infer_instance; infer_instance; (first | exact zl rfl | exact LB_le (by omega)); (first | (with_reducible exact LB_set (by omega)) | (simp only [n0, Nat.reduceAdd, n1, n2, n3, n4, n5, n6, n7, n8, n9]; try rfl)); simp only [zp, zq, z0, z1])
          | ((with_reducible apply sx_store hp); exact zt rfl; (first | exact za rfl | exact zi rfl); exact rfl; (first | exact AggTy.size | exact OneTy.size); exact rfl; infer_instance; (first | (with_reducible exact LB_set (by omega)) | (simp only [n0, Nat.reduceAdd, n1, n2, n3, n4, n5, n6, n7, n8, n9]; try rfl)); (first | exact zl rfl | exact LB_le (by omega)); exact rfl; infer_instance; clear hp; (try clear w1); intro w1 hp))
  rename_i ga K hK
  obtain ⟨f, hf⟩ : ∃ f : Int, f = if n < 0 then 18446744073709551615 else 0 := ⟨_, rfl⟩
  have HF := Lib.hid hf
  go_loopw [4] (fun i wr => ∃ (k : Nat) (F : Nat → Int), k ≤ 8 ∧ i = .int .i64 k ∧ (∀ j, j < k → F j = f) ∧ (0 ≤ n → ∀ j, F j = 0) ∧
      Hp [] w [⟨g, 30, LB F⟩, ⟨ga, 30, [.int .u64 0, .int .u64 0, .int .u64 0, .int .u64 0, .int .u64 0, .int .u64 0, .int .u64 0, .int .u64 0]⟩] wr) (fun i _ => 8 - (intOf i).toNat)
  case atStart => exact ⟨0, fun _ => 0, by omega, rfl, fun j h => by omega, fun _ _ => rfl, hp⟩
  case round =>
    clear hp
    obtain ⟨k, F, hk, rfl, hlo, hz, hp⟩ := hrel
    have Hlo := Lib.hid hlo
    have Hz := Lib.hid hz
    clear hlo hz
    by_cases hlt : k < 8
    · by_cases hn : n < 0
      · rw [if_pos hn] at hf
        go_wp2_with (first
          | ((with_reducible apply sx_alloc hp); infer_instance; exact rfl; clear hp; (try clear w1); intro g w1 hp; simp only [zp, zq, z0, z1])
          | ((with_reducible apply sx_load_agg hp); exact zt rfl; infer_instance; infer_instance; (first | exact zl rfl | exact LB_le (by omega)); (first | (with_reducible exact LB_set (by omega)) | (simp only [n0, Nat.reduceAdd, n1, n2, n3, n4, n5, n6, n7, n8, n9]; try rfl)); simp only [zp, zq, z0, z1])
          | ((with_reducible apply sx_store hp); exact zt rfl; (first | exact za rfl | exact zi rfl); exact rfl; (first | exact AggTy.size | exact OneTy.size); exact rfl; infer_instance; (first | (with_reducible exact LB_set (by omega)) | (simp only [n0, Nat.reduceAdd, n1, n2, n3, n4, n5, n6, n7, n8, n9]; try rfl)); (first | exact zl rfl | exact LB_le (by omega)); exact rfl; infer_instance; clear hp; (try clear w1); intro w1 hp))
        go_roundw
        case rel =>
          refine ⟨k + 1, upd F k 18446744073709551615, by omega, by go_num, ?_, fun h => by omega, hp⟩
          intro j hj
          by_cases e : j = k
          · subst e; rw [upd_same, hf]
          · rw [upd_ne _ _ e]; exact Hlo.out j (by omega)
        case measure => simp [intOf]; omega
      · rw [if_neg hn] at hf
        go_wp2_with (first
          | ((with_reducible apply sx_alloc hp); infer_instance; exact rfl; clear hp; (try clear w1); intro g w1 hp; simp only [zp, zq, z0, z1])
          | ((with_reducible apply sx_load_agg hp); exact zt rfl; infer_instance; infer_instance; (first | exact zl rfl | exact LB_le (by omega)); (first | (with_reducible exact LB_set (by omega)) | (simp only [n0, Nat.reduceAdd, n1, n2, n3, n4, n5, n6, n7, n8, n9]; try rfl)); simp only [zp, zq, z0, z1])
          | ((with_reducible apply sx_store hp); exact zt rfl; (first | exact za rfl | exact zi rfl); exact rfl; (first | exact AggTy.size | exact OneTy.size); exact rfl; infer_instance; (first | (with_reducible exact LB_set (by omega)) | (simp only [n0, Nat.reduceAdd, n1, n2, n3, n4, n5, n6, n7, n8, n9]; try rfl)); (first | exact zl rfl | exact LB_le (by omega)); exact rfl; infer_instance; clear hp; (try clear w1); intro w1 hp))
        go_roundw
        case rel =>
          refine ⟨k + 1, F, by omega, by go_num, fun j hj => ?_, Hz.out, hp⟩
          rw [Hz.out (by omega) j, hf]
        case measure => simp [intOf]; omega
    · obtain rfl : k = 8 := by omega
      have e : LB F = LB (fun _ => f) := LB_congr fun j hj => Hlo.out j hj
      rw [e] at hp
      clear e Hlo Hz hf
      have e0 : IntKind.u64.wrap n = lb n 0 := by rw [IntKind.wrap_u64, lb_zero_ix]
      have E0 := Lib.hid e0
      clear e0
      have hp' : Hp [] w [⟨g, 30, [.int .u64 f, .int .u64 f, .int .u64 f, .int .u64 f, .int .u64 f, .int .u64 f, .int .u64 f, .int .u64 f]⟩, ⟨ga, 30, [.int .u64 0, .int .u64 0, .int .u64 0, .int .u64 0, .int .u64 0, .int .u64 0, .int .u64 0, .int .u64 0]⟩] wr := hp
      clear hp
      have hp := hp'
      clear hp'
      go_wp2_with (first
          | ((with_reducible apply sx_alloc hp); infer_instance; exact rfl; clear hp; (try clear w1); intro g w1 hp; simp only [zp, zq, z0, z1])
          | ((with_reducible apply sx_load_agg hp); exact zt rfl; infer_instance; infer_instance; (first | exact zl rfl | exact LB_le (by omega)); (first | (with_reducible exact LB_set (by omega)) | (simp only [n0, Nat.reduceAdd, n1, n2, n3, n4, n5, n6, n7, n8, n9]; try rfl)); simp only [zp, zq, z0, z1])
          | ((with_reducible apply sx_store hp); exact zt rfl; (first | exact za rfl | exact zi rfl); exact rfl; (first | exact AggTy.size | exact OneTy.size); exact rfl; infer_instance; (first | (with_reducible exact LB_set (by omega)) | (simp only [n0, Nat.reduceAdd, n1, n2, n3, n4, n5, n6, n7, n8, n9]; try rfl)); (first | exact zl rfl | exact LB_le (by omega)); exact rfl; infer_instance; clear hp; (try clear w1); intro w1 hp))
      have hl : ∀ i, 1 ≤ i → f = lb n i := fun i hi => by rw [lb_small n h0 h1 i hi, HF.out]
      have e : W n = .agg #[.int .u64 (IntKind.u64.wrap n), .int .u64 f, .int .u64 f, .int .u64 f, .int .u64 f, .int .u64 f, .int .u64 f, .int .u64 f] := by
        simp only [W, ← hl 1 (by omega), ← hl 2 (by omega), ← hl 3 (by omega), ← hl 4 (by omega), ← hl 5 (by omega), ← hl 6 (by omega), ← hl 7 (by omega), E0.out]
      exact bodyPost_ret (results_one rfl ⟨_, rfl, run_load_agg hp (Nat.le_of_ble_eq_true rfl)⟩) rfl ⟨congrArg Ending.returned e.symm, hp.keep⟩

/-- How many bits there are up to the last 1. -/
def tp (x : Int) : Nat → Nat
  | 0 => 0
  | k + 1 => if bt x k = 0 then tp x k else k + 1
theorem tp_le (x : Int) : ∀ k, tp x k ≤ k
  | 0 => Nat.le_refl _
  | k + 1 => by
    unfold tp
    split
    · exact Nat.le_succ_of_le (tp_le x k)
    · exact Nat.le_refl _
theorem tp_zero (x : Int) : ∀ {k j : Nat}, tp x k ≤ j → j < k → bt x j = 0
  | 0, j, h, hj => by omega
  | k + 1, j, h, hj => by
    unfold tp at h
    split at h
    · by_cases e : j = k
      · rw [e]; assumption
      · exact tp_zero x h (by omega)
    · omega
set_option maxHeartbeats 4000000 in
theorem rtop_any (x : Int) (L : Nat) (hL : L ≤ 4096) (v : Value) (w : World) (h : BSl w v x L) : Calls Tryz.prog 61 #[v] w (Ret (.int .i64 (tp x L)) w) := by
  obtain ⟨ga, oa, ca, bca, ta, qa, rfl, hba, hga⟩ := h
  have HGA := Lib.hid hga
  clear hga
  go_enter Tryz.func61, Tryz.ntmps61
  have hp := Hp.start [] w
  go_wp2_with (first
          | ((with_reducible apply sx_load_one hp); exact zt rfl; infer_instance; infer_instance; (first | exact zio rfl | exact LB_get (by omega)); simp only [zp, zq, z0, z1])
          | ((with_reducible apply sx_indexAddr); exact zx rfl; exact zk rfl; infer_instance; (first | exact AggTy.size | exact OneTy.size); omega; omega; ((try simp only [m0, Int.reduceToNat, m1, m2, Nat.reduceMul, Nat.reduceAdd, m3, m4, m5, n0]); exact rfl); simp only [zp, zq, z0, z1])
          | ((with_reducible apply sx_load_far1 hp); exact zt rfl; assumption; infer_instance; (first | assumption | (first | exact zio rfl | exact LB_get (by omega))); simp only [zp, zq, z0, z1]))
  go_loopw [3] (fun i wr => ∃ k : Nat, k ≤ L ∧ i = .int .i64 k ∧ tp x k = tp x L ∧ Hp [] w [] wr) (fun i _ => (intOf i).toNat)
  case atStart => exact ⟨L, by omega, rfl, rfl, hp⟩
  case round =>
    clear hp
    obtain ⟨k, hk, rfl, ht, hp⟩ := hrel
    have HT := Lib.hid ht
    clear ht
    cases k with
    | zero =>
      rw [show (((0 : Nat)) : Int) = 0 from rfl]
      go_wp2_with (first
          | ((with_reducible apply sx_load_one hp); exact zt rfl; infer_instance; infer_instance; (first | exact zio rfl | exact LB_get (by omega)); simp only [zp, zq, z0, z1])
          | ((with_reducible apply sx_indexAddr); exact zx rfl; exact zk rfl; infer_instance; (first | exact AggTy.size | exact OneTy.size); omega; omega; ((try simp only [m0, Int.reduceToNat, m1, m2, Nat.reduceMul, Nat.reduceAdd, m3, m4, m5, n0]); exact rfl); simp only [zp, zq, z0, z1])
          | ((with_reducible apply sx_load_far1 hp); exact zt rfl; assumption; infer_instance; (first | assumption | (first | exact zio rfl | exact LB_get (by omega))); simp only [zp, zq, z0, z1])
          | ((with_reducible apply sx_strip); exact rfl)
          | ((with_reducible apply sx_unwanted); exact rfl; simp only [zp, zq, z0, z1]))
      exact bodyPost_ret (results_one rfl rfl) rfl ⟨by rw [← HT.out]; rfl, hp.keep⟩
    | succ j =>
      have hgj := HGA.out j (by omega)
      obtain ⟨c, hc⟩ : ∃ c : Int, c = ((j + 1 : Nat) : Int) := ⟨_, rfl⟩
      have HC := Lib.hid hc
      rw [← hc]
      have hc1 : c - 1 = (j : Int) := by omega
      have hc0 : (0 : Int) < c := by omega
      have hc2 : c ≤ 4096 := by omega
      have hj2 : (j : Int) < L := by omega
      clear hc
      by_cases hb : bt x j = 0
      · have HB := Lib.hid hb
        rw [hb] at hgj
        clear hb
        go_wp2_with (first
          | ((with_reducible apply sx_load_one hp); exact zt rfl; infer_instance; infer_instance; (first | exact zio rfl | exact LB_get (by omega) | assumption); simp only [zp, zq, z0, z1])
          | ((with_reducible apply sx_indexAddr); exact zx rfl; exact zk rfl; infer_instance; (first | exact AggTy.size | exact OneTy.size); omega; omega; ((try simp only [m0, Int.reduceToNat, m1, m2, Nat.reduceMul, Nat.reduceAdd, m3, m4, m5, n0]); exact rfl); simp only [zp, zq, z0, z1])
          | ((with_reducible apply sx_load_far1 hp); exact zt rfl; assumption; infer_instance; (first | assumption | (first | exact zio rfl | exact LB_get (by omega) | assumption)); simp only [zp, zq, z0, z1])
          | ((with_reducible apply sx_strip); exact rfl)
          | ((with_reducible apply sx_unwanted); exact rfl; simp only [zp, zq, z0, z1]))
        go_roundw
        case rel =>
          refine ⟨j, by omega, by go_num, ?_, hp⟩
          rw [← HT.out]
          exact (if_pos HB.out).symm
        case measure => simp [intOf]; omega
      · have HB := Lib.hid hb
        obtain ⟨b, hbb⟩ : ∃ b, b = bt x j := ⟨_, rfl⟩
        rw [← hbb] at hgj hb
        clear hbb
        have hb1 : (b == 0) = false := by simp [hb]
        clear hb
        go_wp2_with (first
          | ((with_reducible apply sx_load_one hp); exact zt rfl; infer_instance; infer_instance; (first | exact zio rfl | exact LB_get (by omega) | assumption); simp only [zp, zq, z0, z1])
          | ((with_reducible apply sx_indexAddr); exact zx rfl; exact zk rfl; infer_instance; (first | exact AggTy.size | exact OneTy.size); omega; omega; ((try simp only [m0, Int.reduceToNat, m1, m2, Nat.reduceMul, Nat.reduceAdd, m3, m4, m5, n0]); exact rfl); simp only [zp, zq, z0, z1])
          | ((with_reducible apply sx_load_far1 hp); exact zt rfl; assumption; infer_instance; (first | assumption | (first | exact zio rfl | exact LB_get (by omega) | assumption)); simp only [zp, zq, z0, z1])
          | ((with_reducible apply sx_strip); exact rfl)
          | ((with_reducible apply sx_unwanted); exact rfl; simp only [zp, zq, z0, z1]))
        exact bodyPost_ret (results_one rfl rfl) rfl ⟨by rw [← HT.out, show tp x (j + 1) = j + 1 from if_neg HB.out, HC.out]; rfl, hp.keep⟩
theorem long520 (n : Int) (hn : Fit n) (w : World) : Calls Tryz.prog 73 #[W n, .int .i64 520] w (RetN (fun g => .slice (some ⟨g, 0, none⟩) 520 520) 3 (tab (bt n) 520) w) := long_any n hn 520 (by omega) w
theorem M511_520 : M511 * 256 = 2 ^ (520 - 1) := by
  have h1 : (2 : Int) ^ (520 - 1) = 2 ^ (64 * 7) * 2 ^ 71 := by rw [← Int.pow_add]
  rw [h1, pow448]
  rfl
theorem rof520 (m : Int) (hm : -(M511 * 256) ≤ m ∧ m < M511 * 256) (v : Value) (w : World) (h : BSl w v m 520) : Calls Tryz.prog 63 #[v] w (Ret (.tuple #[W (fz m), .bool (decide (Fit m))]) w) := by
  rw [M511_520] at hm
  exact rof_any m 520 (by omega) (by omega) hm v w h
theorem room_add {a b : Int} (ha : Fit a) (hb : Fit b) : -(M511 * 256) ≤ a + b ∧ a + b < M511 * 256 := by unfold Fit M511 at *; omega
theorem room_sub {a b : Int} (ha : Fit a) (hb : Fit b) : -(M511 * 256) ≤ a + -b ∧ a + -b < M511 * 256 := by unfold Fit M511 at *; omega
set_option maxHeartbeats 4000000 in
theorem radd_any (a b : Int) (ha : Fit a) (hb : Fit b) (w : World) : Calls Tryz.prog 52 #[W a, W b] w (Ret (.tuple #[W (fz (a + b)), .bool (decide (Fit (a + b)))]) w) := by
  have HM := room_add ha hb
  go_enter Tryz.func52, Tryz.ntmps52
  have hp := Hp.start [] w
  go_upto_region 1 with (first
          | ((with_reducible apply sx_box hp); (first | exact za rfl | exact zu rfl | exact zi rfl | exact zb rfl | exact zr rfl | exact zs rfl | exact zf rfl | exact zg rfl | exact zn rfl | exact zv rfl | exact zw rfl); exact rfl; clear hp; (try clear w1); intro g w1 hp; simp only [zp, zq, z0, z1])
          | ((with_reducible apply sx_alloc hp); infer_instance; exact rfl; clear hp; (try clear w1); intro g w1 hp; simp only [zp, zq, z0, z1]))
  have hq := hp
  clear hp
  have hp := hq.sub (List.sublist_cons_self _ _)
  refine wp_drawn_hp hp hq [8] (.q 0 (.q 2 (.l 1 (.l 3 (.l 4 (.l 5 (.q 6 (.q 7 (.l 8 (.q 9 .nil)))))))))) (by kernel_rfl) (by kernel_rfl) ?_
  clear hp hq; (try clear w1); intro w1 hp hq
  repeat' (first
    | (((with_reducible apply sd_q); exact zo rfl); (first
        | ((with_reducible apply sd_load_agg hp); exact rfl; exact zt rfl; infer_instance; infer_instance; (first | exact zl rfl | exact LB_le (by omega)); (first | (with_reducible exact LB_set (by omega)) | (simp only [n0, Nat.reduceAdd, n1, n2, n3, n4, n5, n6, n7, n8, n9]; try rfl)); simp only [zp, zq, z0, z1])
        | ((with_reducible apply sd_assign hp); exact zb rfl; simp only [zp, zq, z0, z1])
        | ((with_reducible apply sd_pure hp); exact rfl; (focus (intro _; go_simp; (try go_ints); try with_reducible rfl)); simp only [zp, zq, z0, z1])))
    | (((with_reducible apply sd_l); exact zo rfl); (first
        | ((with_reducible apply sd_callN hq); (repeat (first | exact List.Sublist.refl _ | apply List.Sublist.cons)); exact rfl; (focus (intro _; go_simp; try first | with_reducible rfl | exact ⟨rfl, rfl⟩)); (with_reducible exact long520 a ha _); clear hp hq; (try clear w1); intro g w1 hp hq; simp only [zp, zq, z0, z1])
        | ((with_reducible apply sd_callN hq); (repeat (first | exact List.Sublist.refl _ | apply List.Sublist.cons)); exact rfl; (focus (intro _; go_simp; try first | with_reducible rfl | exact ⟨rfl, rfl⟩)); (with_reducible exact long520 b hb _); clear hp hq; (try clear w1); intro g w1 hp hq; simp only [zp, zq, z0, z1])
        | ((with_reducible apply sd_callN hq); (repeat (first | exact List.Sublist.refl _ | apply List.Sublist.cons)); exact rfl; (focus (intro _; go_simp; try first | with_reducible rfl | exact ⟨rfl, rfl⟩)); (with_reducible exact rplus_any a b 520 (by omega) _ _ _ (BSl.of hq.blk) (BSl.of hq.blk)); clear hp hq; (try clear w1); intro g w1 hp hq; simp only [zp, zq, z0, z1])
        | ((with_reducible apply sd_callM hp); exact rfl; (focus (intro _; go_simp; try first | with_reducible rfl | exact ⟨rfl, rfl⟩)); (with_reducible exact rof520 (a + b) HM _ _ (BSl.of hq.blk)); exact hq; clear hp hq; (try clear w1); intro w1 hp hq; simp only [zp, zq, z0, z1])
        | ((with_reducible apply sd_store_far hq); exact rfl; exact zt rfl; (first | exact za rfl | exact zu rfl | exact zi rfl | exact zb rfl | exact zr rfl | exact zs rfl | exact zf rfl | exact zg rfl | exact zn rfl | exact zv rfl | exact zw rfl); exact rfl; (first | exact AggTy.size | exact OneTy.size); exact rfl; infer_instance; (first | (with_reducible exact LB_set (by omega)) | (simp only [n0, Nat.reduceAdd, n1, n2, n3, n4, n5, n6, n7, n8, n9]; try rfl)); (first | exact zl rfl | exact LB_le (by omega)); exact rfl; infer_instance; (repeat (first | exact List.Sublist.refl _ | apply List.Sublist.cons)); clear hp hq; (try clear w1); intro w1 hp hq)
        | ((with_reducible apply sd_store hq); exact rfl; exact zt rfl; (first | exact za rfl | exact zu rfl | exact zi rfl | exact zb rfl | exact zr rfl | exact zs rfl | exact zf rfl | exact zg rfl | exact zn rfl | exact zv rfl | exact zw rfl); exact rfl; (first | exact AggTy.size | exact OneTy.size); exact rfl; infer_instance; (first | (with_reducible exact LB_set (by omega)) | (simp only [n0, Nat.reduceAdd, n1, n2, n3, n4, n5, n6, n7, n8, n9]; try rfl)); (first | exact zl rfl | exact LB_le (by omega)); exact rfl; infer_instance; exact rfl; clear hp hq; (try clear w1); intro w1 hq; have hp := True.intro)))
    | ((with_reducible apply sd_nil); clear hp; have hp := hq; clear hq))
  go_wp2
  exact bodyPost_ret (results_two rfl ⟨_, rfl, run_load_agg hp (Nat.le_of_ble_eq_true rfl)⟩ rfl) rfl ⟨rfl, hp.keep⟩
set_option maxHeartbeats 4000000 in
theorem rsub_any (a b : Int) (ha : Fit a) (hb : Fit b) (w : World) : Calls Tryz.prog 54 #[W a, W b] w (Ret (.tuple #[W (fz (a - b)), .bool (decide (Fit (a - b)))]) w) := by
  have HM := room_sub ha hb
  rw [Int.sub_eq_add_neg]
  go_enter Tryz.func54, Tryz.ntmps54
  have hp := Hp.start [] w
  go_upto_region 1 with (first
          | ((with_reducible apply sx_box hp); (first | exact za rfl | exact zu rfl | exact zi rfl | exact zb rfl | exact zr rfl | exact zs rfl | exact zf rfl | exact zg rfl | exact zn rfl | exact zv rfl | exact zw rfl); exact rfl; clear hp; (try clear w1); intro g w1 hp; simp only [zp, zq, z0, z1])
          | ((with_reducible apply sx_alloc hp); infer_instance; exact rfl; clear hp; (try clear w1); intro g w1 hp; simp only [zp, zq, z0, z1]))
  have hq := hp
  clear hp
  have hp := hq.sub (List.sublist_cons_self _ _)
  refine wp_drawn_hp hp hq [9] (.q 0 (.q 2 (.l 1 (.l 3 (.l 4 (.l 5 (.l 6 (.q 7 (.q 8 (.l 9 (.q 10 .nil))))))))))) (by kernel_rfl) (by kernel_rfl) ?_
  clear hp hq; (try clear w1); intro w1 hp hq
  repeat' (first
    | (((with_reducible apply sd_q); exact zo rfl); (first
        | ((with_reducible apply sd_load_agg hp); exact rfl; exact zt rfl; infer_instance; infer_instance; (first | exact zl rfl | exact LB_le (by omega)); (first | (with_reducible exact LB_set (by omega)) | (simp only [n0, Nat.reduceAdd, n1, n2, n3, n4, n5, n6, n7, n8, n9]; try rfl)); simp only [zp, zq, z0, z1])
        | ((with_reducible apply sd_assign hp); exact zb rfl; simp only [zp, zq, z0, z1])
        | ((with_reducible apply sd_pure hp); exact rfl; (focus (intro _; go_simp; (try go_ints); try with_reducible rfl)); simp only [zp, zq, z0, z1])))
    | (((with_reducible apply sd_l); exact zo rfl); (first
        | ((with_reducible apply sd_callN hq); (repeat (first | exact List.Sublist.refl _ | apply List.Sublist.cons)); exact rfl; (focus (intro _; go_simp; try first | with_reducible rfl | exact ⟨rfl, rfl⟩)); (with_reducible exact long520 a ha _); clear hp hq; (try clear w1); intro g w1 hp hq; simp only [zp, zq, z0, z1])
        | ((with_reducible apply sd_callN hq); (repeat (first | exact List.Sublist.refl _ | apply List.Sublist.cons)); exact rfl; (focus (intro _; go_simp; try first | with_reducible rfl | exact ⟨rfl, rfl⟩)); (with_reducible exact long520 b hb _); clear hp hq; (try clear w1); intro g w1 hp hq; simp only [zp, zq, z0, z1])
        | ((with_reducible apply sd_callN hq); (repeat (first | exact List.Sublist.refl _ | apply List.Sublist.cons)); exact rfl; (focus (intro _; go_simp; try first | with_reducible rfl | exact ⟨rfl, rfl⟩)); (with_reducible exact rminus_any b 520 (by omega) _ _ (BSl.of hq.blk)); clear hp hq; (try clear w1); intro g w1 hp hq; simp only [zp, zq, z0, z1])
        | ((with_reducible apply sd_callN hq); (repeat (first | exact List.Sublist.refl _ | apply List.Sublist.cons)); exact rfl; (focus (intro _; go_simp; try first | with_reducible rfl | exact ⟨rfl, rfl⟩)); (with_reducible exact rplus_any a (-b) 520 (by omega) _ _ _ (BSl.of hq.blk) (BSl.of hq.blk)); clear hp hq; (try clear w1); intro g w1 hp hq; simp only [zp, zq, z0, z1])
        | ((with_reducible apply sd_callM hp); exact rfl; (focus (intro _; go_simp; try first | with_reducible rfl | exact ⟨rfl, rfl⟩)); (with_reducible exact rof520 (a + -b) HM _ _ (BSl.of hq.blk)); exact hq; clear hp hq; (try clear w1); intro w1 hp hq; simp only [zp, zq, z0, z1])
        | ((with_reducible apply sd_store_far hq); exact rfl; exact zt rfl; (first | exact za rfl | exact zu rfl | exact zi rfl | exact zb rfl | exact zr rfl | exact zs rfl | exact zf rfl | exact zg rfl | exact zn rfl | exact zv rfl | exact zw rfl); exact rfl; (first | exact AggTy.size | exact OneTy.size); exact rfl; infer_instance; (first | (with_reducible exact LB_set (by omega)) | (simp only [n0, Nat.reduceAdd, n1, n2, n3, n4, n5, n6, n7, n8, n9]; try rfl)); (first | exact zl rfl | exact LB_le (by omega)); exact rfl; infer_instance; (repeat (first | exact List.Sublist.refl _ | apply List.Sublist.cons)); clear hp hq; (try clear w1); intro w1 hp hq)
        | ((with_reducible apply sd_store hq); exact rfl; exact zt rfl; (first | exact za rfl | exact zu rfl | exact zi rfl | exact zb rfl | exact zr rfl | exact zs rfl | exact zf rfl | exact zg rfl | exact zn rfl | exact zv rfl | exact zw rfl); exact rfl; (first | exact AggTy.size | exact OneTy.size); exact rfl; infer_instance; (first | (with_reducible exact LB_set (by omega)) | (simp only [n0, Nat.reduceAdd, n1, n2, n3, n4, n5, n6, n7, n8, n9]; try rfl)); (first | exact zl rfl | exact LB_le (by omega)); exact rfl; infer_instance; exact rfl; clear hp hq; (try clear w1); intro w1 hq; have hp := True.intro)))
    | ((with_reducible apply sd_nil); clear hp; have hp := hq; clear hq))
  go_wp2
  exact bodyPost_ret (results_two rfl ⟨_, rfl, run_load_agg hp (Nat.le_of_ble_eq_true rfl)⟩ rfl) rfl ⟨rfl, hp.keep⟩
/-- The absolute value. -/
def ab (n : Int) : Int := if n < 0 then -n else n
set_option maxHeartbeats 4000000 in
theorem rsize_any (n : Int) (hn : Fit n) (w : World) : Calls Tryz.prog 60 #[W n] w (RetN (fun g => .slice (some ⟨g, 0, none⟩) 520 520) 3 (tab (bt (ab n)) 520) w) := by
  have hb := fun w => rbelow_any n hn w
  by_cases h : n < 0
  · rw [decide_eq_true h] at hb
    unfold ab
    rw [if_pos h]
    have HB := Lib.hid hb
    clear hb h
    go_enter Tryz.func60, Tryz.ntmps60
    have hp := Hp.start [] w
    go_wp2_with (first
          | ((with_reducible apply sx_box hp); exact za rfl; exact rfl; clear hp; (try clear w1); intro g w1 hp; simp only [zp, zq, z0, z1])
          | ((with_reducible apply sx_load_agg hp); exact zt rfl; infer_instance; infer_instance; (first | exact zl rfl | exact LB_le (by omega)); (first | (with_reducible exact LB_set (by omega)) | (simp only [n0, Nat.reduceAdd, n1, n2, n3, n4, n5, n6, n7, n8, n9]; try rfl)); simp only [zp, zq, z0, z1])
          | ((with_reducible refine sx_call hp (HB.out _) ?_); clear hp; (try clear w1); intro w1 hp)
          | ((with_reducible refine sx_callN hp (long520 n hn _) ?_); clear hp; (try clear w1); intro g w1 hp)
          | ((with_reducible refine sx_callN hp (rminus_any n 520 (by omega) _ _ (BSl.of hp.blk)) ?_); clear hp; (try clear w1); intro g w1 hp))
    exact bodyPost_ret (results_one rfl rfl) rfl ⟨g, rfl, hp.keep, hp.fresh, hp.blk⟩
  · rw [decide_eq_false h] at hb
    unfold ab
    rw [if_neg h]
    have HB := Lib.hid hb
    clear hb h
    go_enter Tryz.func60, Tryz.ntmps60
    have hp := Hp.start [] w
    go_wp2_with (first
          | ((with_reducible apply sx_box hp); exact za rfl; exact rfl; clear hp; (try clear w1); intro g w1 hp; simp only [zp, zq, z0, z1])
          | ((with_reducible apply sx_load_agg hp); exact zt rfl; infer_instance; infer_instance; (first | exact zl rfl | exact LB_le (by omega)); (first | (with_reducible exact LB_set (by omega)) | (simp only [n0, Nat.reduceAdd, n1, n2, n3, n4, n5, n6, n7, n8, n9]; try rfl)); simp only [zp, zq, z0, z1])
          | ((with_reducible refine sx_call hp (HB.out _) ?_); clear hp; (try clear w1); intro w1 hp)
          | ((with_reducible refine sx_callN hp (long520 n hn _) ?_); clear hp; (try clear w1); intro g w1 hp))
    exact bodyPost_ret (results_one rfl rfl) rfl ⟨g, rfl, hp.keep, hp.fresh, hp.blk⟩
end Go.Proofs.YtbdkbmhejoakiaaGreatDoor
