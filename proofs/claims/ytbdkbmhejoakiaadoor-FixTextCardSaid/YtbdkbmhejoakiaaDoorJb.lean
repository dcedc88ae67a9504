/-
  Package wide: Shl, Int, Bits (contracts).
-/
import Derived.Test.YtbdkbmhejoakiaaDoorJa
import Derived.Test.YtbdkbmhejoakiaaDoorSg
import Derived.Test.YtbdkbmhejoakiaaDoorGx
import Derived.Test.YtbdkbmhejoakiaaDoorDa
set_option linter.unusedSimpArgs false
set_option linter.unusedVariables false
set_option maxRecDepth 100000
namespace Go.Proofs.YtbdkbmhejoakiaaDoor
open Go Go.RowKit

theorem M511_pw {a : Nat} (ha : a = 511) : M511 = 2 ^ a := by
  have h1 : (2 : Int) ^ a = 2 ^ (64 * 7) * 2 ^ 63 := by rw [← Int.pow_add, show 64 * 7 + 63 = a by omega]
  rw [h1, pow448]
  rfl
theorem sm_ex (x : Int) : ∃ p, Fit p ∧ p % M512 = x % M512 := by
  have h0 := Int.emod_nonneg x (show M512 ≠ 0 by unfold M512; omega)
  have h1 := Int.emod_lt_of_pos x (show 0 < M512 by unfold M512; omega)
  by_cases h : x % M512 < M511
  · exact ⟨x % M512, ⟨by unfold M511 at *; omega, h⟩, Int.emod_emod _ _⟩
  · refine ⟨x % M512 - M512, ⟨by unfold M511 M512 at *; omega, by unfold M511 M512 at *; omega⟩, ?_⟩
    rw [Int.sub_emod_right, Int.emod_emod]
theorem shl_fit {a p : Int} {n : Nat} (hp : Fit p) (hn : n ≤ 511) (hm : p % M512 = a * 2 ^ n % M512) : (p / 2 ^ n = a ↔ Fit (a * 2 ^ n)) ∧ (Fit (a * 2 ^ n) → p = a * 2 ^ n) := by
  have hP := pow_pos' n
  have h2 : Fit (a * 2 ^ n) → p = a * 2 ^ n := by
    intro hf
    generalize a * 2 ^ n = x at *
    unfold Fit M511 at *
    unfold M512 at hm
    omega
  refine ⟨⟨fun h => ?_, fun h => ?_⟩, h2⟩
  · have h3 := Int.mul_ediv_add_emod p (2 ^ n)
    have h4 := Int.emod_nonneg p (show (2 : Int) ^ n ≠ 0 by omega)
    have h5 := Int.emod_lt_of_pos p hP
    rw [h, Int.mul_comm] at h3
    have h6 : (2 : Int) ^ n ≤ M511 := by
      obtain ⟨c, hc⟩ : ∃ c : Nat, c = 511 := ⟨_, rfl⟩
      rw [M511_pw hc]
      have e : (2 : Int) ^ c = 2 ^ n * 2 ^ (c - n) := by rw [← Int.pow_add, show n + (c - n) = c by omega]
      have h1 := pow_pos' (c - n)
      have := Int.mul_le_mul_of_nonneg_left (show (1 : Int) ≤ 2 ^ (c - n) by omega) (Int.le_of_lt hP)
      omega
    generalize a * 2 ^ n = x at *
    generalize p % 2 ^ n = r at *
    generalize (2 : Int) ^ n = P at *
    unfold M511 at *
    unfold M512 at hm
    have : r = 0 := by omega
    subst this
    rw [← h3, Int.add_zero] at hp
    exact hp
  · rw [h2 h, Int.mul_ediv_cancel _ (by omega)]
/-- The limbs of a number that was taken up, from one of them on. -/
def uf (x : Int) (n k : Nat) : Nat → Int := fun j => if k ≤ j then lb (x * 2 ^ n) j else 0
theorem uf_start (x : Int) (n : Nat) : LB (uf x n 8) = [.int .u64 0, .int .u64 0, .int .u64 0, .int .u64 0, .int .u64 0, .int .u64 0, .int .u64 0, .int .u64 0] := rfl
theorem uf_step {x V : Int} {n k : Nat} (hV : V = lb (x * 2 ^ n) k) : LB (upd (uf x n (k + 1)) k V) = LB (uf x n k) := by
  refine LB_congr fun j _ => ?_
  unfold uf
  by_cases h : j = k
  · subst h; rw [upd_same, hV, if_pos (by omega)]
  · rw [upd_ne _ _ h]
    by_cases h2 : k ≤ j
    · rw [if_pos h2, if_pos (by omega)]
    · rw [if_neg h2, if_neg (by omega)]
theorem uf_skip (x : Int) {n k : Nat} (h : k < n / 64) : LB (uf x n (k + 1)) = LB (uf x n k) := by
  refine LB_congr fun j _ => ?_
  unfold uf
  by_cases h1 : j = k
  · subst h1
    rw [if_neg (by omega), if_pos (by omega), shl_low x h]
  · by_cases h2 : k ≤ j
    · rw [if_pos h2, if_pos (by omega)]
    · rw [if_neg h2, if_neg (by omega)]
set_option maxHeartbeats 8000000 in
theorem shl_core (a p : Int) (ha : Fit a) (ha0 : a ≠ 0) (n : Nat) (hn : n ≤ 511) (v : Value) (hp0 : Fit p) (hpm : p % M512 = a * 2 ^ n % M512)
    (HV1 : Hid (shv p n = a → v = .tuple #[W p, .bool true])) (HV2 : Hid (shv p n ≠ a → v = .tuple #[.agg #[.int .u64 0, .int .u64 0, .int .u64 0, .int .u64 0, .int .u64 0, .int .u64 0, .int .u64 0, .int .u64 0], .bool false])) (hsf : Hid (Fit (shv p n))) (w : World) : Calls Tryd.prog 51 #[W a, .int .i64 n] w (Ret v w) := by
  have hz := eqb_fit ha fit_zero
  rw [eqb_zero, decide_eq_false ha0] at hz
  have SH : Hid (∀ w, Calls Tryd.prog 60 #[W p, .int .i64 n] w (Ret (W (shv p n)) w)) := Lib.hid fun w => shr_any p n hp0 w
  have HE := Lib.hid (eqb_fit hsf.out ha)
  have HP := Lib.hid (show LB (lb (a * 2 ^ n)) = LB (lb p) from LB_congr fun j hj => (lb_congr hpm j hj).symm)
  generalize shv p n = s at *
  clear ha ha0 hp0 hpm hsf
  go_enter Tryd.func51, Tryd.ntmps51
  have hp := Hp.start [] w
  go_wp2_with (first
          | ((with_reducible apply sx_box hp); exact za rfl; exact rfl; clear hp; (try clear w1); intro g w1 hp; simp only [zp, zq, z0, z1])
          | ((with_reducible apply sx_alloc hp); infer_instance; exact rfl; clear hp; (try clear w1); intro g w1 hp; simp only [zp, zq, z0, z1])
          | ((with_reducible apply sx_load_agg hp); exact zt rfl; infer_instance; infer_instance; (first | exact zl rfl | exact LB_le (by omega)); (first | (with_reducible exact LB_set (by omega)) | (simp only [n0, Nat.reduceAdd, n1, n2, n3, n4, n5, n6, n7, n8, n9]; try rfl)); simp only [zp, zq, z0, z1])
          | ((with_reducible apply sx_load_one hp); exact zt rfl; infer_instance; infer_instance; (first | exact zio rfl | exact LB_get (by omega)); simp only [zp, zq, z0, z1])
          | ((with_reducible apply sx_store hp); exact zt rfl; (first | exact za rfl | exact zi rfl); exact rfl; (first | exact AggTy.size | exact OneTy.size); exact rfl; infer_instance; (first | (with_reducible exact LB_set (by omega)) | (simp only [n0, Nat.reduceAdd, n1, n2, n3, n4, n5, n6, n7, n8, n9]; try rfl)); (first | exact zl rfl | exact LB_le (by omega)); exact rfl; infer_instance; clear hp; (try clear w1); intro w1 hp))
  rename_i ga gp _ _ K hK
  obtain ⟨gl, rfl⟩ : ∃ y : Nat, y = g := ⟨_, rfl⟩
  clear hz
  go_loopw [7] (fun i wr => ∃ (k : Nat) (c : Int), k ≤ 8 ∧ c = k - 1 ∧ i = .int .i64 c ∧ Hp [] w [⟨gl, 67, LB (uf a n k)⟩, ⟨gp, 38, [.int .u64 0, .int .u64 0, .int .u64 0, .int .u64 0, .int .u64 0, .int .u64 0, .int .u64 0, .int .u64 0]⟩, ⟨ga, 38, LB (lb a)⟩] wr) (fun i _ => (intOf i + 1).toNat)
  case atStart => exact ⟨8, 7, by omega, rfl, rfl, by rw [uf_start]; exact hp⟩
  case round =>
    clear hp
    obtain ⟨k, c, hk, hc, rfl, hp⟩ := hrel
    cases k with
    | zero =>
      have hc0 : c < 0 := by omega
      have e : LB (uf a n 0) = LB (lb p) := by
        rw [← HP.out]
        exact LB_congr fun j _ => if_pos (Nat.zero_le _)
      rw [e] at hp
      simp only [LB] at hp
      clear e hc HP
      by_cases hs : s = a
      · obtain rfl := HV1.out hs
        have he := HE.out
        unfold eqb at he
        rw [decide_eq_true hs] at he
        clear hs HV1 HV2 HE
        go_wp2_with (first
          | ((with_reducible apply sx_box hp); exact za rfl; exact rfl; clear hp; (try clear w1); intro g w1 hp; simp only [zp, zq, z0, z1])
          | ((with_reducible apply sx_alloc hp); infer_instance; exact rfl; clear hp; (try clear w1); intro g w1 hp; simp only [zp, zq, z0, z1])
          | ((with_reducible apply sx_load_agg hp); exact zt rfl; infer_instance; infer_instance; (first | exact zl rfl | exact LB_le (by omega)); (first | (with_reducible exact LB_set (by omega)) | (simp only [n0, Nat.reduceAdd, n1, n2, n3, n4, n5, n6, n7, n8, n9]; try rfl)); simp only [zp, zq, z0, z1])
          | ((with_reducible apply sx_load_one hp); exact zt rfl; infer_instance; infer_instance; (first | exact zio rfl | exact LB_get (by omega)); simp only [zp, zq, z0, z1])
          | ((with_reducible apply sx_store hp); exact zt rfl; (first | exact za rfl | exact zi rfl); exact rfl; (first | exact AggTy.size | exact OneTy.size); exact rfl; infer_instance; (first | (with_reducible exact LB_set (by omega)) | (simp only [n0, Nat.reduceAdd, n1, n2, n3, n4, n5, n6, n7, n8, n9]; try rfl)); (first | exact zl rfl | exact LB_le (by omega)); exact rfl; infer_instance; clear hp; (try clear w1); intro w1 hp))
        have hq := hp
        refine wp_drawn_hp hp hq [] (.q 0 (.q 1 (.q 3 (.l 2 (.q 4 .nil))))) (by kernel_rfl) (by kernel_rfl) ?_
        clear hp hq; (try clear w1); intro w1 hp hq
        repeat' (first
          | (((with_reducible apply sd_q); exact zo rfl); (first
              | ((with_reducible apply sd_load_agg hp); exact rfl; exact zt rfl; infer_instance; infer_instance; (first | exact zl rfl | exact LB_le (by omega)); (first | (with_reducible exact LB_set (by omega)) | (simp only [n0, Nat.reduceAdd, n1, n2, n3, n4, n5, n6, n7, n8, n9]; try rfl)); simp only [zp, zq, z0, z1])
              | ((with_reducible apply sd_move hp); exact zi rfl; simp only [zp, zq, z0, z1])
              | ((with_reducible apply sd_pure hp); exact rfl; (focus (intro _; go_simp; (try go_ints); try with_reducible rfl)); simp only [zp, zq, z0, z1])))
          | (((with_reducible apply sd_l); exact zo rfl); ((with_reducible apply sd_call hp); exact rfl; (focus (intro _; go_simp; try first | with_reducible rfl | exact ⟨rfl, rfl⟩)); (with_reducible exact fun w => SH.out w); exact hq; clear hp hq; (try clear w1); intro w1 hp hq; simp only [zp, zq, z0, z1]))
          | ((with_reducible apply sd_nil); clear hp; have hp := hq; clear hq))
        go_wp2_with (first
          | ((with_reducible apply sx_box hp); exact za rfl; exact rfl; clear hp; (try clear w1); intro g w1 hp; simp only [zp, zq, z0, z1])
          | ((with_reducible apply sx_alloc hp); infer_instance; exact rfl; clear hp; (try clear w1); intro g w1 hp; simp only [zp, zq, z0, z1])
          | ((with_reducible apply sx_load_agg hp); exact zt rfl; infer_instance; infer_instance; (first | exact zl rfl | exact LB_le (by omega)); (first | (with_reducible exact LB_set (by omega)) | (simp only [n0, Nat.reduceAdd, n1, n2, n3, n4, n5, n6, n7, n8, n9]; try rfl)); simp only [zp, zq, z0, z1])
          | ((with_reducible apply sx_load_one hp); exact zt rfl; infer_instance; infer_instance; (first | exact zio rfl | exact LB_get (by omega)); simp only [zp, zq, z0, z1])
          | ((with_reducible apply sx_store hp); exact zt rfl; (first | exact za rfl | exact zi rfl); exact rfl; (first | exact AggTy.size | exact OneTy.size); exact rfl; infer_instance; (first | (with_reducible exact LB_set (by omega)) | (simp only [n0, Nat.reduceAdd, n1, n2, n3, n4, n5, n6, n7, n8, n9]; try rfl)); (first | exact zl rfl | exact LB_le (by omega)); exact rfl; infer_instance; clear hp; (try clear w1); intro w1 hp))
        exact bodyPost_ret (results_two rfl ⟨_, rfl, run_load_agg hp (Nat.le_of_ble_eq_true rfl)⟩ rfl) rfl ⟨rfl, hp.keep⟩
      · obtain rfl := HV2.out hs
        have he := HE.out
        unfold eqb at he
        rw [decide_eq_false hs] at he
        clear hs HV1 HV2 HE
        go_wp2_with (first
          | ((with_reducible apply sx_box hp); exact za rfl; exact rfl; clear hp; (try clear w1); intro g w1 hp; simp only [zp, zq, z0, z1])
          | ((with_reducible apply sx_alloc hp); infer_instance; exact rfl; clear hp; (try clear w1); intro g w1 hp; simp only [zp, zq, z0, z1])
          | ((with_reducible apply sx_load_agg hp); exact zt rfl; infer_instance; infer_instance; (first | exact zl rfl | exact LB_le (by omega)); (first | (with_reducible exact LB_set (by omega)) | (simp only [n0, Nat.reduceAdd, n1, n2, n3, n4, n5, n6, n7, n8, n9]; try rfl)); simp only [zp, zq, z0, z1])
          | ((with_reducible apply sx_load_one hp); exact zt rfl; infer_instance; infer_instance; (first | exact zio rfl | exact LB_get (by omega)); simp only [zp, zq, z0, z1])
          | ((with_reducible apply sx_store hp); exact zt rfl; (first | exact za rfl | exact zi rfl); exact rfl; (first | exact AggTy.size | exact OneTy.size); exact rfl; infer_instance; (first | (with_reducible exact LB_set (by omega)) | (simp only [n0, Nat.reduceAdd, n1, n2, n3, n4, n5, n6, n7, n8, n9]; try rfl)); (first | exact zl rfl | exact LB_le (by omega)); exact rfl; infer_instance; clear hp; (try clear w1); intro w1 hp))
        have hq := hp
        refine wp_drawn_hp hp hq [] (.q 0 (.q 1 (.q 3 (.l 2 (.q 4 .nil))))) (by kernel_rfl) (by kernel_rfl) ?_
        clear hp hq; (try clear w1); intro w1 hp hq
        repeat' (first
          | (((with_reducible apply sd_q); exact zo rfl); (first
              | ((with_reducible apply sd_load_agg hp); exact rfl; exact zt rfl; infer_instance; infer_instance; (first | exact zl rfl | exact LB_le (by omega)); (first | (with_reducible exact LB_set (by omega)) | (simp only [n0, Nat.reduceAdd, n1, n2, n3, n4, n5, n6, n7, n8, n9]; try rfl)); simp only [zp, zq, z0, z1])
              | ((with_reducible apply sd_move hp); exact zi rfl; simp only [zp, zq, z0, z1])
              | ((with_reducible apply sd_pure hp); exact rfl; (focus (intro _; go_simp; (try go_ints); try with_reducible rfl)); simp only [zp, zq, z0, z1])))
          | (((with_reducible apply sd_l); exact zo rfl); ((with_reducible apply sd_call hp); exact rfl; (focus (intro _; go_simp; try first | with_reducible rfl | exact ⟨rfl, rfl⟩)); (with_reducible exact fun w => SH.out w); exact hq; clear hp hq; (try clear w1); intro w1 hp hq; simp only [zp, zq, z0, z1]))
          | ((with_reducible apply sd_nil); clear hp; have hp := hq; clear hq))
        go_wp2_with (first
          | ((with_reducible apply sx_box hp); exact za rfl; exact rfl; clear hp; (try clear w1); intro g w1 hp; simp only [zp, zq, z0, z1])
          | ((with_reducible apply sx_alloc hp); infer_instance; exact rfl; clear hp; (try clear w1); intro g w1 hp; simp only [zp, zq, z0, z1])
          | ((with_reducible apply sx_load_agg hp); exact zt rfl; infer_instance; infer_instance; (first | exact zl rfl | exact LB_le (by omega)); (first | (with_reducible exact LB_set (by omega)) | (simp only [n0, Nat.reduceAdd, n1, n2, n3, n4, n5, n6, n7, n8, n9]; try rfl)); simp only [zp, zq, z0, z1])
          | ((with_reducible apply sx_load_one hp); exact zt rfl; infer_instance; infer_instance; (first | exact zio rfl | exact LB_get (by omega)); simp only [zp, zq, z0, z1])
          | ((with_reducible apply sx_store hp); exact zt rfl; (first | exact za rfl | exact zi rfl); exact rfl; (first | exact AggTy.size | exact OneTy.size); exact rfl; infer_instance; (first | (with_reducible exact LB_set (by omega)) | (simp only [n0, Nat.reduceAdd, n1, n2, n3, n4, n5, n6, n7, n8, n9]; try rfl)); (first | exact zl rfl | exact LB_le (by omega)); exact rfl; infer_instance; clear hp; (try clear w1); intro w1 hp))
        exact bodyPost_ret (results_two rfl ⟨_, rfl, run_load_agg hp (Nat.le_of_ble_eq_true rfl)⟩ rfl) rfl ⟨rfl, hp.keep⟩
    | succ j =>
      obtain rfl : c = (j : Int) := by omega
      have hj : j < 8 := by omega
      have hj2 : (j : Int) < 8 := by omega
      clear hc HV1 HV2 HE SH HP
      by_cases hk0 : j < n / 64
      · have hq0 : ¬ (0 : Int) ≤ (j : Int) - (n : Int) / 64 := by omega
        rw [uf_skip a hk0] at hp
        clear hk0
        go_wp2_with (first
          | ((with_reducible apply sx_box hp); exact za rfl; exact rfl; clear hp; (try clear w1); intro g w1 hp; simp only [zp, zq, z0, z1])
          | ((with_reducible apply sx_alloc hp); infer_instance; exact rfl; clear hp; (try clear w1); intro g w1 hp; simp only [zp, zq, z0, z1])
          | ((with_reducible apply sx_load_agg hp); exact zt rfl; infer_instance; infer_instance; (first | exact zl rfl | exact LB_le (by omega)); (first | (with_reducible exact LB_set (by omega)) | (simp only [n0, Nat.reduceAdd, n1, n2, n3, n4, n5, n6, n7, n8, n9]; try rfl)); simp only [zp, zq, z0, z1])
          | ((with_reducible apply sx_load_one hp); exact zt rfl; infer_instance; infer_instance; (first | exact zio rfl | exact LB_get (by omega)); simp only [zp, zq, z0, z1])
          | ((with_reducible apply sx_store hp); exact zt rfl; (first | exact za rfl | exact zi rfl); exact rfl; (first | exact AggTy.size | exact OneTy.size); exact rfl; infer_instance; (first | (with_reducible exact LB_set (by omega)) | (simp only [n0, Nat.reduceAdd, n1, n2, n3, n4, n5, n6, n7, n8, n9]; try rfl)); (first | exact zl rfl | exact LB_le (by omega)); exact rfl; infer_instance; clear hp; (try clear w1); intro w1 hp))
        go_roundw
        case rel => exact ⟨j, _, by omega, rfl, rfl, hp⟩
        case measure => simp [intOf]
      · have hk0 : n / 64 ≤ j := by omega
        have hq0 : (0 : Int) ≤ (j : Int) - (n : Int) / 64 := by omega
        have hq1 : (j : Int) - (n : Int) / 64 < 8 := by omega
        have ha0 := lb_nonneg a (j - n / 64)
        have ha1 := lb_lt a (j - n / 64)
        by_cases hr : (n : Int) % 64 = 0
        · have hr0 : ¬ (0 : Int) < (n : Int) % 64 := by omega
          go_wp2_with (first
          | ((with_reducible apply sx_box hp); exact za rfl; exact rfl; clear hp; (try clear w1); intro g w1 hp; simp only [zp, zq, z0, z1])
          | ((with_reducible apply sx_alloc hp); infer_instance; exact rfl; clear hp; (try clear w1); intro g w1 hp; simp only [zp, zq, z0, z1])
          | ((with_reducible apply sx_load_agg hp); exact zt rfl; infer_instance; infer_instance; (first | exact zl rfl | exact LB_le (by omega)); (first | (with_reducible exact LB_set (by omega)) | (simp only [n0, Nat.reduceAdd, n1, n2, n3, n4, n5, n6, n7, n8, n9]; try rfl)); simp only [zp, zq, z0, z1])
          | ((with_reducible apply sx_load_one hp); exact zt rfl; infer_instance; infer_instance; (first | exact zio rfl | exact LB_get (by omega)); simp only [zp, zq, z0, z1])
          | ((with_reducible apply sx_store hp); exact zt rfl; (first | exact za rfl | exact zi rfl); exact rfl; (first | exact AggTy.size | exact OneTy.size); exact rfl; infer_instance; (first | (with_reducible exact LB_set (by omega)) | (simp only [n0, Nat.reduceAdd, n1, n2, n3, n4, n5, n6, n7, n8, n9]; try rfl)); (first | exact zl rfl | exact LB_le (by omega)); exact rfl; infer_instance; clear hp; (try clear w1); intro w1 hp)
          | ((with_reducible apply sx_strip); exact rfl)
          | ((with_reducible apply sx_unwanted); exact rfl; simp only [zp, zq, z0, z1]))
          go_roundw
          case rel =>
            refine ⟨j, _, by omega, rfl, rfl, ?_⟩
            rw [uf_step (by rw [shl_up a hk0, show n % 64 = 0 by omega, Int.pow_zero, Int.mul_one])] at hp
            exact hp
          case measure => simp [intOf]
        · have hr0 : (0 : Int) < (n : Int) % 64 := by omega
          have hr1 : (n : Int) % 64 < 64 := by omega
          by_cases hkq : n / 64 < j
          · have hkq0 : (0 : Int) ≤ (j : Int) - (n : Int) / 64 - 1 := by omega
            have hkq1 : (j : Int) - (n : Int) / 64 - 1 < 8 := by omega
            have hkq9 : (0 : Int) < (j : Int) - (n : Int) / 64 := by omega
            have hb0 := lb_nonneg a (j - n / 64 - 1)
            have hb1 := lb_lt a (j - n / 64 - 1)
            go_wp2_with (first
          | ((with_reducible apply sx_box hp); exact za rfl; exact rfl; clear hp; (try clear w1); intro g w1 hp; simp only [zp, zq, z0, z1])
          | ((with_reducible apply sx_alloc hp); infer_instance; exact rfl; clear hp; (try clear w1); intro g w1 hp; simp only [zp, zq, z0, z1])
          | ((with_reducible apply sx_load_agg hp); exact zt rfl; infer_instance; infer_instance; (first | exact zl rfl | exact LB_le (by omega)); (first | (with_reducible exact LB_set (by omega)) | (simp only [n0, Nat.reduceAdd, n1, n2, n3, n4, n5, n6, n7, n8, n9]; try rfl)); simp only [zp, zq, z0, z1])
          | ((with_reducible apply sx_load_one hp); exact zt rfl; infer_instance; infer_instance; (first | exact zio rfl | exact LB_get (by omega)); simp only [zp, zq, z0, z1])
          | ((with_reducible apply sx_store hp); exact zt rfl; (first | exact za rfl | exact zi rfl); exact rfl; (first | exact AggTy.size | exact OneTy.size); exact rfl; infer_instance; (first | (with_reducible exact LB_set (by omega)) | (simp only [n0, Nat.reduceAdd, n1, n2, n3, n4, n5, n6, n7, n8, n9]; try rfl)); (first | exact zl rfl | exact LB_le (by omega)); exact rfl; infer_instance; clear hp; (try clear w1); intro w1 hp)
          | ((with_reducible apply sx_strip); exact rfl)
          | ((with_reducible apply sx_unwanted); exact rfl; simp only [zp, zq, z0, z1]))
            obtain ⟨V, hV⟩ : ∃ V, V = IntKind.u64.wrap (lb a (j - n / 64) * 2 ^ (n % 64)) := ⟨_, rfl⟩
            rw [← hV] at hp
            have HV := Lib.hid hV
            obtain ⟨F, hF⟩ : ∃ F, F = upd (uf a n (j + 1)) j V := ⟨_, rfl⟩
            rw [← hF] at hp
            have f0 : F j = V := by rw [hF, upd_same]
            have F0 := Lib.hid f0
            have HF := Lib.hid hF
            have b0 : 0 ≤ F j ∧ F j < 18446744073709551616 := by rw [f0, hV, IntKind.wrap_u64]; omega
            clear hF f0 hV
            have hsh : (0 : Int) ≤ 64 - (n : Int) % 64 := by omega
            have hkq0 : (0 : Int) ≤ (j : Int) - (n : Int) / 64 - 1 := by omega
            have hkq1 : (j : Int) - (n : Int) / 64 - 1 < 8 := by omega
            have hkq2 : (1 : Int) ≤ (j : Int) - (n : Int) / 64 := by omega
            have hkq3 : (n : Int) / 64 ≤ (j : Int) - 1 := by omega
            have hq := hp
            refine wp_drawn_hp hp hq [14] (.q 0 (.q 1 (.q 2 (.q 3 (.q 4 (.q 5 (.q 6 (.q 7 (.q 8 (.q 9 (.q 10 (.q 11 (.q 12 (.q 13 (.l 14 .nil))))))))))))))) (by kernel_rfl) (by kernel_rfl) ?_
            clear hp hq; (try clear w1); intro w1 hp hq
            repeat' (first
              | (((with_reducible apply sd_q); exact zo rfl); (first
                  | ((with_reducible apply sd_load_one hp); exact rfl; exact zt rfl; infer_instance; infer_instance; (first | exact zio rfl | exact LB_get (by omega)); simp only [zp, zq, z0, z1])
                  | ((with_reducible apply sd_move hp); exact zi rfl; simp only [zp, zq, z0, z1])
                  | ((with_reducible apply sd_indexAddr hp); exact rfl; exact zx rfl; exact zk rfl; infer_instance; (first | exact AggTy.size | exact OneTy.size); omega; omega; ((try simp only [m0, Int.reduceToNat, m1, m2, Nat.reduceMul, Nat.reduceAdd, m3, m4, m5, n0]); exact rfl); simp only [zp, zq, z0, z1])
                  | ((with_reducible apply sd_pure hp); exact rfl; (focus (intro _; go_simp; (try go_ints); try with_reducible rfl)); simp only [zp, zq, z0, z1])))
              | (((with_reducible apply sd_l); exact zo rfl); (first
                  | ((with_reducible apply sd_store_far hq); exact rfl; exact zt rfl; (first | exact za rfl | exact zu rfl | exact zi rfl | exact zb rfl | exact zr rfl | exact zs rfl | exact zf rfl | exact zg rfl | exact zn rfl | exact zv rfl | exact zw rfl); exact rfl; (first | exact AggTy.size | exact OneTy.size); exact rfl; infer_instance; (first | (with_reducible exact LB_set (by omega)) | (simp only [n0, Nat.reduceAdd, n1, n2, n3, n4, n5, n6, n7, n8, n9]; try rfl)); (first | exact zl rfl | exact LB_le (by omega)); exact rfl; infer_instance; (repeat (first | exact List.Sublist.refl _ | apply List.Sublist.cons)); clear hp hq; (try clear w1); intro w1 hp hq)
                  | ((with_reducible apply sd_store hq); exact rfl; exact zt rfl; (first | exact za rfl | exact zu rfl | exact zi rfl | exact zb rfl | exact zr rfl | exact zs rfl | exact zf rfl | exact zg rfl | exact zn rfl | exact zv rfl | exact zw rfl); exact rfl; (first | exact AggTy.size | exact OneTy.size); exact rfl; infer_instance; (first | (with_reducible exact LB_set (by omega)) | (simp only [n0, Nat.reduceAdd, n1, n2, n3, n4, n5, n6, n7, n8, n9]; try rfl)); (first | exact zl rfl | exact LB_le (by omega)); exact rfl; infer_instance; exact rfl; clear hp hq; (try clear w1); intro w1 hq; have hp := True.intro)))
              | ((with_reducible apply sd_nil); clear hp; have hp := hq; clear hq))
            go_wp2
            go_roundw
            case rel =>
              refine ⟨j, _, by omega, rfl, rfl, ?_⟩
              obtain ⟨e1, e2, e3⟩ := shl_next a (r := n % 64) (by omega) (by omega) (j - n / 64 - 1)
              rw [show j - n / 64 - 1 + 1 = j - n / 64 by omega] at e1 e2
              have e4 : F j = lb a (j - n / 64) * 2 ^ (n % 64) % 18446744073709551616 := by rw [F0.out, HV.out, IntKind.wrap_u64]
              rw [← e4] at e1 e2
              have c0 : 0 ≤ lb a (j - n / 64 - 1) / 2 ^ (64 - n % 64) := Int.ediv_nonneg (lb_nonneg _ _) (Int.le_of_lt (pow_pos' _))
              have c1 := Int.ediv_le_self (a := lb a (j - n / 64 - 1)) (2 ^ (64 - n % 64)) (lb_nonneg _ _)
              have c2 := lb_lt a (j - n / 64 - 1)
              rw [(or_join (n % 64) _ _ b0.1 b0.2 e2 c0 (by omega) e3).1, ← e1, ← shl_up a hk0, HF.out] at hp
              have e5 : upd (upd (uf a n (j + 1)) j V) j (lb (a * 2 ^ n) j) = upd (uf a n (j + 1)) j (lb (a * 2 ^ n) j) := by
                funext i
                unfold upd
                split <;> rfl
              rw [e5, uf_step rfl] at hp
              exact hp
            case measure => simp [intOf]
          · have hkq9 : ¬ (0 : Int) < (j : Int) - (n : Int) / 64 := by omega
            go_wp2_with (first
          | ((with_reducible apply sx_box hp); exact za rfl; exact rfl; clear hp; (try clear w1); intro g w1 hp; simp only [zp, zq, z0, z1])
          | ((with_reducible apply sx_alloc hp); infer_instance; exact rfl; clear hp; (try clear w1); intro g w1 hp; simp only [zp, zq, z0, z1])
          | ((with_reducible apply sx_load_agg hp); exact zt rfl; infer_instance; infer_instance; (first | exact zl rfl | exact LB_le (by omega)); (first | (with_reducible exact LB_set (by omega)) | (simp only [n0, Nat.reduceAdd, n1, n2, n3, n4, n5, n6, n7, n8, n9]; try rfl)); simp only [zp, zq, z0, z1])
          | ((with_reducible apply sx_load_one hp); exact zt rfl; infer_instance; infer_instance; (first | exact zio rfl | exact LB_get (by omega)); simp only [zp, zq, z0, z1])
          | ((with_reducible apply sx_store hp); exact zt rfl; (first | exact za rfl | exact zi rfl); exact rfl; (first | exact AggTy.size | exact OneTy.size); exact rfl; infer_instance; (first | (with_reducible exact LB_set (by omega)) | (simp only [n0, Nat.reduceAdd, n1, n2, n3, n4, n5, n6, n7, n8, n9]; try rfl)); (first | exact zl rfl | exact LB_le (by omega)); exact rfl; infer_instance; clear hp; (try clear w1); intro w1 hp)
          | ((with_reducible apply sx_strip); exact rfl)
          | ((with_reducible apply sx_unwanted); exact rfl; simp only [zp, zq, z0, z1]))
            go_roundw
            case rel =>
              refine ⟨j, _, by omega, rfl, rfl, ?_⟩
              rw [uf_step (by rw [shl_up a hk0, show j - n / 64 = 0 by omega, shl_first, IntKind.wrap_u64])] at hp
              exact hp
            case measure => simp [intOf]
/-- Is there such a multiple by a power of two? -/
def shok (a n : Int) : Prop := 0 ≤ n ∧ (a = 0 ∨ (n ≤ 511 ∧ Fit (a * 2 ^ n.toNat)))
instance (a n : Int) : Decidable (shok a n) := inferInstanceAs (Decidable (_ ∧ (_ ∨ (_ ∧ _))))
def shlv (a n : Int) : Int := if shok a n then a * 2 ^ n.toNat else 0
theorem shv_pos (a : Int) {n : Nat} (hn : n ≤ 511) : shv a n = a / 2 ^ n := by
  unfold shv
  rw [if_neg (by omega), Int.toNat_natCast, show min n 511 = n by omega]
theorem shv_fit {a n : Int} (ha : Fit a) : Fit (shv a n) := by
  unfold shv
  split
  · exact ha
  · generalize min n.toNat 511 = m
    have h1 := pow_pos' m
    unfold Fit at *
    rcases Int.lt_or_le a 0 with h | h
    · have h2 : a / 2 ^ m < 0 := Int.ediv_neg_of_neg_of_pos h h1
      have h3 : a ≤ a / 2 ^ m := by
        have h4 := Int.mul_ediv_add_emod a (2 ^ m)
        have h5 := Int.emod_nonneg a (show (2 : Int) ^ m ≠ 0 by omega)
        rw [Int.le_ediv_iff_mul_le h1]
        have h6 := Int.mul_le_mul_of_nonpos_left (Int.le_of_lt h) (show (1 : Int) ≤ 2 ^ m by omega)
        omega
      unfold M511 at *
      omega
    · have h2 := Int.ediv_nonneg h (Int.le_of_lt h1)
      have h3 := Int.ediv_le_self (2 ^ m) h
      unfold M511 at *
      omega
set_option maxHeartbeats 4000000 in
theorem shl_neg (a n : Int) (h : n < 0) (w : World) : Calls Tryd.prog 51 #[W a, .int .i64 n] w (Ret (.tuple #[.agg #[.int .u64 0, .int .u64 0, .int .u64 0, .int .u64 0, .int .u64 0, .int .u64 0, .int .u64 0, .int .u64 0], .bool false]) w) := by
  go_enter Tryd.func51, Tryd.ntmps51
  have hp := Hp.start [] w
  go_wp2_with (first
          | ((with_reducible apply sx_box hp); exact za rfl; exact rfl; clear hp; (try clear w1); intro g w1 hp; simp only [zp, zq, z0, z1])
          | ((with_reducible apply sx_alloc hp); infer_instance; exact rfl; clear hp; (try clear w1); intro g w1 hp; simp only [zp, zq, z0, z1])
          | ((with_reducible apply sx_load_agg hp); exact zt rfl; infer_instance; infer_instance; (first | exact zl rfl | exact LB_le (by omega)); (first | (with_reducible exact LB_set (by omega)) | (simp only [n0, Nat.reduceAdd, n1, n2, n3, n4, n5, n6, n7, n8, n9]; try rfl)); simp only [zp, zq, z0, z1])
          | ((with_reducible apply sx_load_one hp); exact zt rfl; infer_instance; infer_instance; (first | exact zio rfl | exact LB_get (by omega)); simp only [zp, zq, z0, z1])
          | ((with_reducible apply sx_store hp); exact zt rfl; (first | exact za rfl | exact zi rfl); exact rfl; (first | exact AggTy.size | exact OneTy.size); exact rfl; infer_instance; (first | (with_reducible exact LB_set (by omega)) | (simp only [n0, Nat.reduceAdd, n1, n2, n3, n4, n5, n6, n7, n8, n9]; try rfl)); (first | exact zl rfl | exact LB_le (by omega)); exact rfl; infer_instance; clear hp; (try clear w1); intro w1 hp))
  exact bodyPost_ret (results_two rfl ⟨_, rfl, run_load_agg hp (Nat.le_of_ble_eq_true rfl)⟩ rfl) rfl ⟨rfl, hp.keep⟩
set_option maxHeartbeats 4000000 in
theorem shl_zero (n : Int) (h : ¬ n < 0) (w : World) : Calls Tryd.prog 51 #[.agg #[.int .u64 0, .int .u64 0, .int .u64 0, .int .u64 0, .int .u64 0, .int .u64 0, .int .u64 0, .int .u64 0], .int .i64 n] w (Ret (.tuple #[.agg #[.int .u64 0, .int .u64 0, .int .u64 0, .int .u64 0, .int .u64 0, .int .u64 0, .int .u64 0, .int .u64 0], .bool true]) w) := by
  go_enter Tryd.func51, Tryd.ntmps51
  have hp := Hp.start [] w
  go_wp2_with (first
          | ((with_reducible apply sx_box hp); exact za rfl; exact rfl; clear hp; (try clear w1); intro g w1 hp; simp only [zp, zq, z0, z1])
          | ((with_reducible apply sx_alloc hp); infer_instance; exact rfl; clear hp; (try clear w1); intro g w1 hp; simp only [zp, zq, z0, z1])
          | ((with_reducible apply sx_load_agg hp); exact zt rfl; infer_instance; infer_instance; (first | exact zl rfl | exact LB_le (by omega)); (first | (with_reducible exact LB_set (by omega)) | (simp only [n0, Nat.reduceAdd, n1, n2, n3, n4, n5, n6, n7, n8, n9]; try rfl)); simp only [zp, zq, z0, z1])
          | ((with_reducible apply sx_load_one hp); exact zt rfl; infer_instance; infer_instance; (first | exact zio rfl | exact LB_get (by omega)); simp only [zp, zq, z0, z1])
          | ((with_reducible apply sx_store hp); exact zt rfl; (first | exact za rfl | exact zi rfl); exact rfl; (first | exact AggTy.size | exact OneTy.size); exact rfl; infer_instance; (first | (with_reducible exact LB_set (by omega)) | (simp only [n0, Nat.reduceAdd, n1, n2, n3, n4, n5, n6, n7, n8, n9]; try rfl)); (first | exact zl rfl | exact LB_le (by omega)); exact rfl; infer_instance; clear hp; (try clear w1); intro w1 hp))
  exact bodyPost_ret (results_two rfl ⟨_, rfl, run_load_agg hp (Nat.le_of_ble_eq_true rfl)⟩ rfl) rfl ⟨rfl, hp.keep⟩
set_option maxHeartbeats 4000000 in
theorem shl_far (a n : Int) (ha : Fit a) (ha0 : a ≠ 0) (h : ¬ n < 0) (h1 : 511 < n) (w : World) : Calls Tryd.prog 51 #[W a, .int .i64 n] w (Ret (.tuple #[.agg #[.int .u64 0, .int .u64 0, .int .u64 0, .int .u64 0, .int .u64 0, .int .u64 0, .int .u64 0, .int .u64 0], .bool false]) w) := by
  have hz := eqb_fit ha fit_zero
  rw [eqb_zero, decide_eq_false ha0] at hz
  clear ha ha0
  go_enter Tryd.func51, Tryd.ntmps51
  have hp := Hp.start [] w
  go_wp2_with (first
          | ((with_reducible apply sx_box hp); exact za rfl; exact rfl; clear hp; (try clear w1); intro g w1 hp; simp only [zp, zq, z0, z1])
          | ((with_reducible apply sx_alloc hp); infer_instance; exact rfl; clear hp; (try clear w1); intro g w1 hp; simp only [zp, zq, z0, z1])
          | ((with_reducible apply sx_load_agg hp); exact zt rfl; infer_instance; infer_instance; (first | exact zl rfl | exact LB_le (by omega)); (first | (with_reducible exact LB_set (by omega)) | (simp only [n0, Nat.reduceAdd, n1, n2, n3, n4, n5, n6, n7, n8, n9]; try rfl)); simp only [zp, zq, z0, z1])
          | ((with_reducible apply sx_load_one hp); exact zt rfl; infer_instance; infer_instance; (first | exact zio rfl | exact LB_get (by omega)); simp only [zp, zq, z0, z1])
          | ((with_reducible apply sx_store hp); exact zt rfl; (first | exact za rfl | exact zi rfl); exact rfl; (first | exact AggTy.size | exact OneTy.size); exact rfl; infer_instance; (first | (with_reducible exact LB_set (by omega)) | (simp only [n0, Nat.reduceAdd, n1, n2, n3, n4, n5, n6, n7, n8, n9]; try rfl)); (first | exact zl rfl | exact LB_le (by omega)); exact rfl; infer_instance; clear hp; (try clear w1); intro w1 hp))
  exact bodyPost_ret (results_two rfl ⟨_, rfl, run_load_agg hp (Nat.le_of_ble_eq_true rfl)⟩ rfl) rfl ⟨rfl, hp.keep⟩
theorem shl_any (a n : Int) (ha : Fit a) (w : World) : Calls Tryd.prog 51 #[W a, .int .i64 n] w (Ret (.tuple #[W (shlv a n), .bool (decide (shok a n))]) w) := by
  by_cases h0 : n < 0
  · have hk : ¬ shok a n := fun h => by have := h.1; omega
    unfold shlv
    rw [if_neg hk, decide_eq_false hk, W_zero]
    exact shl_neg a n h0 w
  · by_cases ha0 : a = 0
    · have hk : shok a n := ⟨by omega, .inl ha0⟩
      unfold shlv
      rw [if_pos hk, decide_eq_true hk, ha0, Int.zero_mul, W_zero]
      exact shl_zero n h0 w
    · by_cases h1 : 511 < n
      · have hk : ¬ shok a n := fun h => by rcases h.2 with h | h; exact ha0 h; omega
        unfold shlv
        rw [if_neg hk, decide_eq_false hk, W_zero]
        exact shl_far a n ha ha0 h0 h1 w
      · obtain ⟨m, rfl⟩ : ∃ m : Nat, n = m := ⟨n.toNat, by omega⟩
        obtain ⟨p, hp, hpm⟩ := sm_ex (a * 2 ^ m)
        have hs := shl_fit (a := a) hp (show m ≤ 511 by omega) hpm
        have hsv := shv_pos p (show m ≤ 511 by omega)
        refine shl_core a p ha ha0 m (by omega) _ hp hpm (Lib.hid fun h => ?_) (Lib.hid fun h => ?_) (Lib.hid (shv_fit hp)) w
        · rw [hsv] at h
          have hf := hs.1.1 h
          have hk : shok a m := ⟨by omega, .inr ⟨by omega, by rw [Int.toNat_natCast]; exact hf⟩⟩
          unfold shlv
          rw [if_pos hk, decide_eq_true hk, Int.toNat_natCast, hs.2 hf]
        · rw [hsv] at h
          have hf : ¬ Fit (a * 2 ^ m) := fun hf => h (hs.1.2 hf)
          have hk : ¬ shok a m := fun hk => by
            rcases hk.2 with hk | hk
            · exact ha0 hk
            · rw [Int.toNat_natCast] at hk; exact hf hk.2
          unfold shlv
          rw [if_neg hk, decide_eq_false hk, W_zero]
/-! ### Small ones -/
theorem wrap_lb {a : Int} : (wrap64 (lb a 0) = a ↔ I64 a) ∧ I64 (wrap64 (lb a 0)) := by
  unfold lb wrap64 I64
  simp only [Nat.mul_zero, Int.pow_zero, Int.ediv_one]
  omega
set_option maxHeartbeats 4000000 in
theorem int_core (a n : Int) (ha : Fit a) (hn : wrap64 (lb a 0) = n) (hnf : Fit n) (o : Bool) (ho : decide (n = a) = o) (r : Int) (h1 : Hid (o = true → r = n)) (h2 : Hid (o = false → r = 0))
    (HO : Hid (∀ w, Calls Tryd.prog 24 #[.int .i64 n] w (Ret (W n) w))) (w : World) : Calls Tryd.prog 65 #[W a] w (Ret (.tuple #[.int .i64 r, .bool o]) w) := by
  have he := eqb_fit hnf ha
  rw [ho] at he
  unfold eqb at he
  clear ho hnf ha
  cases o with
  | true =>
    obtain rfl := h1.out rfl
    clear h1 h2
    go_enter Tryd.func65, Tryd.ntmps65
    have hp := Hp.start [] w
    go_upto_region 2 with (first
          | ((with_reducible apply sx_box hp); exact za rfl; exact rfl; clear hp; (try clear w1); intro g w1 hp; simp only [zp, zq, z0, z1])
          | ((with_reducible apply sx_load_agg hp); exact zt rfl; infer_instance; infer_instance; (first | exact zl rfl | exact LB_le (by omega)); (first | (with_reducible exact LB_set (by omega)) | (simp only [n0, Nat.reduceAdd, n1, n2, n3, n4, n5, n6, n7, n8, n9]; try rfl)); simp only [zp, zq, z0, z1])
          | ((with_reducible apply sx_load_one hp); exact zt rfl; infer_instance; infer_instance; (first | exact zio rfl | exact LB_get (by omega)); simp only [zp, zq, z0, z1]))
    rw [hn]
    have HN := Lib.hid hn
    clear hn
    have hq := hp
    refine wp_drawn_hp hp hq [] (.q 0 (.q 2 (.l 1 (.q 3 .nil)))) (by kernel_rfl) (by kernel_rfl) ?_
    clear hp hq; (try clear w1); intro w1 hp hq
    repeat' (first
      | (((with_reducible apply sd_q); exact zo rfl); (first
          | ((with_reducible apply sd_load_agg hp); exact rfl; exact zt rfl; infer_instance; infer_instance; (first | exact zl rfl | exact LB_le (by omega)); (first | (with_reducible exact LB_set (by omega)) | (simp only [n0, Nat.reduceAdd, n1, n2, n3, n4, n5, n6, n7, n8, n9]; try rfl)); simp only [zp, zq, z0, z1])
          | ((with_reducible apply sd_move hp); exact zi rfl; simp only [zp, zq, z0, z1])
          | ((with_reducible apply sd_pure hp); exact rfl; (focus (intro _; go_simp; (try go_ints); try with_reducible rfl)); simp only [zp, zq, z0, z1])))
      | (((with_reducible apply sd_l); exact zo rfl); ((with_reducible apply sd_call hp); exact rfl; (focus (intro _; go_simp; try first | with_reducible rfl | exact ⟨rfl, rfl⟩)); (with_reducible exact fun w => HO.out w); exact hq; clear hp hq; (try clear w1); intro w1 hp hq; simp only [zp, zq, z0, z1]))
      | ((with_reducible apply sd_nil); clear hp; have hp := hq; clear hq))
    go_wp2_with (first
          | ((with_reducible apply sx_box hp); exact za rfl; exact rfl; clear hp; (try clear w1); intro g w1 hp; simp only [zp, zq, z0, z1])
          | ((with_reducible apply sx_load_agg hp); exact zt rfl; infer_instance; infer_instance; (first | exact zl rfl | exact LB_le (by omega)); (first | (with_reducible exact LB_set (by omega)) | (simp only [n0, Nat.reduceAdd, n1, n2, n3, n4, n5, n6, n7, n8, n9]; try rfl)); simp only [zp, zq, z0, z1])
          | ((with_reducible apply sx_load_one hp); exact zt rfl; infer_instance; infer_instance; (first | exact zio rfl | exact LB_get (by omega)); simp only [zp, zq, z0, z1]))
    exact bodyPost_ret (results_two rfl rfl rfl) rfl ⟨rfl, hp.keep⟩
  | false =>
    obtain rfl := h2.out rfl
    clear h1 h2
    go_enter Tryd.func65, Tryd.ntmps65
    have hp := Hp.start [] w
    go_upto_region 2 with (first
          | ((with_reducible apply sx_box hp); exact za rfl; exact rfl; clear hp; (try clear w1); intro g w1 hp; simp only [zp, zq, z0, z1])
          | ((with_reducible apply sx_load_agg hp); exact zt rfl; infer_instance; infer_instance; (first | exact zl rfl | exact LB_le (by omega)); (first | (with_reducible exact LB_set (by omega)) | (simp only [n0, Nat.reduceAdd, n1, n2, n3, n4, n5, n6, n7, n8, n9]; try rfl)); simp only [zp, zq, z0, z1])
          | ((with_reducible apply sx_load_one hp); exact zt rfl; infer_instance; infer_instance; (first | exact zio rfl | exact LB_get (by omega)); simp only [zp, zq, z0, z1]))
    rw [hn]
    have HN := Lib.hid hn
    clear hn
    have hq := hp
    refine wp_drawn_hp hp hq [] (.q 0 (.q 2 (.l 1 (.q 3 .nil)))) (by kernel_rfl) (by kernel_rfl) ?_
    clear hp hq; (try clear w1); intro w1 hp hq
    repeat' (first
      | (((with_reducible apply sd_q); exact zo rfl); (first
          | ((with_reducible apply sd_load_agg hp); exact rfl; exact zt rfl; infer_instance; infer_instance; (first | exact zl rfl | exact LB_le (by omega)); (first | (with_reducible exact LB_set (by omega)) | (simp only [n0, Nat.reduceAdd, n1, n2, n3, n4, n5, n6, n7, n8, n9]; try rfl)); simp only [zp, zq, z0, z1])
          | ((with_reducible apply sd_move hp); exact zi rfl; simp only [zp, zq, z0, z1])
          | ((with_reducible apply sd_pure hp); exact rfl; (focus (intro _; go_simp; (try go_ints); try with_reducible rfl)); simp only [zp, zq, z0, z1])))
      | (((with_reducible apply sd_l); exact zo rfl); ((with_reducible apply sd_call hp); exact rfl; (focus (intro _; go_simp; try first | with_reducible rfl | exact ⟨rfl, rfl⟩)); (with_reducible exact fun w => HO.out w); exact hq; clear hp hq; (try clear w1); intro w1 hp hq; simp only [zp, zq, z0, z1]))
      | ((with_reducible apply sd_nil); clear hp; have hp := hq; clear hq))
    go_wp2_with (first
          | ((with_reducible apply sx_box hp); exact za rfl; exact rfl; clear hp; (try clear w1); intro g w1 hp; simp only [zp, zq, z0, z1])
          | ((with_reducible apply sx_load_agg hp); exact zt rfl; infer_instance; infer_instance; (first | exact zl rfl | exact LB_le (by omega)); (first | (with_reducible exact LB_set (by omega)) | (simp only [n0, Nat.reduceAdd, n1, n2, n3, n4, n5, n6, n7, n8, n9]; try rfl)); simp only [zp, zq, z0, z1])
          | ((with_reducible apply sx_load_one hp); exact zt rfl; infer_instance; infer_instance; (first | exact zio rfl | exact LB_get (by omega)); simp only [zp, zq, z0, z1]))
    exact bodyPost_ret (results_two rfl rfl rfl) rfl ⟨rfl, hp.keep⟩
instance (n : Int) : Decidable (I64 n) := inferInstanceAs (Decidable (_ ∧ _))
theorem int_any (a : Int) (ha : Fit a) (w : World) : Calls Tryd.prog 65 #[W a] w (Ret (.tuple #[.int .i64 (if I64 a then a else 0), .bool (decide (I64 a))]) w) := by
  obtain ⟨h1, h2⟩ := @wrap_lb a
  refine int_core a (wrap64 (lb a 0)) ha rfl (fit_i64 h2) (decide (I64 a)) (decide_eq_decide.2 h1) _ (Lib.hid fun h => ?_) (Lib.hid fun h => ?_) (Lib.hid fun w => of_i64 _ h2 w) w
  · have h := of_decide_eq_true h
    rw [if_pos h]
    exact (h1.2 h).symm
  · rw [if_neg (of_decide_eq_false h)]
set_option maxHeartbeats 4000000 in
theorem bits_any (a : Int) (h0 : 0 ≤ sz a) (h1 : sz a < M512) (w : World) : Calls Tryd.prog 61 #[W a] w (Ret (.int .i64 (nb (sz a))) w) := by
  have SZ := Lib.hid (size_any a)
  have LN := Lib.hid (length_any (sz a) h0 h1)
  clear h0 h1
  generalize sz a = s at *
  go_enter Tryd.func61, Tryd.ntmps61
  have hp := Hp.start [] w
  go_wp2_with (first
          | ((with_reducible apply sx_box hp); exact za rfl; exact rfl; clear hp; (try clear w1); intro g w1 hp; simp only [zp, zq, z0, z1])
          | ((with_reducible apply sx_load_agg hp); exact zt rfl; infer_instance; infer_instance; (first | exact zl rfl | exact LB_le (by omega)); (first | (with_reducible exact LB_set (by omega)) | (simp only [n0, Nat.reduceAdd, n1, n2, n3, n4, n5, n6, n7, n8, n9]; try rfl)); simp only [zp, zq, z0, z1])
          | ((with_reducible first | refine sx_call hp (SZ.out _) ?_ | refine sx_call hp (LN.out _) ?_); clear hp; (try clear w1); intro w1 hp))
  exact bodyPost_ret (results_one rfl rfl) rfl ⟨rfl, hp.keep⟩
end Go.Proofs.YtbdkbmhejoakiaaDoor
