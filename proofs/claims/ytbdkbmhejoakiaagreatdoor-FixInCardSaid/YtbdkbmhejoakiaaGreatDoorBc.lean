/-
  Package ninepinref01: Of (contract).
-/
import Derived.Test.YtbdkbmhejoakiaaGreatDoorBb
set_option linter.unusedSimpArgs false
set_option linter.unusedVariables false
set_option maxRecDepth 100000
namespace Go.Proofs.YtbdkbmhejoakiaaGreatDoor
open Go Go.RowKit

/-- A limb, when its bits from k on are taken, the highest first. -/
def gl (m : Int) (k j : Nat) : Int := lb m j / 2 ^ (k - 64 * j)
theorem gl_bd (m : Int) (k j : Nat) : 0 ≤ gl m k j ∧ gl m k j < 18446744073709551616 := by
  unfold gl
  have h0 := lb_nonneg m j
  have h1 := lb_lt m j
  have hp := pow_pos' (k - 64 * j)
  refine ⟨Int.ediv_nonneg h0 (by omega), ?_⟩
  have := Int.ediv_le_self (a := lb m j) (2 ^ (k - 64 * j)) h0
  omega
theorem gl_step (m : Int) (i : Nat) : gl m (i + 1) (i / 64) * 2 + bt m i = gl m i (i / 64) := by
  rw [← bt_limb m i]
  unfold gl
  rw [show i + 1 - 64 * (i / 64) = i % 64 + 1 by omega, show i - 64 * (i / 64) = i % 64 by omega, Int.pow_succ, ← Int.ediv_ediv_of_nonneg (Int.le_of_lt (pow_pos' _))]
  omega
theorem gl_zero {m : Int} {k j : Nat} (h : 64 ≤ k - 64 * j) : gl m k j = 0 := by
  unfold gl
  refine Int.ediv_eq_zero_of_lt (lb_nonneg _ _) (Int.lt_of_lt_of_le (lb_lt _ _) ?_)
  have := Nat.pow_le_pow_right (n := 2) (by omega) h
  have h2 : ((2 ^ 64 : Nat) : Int) ≤ ((2 ^ (k - 64 * j) : Nat) : Int) := Int.ofNat_le.2 this
  rw [Int.natCast_pow, Int.natCast_pow] at h2
  exact h2
theorem gl_other (m : Int) {i j : Nat} (h : j ≠ i / 64) : gl m (i + 1) j = gl m i j := by
  by_cases h1 : i < 64 * j
  · unfold gl
    rw [show i + 1 - 64 * j = 0 by omega, show i - 64 * j = 0 by omega]
  · rw [gl_zero (by omega), gl_zero (by omega)]
theorem gl_all (m : Int) : LB (gl m 0) = LB (lb m) := LB_congr fun j _ => by simp [gl]
theorem gl_none (m : Int) : LB (gl m 512) = [.int .u64 0, .int .u64 0, .int .u64 0, .int .u64 0, .int .u64 0, .int .u64 0, .int .u64 0, .int .u64 0] := by
  simp only [LB, gl_zero (m := m) (k := 512) (j := 0) (by omega), gl_zero (m := m) (k := 512) (j := 1) (by omega), gl_zero (m := m) (k := 512) (j := 2) (by omega), gl_zero (m := m) (k := 512) (j := 3) (by omega), gl_zero (m := m) (k := 512) (j := 4) (by omega), gl_zero (m := m) (k := 512) (j := 5) (by omega), gl_zero (m := m) (k := 512) (j := 6) (by omega), gl_zero (m := m) (k := 512) (j := 7) (by omega)]
theorem gl_put (m : Int) (i : Nat) (V : Int) (hV : V = gl m i (i / 64)) : LB (upd (gl m (i + 1)) (i / 64) V) = LB (gl m i) := by
  refine LB_congr fun j _ => ?_
  by_cases h : j = i / 64
  · subst h; rw [upd_same, hV]
  · rw [upd_ne _ _ h, gl_other m h]

theorem bits_zero {h : Int} : ∀ T, (∀ t, t < T → bt h t = 0) → h % 2 ^ T = 0
  | 0, _ => by simp [Int.emod_one]
  | T + 1, H => by
    have ih := bits_zero T fun t ht => H t (by omega)
    rw [Int.pow_succ, emod_split h _ _ (pow_pos' T) (by omega)]
    have := H T (by omega)
    unfold bt at this
    rw [this, ih]
    omega
theorem bt_high (m : Int) (a t : Nat) : bt (m / 2 ^ a) t = bt m (a + t) := by
  unfold bt
  rw [Int.ediv_ediv_of_nonneg (Int.le_of_lt (pow_pos' _)), ← Int.pow_add]
theorem M511_pow {a : Nat} (ha : a = 511) : M511 = 2 ^ a := by
  have h1 : (2 : Int) ^ a = 2 ^ (64 * 7) * 2 ^ 63 := by rw [← Int.pow_add, show 64 * 7 + 63 = a by omega]
  rw [h1, pow448]
  rfl
theorem high_zero {h P : Int} (hP : 0 < P) (h0 : -P ≤ h) (h1 : h < P) (hd : h % (P * 2) = 0) : h = 0 := by
  obtain ⟨c, hc⟩ := Int.dvd_of_emod_eq_zero hd
  rcases Int.lt_trichotomy c 0 with hc0 | hc0 | hc0
  · have := Int.mul_le_mul_of_nonneg_left (show c ≤ -1 by omega) (show 0 ≤ P * 2 by omega)
    omega
  · rw [hc0] at hc; omega
  · have := Int.mul_le_mul_of_nonneg_left (show 1 ≤ c by omega) (show 0 ≤ P * 2 by omega)
    omega
/-- Bits that are one from the sign's on: the number fits. -/
theorem of_fit {m : Int} {L : Nat} (hL : 512 ≤ L) (hm : -(2 ^ (L - 1)) ≤ m ∧ m < 2 ^ (L - 1)) (H : ∀ j, 511 ≤ j → j < L → bt m j = bt m 511) : Fit m := by
  obtain ⟨a, ha⟩ : ∃ a : Nat, a = 511 := ⟨_, rfl⟩
  have hp := pow_pos' a
  have hT : (2 : Int) ^ (L - 1) = 2 ^ a * 2 ^ (L - 512) := by rw [← Int.pow_add, show a + (L - 512) = L - 1 by omega]
  have hT2 : (2 : Int) ^ (L - 511) = 2 ^ (L - 512) * 2 := by rw [show L - 511 = L - 512 + 1 by omega, Int.pow_succ]
  have hq := pow_pos' (L - 512)
  rw [hT] at hm
  have hd : m = 2 ^ a * (m / 2 ^ a) + m % 2 ^ a := (Int.mul_ediv_add_emod _ _).symm
  have h0 := Int.emod_nonneg m (by omega : (2 : Int) ^ a ≠ 0)
  have h1 := Int.emod_lt_of_pos m hp
  have hb : ∀ t, t < L - 511 → bt (m / 2 ^ a) t = bt m 511 := fun t ht => by rw [bt_high]; exact H _ (by omega) (by omega)
  have hlo : -(2 ^ (L - 512)) ≤ m / 2 ^ a := by
    rw [Int.le_ediv_iff_mul_le hp, Int.neg_mul, Int.mul_comm]; exact hm.1
  have hhi : m / 2 ^ a < 2 ^ (L - 512) := by
    rw [Int.ediv_lt_iff_lt_mul hp, Int.mul_comm]; exact hm.2
  have hz : m / 2 ^ a = 0 ∨ m / 2 ^ a = -1 := by
    generalize m / 2 ^ a = h at *
    have hb5 := bt_bd m 511
    rcases (by omega : bt m 511 = 0 ∨ bt m 511 = 1) with e | e
    · left
      have := bits_zero (L - 511) fun t ht => by rw [hb t ht, e]
      rw [hT2] at this
      exact high_zero hq hlo hhi this
    · right
      have := bits_zero (h := -h - 1) (L - 511) fun t ht => by rw [bt_not, hb t ht, e]; rfl
      rw [hT2] at this
      have := high_zero hq (by omega) (by omega) this
      omega
  unfold Fit
  rw [M511_pow ha]
  generalize (2 : Int) ^ a = P at *
  rcases hz with e | e <;> rw [e] at hd <;> omega
theorem fit_of {m : Int} (hf : Fit m) {j : Nat} (hj : 511 ≤ j) : bt m j = bt m 511 := by
  rw [bt_sign hf hj, bt_sign hf (Nat.le_refl _)]
set_option maxHeartbeats 4000000 in
theorem of_core (m : Int) (L : Nat) (hL1 : 512 ≤ L) (hL2 : L ≤ 4096) (r : Bool) (n : Int) (HT : Hid ((∀ j, 511 ≤ j → j < L → bt m j = bt m 511) → r = true ∧ n = m)) (HF : Hid ((∃ j, 511 ≤ j ∧ j < L ∧ bt m j ≠ bt m 511) → r = false ∧ n = 0)) (v : Value) (w : World) (h : BSl w v m L) :
    Calls Tryz.prog 63 #[v] w (Ret (.tuple #[W n, .bool r]) w) := by
  obtain ⟨ga, oa, ca, bca, ta, qa, rfl, hba, hga⟩ := h
  have HGA := Lib.hid hga
  clear hga
  have hg511 := HGA.out 511 (by omega)
  rw [show 511 * 1 = 511 from rfl] at hg511
  have hb511 := bt_bd m 511
  obtain ⟨s, hs⟩ : ∃ s, s = bt m 511 := ⟨_, rfl⟩
  rw [← hs] at hg511 hb511
  have HS := Lib.hid hs
  clear hs
  go_enter Tryz.func63, Tryz.ntmps63
  have hp := Hp.start [] w
  go_wp2_with (first
          | ((with_reducible apply sx_alloc hp); infer_instance; exact rfl; clear hp; (try clear w1); intro g w1 hp; simp only [zp, zq, z0, z1])
          | ((with_reducible apply sx_load_agg hp); exact zt rfl; infer_instance; infer_instance; (first | exact zl rfl | exact LB_le (by omega)); (first | (with_reducible exact LB_set (by omega)) | (simp only [n0, Nat.reduceAdd, n1, n2, n3, n4, n5, n6, n7, n8, n9]; try rfl)); simp only [zp, zq, z0, z1])
          | ((with_reducible apply sx_load_one hp); exact zt rfl; infer_instance; infer_instance; (first | exact zio rfl | exact LB_get (by omega)); simp only [zp, zq, z0, z1])
          | ((with_reducible apply sx_store hp); exact zt rfl; (first | exact za rfl | exact zi rfl); exact rfl; (first | exact AggTy.size | exact OneTy.size); exact rfl; infer_instance; (first | (with_reducible exact LB_set (by omega)) | (simp only [n0, Nat.reduceAdd, n1, n2, n3, n4, n5, n6, n7, n8, n9]; try rfl)); (first | exact zl rfl | exact LB_le (by omega)); exact rfl; infer_instance; clear hp; (try clear w1); intro w1 hp)
          | ((with_reducible apply sx_indexAddr); exact zx rfl; exact zk rfl; infer_instance; (first | exact AggTy.size | exact OneTy.size); omega; omega; ((try simp only [m0, Int.reduceToNat, m1, m2, Nat.reduceMul, Nat.reduceAdd, m3, m4, m5, n0]); exact rfl); simp only [zp, zq, z0, z1])
          | ((with_reducible apply sx_load_far hp); exact zt rfl; assumption; infer_instance; assumption; (first | exact zl rfl | omega); simp only [zp, zq, z0, z1])
          | ((with_reducible apply sx_load_far1 hp); exact zt rfl; assumption; infer_instance; (first | assumption | (first | exact zio rfl | exact LB_get (by omega))); simp only [zp, zq, z0, z1]))
  rename_i g2 K hK
  obtain ⟨g4, rfl⟩ : ∃ x : Nat, x = g := ⟨_, rfl⟩
  go_loopw [5] (fun i wr => ∃ k : Nat, 511 ≤ k ∧ k ≤ L ∧ i = .int .i64 k ∧ (∀ j, 511 ≤ j → j < k → bt m j = s) ∧ Hp [] w [⟨g4, 30, [.int .u64 0, .int .u64 0, .int .u64 0, .int .u64 0, .int .u64 0, .int .u64 0, .int .u64 0, .int .u64 0]⟩, ⟨g2, 30, [.int .u64 0, .int .u64 0, .int .u64 0, .int .u64 0, .int .u64 0, .int .u64 0, .int .u64 0, .int .u64 0]⟩] wr) (fun i _ => L - (intOf i).toNat)
  case atStart => exact ⟨511, by omega, by omega, rfl, fun j _ _ => by omega, hp⟩
  case round =>
    clear hp
    obtain ⟨k, hk0, hk, rfl, hall, hp⟩ := hrel
    have HALL := Lib.hid hall
    clear hall
    by_cases hk1 : k < L
    · have hk2 : (k : Int) < L := by omega
      have hgk := HGA.out k hk1
      have hbk := bt_bd m k
      obtain ⟨a, ha⟩ : ∃ a, a = bt m k := ⟨_, rfl⟩
      rw [← ha] at hgk hbk
      have HA := Lib.hid ha
      clear ha
      by_cases he : a = s
      · subst he
        go_wp2_with (first
          | ((with_reducible apply sx_alloc hp); infer_instance; exact rfl; clear hp; (try clear w1); intro g w1 hp; simp only [zp, zq, z0, z1])
          | ((with_reducible apply sx_load_agg hp); exact zt rfl; infer_instance; infer_instance; (first | exact zl rfl | exact LB_le (by omega)); (first | (with_reducible exact LB_set (by omega)) | (simp only [n0, Nat.reduceAdd, n1, n2, n3, n4, n5, n6, n7, n8, n9]; try rfl)); simp only [zp, zq, z0, z1])
          | ((with_reducible apply sx_load_one hp); exact zt rfl; infer_instance; infer_instance; (first | exact zio rfl | exact LB_get (by omega) | assumption); simp only [zp, zq, z0, z1])
          | ((with_reducible apply sx_store hp); exact zt rfl; (first | exact za rfl | exact zi rfl); exact rfl; (first | exact AggTy.size | exact OneTy.size); exact rfl; infer_instance; (first | (with_reducible exact LB_set (by omega)) | (simp only [n0, Nat.reduceAdd, n1, n2, n3, n4, n5, n6, n7, n8, n9]; try rfl)); (first | exact zl rfl | exact LB_le (by omega)); exact rfl; infer_instance; clear hp; (try clear w1); intro w1 hp)
          | ((with_reducible apply sx_indexAddr); exact zx rfl; exact zk rfl; infer_instance; (first | exact AggTy.size | exact OneTy.size); omega; omega; ((try simp only [m0, Int.reduceToNat, m1, m2, Nat.reduceMul, Nat.reduceAdd, m3, m4, m5, n0]); exact rfl); simp only [zp, zq, z0, z1])
          | ((with_reducible apply sx_load_far hp); exact zt rfl; assumption; infer_instance; assumption; (first | exact zl rfl | omega); simp only [zp, zq, z0, z1])
          | ((with_reducible apply sx_load_far1 hp); exact zt rfl; assumption; infer_instance; (first | assumption | (first | exact zio rfl | exact LB_get (by omega) | assumption)); simp only [zp, zq, z0, z1]))
        have hq := hp
        refine wp_drawn_hp hp hq [] (.q 0 (.q 1 (.q 2 (.q 3 (.q 4 (.q 5 (.q 6 (.q 7 .nil)))))))) (by kernel_rfl) (by kernel_rfl) ?_
        clear hp hq; (try clear w1); intro w1 hp hq
        repeat' (first
          | (((with_reducible apply sd_q); exact zo rfl); (first
              | ((with_reducible apply sd_load_one hp); exact rfl; exact zt rfl; infer_instance; infer_instance; (first | exact zio rfl | exact LB_get (by omega) | assumption); simp only [zp, zq, z0, z1])
              | ((with_reducible apply sd_load_far1 hp); exact rfl; exact zt rfl; assumption; infer_instance; (first | assumption | (first | exact zio rfl | exact LB_get (by omega) | assumption)); simp only [zp, zq, z0, z1])
              | ((with_reducible apply sd_move hp); (first | exact zi rfl | exact zs rfl); simp only [zp, zq, z0, z1])
              | ((with_reducible apply sd_indexAddr hp); exact rfl; exact zx rfl; exact zk rfl; infer_instance; (first | exact AggTy.size | exact OneTy.size); omega; omega; ((try simp only [m0, Int.reduceToNat, m1, m2, Nat.reduceMul, Nat.reduceAdd, m3, m4, m5, n0]); exact rfl); simp only [zp, zq, z0, z1])
              | ((with_reducible apply sd_pure hp); exact rfl; (focus (intro _; go_simp; (try go_ints); try with_reducible rfl)); simp only [zp, zq, z0, z1])))
          | ((with_reducible apply sd_nil); clear hp; have hp := hq; clear hq))
        go_wp2
        go_roundw
        case rel =>
          refine ⟨k + 1, by omega, by omega, by go_num, fun j h1 h2 => ?_, hp⟩
          by_cases hj : j = k
          · rw [hj]; exact HA.out.symm
          · exact HALL.out j h1 (by omega)
        case measure => simp [intOf]; omega
      · obtain ⟨rfl, rfl⟩ := HF.out ⟨k, hk0, hk1, by rw [← HA.out, ← HS.out]; exact he⟩
        have hne : (a != s) = true := by simp [he]
        rw [show W 0 = .agg #[.int .u64 0, .int .u64 0, .int .u64 0, .int .u64 0, .int .u64 0, .int .u64 0, .int .u64 0, .int .u64 0] from W_zero]
        go_wp2_with (first
          | ((with_reducible apply sx_alloc hp); infer_instance; exact rfl; clear hp; (try clear w1); intro g w1 hp; simp only [zp, zq, z0, z1])
          | ((with_reducible apply sx_load_agg hp); exact zt rfl; infer_instance; infer_instance; (first | exact zl rfl | exact LB_le (by omega)); (first | (with_reducible exact LB_set (by omega)) | (simp only [n0, Nat.reduceAdd, n1, n2, n3, n4, n5, n6, n7, n8, n9]; try rfl)); simp only [zp, zq, z0, z1])
          | ((with_reducible apply sx_load_one hp); exact zt rfl; infer_instance; infer_instance; (first | exact zio rfl | exact LB_get (by omega) | assumption); simp only [zp, zq, z0, z1])
          | ((with_reducible apply sx_store hp); exact zt rfl; (first | exact za rfl | exact zi rfl); exact rfl; (first | exact AggTy.size | exact OneTy.size); exact rfl; infer_instance; (first | (with_reducible exact LB_set (by omega)) | (simp only [n0, Nat.reduceAdd, n1, n2, n3, n4, n5, n6, n7, n8, n9]; try rfl)); (first | exact zl rfl | exact LB_le (by omega)); exact rfl; infer_instance; clear hp; (try clear w1); intro w1 hp)
          | ((with_reducible apply sx_indexAddr); exact zx rfl; exact zk rfl; infer_instance; (first | exact AggTy.size | exact OneTy.size); omega; omega; ((try simp only [m0, Int.reduceToNat, m1, m2, Nat.reduceMul, Nat.reduceAdd, m3, m4, m5, n0]); exact rfl); simp only [zp, zq, z0, z1])
          | ((with_reducible apply sx_load_far hp); exact zt rfl; assumption; infer_instance; assumption; (first | exact zl rfl | omega); simp only [zp, zq, z0, z1])
          | ((with_reducible apply sx_load_far1 hp); exact zt rfl; assumption; infer_instance; (first | assumption | (first | exact zio rfl | exact LB_get (by omega) | assumption)); simp only [zp, zq, z0, z1]))
        have hq := hp
        refine wp_drawn_hp hp hq [] (.q 0 (.q 1 (.q 2 (.q 3 (.q 4 (.q 5 (.q 6 (.q 7 .nil)))))))) (by kernel_rfl) (by kernel_rfl) ?_
        clear hp hq; (try clear w1); intro w1 hp hq
        repeat' (first
          | (((with_reducible apply sd_q); exact zo rfl); (first
              | ((with_reducible apply sd_load_one hp); exact rfl; exact zt rfl; infer_instance; infer_instance; (first | exact zio rfl | exact LB_get (by omega) | assumption); simp only [zp, zq, z0, z1])
              | ((with_reducible apply sd_load_far1 hp); exact rfl; exact zt rfl; assumption; infer_instance; (first | assumption | (first | exact zio rfl | exact LB_get (by omega) | assumption)); simp only [zp, zq, z0, z1])
              | ((with_reducible apply sd_move hp); (first | exact zi rfl | exact zs rfl); simp only [zp, zq, z0, z1])
              | ((with_reducible apply sd_indexAddr hp); exact rfl; exact zx rfl; exact zk rfl; infer_instance; (first | exact AggTy.size | exact OneTy.size); omega; omega; ((try simp only [m0, Int.reduceToNat, m1, m2, Nat.reduceMul, Nat.reduceAdd, m3, m4, m5, n0]); exact rfl); simp only [zp, zq, z0, z1])
              | ((with_reducible apply sd_pure hp); exact rfl; (focus (intro _; go_simp; (try go_ints); try with_reducible rfl)); simp only [zp, zq, z0, z1])))
          | ((with_reducible apply sd_nil); clear hp; have hp := hq; clear hq))
        go_wp2_with (first
          | ((with_reducible apply sx_alloc hp); infer_instance; exact rfl; clear hp; (try clear w1); intro g w1 hp; simp only [zp, zq, z0, z1])
          | ((with_reducible apply sx_load_agg hp); exact zt rfl; infer_instance; infer_instance; (first | exact zl rfl | exact LB_le (by omega)); (first | (with_reducible exact LB_set (by omega)) | (simp only [n0, Nat.reduceAdd, n1, n2, n3, n4, n5, n6, n7, n8, n9]; try rfl)); simp only [zp, zq, z0, z1])
          | ((with_reducible apply sx_load_one hp); exact zt rfl; infer_instance; infer_instance; (first | exact zio rfl | exact LB_get (by omega)); simp only [zp, zq, z0, z1])
          | ((with_reducible apply sx_store hp); exact zt rfl; (first | exact za rfl | exact zi rfl); exact rfl; (first | exact AggTy.size | exact OneTy.size); exact rfl; infer_instance; (first | (with_reducible exact LB_set (by omega)) | (simp only [n0, Nat.reduceAdd, n1, n2, n3, n4, n5, n6, n7, n8, n9]; try rfl)); (first | exact zl rfl | exact LB_le (by omega)); exact rfl; infer_instance; clear hp; (try clear w1); intro w1 hp)
          | ((with_reducible apply sx_indexAddr); exact zx rfl; exact zk rfl; infer_instance; (first | exact AggTy.size | exact OneTy.size); omega; omega; ((try simp only [m0, Int.reduceToNat, m1, m2, Nat.reduceMul, Nat.reduceAdd, m3, m4, m5, n0]); exact rfl); simp only [zp, zq, z0, z1])
          | ((with_reducible apply sx_load_far hp); exact zt rfl; assumption; infer_instance; assumption; (first | exact zl rfl | omega); simp only [zp, zq, z0, z1])
          | ((with_reducible apply sx_load_far1 hp); exact zt rfl; assumption; infer_instance; (first | assumption | (first | exact zio rfl | exact LB_get (by omega))); simp only [zp, zq, z0, z1]))
        exact bodyPost_ret (results_two rfl ⟨_, rfl, run_load_agg hp (Nat.le_of_ble_eq_true rfl)⟩ rfl) rfl ⟨rfl, hp.keep⟩
    · obtain rfl : k = L := by omega
      obtain ⟨rfl, rfl⟩ := HT.out fun j h1 h2 => by rw [HALL.out j h1 h2, HS.out]
      clear HALL HT HF hg511 hb511 HS hk0 hk1 hk
      go_wp2
      go_loopw [6] (fun i wr => ∃ k : Nat, k ≤ 512 ∧ i = .int .i64 ((k : Int) - 1) ∧ Hp [] w [⟨g4, 30, LB (gl n k)⟩, ⟨g2, 30, [.int .u64 0, .int .u64 0, .int .u64 0, .int .u64 0, .int .u64 0, .int .u64 0, .int .u64 0, .int .u64 0]⟩] wr) (fun i _ => (intOf i + 1).toNat)
      case atStart => exact ⟨512, by omega, rfl, by rw [gl_none]; exact hp⟩
      case round =>
        clear hp
        obtain ⟨j, hj, rfl, hp⟩ := hrel
        cases j with
        | zero =>
          rw [gl_all] at hp
          simp only [LB] at hp
          rw [show (((0 : Nat)) : Int) - 1 = -1 from rfl]
          go_wp2_with (first
          | ((with_reducible apply sx_alloc hp); infer_instance; exact rfl; clear hp; (try clear w1); intro g w1 hp; simp only [zp, zq, z0, z1])
          | ((with_reducible apply sx_load_agg hp); exact zt rfl; infer_instance; infer_instance; (first | exact zl rfl | exact LB_le (by omega)); (first | (with_reducible exact LB_set (by omega)) | (simp only [n0, Nat.reduceAdd, n1, n2, n3, n4, n5, n6, n7, n8, n9]; try rfl)); simp only [zp, zq, z0, z1])
          | ((with_reducible apply sx_load_one hp); exact zt rfl; infer_instance; infer_instance; (first | exact zio rfl | exact LB_get (by omega)); simp only [zp, zq, z0, z1])
          | ((with_reducible apply sx_store hp); exact zt rfl; (first | exact za rfl | exact zi rfl); exact rfl; (first | exact AggTy.size | exact OneTy.size); exact rfl; infer_instance; (first | (with_reducible exact LB_set (by omega)) | (simp only [n0, Nat.reduceAdd, n1, n2, n3, n4, n5, n6, n7, n8, n9]; try rfl)); (first | exact zl rfl | exact LB_le (by omega)); exact rfl; infer_instance; clear hp; (try clear w1); intro w1 hp)
          | ((with_reducible apply sx_indexAddr); exact zx rfl; exact zk rfl; infer_instance; (first | exact AggTy.size | exact OneTy.size); omega; omega; ((try simp only [m0, Int.reduceToNat, m1, m2, Nat.reduceMul, Nat.reduceAdd, m3, m4, m5, n0]); exact rfl); simp only [zp, zq, z0, z1])
          | ((with_reducible apply sx_load_far hp); exact zt rfl; assumption; infer_instance; assumption; (first | exact zl rfl | omega); simp only [zp, zq, z0, z1])
          | ((with_reducible apply sx_load_far1 hp); exact zt rfl; assumption; infer_instance; (first | assumption | (first | exact zio rfl | exact LB_get (by omega))); simp only [zp, zq, z0, z1]))
          exact bodyPost_ret (results_two rfl ⟨_, rfl, run_load_agg hp (Nat.le_of_ble_eq_true rfl)⟩ rfl) rfl ⟨rfl, hp.keep⟩
        | succ i =>
          rw [show ((i + 1 : Nat) : Int) - 1 = (i : Int) by omega]
          have hgi := HGA.out i (by omega)
          have hb := bt_bd n i
          have hstep := gl_step n i
          have hlo := gl_bd n (i + 1) (i / 64)
          have hhi := gl_bd n i (i / 64)
          have HPUT := Lib.hid (gl_put n i)
          generalize gl n i (i / 64) = y2 at *
          obtain ⟨y, hy⟩ : ∃ y, y = gl n (i + 1) (i / 64) := ⟨_, rfl⟩
          rw [← hy] at hstep hlo
          have HY := Lib.hid hy
          clear hy
          generalize bt n i = b at *
          have hi8 : i / 64 < 8 := by omega
          go_wp2_with (first
          | ((with_reducible apply sx_alloc hp); infer_instance; exact rfl; clear hp; (try clear w1); intro g w1 hp; simp only [zp, zq, z0, z1])
          | ((with_reducible apply sx_load_agg hp); exact zt rfl; infer_instance; infer_instance; (first | exact zl rfl | exact LB_le (by omega)); (first | (with_reducible exact LB_set (by omega)) | (simp only [n0, Nat.reduceAdd, n1, n2, n3, n4, n5, n6, n7, n8, n9]; try rfl)); simp only [zp, zq, z0, z1])
          | ((with_reducible apply sx_load_one hp); exact zt rfl; infer_instance; infer_instance; (first | exact zio rfl | exact LB_get (by omega)); simp only [zp, zq, z0, z1])
          | ((with_reducible apply sx_store hp); exact zt rfl; (first | exact za rfl | exact zi rfl); exact rfl; (first | exact AggTy.size | exact OneTy.size); exact rfl; infer_instance; (first | (with_reducible exact LB_set (by omega)) | (simp only [n0, Nat.reduceAdd, n1, n2, n3, n4, n5, n6, n7, n8, n9]; try rfl)); (first | exact zl rfl | exact LB_le (by omega)); exact rfl; infer_instance; clear hp; (try clear w1); intro w1 hp)
          | ((with_reducible apply sx_indexAddr); exact zx rfl; exact zk rfl; infer_instance; (first | exact AggTy.size | exact OneTy.size); omega; omega; ((try simp only [m0, Int.reduceToNat, m1, m2, Nat.reduceMul, Nat.reduceAdd, m3, m4, m5, n0]); exact rfl); simp only [zp, zq, z0, z1])
          | ((with_reducible apply sx_load_far hp); exact zt rfl; assumption; infer_instance; assumption; (first | exact zl rfl | omega); simp only [zp, zq, z0, z1])
          | ((with_reducible apply sx_load_far1 hp); exact zt rfl; assumption; infer_instance; (first | assumption | (first | exact zio rfl | exact LB_get (by omega))); simp only [zp, zq, z0, z1]))
          have hq0 : (0 : Int) ≤ (i : Int) / 64 := by omega
          have hq1 : (i : Int) / 64 < 8 := by omega
          have hq := hp
          refine wp_drawn_hp hp hq [16] (.q 0 (.q 1 (.q 2 (.q 3 (.q 4 (.q 5 (.q 6 (.q 7 (.q 8 (.q 9 (.q 10 (.q 11 (.q 12 (.q 13 (.l 14 (.q 15 (.l 16 .nil))))))))))))))))) (by kernel_rfl) (by kernel_rfl) ?_
          clear hp hq; (try clear w1); intro w1 hp hq
          repeat' (first
            | (((with_reducible apply sd_q); exact zo rfl); (first
                | ((with_reducible apply sd_load_one hp); exact rfl; exact zt rfl; infer_instance; infer_instance; (first | exact zio rfl | exact LB_get (by omega) | assumption); simp only [zp, zq, z0, z1])
                | ((with_reducible apply sd_load_far1 hp); exact rfl; exact zt rfl; assumption; infer_instance; (first | assumption | (first | exact zio rfl | exact LB_get (by omega) | assumption)); simp only [zp, zq, z0, z1])
                | ((with_reducible apply sd_move hp); (first | exact zi rfl | exact zs rfl); simp only [zp, zq, z0, z1])
                | ((with_reducible apply sd_indexAddr hp); exact rfl; exact zx rfl; exact zk rfl; infer_instance; (first | exact AggTy.size | exact OneTy.size); omega; omega; ((try simp only [m0, Int.reduceToNat, m1, m2, Nat.reduceMul, Nat.reduceAdd, m3, m4, m5, n0]); exact rfl); simp only [zp, zq, z0, z1])
                | ((with_reducible apply sd_pure hp); exact rfl; (focus (intro _; go_simp; (try go_ints); try with_reducible rfl)); simp only [zp, zq, z0, z1])))
            | (((with_reducible apply sd_l); exact zo rfl); (first
                | ((with_reducible apply sd_store_far hq); exact rfl; exact zt rfl; (first | exact za rfl | exact zu rfl | exact zi rfl | exact zb rfl | exact zr rfl | exact zs rfl | exact zf rfl | exact zg rfl | exact zn rfl | exact zv rfl | exact zw rfl); exact rfl; (first | exact AggTy.size | exact OneTy.size); exact rfl; infer_instance; (first | (with_reducible exact LB_set (by omega)) | (simp only [n0, Nat.reduceAdd, n1, n2, n3, n4, n5, n6, n7, n8, n9]; try rfl)); (first | exact zl rfl | exact LB_le (by omega)); exact rfl; infer_instance; (repeat (first | exact List.Sublist.refl _ | apply List.Sublist.cons)); clear hp hq; (try clear w1); intro w1 hp hq)
                | ((with_reducible apply sd_store hq); exact rfl; exact zt rfl; (first | exact za rfl | exact zu rfl | exact zi rfl | exact zb rfl | exact zr rfl | exact zs rfl | exact zf rfl | exact zg rfl | exact zn rfl | exact zv rfl | exact zw rfl); exact rfl; (first | exact AggTy.size | exact OneTy.size); exact rfl; infer_instance; (first | (with_reducible exact LB_set (by omega)) | (simp only [n0, Nat.reduceAdd, n1, n2, n3, n4, n5, n6, n7, n8, n9]; try rfl)); (first | exact zl rfl | exact LB_le (by omega)); exact rfl; infer_instance; exact rfl; clear hp hq; (try clear w1); intro w1 hq; have hp := True.intro)
                | ((with_reducible apply sd_lpure hp); exact rfl; (focus (intro _; go_simp; (try go_ints); try with_reducible rfl)); simp only [zp, zq, z0, z1])))
            | ((with_reducible apply sd_nil); clear hp; have hp := hq; clear hq))
          go_wp2
          go_roundw
          case rel =>
            have e := HY.out
            rw [← e, HPUT.out _ (by rw [IntKind.wrap_u64, IntKind.wrap_u64]; omega)] at hp
            exact ⟨i, by omega, rfl, hp⟩
          case measure => simp [intOf]
/-- ninepinref01.Of: the number of bits, of at least 512, if it fits. -/
theorem rof_any (m : Int) (L : Nat) (hL1 : 512 ≤ L) (hL2 : L ≤ 4096) (hm : -(2 ^ (L - 1)) ≤ m ∧ m < 2 ^ (L - 1)) (v : Value) (w : World) (h : BSl w v m L) : Calls Tryz.prog 63 #[v] w (Ret (.tuple #[W (if Fit m then m else 0), .bool (decide (Fit m))]) w) := by
  by_cases hf : Fit m
  · rw [if_pos hf, decide_eq_true hf]
    exact of_core m L hL1 hL2 true m (Lib.hid fun _ => ⟨rfl, rfl⟩) (Lib.hid fun ⟨j, h1, _, h2⟩ => (h2 (fit_of hf h1)).elim) v w h
  · rw [if_neg hf, decide_eq_false hf]
    exact of_core m L hL1 hL2 false 0 (Lib.hid fun H => (hf (of_fit hL1 hm H)).elim) (Lib.hid fun _ => ⟨rfl, rfl⟩) v w h
end Go.Proofs.YtbdkbmhejoakiaaGreatDoor
