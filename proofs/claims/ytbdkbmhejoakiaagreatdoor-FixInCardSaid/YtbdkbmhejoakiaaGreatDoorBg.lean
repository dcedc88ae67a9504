/-
  Adding bit by bit: what the rounds of a product do (plain).
  Package ninepinref01: Mul (contract).
-/
import Derived.Test.YtbdkbmhejoakiaaGreatDoorBe
set_option linter.unusedSimpArgs false
set_option linter.unusedVariables false
set_option maxRecDepth 100000
namespace Go.Proofs.YtbdkbmhejoakiaaGreatDoor
open Go Go.RowKit

/-- A sum, of which so many bits are there. -/
def mx (S D : Int) (m : Nat) : Nat → Int := fun j => if j < m then bt (S + D) j else bt S j
theorem mx_at (S D : Int) (j : Nat) : mx S D j (j * 1) = bt S j := by
  unfold mx; rw [Nat.mul_one, if_neg (by omega)]
theorem mx_step {S D V : Int} {j L : Nat} (hV : V = bt (S + D) j) : tab (upd (mx S D j) (j * 1) V) L = tab (mx S D (j + 1)) L := by
  refine tab_congr fun i _ => ?_
  rw [Nat.mul_one]
  unfold mx
  by_cases h : i = j
  · subst h
    rw [upd_same, hV, if_pos (by omega)]
  · rw [upd_ne _ _ h]
    by_cases h2 : i < j
    · rw [if_pos h2, if_pos (by omega)]
    · rw [if_neg h2, if_neg (by omega)]
theorem pow_split {i j : Nat} (h : j ≤ i) : (2 : Int) ^ i = 2 ^ j * 2 ^ (i - j) := by rw [← Int.pow_add, show j + (i - j) = i by omega]
theorem bt_low (S A : Int) {i j : Nat} (h : j < i) : bt (S + A * 2 ^ i) j = bt S j := by
  unfold bt
  have hp := pow_pos' j
  have e : A * (2 : Int) ^ i = 2 ^ j * (A * 2 ^ (i - j)) := by rw [pow_split (show j ≤ i by omega)]; grind
  have e2 : A * (2 : Int) ^ (i - j) = 2 * (A * 2 ^ (i - j - 1)) := by
    rw [show i - j = (i - j - 1) + 1 by omega, Int.pow_succ]
    simp only [Nat.add_sub_cancel]
    grind
  rw [e, Int.add_mul_ediv_left _ _ (by omega), e2]
  omega
theorem mx_start (S A : Int) (i L : Nat) : tab (bt S) L = tab (mx S (A * 2 ^ i) i) L := by
  refine tab_congr fun j _ => ?_
  unfold mx
  split
  · exact (bt_low S A (by assumption)).symm
  · rfl
theorem cb_start (S A : Int) (i : Nat) : cb S (A * 2 ^ i) 0 i = 0 := by
  unfold cb
  have hp := pow_pos' i
  rw [Int.mul_emod_left, Int.add_zero, Int.add_zero, Int.ediv_eq_zero_of_lt (Int.emod_nonneg _ (by omega)) (Int.emod_lt_of_pos _ hp)]
theorem bt_shift (A : Int) (i k : Nat) : bt (A * 2 ^ i) (i + k) = bt A k := by
  unfold bt
  rw [Int.pow_add, Int.mul_comm A, Int.mul_ediv_mul_of_pos _ _ (pow_pos' i)]
/-- What has no bits from t on is less than 2^t. -/
theorem lt_top {A : Int} (hA : 0 ≤ A) {t L : Nat} (hl : A < 2 ^ L) (ht : t ≤ L) (H : ∀ j, t ≤ j → j < L → bt A j = 0) : A < 2 ^ t := by
  have hp := pow_pos' t
  have h0 : 0 ≤ A / 2 ^ t := Int.ediv_nonneg hA (by omega)
  have h1 : A / 2 ^ t < 2 ^ (L - t) := by
    rw [Int.ediv_lt_iff_lt_mul hp, Int.mul_comm, ← pow_split ht]; exact hl
  have h2 := bits_zero (h := A / 2 ^ t) (L - t) fun s hs => by rw [bt_high]; exact H _ (by omega) (by omega)
  rw [Int.emod_eq_of_lt h0 h1] at h2
  have := Int.mul_ediv_add_emod A (2 ^ t)
  have := Int.emod_lt_of_pos A hp
  rw [h2, Int.mul_zero] at *
  omega
theorem bt_small {A : Int} (hA : 0 ≤ A) {t k : Nat} (h : A < 2 ^ t) (hk : t ≤ k) : bt A k = 0 := by
  unfold bt
  have : A < 2 ^ k := by
    rw [pow_split hk]
    have h1 := pow_pos' (k - t)
    have h2 := Int.mul_le_mul_of_nonneg_left (show (1 : Int) ≤ 2 ^ (k - t) by omega) (Int.le_of_lt (pow_pos' t))
    omega
  rw [Int.ediv_eq_zero_of_lt hA this]; rfl
theorem shift_lt {A : Int} {t i k : Nat} (h : A < 2 ^ t) (hk : t ≤ k) : A * 2 ^ i < 2 ^ (i + k) := by
  rw [Int.pow_add, Int.mul_comm]
  refine Int.mul_lt_mul_of_pos_left ?_ (pow_pos' i)
  have h1 := pow_pos' (k - t)
  have h2 := Int.mul_le_mul_of_nonneg_left (show (1 : Int) ≤ 2 ^ (k - t) by omega) (Int.le_of_lt (pow_pos' t))
  rw [pow_split hk]
  omega
/-- Nothing is carried, and nothing is left to be added: the sum's other bits stand there. -/
theorem mx_end {S A : Int} {i k t L : Nat} (hA : 0 ≤ A) (h : A < 2 ^ t) (hk : t ≤ k) (hc : cb S (A * 2 ^ i) 0 (i + k) = 0) : tab (mx S (A * 2 ^ i) (i + k)) L = tab (bt (S + A * 2 ^ i)) L := by
  refine tab_congr fun j _ => ?_
  unfold mx
  split
  · rfl
  · have hp := pow_pos' (i + k)
    have hs : (S + A * 2 ^ i) / 2 ^ (i + k) = S / 2 ^ (i + k) := by
      have hd0 : 0 ≤ A * 2 ^ i := Int.mul_nonneg hA (Int.le_of_lt (pow_pos' i))
      have hd1 := shift_lt (i := i) h hk
      unfold cb at hc
      rw [Int.add_zero, Int.emod_eq_of_lt hd0 hd1] at hc
      generalize A * 2 ^ i = D at *
      generalize (2 : Int) ^ (i + k) = P at *
      have h1 := Int.mul_ediv_add_emod S P
      have h2 := Int.emod_nonneg S (by omega : P ≠ 0)
      have h3 : S + D = (S % P + D) + P * (S / P) := by omega
      rw [h3, Int.add_mul_ediv_left _ _ (by omega), hc]
      omega
    have hj : j = (i + k) + (j - (i + k)) := by omega
    rw [hj, ← bt_high, ← bt_high, hs]
theorem mul_bit {A B : Int} {i : Nat} (hb : bt B i = 1) : A * (B % 2 ^ i) + A * 2 ^ i = A * (B % 2 ^ (i + 1)) := by
  have h := emod_split B (2 ^ i) 2 (pow_pos' i) (by omega)
  unfold bt at hb
  rw [Int.pow_succ, h, hb]
  grind
theorem mul_nobit {A B : Int} {i : Nat} (hb : bt B i = 0) : A * (B % 2 ^ i) = A * (B % 2 ^ (i + 1)) := by
  have h := emod_split B (2 ^ i) 2 (pow_pos' i) (by omega)
  unfold bt at hb
  rw [Int.pow_succ, h, hb]
  grind
/-- Something is carried: the place is still within the product. -/
theorem carry_room {A B : Int} {i k t E : Nat} (hA : 0 ≤ A) (hB : 0 ≤ B) (h : A < 2 ^ t) (hk : t ≤ k) (hb : bt B i = 1) (hAB : A * B < 2 ^ E) (hc : 0 < cb (A * (B % 2 ^ i)) (A * 2 ^ i) 0 (i + k)) : i + k < E := by
  rcases Nat.lt_or_ge (i + k) E with h1 | h1
  · exact h1
  · exfalso
    have hS : 0 ≤ A * (B % 2 ^ i) := Int.mul_nonneg hA (Int.emod_nonneg _ (by have := pow_pos' i; omega))
    have hd0 : 0 ≤ A * 2 ^ i := Int.mul_nonneg hA (Int.le_of_lt (pow_pos' i))
    have hle : A * (B % 2 ^ i) + A * 2 ^ i ≤ A * B := by
      rw [mul_bit hb]
      exact Int.mul_le_mul_of_nonneg_left (emod_le' hB (pow_pos' _)) hA
    have hP : (2 : Int) ^ E ≤ 2 ^ (i + k) := by
      rw [pow_split h1]
      have h2 := pow_pos' (i + k - E)
      have := Int.mul_le_mul_of_nonneg_left (show (1 : Int) ≤ 2 ^ (i + k - E) by omega) (Int.le_of_lt (pow_pos' E))
      omega
    have hp := pow_pos' (i + k)
    have : cb (A * (B % 2 ^ i)) (A * 2 ^ i) 0 (i + k) = 0 := by
      unfold cb
      rw [Int.emod_eq_of_lt hS (by omega), Int.emod_eq_of_lt hd0 (by omega), Int.add_zero, Int.ediv_eq_zero_of_lt (by omega) (by omega)]
    omega
theorem ab_bd {n : Int} (h : Fit n) : 0 ≤ ab n ∧ ab n ≤ M511 := by unfold ab; unfold Fit at h; split <;> omega
theorem ab_mul (a b : Int) : ab a * ab b = ab (a * b) := by
  unfold ab
  by_cases ha : a < 0 <;> by_cases hb : b < 0
  · have := Int.mul_pos_of_neg_of_neg ha hb
    rw [if_pos ha, if_pos hb, if_neg (by omega), Int.neg_mul_neg]
  · rw [if_pos ha, if_neg hb]
    by_cases h0 : b = 0
    · subst h0; simp
    · have := Int.mul_neg_of_neg_of_pos ha (show 0 < b by omega)
      rw [if_pos this, Int.neg_mul]
  · rw [if_neg ha, if_pos hb]
    by_cases h0 : a = 0
    · subst h0; simp
    · have := Int.mul_neg_of_pos_of_neg (show 0 < a by omega) hb
      rw [if_pos this, Int.mul_neg]
  · have := Int.mul_nonneg (show 0 ≤ a by omega) (show 0 ≤ b by omega)
    rw [if_neg ha, if_neg hb, if_neg (by omega)]
theorem mul_ab {a b : Int} (h : (decide (a < 0) != decide (b < 0)) = false) : a * b = ab a * ab b := by
  unfold ab
  by_cases ha : a < 0 <;> by_cases hb : b < 0
  · rw [if_pos ha, if_pos hb, Int.neg_mul_neg]
  · simp [ha, hb] at h
  · simp [ha, hb] at h
  · rw [if_neg ha, if_neg hb]
theorem mul_ab_neg {a b : Int} (h : (decide (a < 0) != decide (b < 0)) = true) : a * b = -(ab a * ab b) := by
  unfold ab
  by_cases ha : a < 0 <;> by_cases hb : b < 0
  · simp [ha, hb] at h
  · rw [if_pos ha, if_neg hb, Int.neg_mul, Int.neg_neg]
  · rw [if_neg ha, if_pos hb, Int.mul_neg, Int.neg_neg]
  · simp [ha, hb] at h
/-- Products of two that fit, with room. -/
theorem prod_lt {a b : Int} (ha : Fit a) (hb : Fit b) {E : Nat} (hE : E = 1039) : ab a * ab b < 2 ^ E := by
  have h1 := ab_bd ha
  have h2 := ab_bd hb
  have h3 := Int.mul_le_mul h1.2 h2.2 h2.1 (Int.le_trans h1.1 h1.2)
  obtain ⟨c, hc⟩ : ∃ c : Nat, c = 511 := ⟨_, rfl⟩
  rw [M511_pow hc, ← Int.pow_add] at h3
  have h4 : (2 : Int) ^ E = 2 ^ (c + c) * 2 ^ (E - (c + c)) := pow_split (by omega)
  have h5 := pow_pos' (c + c)
  have h6 : E - (c + c) = 16 + 1 := by omega
  rw [h6] at h4
  have : (2 : Int) ^ (16 + 1) = 131072 := rfl
  rw [this] at h4
  omega
theorem ab_lt520 {n : Int} (h : Fit n) {E : Nat} (hE : E = 520) : ab n < 2 ^ E := by
  have h1 := ab_bd h
  obtain ⟨c, hc⟩ : ∃ c : Nat, c = 511 := ⟨_, rfl⟩
  rw [M511_pow hc] at h1
  have h4 : (2 : Int) ^ E = 2 ^ c * 2 ^ (E - c) := pow_split (by omega)
  have h5 := pow_pos' c
  have h6 : E - c = 9 := by omega
  rw [h6] at h4
  have : (2 : Int) ^ 9 = 512 := rfl
  rw [this] at h4
  omega
end Go.Proofs.YtbdkbmhejoakiaaGreatDoor
set_option linter.unusedSimpArgs false
set_option linter.unusedVariables false
set_option maxRecDepth 100000
namespace Go.Proofs.YtbdkbmhejoakiaaGreatDoor
open Go Go.RowKit

theorem rof1040 (m : Int) {E : Nat} (hE : E = 1039) (hm : -(2 ^ E) ≤ m ∧ m < 2 ^ E) (v : Value) (w : World) (h : BSl w v m 1040) : Calls Tryz.prog 63 #[v] w (Ret (.tuple #[W (fz m), .bool (decide (Fit m))]) w) := by
  subst hE
  exact rof_any m 1040 (by omega) (by omega) hm v w h
set_option maxHeartbeats 8000000 in
theorem rmul_any (a b : Int) (ha : Fit a) (hb : Fit b) (w : World) : Calls Tryz.prog 31 #[W a, W b] w (Ret (.tuple #[W (fz (a * b)), .bool (decide (Fit (a * b)))]) w) := by
  have HA := Lib.hid (ab_bd ha)
  have HB := Lib.hid (ab_bd hb)
  have HAB := Lib.hid (prod_lt ha hb rfl)
  have HA5 := Lib.hid (ab_lt520 ha rfl)
  have HB5 := Lib.hid (ab_lt520 hb rfl)
  have HP := Lib.hid (@mul_ab a b)
  have HN := Lib.hid (@mul_ab_neg a b)
  have hba := fun w => rbelow_any a ha w
  have hbb := fun w => rbelow_any b hb w
  have hsa := fun w => rsize_any a ha w
  have hsb := fun w => rsize_any b hb w
  clear ha hb
  generalize a * b = m at *
  generalize decide (a < 0) = sa at *
  generalize decide (b < 0) = sb at *
  generalize ab a = A at *
  generalize ab b = B at *
  have HBA := Lib.hid hba
  have HBB := Lib.hid hbb
  have HSA := Lib.hid hsa
  have HSB := Lib.hid hsb
  clear hba hbb hsa hsb
  go_enter Tryz.func31, Tryz.ntmps31
  have hp := Hp.start [] w
  go_upto_region 1 with (first
          | ((with_reducible apply sx_box hp); (first | exact za rfl | exact zu rfl | exact zi rfl | exact zb rfl | exact zr rfl | exact zs rfl | exact zf rfl | exact zg rfl | exact zn rfl | exact zv rfl | exact zw rfl); exact rfl; clear hp; (try clear w1); intro g w1 hp; simp only [zp, zq, z0, z1])
          | ((with_reducible apply sx_alloc hp); infer_instance; exact rfl; clear hp; (try clear w1); intro g w1 hp; simp only [zp, zq, z0, z1]))
  rename_i ga gb K hK
  obtain ⟨gp, rfl⟩ : ∃ x : Nat, x = g := ⟨_, rfl⟩
  have hq := hp
  refine wp_drawn_hp hp hq [] (.q 0 (.q 2 (.l 1 (.l 3 (.q 4 (.q 5 .nil)))))) (by kernel_rfl) (by kernel_rfl) ?_
  clear hp hq; (try clear w1); intro w1 hp hq
  repeat' (first
    | (((with_reducible apply sd_q); exact zo rfl); (first
        | ((with_reducible apply sd_load_agg hp); exact rfl; exact zt rfl; infer_instance; infer_instance; (first | exact zl rfl | exact LB_le (by omega)); (first | (with_reducible exact LB_set (by omega)) | (simp only [n0, Nat.reduceAdd, n1, n2, n3, n4, n5, n6, n7, n8, n9]; try rfl)); simp only [zp, zq, z0, z1])
        | ((with_reducible apply sd_load_far hp); exact rfl; exact zt rfl; assumption; infer_instance; assumption; (first | exact zl rfl | omega); simp only [zp, zq, z0, z1])
        | ((with_reducible apply sd_assign hp); exact zs rfl; simp only [zp, zq, z0, z1])
        | ((with_reducible apply sd_pure hp); exact rfl; (focus (intro _; go_simp; (try go_ints); try with_reducible rfl)); simp only [zp, zq, z0, z1])))
    | (((with_reducible apply sd_l); exact zo rfl); (first
        | ((with_reducible apply sd_callN hq); (repeat (first | exact List.Sublist.refl _ | apply List.Sublist.cons)); exact rfl; (focus (intro _; go_simp; try first | with_reducible rfl | exact ⟨rfl, rfl⟩)); (with_reducible exact HSA.out _); clear hp hq; (try clear w1); intro g w1 hp hq; simp only [zp, zq, z0, z1])
        | ((with_reducible apply sd_callN hq); (repeat (first | exact List.Sublist.refl _ | apply List.Sublist.cons)); exact rfl; (focus (intro _; go_simp; try first | with_reducible rfl | exact ⟨rfl, rfl⟩)); (with_reducible exact HSB.out _); clear hp hq; (try clear w1); intro g w1 hp hq; simp only [zp, zq, z0, z1])))
    | ((with_reducible apply sd_nil); clear hp; have hp := hq; clear hq))
  rename_i gx
  obtain ⟨gy, rfl⟩ : ∃ x : Nat, x = g := ⟨_, rfl⟩
  go_wp2_with (first
          | ((with_reducible apply sx_box hp); exact za rfl; exact rfl; clear hp; (try clear w1); intro g w1 hp; simp only [zp, zq, z0, z1])
          | ((with_reducible apply sx_alloc hp); infer_instance; exact rfl; clear hp; (try clear w1); intro g w1 hp; simp only [zp, zq, z0, z1])
          | ((with_reducible apply sx_load_agg hp); exact zt rfl; infer_instance; infer_instance; (first | exact zl rfl | exact LB_le (by omega)); (first | (with_reducible exact LB_set (by omega)) | (simp only [n0, Nat.reduceAdd, n1, n2, n3, n4, n5, n6, n7, n8, n9]; try rfl)); simp only [zp, zq, z0, z1])
          | ((with_reducible apply sx_load_one hp); exact zt rfl; infer_instance; infer_instance; (first | exact zio rfl | exact LB_get (by omega)); simp only [zp, zq, z0, z1])
          | ((with_reducible apply sx_store hp); exact zt rfl; (first | exact za rfl | exact zi rfl); exact rfl; (first | exact AggTy.size | exact OneTy.size); exact rfl; infer_instance; (first | (with_reducible exact LB_set (by omega)) | (simp only [n0, Nat.reduceAdd, n1, n2, n3, n4, n5, n6, n7, n8, n9]; try rfl)); (first | exact zl rfl | exact LB_le (by omega)); exact rfl; infer_instance; clear hp; (try clear w1); intro w1 hp)
          | ((with_reducible apply sx_indexAddr); exact zx rfl; exact zk rfl; infer_instance; (first | exact AggTy.size | exact OneTy.size); omega; omega; ((try simp only [m0, Int.reduceToNat, m1, m2, Nat.reduceMul, Nat.reduceAdd, m3, m4, m5, n0]); exact rfl); simp only [zp, zq, z0, z1])
          | ((with_reducible apply sx_load_far hp); exact zt rfl; assumption; infer_instance; assumption; (first | exact zl rfl | omega); simp only [zp, zq, z0, z1])
          | ((with_reducible apply sx_load_far1 hp); exact zt rfl; assumption; infer_instance; (first | assumption | (first | exact zio rfl | exact LB_get (by omega))); simp only [zp, zq, z0, z1])
          | ((with_reducible refine sx_call hp (rtop_any A 520 (by omega) _ _ (BSl.of hp.blk)) ?_); clear hp; (try clear w1); intro w1 hp)
          | ((with_reducible apply sx_makeSlice (n := 1040) hp); infer_instance; infer_instance; exact (rfl : Value.int .i64 (1040 : Int) = _); exact (rfl : Value.int .i64 (1040 : Int) = _); omega; omega; clear hp; (try clear w1); intro g w1 hp; simp only [zp, zq, z0, z1]))
  obtain ⟨gs, rfl⟩ : ∃ x : Nat, x = g := ⟨_, rfl⟩
  have HT := Lib.hid (lt_top HA.out.1 HA5.out (tp_le A 520) fun j h1 h2 => tp_zero A h1 h2)
  have hT := tp_le A 520
  generalize tp A 520 = T at *
  go_loopw [10] (fun iv wr => ∃ i : Nat, i ≤ 520 ∧ iv = .int .i64 i ∧ Hp [] w [⟨gs, 3, tab (bt (A * (B % 2 ^ i))) 1040⟩, ⟨gy, 3, tab (bt B) 520⟩, ⟨gx, 3, tab (bt A) 520⟩, ⟨gp, 30, [.int .u64 0, .int .u64 0, .int .u64 0, .int .u64 0, .int .u64 0, .int .u64 0, .int .u64 0, .int .u64 0]⟩, ⟨gb, 30, [.int .u64 (lb (b) 0), .int .u64 (lb (b) 1), .int .u64 (lb (b) 2), .int .u64 (lb (b) 3), .int .u64 (lb (b) 4), .int .u64 (lb (b) 5), .int .u64 (lb (b) 6), .int .u64 (lb (b) 7)]⟩, ⟨ga, 30, [.int .u64 (lb (a) 0), .int .u64 (lb (a) 1), .int .u64 (lb (a) 2), .int .u64 (lb (a) 3), .int .u64 (lb (a) 4), .int .u64 (lb (a) 5), .int .u64 (lb (a) 6), .int .u64 (lb (a) 7)]⟩] wr) (fun iv _ => 520 - (intOf iv).toNat)
  case atStart => exact ⟨0, by omega, rfl, by rw [Int.pow_zero, Int.emod_one, Int.mul_zero, tab_congr (fun j _ => bt_zero j)]; exact hp⟩
  case round =>
    clear hp
    obtain ⟨i, hi, rfl, hp⟩ := hrel
    by_cases hi1 : i < 520
    · have hi2 : (i : Int) < 520 := by omega
      by_cases hb1 : bt B i = 1
      · have hbt : (bt B i == 1) = true := by simp [hb1]
        have HB1 := Lib.hid hb1
        clear hb1
        obtain ⟨S, hS⟩ : ∃ S, S = A * (B % 2 ^ i) := ⟨_, rfl⟩
        obtain ⟨D, hD⟩ : ∃ D, D = A * 2 ^ i := ⟨_, rfl⟩
        rw [← hS, mx_start S A i 1040, ← hD] at hp
        have HS := Lib.hid hS
        have HD := Lib.hid hD
        clear hS hD
        go_wp2_with (first
          | ((with_reducible apply sx_box hp); exact za rfl; exact rfl; clear hp; (try clear w1); intro g w1 hp; simp only [zp, zq, z0, z1])
          | ((with_reducible apply sx_alloc hp); infer_instance; exact rfl; clear hp; (try clear w1); intro g w1 hp; simp only [zp, zq, z0, z1])
          | ((with_reducible apply sx_load_agg hp); exact zt rfl; infer_instance; infer_instance; (first | exact zl rfl | exact LB_le (by omega) | exact tab_le (by omega)); (first | (with_reducible exact LB_set (by omega)) | (with_reducible exact tab_set (by omega)) | (simp only [n0, Nat.reduceAdd, n1, n2, n3, n4, n5, n6, n7, n8, n9]; try rfl)); simp only [zp, zq, z0, z1])
          | ((with_reducible apply sx_load_one hp); exact zt rfl; infer_instance; infer_instance; (first | exact zio rfl | exact LB_get (by omega) | exact tab_get (by omega)); simp only [zp, zq, z0, z1])
          | ((with_reducible apply sx_store hp); exact zt rfl; (first | exact za rfl | exact zi rfl); exact rfl; (first | exact AggTy.size | exact OneTy.size); exact rfl; infer_instance; (first | (with_reducible exact LB_set (by omega)) | (with_reducible exact tab_set (by omega)) | (simp only [n0, Nat.reduceAdd, n1, n2, n3, n4, n5, n6, n7, n8, n9]; try rfl)); (first | exact zl rfl | exact LB_le (by omega) | exact tab_le (by omega)); exact rfl; infer_instance; clear hp; (try clear w1); intro w1 hp)
          | ((with_reducible apply sx_indexAddr); exact zx rfl; exact zk rfl; infer_instance; (first | exact AggTy.size | exact OneTy.size); omega; omega; ((try simp only [m0, Int.reduceToNat, m1, m2, Nat.reduceMul, Nat.reduceAdd, m3, m4, m5, n0]); exact rfl); simp only [zp, zq, z0, z1])
          | ((with_reducible apply sx_load_far hp); exact zt rfl; assumption; infer_instance; assumption; (first | exact zl rfl | omega); simp only [zp, zq, z0, z1])
          | ((with_reducible apply sx_load_far1 hp); exact zt rfl; assumption; infer_instance; (first | assumption | (first | exact zio rfl | exact LB_get (by omega) | exact tab_get (by omega))); simp only [zp, zq, z0, z1]))
        go_loopw [11, 12] (fun cv kv wr => ∃ (k : Nat) (c : Int), kv = .int .i64 k ∧ cv = .int .i64 c ∧ c = cb S D 0 (i + k) ∧ Hp [] w [⟨gs, 3, tab (mx S D (i + k)) 1040⟩, ⟨gy, 3, tab (bt B) 520⟩, ⟨gx, 3, tab (bt A) 520⟩, ⟨gp, 30, [.int .u64 0, .int .u64 0, .int .u64 0, .int .u64 0, .int .u64 0, .int .u64 0, .int .u64 0, .int .u64 0]⟩, ⟨gb, 30, [.int .u64 (lb (b) 0), .int .u64 (lb (b) 1), .int .u64 (lb (b) 2), .int .u64 (lb (b) 3), .int .u64 (lb (b) 4), .int .u64 (lb (b) 5), .int .u64 (lb (b) 6), .int .u64 (lb (b) 7)]⟩, ⟨ga, 30, [.int .u64 (lb (a) 0), .int .u64 (lb (a) 1), .int .u64 (lb (a) 2), .int .u64 (lb (a) 3), .int .u64 (lb (a) 4), .int .u64 (lb (a) 5), .int .u64 (lb (a) 6), .int .u64 (lb (a) 7)]⟩] wr) (fun _ kv _ => 1040 - (intOf kv).toNat)
        case atStart => exact ⟨0, 0, rfl, rfl, by rw [HD.out]; exact (cb_start S A i).symm, hp⟩
        case round =>
          clear hp
          obtain ⟨k, c, rfl, rfl, hc, hp⟩ := hrel
          have hcb := cb_bd S D 0 (i + k) (by omega) (by omega)
          have hsb := sum_bt S D 0 (i + k)
          have hcs := cb_succ S D 0 (i + k)
          rw [← hc] at hcb hsb hcs
          have hm := mx_at S D (i + k)
          rw [Nat.mul_one] at hm
          have hmb := bt_bd S (i + k)
          rw [← hm] at hmb hsb hcs
          rw [HD.out, bt_shift, Int.add_zero, ← HD.out] at hsb
          rw [HD.out, bt_shift, ← HD.out] at hcs
          rw [Int.add_right_comm] at hsb hcs
          have HC := Lib.hid hc
          have HCS := Lib.hid hcs
          have HSB := Lib.hid hsb
          clear hc hcs hsb hm
          have hik : ((i : Int) + (k : Int)).toNat = i + k := by omega
          by_cases hk : k < T
          · have hk2 : (k : Int) < T := by omega
            have hk3 : k < 520 := by omega
            have hkb := bt_bd A k
            have HIK := Lib.hid hik
            clear hik
            go_wp2_with (first
          | ((with_reducible apply sx_box hp); exact za rfl; exact rfl; clear hp; (try clear w1); intro g w1 hp; simp only [zp, zq, z0, z1])
          | ((with_reducible apply sx_alloc hp); infer_instance; exact rfl; clear hp; (try clear w1); intro g w1 hp; simp only [zp, zq, z0, z1])
          | ((with_reducible apply sx_load_agg hp); exact zt rfl; infer_instance; infer_instance; (first | exact zl rfl | exact LB_le (by omega) | exact tab_le (by omega)); (first | (with_reducible exact LB_set (by omega)) | (with_reducible exact tab_set (by omega)) | (simp only [n0, Nat.reduceAdd, n1, n2, n3, n4, n5, n6, n7, n8, n9]; try rfl)); simp only [zp, zq, z0, z1])
          | ((with_reducible apply sx_load_one hp); exact zt rfl; infer_instance; infer_instance; (first | exact zio rfl | exact LB_get (by omega) | exact tab_get (by omega)); simp only [zp, zq, z0, z1])
          | ((with_reducible apply sx_store hp); exact zt rfl; (first | exact za rfl | exact zi rfl); exact rfl; (first | exact AggTy.size | exact OneTy.size); exact rfl; infer_instance; (first | (with_reducible exact LB_set (by omega)) | (with_reducible exact tab_set (by omega)) | (simp only [n0, Nat.reduceAdd, n1, n2, n3, n4, n5, n6, n7, n8, n9]; try rfl)); (first | exact zl rfl | exact LB_le (by omega) | exact tab_le (by omega)); exact rfl; infer_instance; clear hp; (try clear w1); intro w1 hp)
          | ((with_reducible apply sx_indexAddr); exact zx rfl; exact zk rfl; infer_instance; (first | exact AggTy.size | exact OneTy.size); omega; omega; ((try simp only [m0, Int.reduceToNat, m1, m2, Nat.reduceMul, Nat.reduceAdd, m3, m4, m5, n0]); exact rfl); simp only [zp, zq, z0, z1])
          | ((with_reducible apply sx_load_far hp); exact zt rfl; assumption; infer_instance; assumption; (first | exact zl rfl | omega); simp only [zp, zq, z0, z1])
          | ((with_reducible apply sx_load_far1 hp); exact zt rfl; assumption; infer_instance; (first | assumption | (first | exact zio rfl | exact LB_get (by omega) | exact tab_get (by omega))); simp only [zp, zq, z0, z1])
          | ((with_reducible apply sx_strip); exact rfl)
          | ((with_reducible apply sx_unwanted); exact rfl; simp only [zp, zq, z0, z1]))
            go_roundw
            case rel =>
              refine ⟨k + 1, _, by go_num, rfl, HCS.out, ?_⟩
              rw [Nat.add_assoc i k 1 |>.symm, ← mx_step HSB.out, ← HIK.out]
              exact hp
            case measure => simp [intOf]; omega
          · by_cases hc0 : 0 < c
            · have hk2 : ¬ (k : Int) < T := by omega
              have hka := bt_small HA.out.1 HT.out (show T ≤ k by omega)
              have hroom := carry_room HA.out.1 HB.out.1 HT.out (show T ≤ k by omega) HB1.out HAB.out (by rw [← HS.out, ← HD.out, ← HC.out]; exact hc0)
              have HSB2 := HSB.out
              have HCS2 := HCS.out
              rw [hka, Int.add_zero] at HSB2 HCS2
              have HSB := Lib.hid HSB2
              have HCS := Lib.hid HCS2
              clear HSB2 HCS2 hka
              have HIK := Lib.hid hik
              clear hik
              go_wp2_with (first
          | ((with_reducible apply sx_box hp); exact za rfl; exact rfl; clear hp; (try clear w1); intro g w1 hp; simp only [zp, zq, z0, z1])
          | ((with_reducible apply sx_alloc hp); infer_instance; exact rfl; clear hp; (try clear w1); intro g w1 hp; simp only [zp, zq, z0, z1])
          | ((with_reducible apply sx_load_agg hp); exact zt rfl; infer_instance; infer_instance; (first | exact zl rfl | exact LB_le (by omega) | exact tab_le (by omega)); (first | (with_reducible exact LB_set (by omega)) | (with_reducible exact tab_set (by omega)) | (simp only [n0, Nat.reduceAdd, n1, n2, n3, n4, n5, n6, n7, n8, n9]; try rfl)); simp only [zp, zq, z0, z1])
          | ((with_reducible apply sx_load_one hp); exact zt rfl; infer_instance; infer_instance; (first | exact zio rfl | exact LB_get (by omega) | exact tab_get (by omega)); simp only [zp, zq, z0, z1])
          | ((with_reducible apply sx_store hp); exact zt rfl; (first | exact za rfl | exact zi rfl); exact rfl; (first | exact AggTy.size | exact OneTy.size); exact rfl; infer_instance; (first | (with_reducible exact LB_set (by omega)) | (with_reducible exact tab_set (by omega)) | (simp only [n0, Nat.reduceAdd, n1, n2, n3, n4, n5, n6, n7, n8, n9]; try rfl)); (first | exact zl rfl | exact LB_le (by omega) | exact tab_le (by omega)); exact rfl; infer_instance; clear hp; (try clear w1); intro w1 hp)
          | ((with_reducible apply sx_indexAddr); exact zx rfl; exact zk rfl; infer_instance; (first | exact AggTy.size | exact OneTy.size); omega; omega; ((try simp only [m0, Int.reduceToNat, m1, m2, Nat.reduceMul, Nat.reduceAdd, m3, m4, m5, n0]); exact rfl); simp only [zp, zq, z0, z1])
          | ((with_reducible apply sx_load_far hp); exact zt rfl; assumption; infer_instance; assumption; (first | exact zl rfl | omega); simp only [zp, zq, z0, z1])
          | ((with_reducible apply sx_load_far1 hp); exact zt rfl; assumption; infer_instance; (first | assumption | (first | exact zio rfl | exact LB_get (by omega) | exact tab_get (by omega))); simp only [zp, zq, z0, z1])
          | ((with_reducible apply sx_strip); exact rfl)
          | ((with_reducible apply sx_unwanted); exact rfl; simp only [zp, zq, z0, z1]))
              go_roundw
              case rel =>
                refine ⟨k + 1, _, by go_num, rfl, HCS.out, ?_⟩
                rw [Nat.add_assoc i k 1 |>.symm, ← mx_step HSB.out, ← HIK.out]
                exact hp
              case measure => simp [intOf]; omega
            · have hk2 : ¬ (k : Int) < T := by omega
              obtain rfl : c = 0 := by omega
              go_wp2_with (first
          | ((with_reducible apply sx_box hp); exact za rfl; exact rfl; clear hp; (try clear w1); intro g w1 hp; simp only [zp, zq, z0, z1])
          | ((with_reducible apply sx_alloc hp); infer_instance; exact rfl; clear hp; (try clear w1); intro g w1 hp; simp only [zp, zq, z0, z1])
          | ((with_reducible apply sx_load_agg hp); exact zt rfl; infer_instance; infer_instance; (first | exact zl rfl | exact LB_le (by omega) | exact tab_le (by omega)); (first | (with_reducible exact LB_set (by omega)) | (with_reducible exact tab_set (by omega)) | (simp only [n0, Nat.reduceAdd, n1, n2, n3, n4, n5, n6, n7, n8, n9]; try rfl)); simp only [zp, zq, z0, z1])
          | ((with_reducible apply sx_load_one hp); exact zt rfl; infer_instance; infer_instance; (first | exact zio rfl | exact LB_get (by omega) | exact tab_get (by omega)); simp only [zp, zq, z0, z1])
          | ((with_reducible apply sx_store hp); exact zt rfl; (first | exact za rfl | exact zi rfl); exact rfl; (first | exact AggTy.size | exact OneTy.size); exact rfl; infer_instance; (first | (with_reducible exact LB_set (by omega)) | (with_reducible exact tab_set (by omega)) | (simp only [n0, Nat.reduceAdd, n1, n2, n3, n4, n5, n6, n7, n8, n9]; try rfl)); (first | exact zl rfl | exact LB_le (by omega) | exact tab_le (by omega)); exact rfl; infer_instance; clear hp; (try clear w1); intro w1 hp)
          | ((with_reducible apply sx_indexAddr); exact zx rfl; exact zk rfl; infer_instance; (first | exact AggTy.size | exact OneTy.size); omega; omega; ((try simp only [m0, Int.reduceToNat, m1, m2, Nat.reduceMul, Nat.reduceAdd, m3, m4, m5, n0]); exact rfl); simp only [zp, zq, z0, z1])
          | ((with_reducible apply sx_load_far hp); exact zt rfl; assumption; infer_instance; assumption; (first | exact zl rfl | omega); simp only [zp, zq, z0, z1])
          | ((with_reducible apply sx_load_far1 hp); exact zt rfl; assumption; infer_instance; (first | assumption | (first | exact zio rfl | exact LB_get (by omega) | exact tab_get (by omega))); simp only [zp, zq, z0, z1])
          | ((with_reducible apply sx_strip); exact rfl)
          | ((with_reducible apply sx_unwanted); exact rfl; simp only [zp, zq, z0, z1]))
              go_roundw
              case rel =>
                refine ⟨i + 1, by omega, by go_num, ?_⟩
                rw [← mul_bit HB1.out, ← HS.out, ← HD.out]
                rw [HD.out, mx_end HA.out.1 HT.out (show T ≤ k by omega) (by rw [← HD.out, ← HC.out]), ← HD.out] at hp
                exact hp
              case measure => simp [intOf]; omega
      · have hbf : (bt B i == 1) = false := by simp [hb1]
        have HB1 := Lib.hid hb1
        clear hb1
        go_wp2_with (first
          | ((with_reducible apply sx_box hp); exact za rfl; exact rfl; clear hp; (try clear w1); intro g w1 hp; simp only [zp, zq, z0, z1])
          | ((with_reducible apply sx_alloc hp); infer_instance; exact rfl; clear hp; (try clear w1); intro g w1 hp; simp only [zp, zq, z0, z1])
          | ((with_reducible apply sx_load_agg hp); exact zt rfl; infer_instance; infer_instance; (first | exact zl rfl | exact LB_le (by omega) | exact tab_le (by omega)); (first | (with_reducible exact LB_set (by omega)) | (with_reducible exact tab_set (by omega)) | (simp only [n0, Nat.reduceAdd, n1, n2, n3, n4, n5, n6, n7, n8, n9]; try rfl)); simp only [zp, zq, z0, z1])
          | ((with_reducible apply sx_load_one hp); exact zt rfl; infer_instance; infer_instance; (first | exact zio rfl | exact LB_get (by omega) | exact tab_get (by omega)); simp only [zp, zq, z0, z1])
          | ((with_reducible apply sx_store hp); exact zt rfl; (first | exact za rfl | exact zi rfl); exact rfl; (first | exact AggTy.size | exact OneTy.size); exact rfl; infer_instance; (first | (with_reducible exact LB_set (by omega)) | (with_reducible exact tab_set (by omega)) | (simp only [n0, Nat.reduceAdd, n1, n2, n3, n4, n5, n6, n7, n8, n9]; try rfl)); (first | exact zl rfl | exact LB_le (by omega) | exact tab_le (by omega)); exact rfl; infer_instance; clear hp; (try clear w1); intro w1 hp)
          | ((with_reducible apply sx_indexAddr); exact zx rfl; exact zk rfl; infer_instance; (first | exact AggTy.size | exact OneTy.size); omega; omega; ((try simp only [m0, Int.reduceToNat, m1, m2, Nat.reduceMul, Nat.reduceAdd, m3, m4, m5, n0]); exact rfl); simp only [zp, zq, z0, z1])
          | ((with_reducible apply sx_load_far hp); exact zt rfl; assumption; infer_instance; assumption; (first | exact zl rfl | omega); simp only [zp, zq, z0, z1])
          | ((with_reducible apply sx_load_far1 hp); exact zt rfl; assumption; infer_instance; (first | assumption | (first | exact zio rfl | exact LB_get (by omega) | exact tab_get (by omega))); simp only [zp, zq, z0, z1]))
        go_roundw
        case rel =>
          refine ⟨i + 1, by omega, by go_num, ?_⟩
          rw [← mul_nobit (by have := HB1.out; have := bt_bd B i; omega)]
          exact hp
        case measure => simp [intOf]; omega
    · obtain rfl : i = 520 := by omega
      rw [Int.emod_eq_of_lt HB.out.1 HB5.out] at hp
      rw [show ((520 : Nat) : Int) = 520 from rfl]
      go_wp2_with (first
          | ((with_reducible apply sx_box hp); exact za rfl; exact rfl; clear hp; (try clear w1); intro g w1 hp; simp only [zp, zq, z0, z1])
          | ((with_reducible apply sx_alloc hp); infer_instance; exact rfl; clear hp; (try clear w1); intro g w1 hp; simp only [zp, zq, z0, z1])
          | ((with_reducible apply sx_load_agg hp); exact zt rfl; infer_instance; infer_instance; (first | exact zl rfl | exact LB_le (by omega) | exact tab_le (by omega)); (first | (with_reducible exact LB_set (by omega)) | (with_reducible exact tab_set (by omega)) | (simp only [n0, Nat.reduceAdd, n1, n2, n3, n4, n5, n6, n7, n8, n9]; try rfl)); simp only [zp, zq, z0, z1])
          | ((with_reducible apply sx_load_one hp); exact zt rfl; infer_instance; infer_instance; (first | exact zio rfl | exact LB_get (by omega) | exact tab_get (by omega)); simp only [zp, zq, z0, z1])
          | ((with_reducible apply sx_store hp); exact zt rfl; (first | exact za rfl | exact zi rfl); exact rfl; (first | exact AggTy.size | exact OneTy.size); exact rfl; infer_instance; (first | (with_reducible exact LB_set (by omega)) | (with_reducible exact tab_set (by omega)) | (simp only [n0, Nat.reduceAdd, n1, n2, n3, n4, n5, n6, n7, n8, n9]; try rfl)); (first | exact zl rfl | exact LB_le (by omega) | exact tab_le (by omega)); exact rfl; infer_instance; clear hp; (try clear w1); intro w1 hp)
          | ((with_reducible apply sx_indexAddr); exact zx rfl; exact zk rfl; infer_instance; (first | exact AggTy.size | exact OneTy.size); omega; omega; ((try simp only [m0, Int.reduceToNat, m1, m2, Nat.reduceMul, Nat.reduceAdd, m3, m4, m5, n0]); exact rfl); simp only [zp, zq, z0, z1])
          | ((with_reducible apply sx_load_far hp); exact zt rfl; assumption; infer_instance; assumption; (first | exact zl rfl | omega); simp only [zp, zq, z0, z1])
          | ((with_reducible apply sx_load_far1 hp); exact zt rfl; assumption; infer_instance; (first | assumption | (first | exact zio rfl | exact LB_get (by omega) | exact tab_get (by omega))); simp only [zp, zq, z0, z1]))
      have h0 : 0 ≤ A * B := Int.mul_nonneg HA.out.1 HB.out.1
      have h1 := HAB.out
      clear HT hT hi hi1
      cases hs : (sa == sb) with
      | false =>
        obtain rfl := HN.out (by unfold bne; rw [hs]; rfl)
        clear HN HP
        have HM : Hid (-(2 ^ 1039) ≤ -(A * B) ∧ -(A * B) < 2 ^ 1039) := Lib.hid (by generalize (2 : Int) ^ 1039 = P at *; omega)
        clear h0 h1
        have hq := hp
        refine wp_drawn_hp hp hq [] (.q 0 (.q 2 (.l 1 (.l 3 (.q 4 .nil))))) (by kernel_rfl) (by kernel_rfl) ?_
        clear hp hq; (try clear w1); intro w1 hp hq
        repeat' (first
          | (((with_reducible apply sd_q); exact zo rfl); (first
              | ((with_reducible apply sd_load_agg hp); exact rfl; exact zt rfl; infer_instance; infer_instance; (first | exact zl rfl | exact LB_le (by omega)); (first | (with_reducible exact LB_set (by omega)) | (simp only [n0, Nat.reduceAdd, n1, n2, n3, n4, n5, n6, n7, n8, n9]; try rfl)); simp only [zp, zq, z0, z1])
              | ((with_reducible apply sd_load_far hp); exact rfl; exact zt rfl; assumption; infer_instance; assumption; (first | exact zl rfl | omega); simp only [zp, zq, z0, z1])
              | ((with_reducible apply sd_pure hp); exact rfl; (focus (intro _; go_simp; (try go_ints); try with_reducible rfl)); simp only [zp, zq, z0, z1])))
          | (((with_reducible apply sd_l); exact zo rfl); ((with_reducible apply sd_call hp); exact rfl; (focus (intro _; go_simp; try first | with_reducible rfl | exact ⟨rfl, rfl⟩)); (with_reducible first | exact fun w => HBA.out w | exact fun w => HBB.out w); exact hq; clear hp hq; (try clear w1); intro w1 hp hq; simp only [zp, zq, z0, z1]))
          | ((with_reducible apply sd_nil); clear hp; have hp := hq; clear hq))
        go_wp2_with (first
          | ((with_reducible apply sx_box hp); exact za rfl; exact rfl; clear hp; (try clear w1); intro g w1 hp; simp only [zp, zq, z0, z1])
          | ((with_reducible apply sx_alloc hp); infer_instance; exact rfl; clear hp; (try clear w1); intro g w1 hp; simp only [zp, zq, z0, z1])
          | ((with_reducible apply sx_load_agg hp); exact zt rfl; infer_instance; infer_instance; (first | exact zl rfl | exact LB_le (by omega)); (first | (with_reducible exact LB_set (by omega)) | (simp only [n0, Nat.reduceAdd, n1, n2, n3, n4, n5, n6, n7, n8, n9]; try rfl)); simp only [zp, zq, z0, z1])
          | ((with_reducible apply sx_load_one hp); exact zt rfl; infer_instance; infer_instance; (first | exact zio rfl | exact LB_get (by omega)); simp only [zp, zq, z0, z1])
          | ((with_reducible apply sx_store hp); exact zt rfl; (first | exact za rfl | exact zi rfl); exact rfl; (first | exact AggTy.size | exact OneTy.size); exact rfl; infer_instance; (first | (with_reducible exact LB_set (by omega)) | (simp only [n0, Nat.reduceAdd, n1, n2, n3, n4, n5, n6, n7, n8, n9]; try rfl)); (first | exact zl rfl | exact LB_le (by omega)); exact rfl; infer_instance; clear hp; (try clear w1); intro w1 hp)
          | ((with_reducible apply sx_indexAddr); exact zx rfl; exact zk rfl; infer_instance; (first | exact AggTy.size | exact OneTy.size); omega; omega; ((try simp only [m0, Int.reduceToNat, m1, m2, Nat.reduceMul, Nat.reduceAdd, m3, m4, m5, n0]); exact rfl); simp only [zp, zq, z0, z1])
          | ((with_reducible apply sx_load_far hp); exact zt rfl; assumption; infer_instance; assumption; (first | exact zl rfl | omega); simp only [zp, zq, z0, z1])
          | ((with_reducible apply sx_load_far1 hp); exact zt rfl; assumption; infer_instance; (first | assumption | (first | exact zio rfl | exact LB_get (by omega))); simp only [zp, zq, z0, z1])
          | ((with_reducible refine sx_callN hp (rminus_any (A * B) 1040 (by omega) _ _ (BSl.of hp.blk)) ?_); clear hp; (try clear w1); intro g w1 hp)
          | ((with_reducible refine sx_call hp (rof1040 (-(A * B)) rfl HM.out _ _ (BSl.of hp.blk)) ?_); clear hp; (try clear w1); intro w1 hp))
        exact bodyPost_ret (results_two rfl ⟨_, rfl, run_load_agg hp (Nat.le_of_ble_eq_true rfl)⟩ rfl) rfl ⟨rfl, hp.keep⟩
      | true =>
        obtain rfl := HP.out (by unfold bne; rw [hs]; rfl)
        clear HN HP
        have HM : Hid (-(2 ^ 1039) ≤ A * B ∧ A * B < 2 ^ 1039) := Lib.hid (by generalize (2 : Int) ^ 1039 = P at *; omega)
        clear h0 h1
        have hq := hp
        refine wp_drawn_hp hp hq [] (.q 0 (.q 2 (.l 1 (.l 3 (.q 4 .nil))))) (by kernel_rfl) (by kernel_rfl) ?_
        clear hp hq; (try clear w1); intro w1 hp hq
        repeat' (first
          | (((with_reducible apply sd_q); exact zo rfl); (first
              | ((with_reducible apply sd_load_agg hp); exact rfl; exact zt rfl; infer_instance; infer_instance; (first | exact zl rfl | exact LB_le (by omega)); (first | (with_reducible exact LB_set (by omega)) | (simp only [n0, Nat.reduceAdd, n1, n2, n3, n4, n5, n6, n7, n8, n9]; try rfl)); simp only [zp, zq, z0, z1])
              | ((with_reducible apply sd_load_far hp); exact rfl; exact zt rfl; assumption; infer_instance; assumption; (first | exact zl rfl | omega); simp only [zp, zq, z0, z1])
              | ((with_reducible apply sd_pure hp); exact rfl; (focus (intro _; go_simp; (try go_ints); try with_reducible rfl)); simp only [zp, zq, z0, z1])))
          | (((with_reducible apply sd_l); exact zo rfl); ((with_reducible apply sd_call hp); exact rfl; (focus (intro _; go_simp; try first | with_reducible rfl | exact ⟨rfl, rfl⟩)); (with_reducible first | exact fun w => HBA.out w | exact fun w => HBB.out w); exact hq; clear hp hq; (try clear w1); intro w1 hp hq; simp only [zp, zq, z0, z1]))
          | ((with_reducible apply sd_nil); clear hp; have hp := hq; clear hq))
        go_wp2_with (first
          | ((with_reducible apply sx_box hp); exact za rfl; exact rfl; clear hp; (try clear w1); intro g w1 hp; simp only [zp, zq, z0, z1])
          | ((with_reducible apply sx_alloc hp); infer_instance; exact rfl; clear hp; (try clear w1); intro g w1 hp; simp only [zp, zq, z0, z1])
          | ((with_reducible apply sx_load_agg hp); exact zt rfl; infer_instance; infer_instance; (first | exact zl rfl | exact LB_le (by omega)); (first | (with_reducible exact LB_set (by omega)) | (simp only [n0, Nat.reduceAdd, n1, n2, n3, n4, n5, n6, n7, n8, n9]; try rfl)); simp only [zp, zq, z0, z1])
          | ((with_reducible apply sx_load_one hp); exact zt rfl; infer_instance; infer_instance; (first | exact zio rfl | exact LB_get (by omega)); simp only [zp, zq, z0, z1])
          | ((with_reducible apply sx_store hp); exact zt rfl; (first | exact za rfl | exact zi rfl); exact rfl; (first | exact AggTy.size | exact OneTy.size); exact rfl; infer_instance; (first | (with_reducible exact LB_set (by omega)) | (simp only [n0, Nat.reduceAdd, n1, n2, n3, n4, n5, n6, n7, n8, n9]; try rfl)); (first | exact zl rfl | exact LB_le (by omega)); exact rfl; infer_instance; clear hp; (try clear w1); intro w1 hp)
          | ((with_reducible apply sx_indexAddr); exact zx rfl; exact zk rfl; infer_instance; (first | exact AggTy.size | exact OneTy.size); omega; omega; ((try simp only [m0, Int.reduceToNat, m1, m2, Nat.reduceMul, Nat.reduceAdd, m3, m4, m5, n0]); exact rfl); simp only [zp, zq, z0, z1])
          | ((with_reducible apply sx_load_far hp); exact zt rfl; assumption; infer_instance; assumption; (first | exact zl rfl | omega); simp only [zp, zq, z0, z1])
          | ((with_reducible apply sx_load_far1 hp); exact zt rfl; assumption; infer_instance; (first | assumption | (first | exact zio rfl | exact LB_get (by omega))); simp only [zp, zq, z0, z1])
          | ((with_reducible refine sx_call hp (rof1040 (A * B) rfl HM.out _ _ (BSl.of hp.blk)) ?_); clear hp; (try clear w1); intro w1 hp))
        exact bodyPost_ret (results_two rfl ⟨_, rfl, run_load_agg hp (Nat.le_of_ble_eq_true rfl)⟩ rfl) rfl ⟨rfl, hp.keep⟩
end Go.Proofs.YtbdkbmhejoakiaaGreatDoor
