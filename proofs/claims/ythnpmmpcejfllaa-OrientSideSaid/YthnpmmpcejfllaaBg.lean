/-
  Package ninepinref01: Mul (contract).
-/
import Derived.Test.YthnpmmpcejfllaaBf
set_option linter.unusedSimpArgs false
set_option linter.unusedVariables false
set_option maxRecDepth 100000
namespace Go.Proofs.Ythnpmmpcejfllaa
open Go Go.RowKit

theorem rof1040 (m : Int) {E : Nat} (hE : E = 1039) (hm : -(2 ^ E) ≤ m ∧ m < 2 ^ E) (v : Value) (w : World) (h : BSl w v m 1040) : Calls Try.prog 71 #[v] w (Ret (.tuple #[W (fz m), .bool (decide (Fit m))]) w) := by
  subst hE
  exact rof_any m 1040 (by omega) (by omega) hm v w h
set_option maxHeartbeats 8000000 in
theorem rmul_any (a b : Int) (ha : Fit a) (hb : Fit b) (w : World) : Calls Try.prog 70 #[W a, W b] w (Ret (.tuple #[W (fz (a * b)), .bool (decide (Fit (a * b)))]) w) := by
  have HA := Lib.hid (ab_bd ha)
  have HB := Lib.hid (ab_bd hb)
  have HAB := Lib.hid (prod_lt ha hb rfl)
  have HA5 := Lib.hid (ab_lt520 ha rfl)
  have HB5 := Lib.hid (ab_lt520 hb rfl)
  have HP := Lib.hid (@mul_ab a b)
  have HN := Lib.hid (@mul_ab_neg a b)
  have hba := fun w => rbelow_any a ha w
  have hbb := fun w => rbelow_any b hb w
  have hsa := fun w => rsize_any a ha w
  have hsb := fun w => rsize_any b hb w
  clear ha hb
  generalize a * b = m at *
  generalize decide (a < 0) = sa at *
  generalize decide (b < 0) = sb at *
  generalize ab a = A at *
  generalize ab b = B at *
  have HBA := Lib.hid hba
  have HBB := Lib.hid hbb
  have HSA := Lib.hid hsa
  have HSB := Lib.hid hsb
  clear hba hbb hsa hsb
  go_enter Try.func70, Try.ntmps70
  have hp := Hp.start [] w
  go_upto_region 1 with (first
          | ((with_reducible apply sx_box hp); (first | exact za rfl | exact zu rfl | exact zi rfl | exact zb rfl | exact zr rfl | exact zs rfl | exact zf rfl | exact zg rfl | exact zn rfl | exact zv rfl | exact zw rfl); exact rfl; clear hp; (try clear w1); intro g w1 hp; simp only [zp, zq, z0, z1])
          | ((with_reducible apply sx_alloc hp); infer_instance; exact rfl; clear hp; (try clear w1); intro g w1 hp; simp only [zp, zq, z0, z1]))
  rename_i ga gb K hK
  obtain ⟨gp, rfl⟩ : ∃ x : Nat, x = g := ⟨_, rfl⟩
  have hq := hp
  refine wp_drawn_hp hp hq [] (.q 0 (.q 2 (.l 1 (.l 3 (.q 4 (.q 5 .nil)))))) (by kernel_rfl) (by kernel_rfl) ?_
  clear hp hq; (try clear w1); intro w1 hp hq
  ((with_reducible apply sd_q); exact zo rfl)
  (first
      | ((with_reducible apply sd_load_agg hp); exact rfl; exact zt rfl; infer_instance; infer_instance; (first | exact zl rfl | exact LB_le (by omega)); (first | (with_reducible exact LB_set (by omega)) | (simp only [n0, Nat.reduceAdd, n1, n2, n3, n4, n5, n6, n7, n8, n9]; try rfl)); simp only [zp, zq, z0, z1])
      | ((with_reducible apply sd_load_far hp); exact rfl; exact zt rfl; assumption; infer_instance; assumption; (first | exact zl rfl | omega); simp only [zp, zq, z0, z1]))
  ((with_reducible apply sd_q); exact zo rfl)
  (first
      | ((with_reducible apply sd_load_agg hp); exact rfl; exact zt rfl; infer_instance; infer_instance; (first | exact zl rfl | exact LB_le (by omega)); (first | (with_reducible exact LB_set (by omega)) | (simp only [n0, Nat.reduceAdd, n1, n2, n3, n4, n5, n6, n7, n8, n9]; try rfl)); simp only [zp, zq, z0, z1])
      | ((with_reducible apply sd_load_far hp); exact rfl; exact zt rfl; assumption; infer_instance; assumption; (first | exact zl rfl | omega); simp only [zp, zq, z0, z1]))
  ((with_reducible apply sd_l); exact zo rfl)
  (first
      | ((with_reducible apply sd_callN hq); (repeat (first | exact List.Sublist.refl _ | apply List.Sublist.cons)); exact rfl; (focus (intro _; go_simp; try first | with_reducible rfl | exact ⟨rfl, rfl⟩)); (with_reducible exact HSA.out _); clear hp hq; (try clear w1); intro g w1 hp hq; simp only [zp, zq, z0, z1])
      | ((with_reducible apply sd_callN hq); (repeat (first | exact List.Sublist.refl _ | apply List.Sublist.cons)); exact rfl; (focus (intro _; go_simp; try first | with_reducible rfl | exact ⟨rfl, rfl⟩)); (with_reducible exact HSB.out _); clear hp hq; (try clear w1); intro g w1 hp hq; simp only [zp, zq, z0, z1]))
  ((with_reducible apply sd_l); exact zo rfl)
  (first
      | ((with_reducible apply sd_callN hq); (repeat (first | exact List.Sublist.refl _ | apply List.Sublist.cons)); exact rfl; (focus (intro _; go_simp; try first | with_reducible rfl | exact ⟨rfl, rfl⟩)); (with_reducible exact HSA.out _); clear hp hq; (try clear w1); intro g w1 hp hq; simp only [zp, zq, z0, z1])
      | ((with_reducible apply sd_callN hq); (repeat (first | exact List.Sublist.refl _ | apply List.Sublist.cons)); exact rfl; (focus (intro _; go_simp; try first | with_reducible rfl | exact ⟨rfl, rfl⟩)); (with_reducible exact HSB.out _); clear hp hq; (try clear w1); intro g w1 hp hq; simp only [zp, zq, z0, z1]))
  ((with_reducible apply sd_q); exact zo rfl)
  ((with_reducible apply sd_assign hp); exact zs rfl; simp only [zp, zq, z0, z1])
  ((with_reducible apply sd_q); exact zo rfl)
  ((with_reducible apply sd_assign hp); exact zs rfl; simp only [zp, zq, z0, z1])
  (with_reducible apply sd_nil)
  clear hp; have hp := hq; clear hq
  rename_i gx
  obtain ⟨gy, rfl⟩ : ∃ x : Nat, x = g := ⟨_, rfl⟩
  go_wp2_with (first
          | ((with_reducible apply sx_box hp); exact za rfl; exact rfl; clear hp; (try clear w1); intro g w1 hp; simp only [zp, zq, z0, z1])
          | ((with_reducible apply sx_alloc hp); infer_instance; exact rfl; clear hp; (try clear w1); intro g w1 hp; simp only [zp, zq, z0, z1])
          | ((with_reducible apply sx_load_agg hp); exact zt rfl; infer_instance; infer_instance; (first | exact zl rfl | exact LB_le (by omega)); (first | (with_reducible exact LB_set (by omega)) | (simp only [n0, Nat.reduceAdd, n1, n2, n3, n4, n5, n6, n7, n8, n9]; try rfl)); simp only [zp, zq, z0, z1])
          | ((with_reducible apply sx_load_one hp); exact zt rfl; infer_instance; infer_instance; (first | exact zio rfl | exact LB_get (by omega)); simp only [zp, zq, z0, z1])
          | ((with_reducible apply sx_store hp); exact zt rfl; (first | exact za rfl | exact zi rfl); exact rfl; (first | exact AggTy.size | exact OneTy.size); exact rfl; infer_instance; (first | (with_reducible exact LB_set (by omega)) | (simp only [n0, Nat.reduceAdd, n1, n2, n3, n4, n5, n6, n7, n8, n9]; try rfl)); (first | exact zl rfl | exact LB_le (by omega)); exact rfl; infer_instance; clear hp; (try clear w1); intro w1 hp)
          | ((with_reducible apply sx_indexAddr); exact zx rfl; exact zk rfl; infer_instance; (first | exact AggTy.size | exact OneTy.size); omega; omega; ((try simp only [m0, Int.reduceToNat, m1, m2, Nat.reduceMul, Nat.reduceAdd, m3, m4, m5, n0]); exact rfl); simp only [zp, zq, z0, z1])
          | ((with_reducible apply sx_load_far hp); exact zt rfl; assumption; infer_instance; assumption; (first | exact zl rfl | omega); simp only [zp, zq, z0, z1])
          | ((with_reducible apply sx_load_far1 hp); exact zt rfl; assumption; infer_instance; (first | assumption | (first | exact zio rfl | exact LB_get (by omega))); simp only [zp, zq, z0, z1])
          | ((with_reducible refine sx_call hp (rtop_any A 520 (by omega) _ _ (BSl.of hp.blk)) ?_); clear hp; (try clear w1); intro w1 hp)
          | ((with_reducible apply sx_makeSlice (n := 1040) hp); infer_instance; infer_instance; exact (rfl : Value.int .i64 (1040 : Int) = _); exact (rfl : Value.int .i64 (1040 : Int) = _); omega; omega; clear hp; (try clear w1); intro g w1 hp; simp only [zp, zq, z0, z1]))
  obtain ⟨gs, rfl⟩ : ∃ x : Nat, x = g := ⟨_, rfl⟩
  have HT := Lib.hid (lt_top HA.out.1 HA5.out (tp_le A 520) fun j h1 h2 => tp_zero A h1 h2)
  have hT := tp_le A 520
  generalize tp A 520 = T at *
  go_loopw [10] (fun iv wr => ∃ i : Nat, i ≤ 520 ∧ iv = .int .i64 i ∧ Hp [] w [⟨gs, 3, tab (bt (A * (B % 2 ^ i))) 1040⟩, ⟨gy, 3, tab (bt B) 520⟩, ⟨gx, 3, tab (bt A) 520⟩, ⟨gp, 43, [.int .u64 0, .int .u64 0, .int .u64 0, .int .u64 0, .int .u64 0, .int .u64 0, .int .u64 0, .int .u64 0]⟩, ⟨gb, 43, [.int .u64 (lb (b) 0), .int .u64 (lb (b) 1), .int .u64 (lb (b) 2), .int .u64 (lb (b) 3), .int .u64 (lb (b) 4), .int .u64 (lb (b) 5), .int .u64 (lb (b) 6), .int .u64 (lb (b) 7)]⟩, ⟨ga, 43, [.int .u64 (lb (a) 0), .int .u64 (lb (a) 1), .int .u64 (lb (a) 2), .int .u64 (lb (a) 3), .int .u64 (lb (a) 4), .int .u64 (lb (a) 5), .int .u64 (lb (a) 6), .int .u64 (lb (a) 7)]⟩] wr) (fun iv _ => 520 - (intOf iv).toNat)
  case atStart => exact ⟨0, by omega, rfl, by rw [Int.pow_zero, Int.emod_one, Int.mul_zero, tab_congr (fun j _ => bt_zero j)]; exact hp⟩
  case round =>
    clear hp
    obtain ⟨i, hi, rfl, hp⟩ := hrel
    by_cases hi1 : i < 520
    · have hi2 : (i : Int) < 520 := by omega
      by_cases hb1 : bt B i = 1
      · have hbt : (bt B i == 1) = true := by simp [hb1]
        have HB1 := Lib.hid hb1
        clear hb1
        obtain ⟨S, hS⟩ : ∃ S, S = A * (B % 2 ^ i) := ⟨_, rfl⟩
        obtain ⟨D, hD⟩ : ∃ D, D = A * 2 ^ i := ⟨_, rfl⟩
        rw [← hS, mx_start S A i 1040, ← hD] at hp
        have HS := Lib.hid hS
        have HD := Lib.hid hD
        clear hS hD
        go_wp2_with (first
          | ((with_reducible apply sx_box hp); exact za rfl; exact rfl; clear hp; (try clear w1); intro g w1 hp; simp only [zp, zq, z0, z1])
          | ((with_reducible apply sx_alloc hp); infer_instance; exact rfl; clear hp; (try clear w1); intro g w1 hp; simp only [zp, zq, z0, z1])
          | ((with_reducible apply sx_load_agg hp); exact zt rfl; infer_instance; infer_instance; (first | exact zl rfl | exact LB_le (by omega) | exact tab_le (by omega)); (first | (with_reducible exact LB_set (by omega)) | (with_reducible exact tab_set (by omega)) | (simp only [n0, Nat.reduceAdd, n1, n2, n3, n4, n5, n6, n7, n8, n9]; try rfl)); simp only [zp, zq, z0, z1])
          | ((with_reducible apply sx_load_one hp); exact zt rfl; infer_instance; infer_instance; (first | exact zio rfl | exact LB_get (by omega) | exact tab_get (by omega)); simp only [zp, zq, z0, z1])
          | ((with_reducible apply sx_store hp); exact zt rfl; (first | exact za rfl | exact zi rfl); exact rfl; (first | exact AggTy.size | exact OneTy.size); exact rfl; infer_instance; (first | (with_reducible exact LB_set (by omega)) | (with_reducible exact tab_set (by omega)) | (simp only [n0, Nat.reduceAdd, n1, n2, n3, n4, n5, n6, n7, n8, n9]; try rfl)); (first | exact zl rfl | exact LB_le (by omega) | exact tab_le (by omega)); exact rfl; infer_instance; clear hp; (try clear w1); intro w1 hp)
          | ((with_reducible apply sx_indexAddr); exact zx rfl; exact zk rfl; infer_instance; (first | exact AggTy.size | exact OneTy.size); omega; omega; ((try simp only [m0, Int.reduceToNat, m1, m2, Nat.reduceMul, Nat.reduceAdd, m3, m4, m5, n0]); exact rfl); simp only [zp, zq, z0, z1])
          | ((with_reducible apply sx_load_far hp); exact zt rfl; assumption; infer_instance; assumption; (first | exact zl rfl | omega); simp only [zp, zq, z0, z1])
          | ((with_reducible apply sx_load_far1 hp); exact zt rfl; assumption; infer_instance; (first | assumption | (first | exact zio rfl | exact LB_get (by omega) | exact tab_get (by omega))); simp only [zp, zq, z0, z1]))
        go_loopw [11, 12] (fun cv kv wr => ∃ (k : Nat) (c : Int), kv = .int .i64 k ∧ cv = .int .i64 c ∧ c = cb S D 0 (i + k) ∧ Hp [] w [⟨gs, 3, tab (mx S D (i + k)) 1040⟩, ⟨gy, 3, tab (bt B) 520⟩, ⟨gx, 3, tab (bt A) 520⟩, ⟨gp, 43, [.int .u64 0, .int .u64 0, .int .u64 0, .int .u64 0, .int .u64 0, .int .u64 0, .int .u64 0, .int .u64 0]⟩, ⟨gb, 43, [.int .u64 (lb (b) 0), .int .u64 (lb (b) 1), .int .u64 (lb (b) 2), .int .u64 (lb (b) 3), .int .u64 (lb (b) 4), .int .u64 (lb (b) 5), .int .u64 (lb (b) 6), .int .u64 (lb (b) 7)]⟩, ⟨ga, 43, [.int .u64 (lb (a) 0), .int .u64 (lb (a) 1), .int .u64 (lb (a) 2), .int .u64 (lb (a) 3), .int .u64 (lb (a) 4), .int .u64 (lb (a) 5), .int .u64 (lb (a) 6), .int .u64 (lb (a) 7)]⟩] wr) (fun _ kv _ => 1040 - (intOf kv).toNat)
        case atStart => exact ⟨0, 0, rfl, rfl, by rw [HD.out]; exact (cb_start S A i).symm, hp⟩
        case round =>
          clear hp
          obtain ⟨k, c, rfl, rfl, hc, hp⟩ := hrel
          have hcb := cb_bd S D 0 (i + k) (by omega) (by omega)
          have hsb := sum_bt S D 0 (i + k)
          have hcs := cb_succ S D 0 (i + k)
          rw [← hc] at hcb hsb hcs
          have hm := mx_at S D (i + k)
          rw [Nat.mul_one] at hm
          have hmb := bt_bd S (i + k)
          rw [← hm] at hmb hsb hcs
          rw [HD.out, bt_shift, Int.add_zero, ← HD.out] at hsb
          rw [HD.out, bt_shift, ← HD.out] at hcs
          rw [Int.add_right_comm] at hsb hcs
          have HC := Lib.hid hc
          have HCS := Lib.hid hcs
          have HSB := Lib.hid hsb
          clear hc hcs hsb hm
          have hik : ((i : Int) + (k : Int)).toNat = i + k := by omega
          by_cases hk : k < T
          · have hk2 : (k : Int) < T := by omega
            have hk3 : k < 520 := by omega
            have hkb := bt_bd A k
            have HIK := Lib.hid hik
            clear hik
            go_wp2_with (first
          | ((with_reducible apply sx_box hp); exact za rfl; exact rfl; clear hp; (try clear w1); intro g w1 hp; simp only [zp, zq, z0, z1])
          | ((with_reducible apply sx_alloc hp); infer_instance; exact rfl; clear hp; (try clear w1); intro g w1 hp; simp only [zp, zq, z0, z1])
          | ((with_reducible apply sx_load_agg hp); exact zt rfl; infer_instance; infer_instance; (first | exact zl rfl | exact LB_le (by omega) | exact tab_le (by omega)); (first | (with_reducible exact LB_set (by omega)) | (with_reducible exact tab_set (by omega)) | (simp only [n0, Nat.reduceAdd, n1, n2, n3, n4, n5, n6, n7, n8, n9]; try rfl)); simp only [zp, zq, z0, z1])
          | ((with_reducible apply sx_load_one hp); exact zt rfl; infer_instance; infer_instance; (first | exact zio rfl | exact LB_get (by omega) | exact tab_get (by omega)); simp only [zp, zq, z0, z1])
          | ((with_reducible apply sx_store hp); exact zt rfl; (first | exact za rfl | exact zi rfl); exact rfl; (first | exact AggTy.size | exact OneTy.size); exact rfl; infer_instance; (first | (with_reducible exact LB_set (by omega)) | (with_reducible exact tab_set (by omega)) | (simp only [n0, Nat.reduceAdd, n1, n2, n3, n4, n5, n6, n7, n8, n9]; try rfl)); (first | exact zl rfl | exact LB_le (by omega) | exact tab_le (by omega)); exact rfl; infer_instance; clear hp; (try clear w1); intro w1 hp)
          | ((with_reducible apply sx_indexAddr); exact zx rfl; exact zk rfl; infer_instance; (first | exact AggTy.size | exact OneTy.size); omega; omega; ((try simp only [m0, Int.reduceToNat, m1, m2, Nat.reduceMul, Nat.reduceAdd, m3, m4, m5, n0]); exact rfl); simp only [zp, zq, z0, z1])
          | ((with_reducible apply sx_load_far hp); exact zt rfl; assumption; infer_instance; assumption; (first | exact zl rfl | omega); simp only [zp, zq, z0, z1])
          | ((with_reducible apply sx_load_far1 hp); exact zt rfl; assumption; infer_instance; (first | assumption | (first | exact zio rfl | exact LB_get (by omega) | exact tab_get (by omega))); simp only [zp, zq, z0, z1])
          | ((with_reducible apply sx_strip); exact rfl)
          | ((with_reducible apply sx_unwanted); exact rfl; simp only [zp, zq, z0, z1]))
            go_roundw
            case rel =>
              refine ⟨k + 1, _, by go_num, rfl, HCS.out, ?_⟩
              rw [Nat.add_assoc i k 1 |>.symm, ← mx_step HSB.out, ← HIK.out]
              exact hp
            case measure => simp [intOf]; omega
          · by_cases hc0 : 0 < c
            · have hk2 : ¬ (k : Int) < T := by omega
              have hka := bt_small HA.out.1 HT.out (show T ≤ k by omega)
              have hroom := carry_room HA.out.1 HB.out.1 HT.out (show T ≤ k by omega) HB1.out HAB.out (by rw [← HS.out, ← HD.out, ← HC.out]; exact hc0)
              have HSB2 := HSB.out
              have HCS2 := HCS.out
              rw [hka, Int.add_zero] at HSB2 HCS2
              have HSB := Lib.hid HSB2
              have HCS := Lib.hid HCS2
              clear HSB2 HCS2 hka
              have HIK := Lib.hid hik
              clear hik
              go_wp2_with (first
          | ((with_reducible apply sx_box hp); exact za rfl; exact rfl; clear hp; (try clear w1); intro g w1 hp; simp only [zp, zq, z0, z1])
          | ((with_reducible apply sx_alloc hp); infer_instance; exact rfl; clear hp; (try clear w1); intro g w1 hp; simp only [zp, zq, z0, z1])
          | ((with_reducible apply sx_load_agg hp); exact zt rfl; infer_instance; infer_instance; (first | exact zl rfl | exact LB_le (by omega) | exact tab_le (by omega)); (first | (with_reducible exact LB_set (by omega)) | (with_reducible exact tab_set (by omega)) | (simp only [n0, Nat.reduceAdd, n1, n2, n3, n4, n5, n6, n7, n8, n9]; try rfl)); simp only [zp, zq, z0, z1])
          | ((with_reducible apply sx_load_one hp); exact zt rfl; infer_instance; infer_instance; (first | exact zio rfl | exact LB_get (by omega) | exact tab_get (by omega)); simp only [zp, zq, z0, z1])
          | ((with_reducible apply sx_store hp); exact zt rfl; (first | exact za rfl | exact zi rfl); exact rfl; (first | exact AggTy.size | exact OneTy.size); exact rfl; infer_instance; (first | (with_reducible exact LB_set (by omega)) | (with_reducible exact tab_set (by omega)) | (simp only [n0, Nat.reduceAdd, n1, n2, n3, n4, n5, n6, n7, n8, n9]; try rfl)); (first | exact zl rfl | exact LB_le (by omega) | exact tab_le (by omega)); exact rfl; infer_instance; clear hp; (try clear w1); intro w1 hp)
          | ((with_reducible apply sx_indexAddr); exact zx rfl; exact zk rfl; infer_instance; (first | exact AggTy.size | exact OneTy.size); omega; omega; ((try simp only [m0, Int.reduceToNat, m1, m2, Nat.reduceMul, Nat.reduceAdd, m3, m4, m5, n0]); exact rfl); simp only [zp, zq, z0, z1])
          | ((with_reducible apply sx_load_far hp); exact zt rfl; assumption; infer_instance; assumption; (first | exact zl rfl | omega); simp only [zp, zq, z0, z1])
          | ((with_reducible apply sx_load_far1 hp); exact zt rfl; assumption; infer_instance; (first | assumption | (first | exact zio rfl | exact LB_get (by omega) | exact tab_get (by omega))); simp only [zp, zq, z0, z1])
          | ((with_reducible apply sx_strip); exact rfl)
          | ((with_reducible apply sx_unwanted); exact rfl; simp only [zp, zq, z0, z1]))
              go_roundw
              case rel =>
                refine ⟨k + 1, _, by go_num, rfl, HCS.out, ?_⟩
                rw [Nat.add_assoc i k 1 |>.symm, ← mx_step HSB.out, ← HIK.out]
                exact hp
              case measure => simp [intOf]; omega
            · have hk2 : ¬ (k : Int) < T := by omega
              obtain rfl : c = 0 := by omega
              go_wp2_with (first
          | ((with_reducible apply sx_box hp); exact za rfl; exact rfl; clear hp; (try clear w1); intro g w1 hp; simp only [zp, zq, z0, z1])
          | ((with_reducible apply sx_alloc hp); infer_instance; exact rfl; clear hp; (try clear w1); intro g w1 hp; simp only [zp, zq, z0, z1])
          | ((with_reducible apply sx_load_agg hp); exact zt rfl; infer_instance; infer_instance; (first | exact zl rfl | exact LB_le (by omega) | exact tab_le (by omega)); (first | (with_reducible exact LB_set (by omega)) | (with_reducible exact tab_set (by omega)) | (simp only [n0, Nat.reduceAdd, n1, n2, n3, n4, n5, n6, n7, n8, n9]; try rfl)); simp only [zp, zq, z0, z1])
          | ((with_reducible apply sx_load_one hp); exact zt rfl; infer_instance; infer_instance; (first | exact zio rfl | exact LB_get (by omega) | exact tab_get (by omega)); simp only [zp, zq, z0, z1])
          | ((with_reducible apply sx_store hp); exact zt rfl; (first | exact za rfl | exact zi rfl); exact rfl; (first | exact AggTy.size | exact OneTy.size); exact rfl; infer_instance; (first | (with_reducible exact LB_set (by omega)) | (with_reducible exact tab_set (by omega)) | (simp only [n0, Nat.reduceAdd, n1, n2, n3, n4, n5, n6, n7, n8, n9]; try rfl)); (first | exact zl rfl | exact LB_le (by omega) | exact tab_le (by omega)); exact rfl; infer_instance; clear hp; (try clear w1); intro w1 hp)
          | ((with_reducible apply sx_indexAddr); exact zx rfl; exact zk rfl; infer_instance; (first | exact AggTy.size | exact OneTy.size); omega; omega; ((try simp only [m0, Int.reduceToNat, m1, m2, Nat.reduceMul, Nat.reduceAdd, m3, m4, m5, n0]); exact rfl); simp only [zp, zq, z0, z1])
          | ((with_reducible apply sx_load_far hp); exact zt rfl; assumption; infer_instance; assumption; (first | exact zl rfl | omega); simp only [zp, zq, z0, z1])
          | ((with_reducible apply sx_load_far1 hp); exact zt rfl; assumption; infer_instance; (first | assumption | (first | exact zio rfl | exact LB_get (by omega) | exact tab_get (by omega))); simp only [zp, zq, z0, z1])
          | ((with_reducible apply sx_strip); exact rfl)
          | ((with_reducible apply sx_unwanted); exact rfl; simp only [zp, zq, z0, z1]))
              go_roundw
              case rel =>
                refine ⟨i + 1, by omega, by go_num, ?_⟩
                rw [← mul_bit HB1.out, ← HS.out, ← HD.out]
                rw [HD.out, mx_end HA.out.1 HT.out (show T ≤ k by omega) (by rw [← HD.out, ← HC.out]), ← HD.out] at hp
                exact hp
              case measure => simp [intOf]; omega
      · have hbf : (bt B i == 1) = false := by simp [hb1]
        have HB1 := Lib.hid hb1
        clear hb1
        go_wp2_with (first
          | ((with_reducible apply sx_box hp); exact za rfl; exact rfl; clear hp; (try clear w1); intro g w1 hp; simp only [zp, zq, z0, z1])
          | ((with_reducible apply sx_alloc hp); infer_instance; exact rfl; clear hp; (try clear w1); intro g w1 hp; simp only [zp, zq, z0, z1])
          | ((with_reducible apply sx_load_agg hp); exact zt rfl; infer_instance; infer_instance; (first | exact zl rfl | exact LB_le (by omega) | exact tab_le (by omega)); (first | (with_reducible exact LB_set (by omega)) | (with_reducible exact tab_set (by omega)) | (simp only [n0, Nat.reduceAdd, n1, n2, n3, n4, n5, n6, n7, n8, n9]; try rfl)); simp only [zp, zq, z0, z1])
          | ((with_reducible apply sx_load_one hp); exact zt rfl; infer_instance; infer_instance; (first | exact zio rfl | exact LB_get (by omega) | exact tab_get (by omega)); simp only [zp, zq, z0, z1])
          | ((with_reducible apply sx_store hp); exact zt rfl; (first | exact za rfl | exact zi rfl); exact rfl; (first | exact AggTy.size | exact OneTy.size); exact rfl; infer_instance; (first | (with_reducible exact LB_set (by omega)) | (with_reducible exact tab_set (by omega)) | (simp only [n0, Nat.reduceAdd, n1, n2, n3, n4, n5, n6, n7, n8, n9]; try rfl)); (first | exact zl rfl | exact LB_le (by omega) | exact tab_le (by omega)); exact rfl; infer_instance; clear hp; (try clear w1); intro w1 hp)
          | ((with_reducible apply sx_indexAddr); exact zx rfl; exact zk rfl; infer_instance; (first | exact AggTy.size | exact OneTy.size); omega; omega; ((try simp only [m0, Int.reduceToNat, m1, m2, Nat.reduceMul, Nat.reduceAdd, m3, m4, m5, n0]); exact rfl); simp only [zp, zq, z0, z1])
          | ((with_reducible apply sx_load_far hp); exact zt rfl; assumption; infer_instance; assumption; (first | exact zl rfl | omega); simp only [zp, zq, z0, z1])
          | ((with_reducible apply sx_load_far1 hp); exact zt rfl; assumption; infer_instance; (first | assumption | (first | exact zio rfl | exact LB_get (by omega) | exact tab_get (by omega))); simp only [zp, zq, z0, z1]))
        go_roundw
        case rel =>
          refine ⟨i + 1, by omega, by go_num, ?_⟩
          rw [← mul_nobit (by have := HB1.out; have := bt_bd B i; omega)]
          exact hp
        case measure => simp [intOf]; omega
    · obtain rfl : i = 520 := by omega
      rw [Int.emod_eq_of_lt HB.out.1 HB5.out] at hp
      rw [show ((520 : Nat) : Int) = 520 from rfl]
      go_wp2_with (first
          | ((with_reducible apply sx_box hp); exact za rfl; exact rfl; clear hp; (try clear w1); intro g w1 hp; simp only [zp, zq, z0, z1])
          | ((with_reducible apply sx_alloc hp); infer_instance; exact rfl; clear hp; (try clear w1); intro g w1 hp; simp only [zp, zq, z0, z1])
          | ((with_reducible apply sx_load_agg hp); exact zt rfl; infer_instance; infer_instance; (first | exact zl rfl | exact LB_le (by omega) | exact tab_le (by omega)); (first | (with_reducible exact LB_set (by omega)) | (with_reducible exact tab_set (by omega)) | (simp only [n0, Nat.reduceAdd, n1, n2, n3, n4, n5, n6, n7, n8, n9]; try rfl)); simp only [zp, zq, z0, z1])
          | ((with_reducible apply sx_load_one hp); exact zt rfl; infer_instance; infer_instance; (first | exact zio rfl | exact LB_get (by omega) | exact tab_get (by omega)); simp only [zp, zq, z0, z1])
          | ((with_reducible apply sx_store hp); exact zt rfl; (first | exact za rfl | exact zi rfl); exact rfl; (first | exact AggTy.size | exact OneTy.size); exact rfl; infer_instance; (first | (with_reducible exact LB_set (by omega)) | (with_reducible exact tab_set (by omega)) | (simp only [n0, Nat.reduceAdd, n1, n2, n3, n4, n5, n6, n7, n8, n9]; try rfl)); (first | exact zl rfl | exact LB_le (by omega) | exact tab_le (by omega)); exact rfl; infer_instance; clear hp; (try clear w1); intro w1 hp)
          | ((with_reducible apply sx_indexAddr); exact zx rfl; exact zk rfl; infer_instance; (first | exact AggTy.size | exact OneTy.size); omega; omega; ((try simp only [m0, Int.reduceToNat, m1, m2, Nat.reduceMul, Nat.reduceAdd, m3, m4, m5, n0]); exact rfl); simp only [zp, zq, z0, z1])
          | ((with_reducible apply sx_load_far hp); exact zt rfl; assumption; infer_instance; assumption; (first | exact zl rfl | omega); simp only [zp, zq, z0, z1])
          | ((with_reducible apply sx_load_far1 hp); exact zt rfl; assumption; infer_instance; (first | assumption | (first | exact zio rfl | exact LB_get (by omega) | exact tab_get (by omega))); simp only [zp, zq, z0, z1]))
      have h0 : 0 ≤ A * B := Int.mul_nonneg HA.out.1 HB.out.1
      have h1 := HAB.out
      clear HT hT hi hi1
      cases hs : (sa == sb) with
      | false =>
        obtain rfl := HN.out (by unfold bne; rw [hs]; rfl)
        clear HN HP
        have HM : Hid (-(2 ^ 1039) ≤ -(A * B) ∧ -(A * B) < 2 ^ 1039) := Lib.hid (by generalize (2 : Int) ^ 1039 = P at *; omega)
        clear h0 h1
        have hq := hp
        refine wp_drawn_hp hp hq [] (.q 0 (.q 2 (.l 1 (.l 3 (.q 4 .nil))))) (by kernel_rfl) (by kernel_rfl) ?_
        clear hp hq; (try clear w1); intro w1 hp hq
        ((with_reducible apply sd_q); exact zo rfl)
        (first
      | ((with_reducible apply sd_load_agg hp); exact rfl; exact zt rfl; infer_instance; infer_instance; (first | exact zl rfl | exact LB_le (by omega)); (first | (with_reducible exact LB_set (by omega)) | (simp only [n0, Nat.reduceAdd, n1, n2, n3, n4, n5, n6, n7, n8, n9]; try rfl)); simp only [zp, zq, z0, z1])
      | ((with_reducible apply sd_load_far hp); exact rfl; exact zt rfl; assumption; infer_instance; assumption; (first | exact zl rfl | omega); simp only [zp, zq, z0, z1]))
        ((with_reducible apply sd_q); exact zo rfl)
        (first
      | ((with_reducible apply sd_load_agg hp); exact rfl; exact zt rfl; infer_instance; infer_instance; (first | exact zl rfl | exact LB_le (by omega)); (first | (with_reducible exact LB_set (by omega)) | (simp only [n0, Nat.reduceAdd, n1, n2, n3, n4, n5, n6, n7, n8, n9]; try rfl)); simp only [zp, zq, z0, z1])
      | ((with_reducible apply sd_load_far hp); exact rfl; exact zt rfl; assumption; infer_instance; assumption; (first | exact zl rfl | omega); simp only [zp, zq, z0, z1]))
        ((with_reducible apply sd_l); exact zo rfl)
        ((with_reducible apply sd_call hp); exact rfl; (focus (intro _; go_simp; try first | with_reducible rfl | exact ⟨rfl, rfl⟩)); (with_reducible first | exact fun w => HBA.out w | exact fun w => HBB.out w); exact hq; clear hp hq; (try clear w1); intro w1 hp hq; simp only [zp, zq, z0, z1])
        ((with_reducible apply sd_l); exact zo rfl)
        ((with_reducible apply sd_call hp); exact rfl; (focus (intro _; go_simp; try first | with_reducible rfl | exact ⟨rfl, rfl⟩)); (with_reducible first | exact fun w => HBA.out w | exact fun w => HBB.out w); exact hq; clear hp hq; (try clear w1); intro w1 hp hq; simp only [zp, zq, z0, z1])
        ((with_reducible apply sd_q); exact zo rfl)
        ((with_reducible apply sd_pure hp); exact rfl; (focus (intro _; go_simp; (try go_ints); try with_reducible rfl)); simp only [zp, zq, z0, z1])
        (with_reducible apply sd_nil)
        clear hp; have hp := hq; clear hq
        go_wp2_with (first
          | ((with_reducible apply sx_box hp); exact za rfl; exact rfl; clear hp; (try clear w1); intro g w1 hp; simp only [zp, zq, z0, z1])
          | ((with_reducible apply sx_alloc hp); infer_instance; exact rfl; clear hp; (try clear w1); intro g w1 hp; simp only [zp, zq, z0, z1])
          | ((with_reducible apply sx_load_agg hp); exact zt rfl; infer_instance; infer_instance; (first | exact zl rfl | exact LB_le (by omega)); (first | (with_reducible exact LB_set (by omega)) | (simp only [n0, Nat.reduceAdd, n1, n2, n3, n4, n5, n6, n7, n8, n9]; try rfl)); simp only [zp, zq, z0, z1])
          | ((with_reducible apply sx_load_one hp); exact zt rfl; infer_instance; infer_instance; (first | exact zio rfl | exact LB_get (by omega)); simp only [zp, zq, z0, z1])
          | ((with_reducible apply sx_store hp); exact zt rfl; (first | exact za rfl | exact zi rfl); exact rfl; (first | exact AggTy.size | exact OneTy.size); exact rfl; infer_instance; (first | (with_reducible exact LB_set (by omega)) | (simp only [n0, Nat.reduceAdd, n1, n2, n3, n4, n5, n6, n7, n8, n9]; try rfl)); (first | exact zl rfl | exact LB_le (by omega)); exact rfl; infer_instance; clear hp; (try clear w1); intro w1 hp)
          | ((with_reducible apply sx_indexAddr); exact zx rfl; exact zk rfl; infer_instance; (first | exact AggTy.size | exact OneTy.size); omega; omega; ((try simp only [m0, Int.reduceToNat, m1, m2, Nat.reduceMul, Nat.reduceAdd, m3, m4, m5, n0]); exact rfl); simp only [zp, zq, z0, z1])
          | ((with_reducible apply sx_load_far hp); exact zt rfl; assumption; infer_instance; assumption; (first | exact zl rfl | omega); simp only [zp, zq, z0, z1])
          | ((with_reducible apply sx_load_far1 hp); exact zt rfl; assumption; infer_instance; (first | assumption | (first | exact zio rfl | exact LB_get (by omega))); simp only [zp, zq, z0, z1])
          | ((with_reducible refine sx_callN hp (rminus_any (A * B) 1040 (by omega) _ _ (BSl.of hp.blk)) ?_); clear hp; (try clear w1); intro g w1 hp)
          | ((with_reducible refine sx_call hp (rof1040 (-(A * B)) rfl HM.out _ _ (BSl.of hp.blk)) ?_); clear hp; (try clear w1); intro w1 hp))
        exact bodyPost_ret (results_two rfl ⟨_, rfl, run_load_agg hp (Nat.le_of_ble_eq_true rfl)⟩ rfl) rfl ⟨rfl, hp.keep⟩
      | true =>
        obtain rfl := HP.out (by unfold bne; rw [hs]; rfl)
        clear HN HP
        have HM : Hid (-(2 ^ 1039) ≤ A * B ∧ A * B < 2 ^ 1039) := Lib.hid (by generalize (2 : Int) ^ 1039 = P at *; omega)
        clear h0 h1
        have hq := hp
        refine wp_drawn_hp hp hq [] (.q 0 (.q 2 (.l 1 (.l 3 (.q 4 .nil))))) (by kernel_rfl) (by kernel_rfl) ?_
        clear hp hq; (try clear w1); intro w1 hp hq
        ((with_reducible apply sd_q); exact zo rfl)
        (first
      | ((with_reducible apply sd_load_agg hp); exact rfl; exact zt rfl; infer_instance; infer_instance; (first | exact zl rfl | exact LB_le (by omega)); (first | (with_reducible exact LB_set (by omega)) | (simp only [n0, Nat.reduceAdd, n1, n2, n3, n4, n5, n6, n7, n8, n9]; try rfl)); simp only [zp, zq, z0, z1])
      | ((with_reducible apply sd_load_far hp); exact rfl; exact zt rfl; assumption; infer_instance; assumption; (first | exact zl rfl | omega); simp only [zp, zq, z0, z1]))
        ((with_reducible apply sd_q); exact zo rfl)
        (first
      | ((with_reducible apply sd_load_agg hp); exact rfl; exact zt rfl; infer_instance; infer_instance; (first | exact zl rfl | exact LB_le (by omega)); (first | (with_reducible exact LB_set (by omega)) | (simp only [n0, Nat.reduceAdd, n1, n2, n3, n4, n5, n6, n7, n8, n9]; try rfl)); simp only [zp, zq, z0, z1])
      | ((with_reducible apply sd_load_far hp); exact rfl; exact zt rfl; assumption; infer_instance; assumption; (first | exact zl rfl | omega); simp only [zp, zq, z0, z1]))
        ((with_reducible apply sd_l); exact zo rfl)
        ((with_reducible apply sd_call hp); exact rfl; (focus (intro _; go_simp; try first | with_reducible rfl | exact ⟨rfl, rfl⟩)); (with_reducible first | exact fun w => HBA.out w | exact fun w => HBB.out w); exact hq; clear hp hq; (try clear w1); intro w1 hp hq; simp only [zp, zq, z0, z1])
        ((with_reducible apply sd_l); exact zo rfl)
        ((with_reducible apply sd_call hp); exact rfl; (focus (intro _; go_simp; try first | with_reducible rfl | exact ⟨rfl, rfl⟩)); (with_reducible first | exact fun w => HBA.out w | exact fun w => HBB.out w); exact hq; clear hp hq; (try clear w1); intro w1 hp hq; simp only [zp, zq, z0, z1])
        ((with_reducible apply sd_q); exact zo rfl)
        ((with_reducible apply sd_pure hp); exact rfl; (focus (intro _; go_simp; (try go_ints); try with_reducible rfl)); simp only [zp, zq, z0, z1])
        (with_reducible apply sd_nil)
        clear hp; have hp := hq; clear hq
        go_wp2_with (first
          | ((with_reducible apply sx_box hp); exact za rfl; exact rfl; clear hp; (try clear w1); intro g w1 hp; simp only [zp, zq, z0, z1])
          | ((with_reducible apply sx_alloc hp); infer_instance; exact rfl; clear hp; (try clear w1); intro g w1 hp; simp only [zp, zq, z0, z1])
          | ((with_reducible apply sx_load_agg hp); exact zt rfl; infer_instance; infer_instance; (first | exact zl rfl | exact LB_le (by omega)); (first | (with_reducible exact LB_set (by omega)) | (simp only [n0, Nat.reduceAdd, n1, n2, n3, n4, n5, n6, n7, n8, n9]; try rfl)); simp only [zp, zq, z0, z1])
          | ((with_reducible apply sx_load_one hp); exact zt rfl; infer_instance; infer_instance; (first | exact zio rfl | exact LB_get (by omega)); simp only [zp, zq, z0, z1])
          | ((with_reducible apply sx_store hp); exact zt rfl; (first | exact za rfl | exact zi rfl); exact rfl; (first | exact AggTy.size | exact OneTy.size); exact rfl; infer_instance; (first | (with_reducible exact LB_set (by omega)) | (simp only [n0, Nat.reduceAdd, n1, n2, n3, n4, n5, n6, n7, n8, n9]; try rfl)); (first | exact zl rfl | exact LB_le (by omega)); exact rfl; infer_instance; clear hp; (try clear w1); intro w1 hp)
          | ((with_reducible apply sx_indexAddr); exact zx rfl; exact zk rfl; infer_instance; (first | exact AggTy.size | exact OneTy.size); omega; omega; ((try simp only [m0, Int.reduceToNat, m1, m2, Nat.reduceMul, Nat.reduceAdd, m3, m4, m5, n0]); exact rfl); simp only [zp, zq, z0, z1])
          | ((with_reducible apply sx_load_far hp); exact zt rfl; assumption; infer_instance; assumption; (first | exact zl rfl | omega); simp only [zp, zq, z0, z1])
          | ((with_reducible apply sx_load_far1 hp); exact zt rfl; assumption; infer_instance; (first | assumption | (first | exact zio rfl | exact LB_get (by omega))); simp only [zp, zq, z0, z1])
          | ((with_reducible refine sx_call hp (rof1040 (A * B) rfl HM.out _ _ (BSl.of hp.blk)) ?_); clear hp; (try clear w1); intro w1 hp))
        exact bodyPost_ret (results_two rfl ⟨_, rfl, run_load_agg hp (Nat.le_of_ble_eq_true rfl)⟩ rfl) rfl ⟨rfl, hp.keep⟩
end Go.Proofs.Ythnpmmpcejfllaa
