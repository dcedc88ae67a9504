/-
  Package fix: within, In (contracts).
-/
import Derived.Test.YtbdkbmhejoakiaaDoorJc
set_option linter.unusedSimpArgs false
set_option linter.unusedVariables false
set_option maxRecDepth 100000
namespace Go.Proofs.YtbdkbmhejoakiaaDoor
open Go Go.RowKit
attribute [local irreducible] wpList

set_option maxHeartbeats 4000000 in
theorem within_any (n : Int) (hn : Fit n) (w : World) : Calls Tryd.prog 42 #[W n] w (Ret (.int .i64 (cl n)) w) := by
  have hi := fun w => int_any n hn w
  have HS := Lib.hid fun w => sign_any n hn w
  by_cases h : I64 n
  · rw [if_pos h, decide_eq_true h] at hi
    have e := cl_id h
    have HI := Lib.hid hi
    have HEE := Lib.hid e
    clear hi e h hn
    go_enter Tryd.func42, Tryd.ntmps42
    have hp := Hp.start [] w
    go_wp2_with (first
          | ((with_reducible apply sx_box hp); exact za rfl; exact rfl; clear hp; (try clear w1); intro g w1 hp; simp only [zp, zq, z0, z1])
          | ((with_reducible apply sx_load_agg hp); exact zt rfl; infer_instance; infer_instance; (first | exact zl rfl | exact LB_le (by omega)); (first | (with_reducible exact LB_set (by omega)) | (simp only [n0, Nat.reduceAdd, n1, n2, n3, n4, n5, n6, n7, n8, n9]; try rfl)); simp only [zp, zq, z0, z1])
          | ((with_reducible refine sx_call hp (HI.out _) ?_); clear hp; (try clear w1); intro w1 hp))
    exact bodyPost_ret (results_one rfl rfl) rfl ⟨by rw [HEE.out]; rfl, hp.keep⟩
  · rw [if_neg h, decide_eq_false h] at hi
    have HI := Lib.hid hi
    by_cases h1 : n < 0
    · have e : cl n = -9223372036854775808 := by unfold cl; unfold I64 at h; rw [if_pos (by omega)]
      have e1 : sgn n < 0 := by unfold sgn; rw [if_pos h1]; omega
      have HEE := Lib.hid e
      clear hi e h hn h1
      generalize sgn n = s at *
      go_enter Tryd.func42, Tryd.ntmps42
      have hp := Hp.start [] w
      go_wp2_with (first
          | ((with_reducible apply sx_box hp); exact za rfl; exact rfl; clear hp; (try clear w1); intro g w1 hp; simp only [zp, zq, z0, z1])
          | ((with_reducible apply sx_load_agg hp); exact zt rfl; infer_instance; infer_instance; (first | exact zl rfl | exact LB_le (by omega)); (first | (with_reducible exact LB_set (by omega)) | (simp only [n0, Nat.reduceAdd, n1, n2, n3, n4, n5, n6, n7, n8, n9]; try rfl)); simp only [zp, zq, z0, z1])
          | ((with_reducible first | refine sx_call hp (HI.out _) ?_ | refine sx_call hp (HS.out _) ?_); clear hp; (try clear w1); intro w1 hp))
      exact bodyPost_ret (results_one rfl rfl) rfl ⟨by rw [HEE.out]; rfl, hp.keep⟩
    · have e : cl n = 9223372036854775807 := by unfold cl; unfold I64 at h; rw [if_neg (by omega), if_pos (by omega)]
      have e1 : ¬ sgn n < 0 := by unfold sgn; rw [if_neg h1]; split <;> omega
      have HEE := Lib.hid e
      clear hi e h hn h1
      generalize sgn n = s at *
      go_enter Tryd.func42, Tryd.ntmps42
      have hp := Hp.start [] w
      go_wp2_with (first
          | ((with_reducible apply sx_box hp); exact za rfl; exact rfl; clear hp; (try clear w1); intro g w1 hp; simp only [zp, zq, z0, z1])
          | ((with_reducible apply sx_load_agg hp); exact zt rfl; infer_instance; infer_instance; (first | exact zl rfl | exact LB_le (by omega)); (first | (with_reducible exact LB_set (by omega)) | (simp only [n0, Nat.reduceAdd, n1, n2, n3, n4, n5, n6, n7, n8, n9]; try rfl)); simp only [zp, zq, z0, z1])
          | ((with_reducible first | refine sx_call hp (HI.out _) ?_ | refine sx_call hp (HS.out _) ?_); clear hp; (try clear w1); intro w1 hp))
      exact bodyPost_ret (results_one rfl rfl) rfl ⟨by rw [HEE.out]; rfl, hp.keep⟩
/-- Any number by any power of two, brought in. -/
def inv (n s : Int) : Int := cl (if 32 ≤ s then shv n (s - 32) else n * 2 ^ (32 - max s 0).toNat)
theorem sz_is {n : Int} (h : Fit n) : sz n = if n < 0 then -n else n := by
  unfold sz
  rw [ng_fit h]
  by_cases h1 : n < 0
  · simp [h1]
  · simp [h1]
theorem in_far {n : Int} (hn : Fit n) (k : Nat) (h : 64 < nb (sz n)) : cl (n * 2 ^ k) = if n < 0 then -9223372036854775808 else 9223372036854775807 := by
  have e := sz_is hn
  have h0 : 0 ≤ sz n := by rw [e]; split <;> omega
  obtain ⟨h1, h2⟩ := nb_spec h0
  have hne : sz n ≠ 0 := fun h3 => by rw [h3] at h; simp [nb] at h
  obtain ⟨h3, _⟩ := h2 hne
  have h4 : (18446744073709551616 : Int) ≤ 2 ^ (nb (sz n) - 1) := by
    have e2 : (2 : Int) ^ (nb (sz n) - 1) = 2 ^ 64 * 2 ^ (nb (sz n) - 1 - 64) := by rw [← Int.pow_add, show 64 + (nb (sz n) - 1 - 64) = nb (sz n) - 1 by omega]
    have h5 := pow_pos' (nb (sz n) - 1 - 64)
    have h6 : (2 : Int) ^ 64 = 18446744073709551616 := rfl
    rw [e2, h6]
    omega
  have h5 := pow_pos' k
  have h6 : (18446744073709551616 : Int) ≤ sz n := by omega
  rw [e] at h6
  by_cases h7 : n < 0
  · rw [if_pos h7] at h6 ⊢
    have := Int.mul_le_mul_of_nonpos_left (Int.le_of_lt h7) (show (1 : Int) ≤ 2 ^ k by omega)
    unfold cl
    rw [if_pos (by omega)]
  · rw [if_neg h7] at h6 ⊢
    have := Int.mul_le_mul_of_nonneg_left (show (1 : Int) ≤ 2 ^ k by omega) (show 0 ≤ n by omega)
    unfold cl
    rw [if_neg (by omega), if_pos (by omega)]
theorem in_near {n : Int} (hn : Fit n) {k : Nat} (hk : k ≤ 32) (h : ¬ 64 < nb (sz n)) : shlv n k = n * 2 ^ k ∧ Fit (n * 2 ^ k) ∧ shok n k := by
  have e := sz_is hn
  have h0 : 0 ≤ sz n := by rw [e]; split <;> omega
  obtain ⟨h1, _⟩ := nb_spec h0
  have h2 : (2 : Int) ^ nb (sz n) ≤ 2 ^ 64 := by
    have e2 : (2 : Int) ^ 64 = 2 ^ nb (sz n) * 2 ^ (64 - nb (sz n)) := by rw [← Int.pow_add, show nb (sz n) + (64 - nb (sz n)) = 64 by omega]
    have h5 := pow_pos' (64 - nb (sz n))
    have := Int.mul_le_mul_of_nonneg_left (show (1 : Int) ≤ 2 ^ (64 - nb (sz n)) by omega) (Int.le_of_lt (pow_pos' (nb (sz n))))
    omega
  have h3 : (2 : Int) ^ 64 = 18446744073709551616 := rfl
  have h4 : (2 : Int) ^ k ≤ 2 ^ 32 := by
    have e2 : (2 : Int) ^ 32 = 2 ^ k * 2 ^ (32 - k) := by rw [← Int.pow_add, show k + (32 - k) = 32 by omega]
    have h5 := pow_pos' (32 - k)
    have := Int.mul_le_mul_of_nonneg_left (show (1 : Int) ≤ 2 ^ (32 - k) by omega) (Int.le_of_lt (pow_pos' k))
    omega
  have h5 : (2 : Int) ^ 32 = 4294967296 := rfl
  have h6 := pow_pos' k
  have hf : Fit (n * 2 ^ k) := by
    generalize (2 : Int) ^ k = P at *
    have h9 : sz n < 18446744073709551616 := by omega
    have h7 : -18446744073709551616 < n ∧ n < 18446744073709551616 := by rw [e] at h9; split at h9 <;> omega
    have h8 := bd_mul (a := n) (b := P) (A := 18446744073709551616) (B := 4294967296) (by omega) (by omega)
    unfold Fit M511
    omega
  have hs : shok n k := ⟨by omega, .inr ⟨by omega, by rw [Int.toNat_natCast]; exact hf⟩⟩
  exact ⟨by unfold shlv; rw [if_pos hs, Int.toNat_natCast], hf, hs⟩
set_option maxHeartbeats 8000000 in
theorem in_core (n s sg r : Int) (b : Nat) (hs : s < 32) (o : Bool)
    (BB : Hid (∀ w, Calls Tryd.prog 61 #[W n] w (Ret (.int .i64 (b : Int)) w))) (hb : b ≤ 4096)
    (SG : Hid (∀ w, Calls Tryd.prog 62 #[W n] w (Ret (.int .i64 sg) w)))
    (H1 : Hid (64 < b → sg < 0 → r = -9223372036854775808)) (H2 : Hid (64 < b → ¬ sg < 0 → r = 9223372036854775807))
    (m : Int) (SL : Hid (∀ w, Calls Tryd.prog 51 #[W n, .int .i64 (32 - max s 0)] w (Ret (.tuple #[W m, .bool o]) w)))
    (WI : Hid (∀ w, Calls Tryd.prog 42 #[W m] w (Ret (.int .i64 (cl m)) w))) (H3 : Hid (¬ 64 < b → r = cl m)) (w : World) :
    Calls Tryd.prog 37 #[W n, .int .i64 s] w (Ret (.int .i64 r) w) := by
  by_cases h0 : s < 0
  · rw [show 32 - max s 0 = 32 by omega] at SL
    by_cases h64 : 64 < b
    · by_cases hsg : sg < 0
      · have E := Lib.hid (H1.out h64 hsg)
        clear H1 H2 H3 SL WI
        have h65 : (64 : Int) < (b : Int) := by omega
        go_enter Tryd.func37, Tryd.ntmps37
        have hp := Hp.start [] w
        go_wp2_with (first
          | ((with_reducible apply sx_box hp); exact za rfl; exact rfl; clear hp; (try clear w1); intro g w1 hp; simp only [zp, zq, z0, z1])
          | ((with_reducible apply sx_alloc hp); infer_instance; exact rfl; clear hp; (try clear w1); intro g w1 hp; simp only [zp, zq, z0, z1])
          | ((with_reducible apply sx_load_agg hp); exact zt rfl; infer_instance; infer_instance; (first | exact zl rfl | exact LB_le (by omega)); (first | (with_reducible exact LB_set (by omega)) | (simp only [n0, Nat.reduceAdd, n1, n2, n3, n4, n5, n6, n7, n8, n9]; try rfl)); simp only [zp, zq, z0, z1])
          | ((with_reducible apply sx_store hp); exact zt rfl; exact za rfl; exact rfl; (first | exact AggTy.size | exact OneTy.size); exact rfl; infer_instance; (first | (with_reducible exact LB_set (by omega)) | (simp only [n0, Nat.reduceAdd, n1, n2, n3, n4, n5, n6, n7, n8, n9]; try rfl)); (first | exact zl rfl | exact LB_le (by omega)); exact rfl; infer_instance; clear hp; (try clear w1); intro w1 hp)
          | ((with_reducible first | refine sx_call hp (BB.out _) ?_ | refine sx_call hp (SG.out _) ?_); clear hp; (try clear w1); intro w1 hp))
        exact bodyPost_ret (results_one rfl rfl) rfl ⟨by rw [E.out]; rfl, hp.keep⟩
      · have E := Lib.hid (H2.out h64 hsg)
        clear H1 H2 H3 SL WI
        have h65 : (64 : Int) < (b : Int) := by omega
        go_enter Tryd.func37, Tryd.ntmps37
        have hp := Hp.start [] w
        go_wp2_with (first
          | ((with_reducible apply sx_box hp); exact za rfl; exact rfl; clear hp; (try clear w1); intro g w1 hp; simp only [zp, zq, z0, z1])
          | ((with_reducible apply sx_alloc hp); infer_instance; exact rfl; clear hp; (try clear w1); intro g w1 hp; simp only [zp, zq, z0, z1])
          | ((with_reducible apply sx_load_agg hp); exact zt rfl; infer_instance; infer_instance; (first | exact zl rfl | exact LB_le (by omega)); (first | (with_reducible exact LB_set (by omega)) | (simp only [n0, Nat.reduceAdd, n1, n2, n3, n4, n5, n6, n7, n8, n9]; try rfl)); simp only [zp, zq, z0, z1])
          | ((with_reducible apply sx_store hp); exact zt rfl; exact za rfl; exact rfl; (first | exact AggTy.size | exact OneTy.size); exact rfl; infer_instance; (first | (with_reducible exact LB_set (by omega)) | (simp only [n0, Nat.reduceAdd, n1, n2, n3, n4, n5, n6, n7, n8, n9]; try rfl)); (first | exact zl rfl | exact LB_le (by omega)); exact rfl; infer_instance; clear hp; (try clear w1); intro w1 hp)
          | ((with_reducible first | refine sx_call hp (BB.out _) ?_ | refine sx_call hp (SG.out _) ?_); clear hp; (try clear w1); intro w1 hp))
        exact bodyPost_ret (results_one rfl rfl) rfl ⟨by rw [E.out]; rfl, hp.keep⟩
    · have E := Lib.hid (H3.out h64)
      clear H1 H2 H3
      have h65 : ¬ (64 : Int) < (b : Int) := by omega
      go_enter Tryd.func37, Tryd.ntmps37
      have hp := Hp.start [] w
      go_wp2_with (first
          | ((with_reducible apply sx_box hp); exact za rfl; exact rfl; clear hp; (try clear w1); intro g w1 hp; simp only [zp, zq, z0, z1])
          | ((with_reducible apply sx_alloc hp); infer_instance; exact rfl; clear hp; (try clear w1); intro g w1 hp; simp only [zp, zq, z0, z1])
          | ((with_reducible apply sx_load_agg hp); exact zt rfl; infer_instance; infer_instance; (first | exact zl rfl | exact LB_le (by omega)); (first | (with_reducible exact LB_set (by omega)) | (simp only [n0, Nat.reduceAdd, n1, n2, n3, n4, n5, n6, n7, n8, n9]; try rfl)); simp only [zp, zq, z0, z1])
          | ((with_reducible apply sx_store hp); exact zt rfl; exact za rfl; exact rfl; (first | exact AggTy.size | exact OneTy.size); exact rfl; infer_instance; (first | (with_reducible exact LB_set (by omega)) | (simp only [n0, Nat.reduceAdd, n1, n2, n3, n4, n5, n6, n7, n8, n9]; try rfl)); (first | exact zl rfl | exact LB_le (by omega)); exact rfl; infer_instance; clear hp; (try clear w1); intro w1 hp)
          | ((with_reducible first | refine sx_call hp (BB.out _) ?_ | refine sx_call hp (SG.out _) ?_ | refine sx_call hp (SL.out _) ?_ | refine sx_call hp (WI.out _) ?_); clear hp; (try clear w1); intro w1 hp))
      exact bodyPost_ret (results_one rfl rfl) rfl ⟨by rw [E.out]; rfl, hp.keep⟩
  · rw [show 32 - max s 0 = 32 - s by omega] at SL
    have h32 : ¬ (32 : Int) ≤ s := by omega
    by_cases h64 : 64 < b
    · by_cases hsg : sg < 0
      · have E := Lib.hid (H1.out h64 hsg)
        clear H1 H2 H3 SL WI
        have h65 : (64 : Int) < (b : Int) := by omega
        go_enter Tryd.func37, Tryd.ntmps37
        have hp := Hp.start [] w
        go_wp2_with (first
          | ((with_reducible apply sx_box hp); exact za rfl; exact rfl; clear hp; (try clear w1); intro g w1 hp; simp only [zp, zq, z0, z1])
          | ((with_reducible apply sx_alloc hp); infer_instance; exact rfl; clear hp; (try clear w1); intro g w1 hp; simp only [zp, zq, z0, z1])
          | ((with_reducible apply sx_load_agg hp); exact zt rfl; infer_instance; infer_instance; (first | exact zl rfl | exact LB_le (by omega)); (first | (with_reducible exact LB_set (by omega)) | (simp only [n0, Nat.reduceAdd, n1, n2, n3, n4, n5, n6, n7, n8, n9]; try rfl)); simp only [zp, zq, z0, z1])
          | ((with_reducible apply sx_store hp); exact zt rfl; exact za rfl; exact rfl; (first | exact AggTy.size | exact OneTy.size); exact rfl; infer_instance; (first | (with_reducible exact LB_set (by omega)) | (simp only [n0, Nat.reduceAdd, n1, n2, n3, n4, n5, n6, n7, n8, n9]; try rfl)); (first | exact zl rfl | exact LB_le (by omega)); exact rfl; infer_instance; clear hp; (try clear w1); intro w1 hp)
          | ((with_reducible first | refine sx_call hp (BB.out _) ?_ | refine sx_call hp (SG.out _) ?_); clear hp; (try clear w1); intro w1 hp))
        exact bodyPost_ret (results_one rfl rfl) rfl ⟨by rw [E.out]; rfl, hp.keep⟩
      · have E := Lib.hid (H2.out h64 hsg)
        clear H1 H2 H3 SL WI
        have h65 : (64 : Int) < (b : Int) := by omega
        go_enter Tryd.func37, Tryd.ntmps37
        have hp := Hp.start [] w
        go_wp2_with (first
          | ((with_reducible apply sx_box hp); exact za rfl; exact rfl; clear hp; (try clear w1); intro g w1 hp; simp only [zp, zq, z0, z1])
          | ((with_reducible apply sx_alloc hp); infer_instance; exact rfl; clear hp; (try clear w1); intro g w1 hp; simp only [zp, zq, z0, z1])
          | ((with_reducible apply sx_load_agg hp); exact zt rfl; infer_instance; infer_instance; (first | exact zl rfl | exact LB_le (by omega)); (first | (with_reducible exact LB_set (by omega)) | (simp only [n0, Nat.reduceAdd, n1, n2, n3, n4, n5, n6, n7, n8, n9]; try rfl)); simp only [zp, zq, z0, z1])
          | ((with_reducible apply sx_store hp); exact zt rfl; exact za rfl; exact rfl; (first | exact AggTy.size | exact OneTy.size); exact rfl; infer_instance; (first | (with_reducible exact LB_set (by omega)) | (simp only [n0, Nat.reduceAdd, n1, n2, n3, n4, n5, n6, n7, n8, n9]; try rfl)); (first | exact zl rfl | exact LB_le (by omega)); exact rfl; infer_instance; clear hp; (try clear w1); intro w1 hp)
          | ((with_reducible first | refine sx_call hp (BB.out _) ?_ | refine sx_call hp (SG.out _) ?_); clear hp; (try clear w1); intro w1 hp))
        exact bodyPost_ret (results_one rfl rfl) rfl ⟨by rw [E.out]; rfl, hp.keep⟩
    · have E := Lib.hid (H3.out h64)
      clear H1 H2 H3
      have h65 : ¬ (64 : Int) < (b : Int) := by omega
      go_enter Tryd.func37, Tryd.ntmps37
      have hp := Hp.start [] w
      go_wp2_with (first
          | ((with_reducible apply sx_box hp); exact za rfl; exact rfl; clear hp; (try clear w1); intro g w1 hp; simp only [zp, zq, z0, z1])
          | ((with_reducible apply sx_alloc hp); infer_instance; exact rfl; clear hp; (try clear w1); intro g w1 hp; simp only [zp, zq, z0, z1])
          | ((with_reducible apply sx_load_agg hp); exact zt rfl; infer_instance; infer_instance; (first | exact zl rfl | exact LB_le (by omega)); (first | (with_reducible exact LB_set (by omega)) | (simp only [n0, Nat.reduceAdd, n1, n2, n3, n4, n5, n6, n7, n8, n9]; try rfl)); simp only [zp, zq, z0, z1])
          | ((with_reducible apply sx_store hp); exact zt rfl; exact za rfl; exact rfl; (first | exact AggTy.size | exact OneTy.size); exact rfl; infer_instance; (first | (with_reducible exact LB_set (by omega)) | (simp only [n0, Nat.reduceAdd, n1, n2, n3, n4, n5, n6, n7, n8, n9]; try rfl)); (first | exact zl rfl | exact LB_le (by omega)); exact rfl; infer_instance; clear hp; (try clear w1); intro w1 hp)
          | ((with_reducible first | refine sx_call hp (BB.out _) ?_ | refine sx_call hp (SG.out _) ?_ | refine sx_call hp (SL.out _) ?_ | refine sx_call hp (WI.out _) ?_); clear hp; (try clear w1); intro w1 hp))
      exact bodyPost_ret (results_one rfl rfl) rfl ⟨by rw [E.out]; rfl, hp.keep⟩
set_option maxHeartbeats 4000000 in
theorem in_any (n s : Int) (hn : Fit n) (hsI : I64 s) (w : World) : Calls Tryd.prog 37 #[W n, .int .i64 s] w (Ret (.int .i64 (inv n s)) w) := by
  unfold inv
  by_cases hs : 32 ≤ s
  · rw [if_pos hs]
    have SH := Lib.hid fun w => shr_any n (s - 32) hn w
    have WI := Lib.hid fun w => within_any (shv n (s - 32)) (shv_fit hn) w
    generalize shv n (s - 32) = m at *
    generalize cl m = r at *
    have h0 : ¬ s < 0 := by omega
    have hs9 : s < 9223372036854775808 := hsI.2
    clear hn hsI
    go_enter Tryd.func37, Tryd.ntmps37
    have hp := Hp.start [] w
    go_wp2_with (first
          | ((with_reducible apply sx_box hp); exact za rfl; exact rfl; clear hp; (try clear w1); intro g w1 hp; simp only [zp, zq, z0, z1])
          | ((with_reducible apply sx_alloc hp); infer_instance; exact rfl; clear hp; (try clear w1); intro g w1 hp; simp only [zp, zq, z0, z1])
          | ((with_reducible apply sx_load_agg hp); exact zt rfl; infer_instance; infer_instance; (first | exact zl rfl | exact LB_le (by omega)); (first | (with_reducible exact LB_set (by omega)) | (simp only [n0, Nat.reduceAdd, n1, n2, n3, n4, n5, n6, n7, n8, n9]; try rfl)); simp only [zp, zq, z0, z1])
          | ((with_reducible apply sx_store hp); exact zt rfl; exact za rfl; exact rfl; (first | exact AggTy.size | exact OneTy.size); exact rfl; infer_instance; (first | (with_reducible exact LB_set (by omega)) | (simp only [n0, Nat.reduceAdd, n1, n2, n3, n4, n5, n6, n7, n8, n9]; try rfl)); (first | exact zl rfl | exact LB_le (by omega)); exact rfl; infer_instance; clear hp; (try clear w1); intro w1 hp)
          | ((with_reducible first | refine sx_call hp (SH.out _) ?_ | refine sx_call hp (WI.out _) ?_); clear hp; (try clear w1); intro w1 hp))
    exact bodyPost_ret (results_one rfl rfl) rfl ⟨rfl, hp.keep⟩
  · rw [if_neg hs]
    have hz := sz_is hn
    have h0 : 0 ≤ sz n := by rw [hz]; split <;> omega
    have h1 : sz n < M512 := by rw [hz]; unfold Fit M511 at hn; unfold M512; split <;> omega
    have hb := nb_le h0 h1
    have hk : ((32 - max s 0).toNat : Int) = 32 - max s 0 := by omega
    have hsg : sgn n < 0 ↔ n < 0 := by unfold sgn; split <;> (try split) <;> omega
    refine in_core n s (sgn n) _ (nb (sz n)) (by omega) (decide (shok n (32 - max s 0))) (Lib.hid fun w => bits_any n h0 h1 w) (by omega) (Lib.hid fun w => sign_any n hn w) (Lib.hid fun h2 h3 => ?_) (Lib.hid fun h2 h3 => ?_) (shlv n (32 - max s 0)) (Lib.hid fun w => shl_any n (32 - max s 0) hn w) (Lib.hid fun w => within_any _ ?_ w) (Lib.hid fun h2 => ?_) w
    · rw [in_far hn _ h2, if_pos (hsg.1 h3)]
    · rw [in_far hn _ h2, if_neg (fun h => h3 (hsg.2 h))]
    · unfold shlv
      split
      · rename_i h
        rcases h.2 with h4 | h4
        · rw [h4, Int.zero_mul]; exact fit_zero
        · exact h4.2
      · exact fit_zero
    · have := (in_near hn (k := (32 - max s 0).toNat) (by omega) h2).1
      rw [hk] at this
      rw [this]
end Go.Proofs.YtbdkbmhejoakiaaDoor
