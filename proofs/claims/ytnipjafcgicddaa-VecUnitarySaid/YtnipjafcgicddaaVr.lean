/-
  ninepinlaw03: VecUnitary (contract).
-/
import Derived.Test.YtnipjafcgicddaaVq
import Derived.Test.YtnipjafcgicddaaVm
set_option linter.unusedSimpArgs false
set_option linter.unusedVariables false
set_option maxRecDepth 100000
namespace Go.Proofs.Ytnipjafcgicddaa
open Go Go.RowKit
attribute [local irreducible] wpList

/-- A unit's number, without its sign. -/
def rmag (x s : Int) : Int :=
  if 0 ≤ x then rt (x * x * 18446744073709551616 / s)
  else if rt (x * x * 18446744073709551616 / s) * rt (x * x * 18446744073709551616 / s) * s = x * x * 18446744073709551616 then rt (x * x * 18446744073709551616 / s) else rt (x * x * 18446744073709551616 / s) + 1
theorem mul_le_cancel {a b s : Int} (hs : 0 < s) (h : a * s ≤ b * s) : a ≤ b := Int.le_of_mul_le_mul_right h hs
theorem mag_facts (x s : Int) (hs : 0 < s) (hx : x * x ≤ s) : 0 ≤ rmag x s ∧ rmag x s ≤ 4294967296 ∧ (x < 0 → 1 ≤ rmag x s) ∧
    rmag x s * rmag x s * s ≤ x * x * 18446744073709551616 + (2 * rmag x s + 1) * s ∧ x * x * 18446744073709551616 ≤ rmag x s * rmag x s * s + (2 * rmag x s + 1) * s := by
  have hxx := sq_nn x
  have h0 : 0 ≤ x * x * 18446744073709551616 := by omega
  have hpos : x < 0 → 0 < x * x * 18446744073709551616 := fun h => by
    have := Int.mul_pos_of_neg_of_neg h h
    omega
  unfold rmag
  have hb : x * x * 18446744073709551616 ≤ 18446744073709551616 * s := by omega
  generalize x * x * 18446744073709551616 = n at *
  have hq0 : 0 ≤ n / s := Int.ediv_nonneg h0 (Int.le_of_lt hs)
  have hqb : n / s ≤ 18446744073709551616 := Int.ediv_le_of_le_mul hs hb
  have hd := Int.mul_ediv_add_emod n s
  have hm0 := Int.emod_nonneg n (show s ≠ 0 by omega)
  have hm1 := Int.emod_lt_of_pos n hs
  obtain ⟨r1, r2⟩ := rt_spec hq0
  have r0 := rt_nonneg (n / s)
  have rb : rt (n / s) ≤ 4294967296 := by
    by_cases h : rt (n / s) ≤ 4294967296
    · exact h
    · have := sq_mono (a := 4294967297) (b := rt (n / s)) (by omega) (by omega)
      omega
  have l1 : rt (n / s) * rt (n / s) * s ≤ n := by
    have := Int.mul_le_mul_of_nonneg_right r1 (Int.le_of_lt hs)
    rw [Int.mul_comm (n / s)] at this
    omega
  have l2 : n < (rt (n / s) + 1) * (rt (n / s) + 1) * s := by
    have := Int.mul_le_mul_of_nonneg_right (show n / s + 1 ≤ (rt (n / s) + 1) * (rt (n / s) + 1) by omega) (Int.le_of_lt hs)
    rw [Int.add_mul, Int.one_mul, Int.mul_comm (n / s)] at this
    omega
  have e1 : (rt (n / s) + 1) * (rt (n / s) + 1) * s = rt (n / s) * rt (n / s) * s + 2 * (rt (n / s) * s) + s := by grind
  have e2 : (2 * rt (n / s) + 1) * s = 2 * (rt (n / s) * s) + s := by grind
  have e3 : (2 * (rt (n / s) + 1) + 1) * s = 2 * (rt (n / s) * s) + 3 * s := by grind
  have l3 : 0 ≤ rt (n / s) * s := Int.mul_nonneg r0 (Int.le_of_lt hs)
  by_cases h : 0 ≤ x
  · rw [if_pos h]
    exact ⟨r0, rb, fun h' => by omega, by omega, by omega⟩
  · rw [if_neg h]
    by_cases he : rt (n / s) * rt (n / s) * s = n
    · rw [if_pos he]
      refine ⟨r0, rb, fun _ => ?_, by omega, by omega⟩
      by_cases h1 : 1 ≤ rt (n / s)
      · exact h1
      · have : rt (n / s) = 0 := by omega
        rw [this] at he
        have := hpos (by omega)
        omega
    · rw [if_neg he]
      refine ⟨by omega, ?_, fun _ => by omega, by omega, by omega⟩
      by_cases h1 : rt (n / s) + 1 ≤ 4294967296
      · exact h1
      · exfalso
        have : rt (n / s) = 4294967296 := by omega
        rw [this] at l1 he
        omega
theorem ratio_mag (x s : Int) (hs : 0 < s) (hx : x * x ≤ s) : ratio x s = if 0 ≤ x then rmag x s else -(rmag x s) := by
  obtain ⟨h1, h2, _⟩ := mag_facts x s hs hx
  unfold ratio
  unfold rmag at *
  by_cases h : 0 ≤ x
  · simp only [if_pos h] at *
    exact cl_id (by unfold I64; omega)
  · simp only [if_neg h] at *
    exact cl_id (by unfold I64; omega)
theorem three_sq (p q r : Int) : (p + q + r) * (p + q + r) ≤ 3 * (p * p + q * q + r * r) := by
  have e : 3 * (p * p + q * q + r * r) - (p + q + r) * (p + q + r) = (p - q) * (p - q) + (q - r) * (q - r) + (p - r) * (p - r) := by grind
  have h1 := sq_nn (p - q)
  have h2 := sq_nn (q - r)
  have h3 := sq_nn (p - r)
  omega
theorem unit_square {a : P3} (h : ¬ (a.x = 0 ∧ a.y = 0 ∧ a.z = 0)) : 18446744056529682432 ≤ a.cunit.dot a.cunit ∧ a.cunit.dot a.cunit ≤ 18446744090889420800 := by
  have hs := dot_pos h
  have h1 := sq_nn a.x
  have h2 := sq_nn a.y
  have h3 := sq_nn a.z
  have hd : a.dot a = a.x * a.x + a.y * a.y + a.z * a.z := rfl
  have kx : a.x * a.x ≤ a.dot a := by omega
  have ky : a.y * a.y ≤ a.dot a := by omega
  have kz : a.z * a.z ≤ a.dot a := by omega
  have sq : ∀ x, x * x ≤ a.dot a → ratio x (a.dot a) * ratio x (a.dot a) = rmag x (a.dot a) * rmag x (a.dot a) := fun x hx => by
    rw [ratio_mag x _ hs hx]
    split
    · rfl
    · rw [Int.neg_mul_neg]
  have e : a.cunit.dot a.cunit = rmag a.x (a.dot a) * rmag a.x (a.dot a) + rmag a.y (a.dot a) * rmag a.y (a.dot a) + rmag a.z (a.dot a) * rmag a.z (a.dot a) := by
    have := sq a.x kx
    have := sq a.y ky
    have := sq a.z kz
    unfold P3.cunit
    simp only [P3.dot] at *
    omega
  rw [e]
  obtain ⟨x0, x1, _, x2, x3⟩ := mag_facts a.x _ hs kx
  obtain ⟨y0, y1, _, y2, y3⟩ := mag_facts a.y _ hs ky
  obtain ⟨w0, w1, _, w2, w3⟩ := mag_facts a.z _ hs kz
  have t3 := three_sq (rmag a.x (a.dot a)) (rmag a.y (a.dot a)) (rmag a.z (a.dot a))
  generalize rmag a.x (a.dot a) = p at *
  generalize rmag a.y (a.dot a) = q at *
  generalize rmag a.z (a.dot a) = r at *
  generalize a.dot a = s at *
  have hsum : a.x * a.x * 18446744073709551616 + a.y * a.y * 18446744073709551616 + a.z * a.z * 18446744073709551616 = 18446744073709551616 * s := by omega
  have up : p * p + q * q + r * r ≤ 18446744073709551616 + (2 * (p + q + r) + 3) := by
    refine mul_le_cancel hs ?_
    have e1 : (p * p + q * q + r * r) * s = p * p * s + q * q * s + r * r * s := by grind
    have e2 : (18446744073709551616 + (2 * (p + q + r) + 3)) * s = 18446744073709551616 * s + ((2 * p + 1) * s + (2 * q + 1) * s + (2 * r + 1) * s) := by grind
    rw [e1, e2]
    omega
  have lo : 18446744073709551616 ≤ p * p + q * q + r * r + (2 * (p + q + r) + 3) := by
    refine mul_le_cancel hs ?_
    have e1 : (p * p + q * q + r * r + (2 * (p + q + r) + 3)) * s = p * p * s + q * q * s + r * r * s + ((2 * p + 1) * s + (2 * q + 1) * s + (2 * r + 1) * s) := by grind
    rw [e1]
    omega
  have hT : p + q + r ≤ 8589934589 := by
    by_cases h9 : p + q + r ≤ 8589934589
    · exact h9
    · exfalso
      generalize p + q + r = T at *
      have := Int.mul_le_mul_of_nonneg_right (show 8589934590 ≤ T by omega) (show 0 ≤ T by omega)
      omega
  omega
set_option maxHeartbeats 1000000 in
theorem part_any (a u : Int) (h1 : -4294967296 ≤ u) (h2 : u ≤ 4294967296) (h : (u < 0 ∧ a < 0) ∨ (0 ≤ u ∧ 0 ≤ a)) (w : World) : Calls Try.prog 29 #[.int .i64 a, .int .i64 u] w (Ret (.bool true) w) := by
  rcases h with ⟨h3, h4⟩ | ⟨h3, h4⟩
  · skip
    go_enter Try.func29, Try.ntmps29
    have hp := Hp.start [] w
    go_wp2_with (first
          | ((with_reducible apply sx_guard); (conv => whnf); refine Bx.mk ?_; (try simp only [zp, zq, z0, z1])))
    exact bodyPost_ret (results_one rfl rfl) rfl ⟨rfl, hp.keep⟩
  · have h5 : decide (u < 0) = false := decide_eq_false (by omega)
    have h6 : decide (a < 0) = false := decide_eq_false (by omega)
    clear h3 h4
    go_enter Try.func29, Try.ntmps29
    have hp := Hp.start [] w
    go_wp2_with (first
          | ((with_reducible apply sx_guard); (conv => whnf); refine Bx.mk ?_; (try simp only [zp, zq, z0, z1])))
    exact bodyPost_ret (results_one rfl rfl) rfl ⟨rfl, hp.keep⟩
set_option maxHeartbeats 4000000 in
theorem unitary_no (U1 : Hid (∀ w, Calls Try.prog 20 #[.agg #[.int .i64 0, .int .i64 0, .int .i64 0]] w (Ret (.tuple #[.agg #[.int .i64 0, .int .i64 0, .int .i64 0], .bool false]) w))) (w : World) :
    Calls Try.prog 7 #[.agg #[.int .i64 0, .int .i64 0, .int .i64 0]] w (Ret (.bool true) w) := by
  go_enter Try.func7, Try.ntmps7
  have hp := Hp.start [] w
  go_wp2_with (first
          | ((with_reducible apply sx_guard); (conv => whnf); refine Bx.mk ?_; (try simp only [zp, zq, z0, z1]))
          | ((with_reducible apply sx_box hp); exact za rfl; exact rfl; clear hp; (try clear w1); intro g w1 hp; simp only [zp, zq, z0, z1])
          | ((with_reducible apply sx_alloc hp); infer_instance; exact rfl; clear hp; (try clear w1); intro g w1 hp; simp only [zp, zq, z0, z1])
          | ((with_reducible apply sx_load_agg hp); exact zt rfl; infer_instance; infer_instance; (first | exact zl rfl | exact LB_le (by omega)); (first | (with_reducible exact LB_set (by omega)) | (simp only [n0, Nat.reduceAdd, n1, n2, n3, n4, n5, n6, n7, n8, n9]; try rfl)); simp only [zp, zq, z0, z1])
          | ((with_reducible apply sx_load_one hp); exact zt rfl; infer_instance; infer_instance; (first | exact zio rfl | exact LB_get (by omega)); simp only [zp, zq, z0, z1])
          | ((with_reducible apply sx_store hp); exact zt rfl; exact za rfl; exact rfl; (first | exact AggTy.size | exact OneTy.size); exact rfl; infer_instance; (first | (with_reducible exact LB_set (by omega)) | (simp only [n0, Nat.reduceAdd, n1, n2, n3, n4, n5, n6, n7, n8, n9]; try rfl)); (first | exact zl rfl | exact LB_le (by omega)); exact rfl; infer_instance; clear hp; (try clear w1); intro w1 hp)
          | ((with_reducible first | refine sx_call hp (U1.out _) ?_ | refine sx_call hp (awake3 _) ?_); clear hp; (try clear w1); intro w1 hp))
  exact bodyPost_ret (results_one rfl rfl) rfl ⟨rfl, hp.keep⟩
set_option maxHeartbeats 8000000 in
theorem unitary_core (a u : P3) (s c1 c2 : Int) (h1 : 0 ≤ c1) (h2 : c2 ≤ 0) (U1 : Hid (∀ w, Calls Try.prog 20 #[PV a] w (Ret (.tuple #[PV u, .bool true]) w)))
    (S1 : Hid (∀ w, Calls Try.prog 23 #[PV u] w (Ret (W s) w)))
    (O1 : Hid (∀ w, Calls Try.prog 25 #[.int .i64 1] w (Ret (W 1) w)))
    (H1 : Hid (∀ w, Calls Try.prog 24 #[W 1, .int .i64 64] w (Ret (.tuple #[W 18446744073709551616, .bool true]) w))) (H2 : Hid (∀ w, Calls Try.prog 24 #[W 1, .int .i64 34] w (Ret (.tuple #[W 17179869184, .bool true]) w)))
    (D1 : Hid (∀ w, Calls Try.prog 26 #[W 18446744073709551616, W 17179869184] w (Ret (.tuple #[W 18446744056529682432, .bool true]) w))) (A1 : Hid (∀ w, Calls Try.prog 27 #[W 18446744073709551616, W 17179869184] w (Ret (.tuple #[W 18446744090889420800, .bool true]) w)))
    (K1 : Hid (∀ w, Calls Try.prog 28 #[W s, W 18446744056529682432] w (Ret (.int .i64 c1) w))) (K2 : Hid (∀ w, Calls Try.prog 28 #[W s, W 18446744090889420800] w (Ret (.int .i64 c2) w)))
    (P1 : Hid (∀ w, Calls Try.prog 29 #[.int .i64 a.x, .int .i64 u.x] w (Ret (.bool true) w))) (P2 : Hid (∀ w, Calls Try.prog 29 #[.int .i64 a.y, .int .i64 u.y] w (Ret (.bool true) w))) (P4 : Hid (∀ w, Calls Try.prog 29 #[.int .i64 a.z, .int .i64 u.z] w (Ret (.bool true) w))) (w : World) :
    Calls Try.prog 7 #[PV a] w (Ret (.bool true) w) := by
  obtain ⟨ax, ay, az⟩ := a
  obtain ⟨ux, uy, uz⟩ := u
  dsimp only at P1 P2 P4
  obtain ⟨N64, hN⟩ : ∃ k : Int, k = 18446744073709551616 := ⟨_, rfl⟩
  obtain ⟨N34, hM⟩ : ∃ k : Int, k = 17179869184 := ⟨_, rfl⟩
  obtain ⟨NL, hL⟩ : ∃ k : Int, k = 18446744056529682432 := ⟨_, rfl⟩
  obtain ⟨NH, hH⟩ : ∃ k : Int, k = 18446744090889420800 := ⟨_, rfl⟩
  rw [← hN] at H1 D1 A1
  rw [← hM] at H2 D1 A1
  rw [← hL] at D1 K1
  rw [← hH] at A1 K2
  clear hN hM hL hH
  go_enter Try.func7, Try.ntmps7
  have hp := Hp.start [] w
  go_wp2_with (first
          | ((with_reducible apply sx_guard); (conv => whnf); refine Bx.mk ?_; (try simp only [zp, zq, z0, z1]))
          | ((with_reducible apply sx_box hp); exact za rfl; exact rfl; clear hp; (try clear w1); intro g w1 hp; simp only [zp, zq, z0, z1])
          | ((with_reducible apply sx_alloc hp); infer_instance; exact rfl; clear hp; (try clear w1); intro g w1 hp; simp only [zp, zq, z0, z1])
          | ((with_reducible apply sx_load_agg hp); exact zt rfl; infer_instance; infer_instance; (first | exact zl rfl | exact LB_le (by omega)); (first | (with_reducible exact LB_set (by omega)) | (simp only [n0, Nat.reduceAdd, n1, n2, n3, n4, n5, n6, n7, n8, n9]; try rfl)); simp only [zp, zq, z0, z1])
          | ((with_reducible apply sx_load_one hp); exact zt rfl; infer_instance; infer_instance; (first | exact zio rfl | exact LB_get (by omega)); simp only [zp, zq, z0, z1])
          | ((with_reducible apply sx_store hp); exact zt rfl; exact za rfl; exact rfl; (first | exact AggTy.size | exact OneTy.size); exact rfl; infer_instance; (first | (with_reducible exact LB_set (by omega)) | (simp only [n0, Nat.reduceAdd, n1, n2, n3, n4, n5, n6, n7, n8, n9]; try rfl)); (first | exact zl rfl | exact LB_le (by omega)); exact rfl; infer_instance; clear hp; (try clear w1); intro w1 hp)
          | ((with_reducible first | refine sx_call hp (U1.out _) ?_ | refine sx_call hp (S1.out _) ?_ | refine sx_call hp (O1.out _) ?_ | refine sx_call hp (H1.out _) ?_ | refine sx_call hp (H2.out _) ?_ | refine sx_call hp (D1.out _) ?_ | refine sx_call hp (A1.out _) ?_ | refine sx_call hp (K1.out _) ?_ | refine sx_call hp (K2.out _) ?_ | refine sx_call hp (P1.out _) ?_ | refine sx_call hp (P2.out _) ?_ | refine sx_call hp (P4.out _) ?_ | refine sx_call hp (awake3 _) ?_); clear hp; (try clear w1); intro w1 hp))
  exact bodyPost_ret (results_one rfl rfl) rfl ⟨rfl, hp.keep⟩
theorem cunit_i64 (a : P3) : a.cunit.i64 := by
  have h : ∀ x s, I64 (ratio x s) := fun x s => by unfold ratio; split <;> exact cl_i64 _
  exact ⟨h _ _, h _ _, h _ _⟩
theorem unitary_law (a : P3) (ha : a.i64) (w : World) : Calls Try.prog 7 #[PV a] w (Ret (.bool true) w) := by
  have U1 := vunit_any a ha
  obtain ⟨u, o, e, e1, e2⟩ := unitV_two a
  rw [e] at U1
  cases o with
  | false =>
    obtain ⟨hu, h1, h2, h3⟩ := e2 rfl
    subst hu
    obtain ⟨x, y, z⟩ := a
    dsimp only at h1 h2 h3
    subst h1 h2 h3
    exact unitary_no (Lib.hid U1) w
  | true =>
    obtain ⟨hu, hne⟩ := e1 rfl
    subst hu
    obtain ⟨q1, q2⟩ := unit_square hne
    have hs := dot_pos hne
    have h1 := sq_nn a.x
    have h2 := sq_nn a.y
    have h3 := sq_nn a.z
    have hd : a.dot a = a.x * a.x + a.y * a.y + a.z * a.z := rfl
    have hf : Fit (a.cunit.dot a.cunit) := by unfold Fit M511; omega
    have shl : ∀ k : Nat, k ≤ 100 → Fit (2 ^ k) → ∀ w, Calls Try.prog 24 #[W 1, .int .i64 k] w (Ret (.tuple #[W (2 ^ k), .bool true]) w) := fun k hk hf w => by
      have hok : shok 1 k := ⟨by omega, .inr ⟨by omega, by rw [Int.toNat_natCast, Int.one_mul]; exact hf⟩⟩
      have := shl_any 1 k fit_one w
      rwa [show shlv 1 k = 2 ^ k by unfold shlv; rw [if_pos hok, Int.toNat_natCast, Int.one_mul], decide_eq_true hok] at this
    have fN : Fit 18446744073709551616 := by unfold Fit M511; omega
    have fM : Fit 17179869184 := by unfold Fit M511; omega
    have fL : Fit 18446744056529682432 := by unfold Fit M511; omega
    have fH : Fit 18446744090889420800 := by unfold Fit M511; omega
    have sb := sub_any 18446744073709551616 17179869184 fN fM
    rw [show (18446744073709551616 : Int) - 17179869184 = 18446744056529682432 from rfl, show fz 18446744056529682432 = 18446744056529682432 from if_pos fL, decide_eq_true fL] at sb
    have ad := add_any 18446744073709551616 17179869184 fN fM
    rw [show (18446744073709551616 : Int) + 17179869184 = 18446744090889420800 from rfl, show fz 18446744090889420800 = 18446744090889420800 from if_pos fH, decide_eq_true fH] at ad
    have pt : ∀ x, x * x ≤ a.dot a → ∀ w, Calls Try.prog 29 #[.int .i64 x, .int .i64 (ratio x (a.dot a))] w (Ret (.bool true) w) := fun x hx w => by
      obtain ⟨m0, m1, m2, _⟩ := mag_facts x _ hs hx
      have e := ratio_mag x _ hs hx
      by_cases h0 : 0 ≤ x
      · rw [if_pos h0] at e
        exact part_any x _ (by omega) (by omega) (.inr (by omega)) w
      · rw [if_neg h0] at e
        have := m2 (by omega)
        exact part_any x _ (by omega) (by omega) (.inl (by omega)) w
    refine unitary_core a a.cunit (a.cunit.dot a.cunit) (cmp (a.cunit.dot a.cunit) 18446744056529682432) (cmp (a.cunit.dot a.cunit) 18446744090889420800) ?_ (cmp_le.2 q2) (Lib.hid U1) (Lib.hid (lsquare_any _ (cunit_i64 a))) (Lib.hid (of_i64 1 (by unfold I64; omega)))
      (Lib.hid (shl 64 (by omega) fN)) (Lib.hid (shl 34 (by omega) fM)) (Lib.hid sb) (Lib.hid ad) (Lib.hid (cmp_any _ _ hf fL)) (Lib.hid (cmp_any _ _ hf fH)) (Lib.hid (pt _ (by omega))) (Lib.hid (pt _ (by omega))) (Lib.hid (pt _ (by omega))) w
    have hnl : ¬ cmp (a.cunit.dot a.cunit) 18446744056529682432 < 0 := fun h => by have := cmp_lt.1 h; omega
    omega
end Go.Proofs.Ytnipjafcgicddaa
