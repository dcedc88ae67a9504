/-
  ninepinlaw02: FixOrder (contract).
-/
import Derived.Test.YtbdkbmhejoakiaaDoorTp
set_option linter.unusedSimpArgs false
set_option linter.unusedVariables false
set_option maxRecDepth 100000
namespace Go.Proofs.YtbdkbmhejoakiaaDoor
open Go Go.RowKit
attribute [local irreducible] wpList

set_option maxHeartbeats 16000000 in
theorem order_core (a b c x y s1 s2 r1 r2 u1 u2 f1 f2 m1 m2 p1 p2 d1 d2 e1 e2 : Int)
    (hmn : ∀ w, (Builtin.min_ #[22, 22] 22 #[.int .i64 a, .int .i64 b]).run Tryd.prog w = .ok (.int .i64 x) w)
    (hmx : ∀ w, (Builtin.max_ #[22, 22] 22 #[.int .i64 a, .int .i64 b]).run Tryd.prog w = .ok (.int .i64 y) w)
    (h1 : decide (s2 < s1) = false) (h2 : decide (r2 < r1) = false) (h3 : decide (u2 < u1) = false) (h4 : decide (f2 < f1) = false)
    (hc : decide (0 ≤ c) = false ∧ decide (c ≤ 0) = true ∨ decide (0 ≤ c) = true ∧ decide (c ≤ 0) = true ∧ decide (m2 < m1) = false ∧ decide (p2 < p1) = false ∨ decide (0 ≤ c) = true ∧ decide (c ≤ 0) = false ∧ decide (m2 < m1) = false ∧ decide (p2 < p1) = false ∧ decide (d1 ≤ d2) = true ∧ decide (e1 ≤ e2) = true)
    (S1 : Hid (∀ w, Calls Tryd.prog 21 #[.int .i64 x, .int .i64 c] w (Ret (.int .i64 s1) w))) (S2 : Hid (∀ w, Calls Tryd.prog 21 #[.int .i64 y, .int .i64 c] w (Ret (.int .i64 s2) w)))
    (R1 : Hid (∀ w, Calls Tryd.prog 28 #[.int .i64 x] w (Ret (.int .i64 r1) w))) (R2 : Hid (∀ w, Calls Tryd.prog 28 #[.int .i64 y] w (Ret (.int .i64 r2) w)))
    (U1 : Hid (∀ w, Calls Tryd.prog 29 #[.int .i64 x] w (Ret (.int .i64 u1) w))) (U2 : Hid (∀ w, Calls Tryd.prog 29 #[.int .i64 y] w (Ret (.int .i64 u2) w)))
    (F1 : Hid (∀ w, Calls Tryd.prog 15 #[.int .i64 x] w (Ret (.int .i64 f1) w))) (F2 : Hid (∀ w, Calls Tryd.prog 15 #[.int .i64 y] w (Ret (.int .i64 f2) w)))
    (M1 : Hid (∀ w, Calls Tryd.prog 17 #[.int .i64 x, .int .i64 c] w (Ret (.int .i64 m1) w))) (M2 : Hid (∀ w, Calls Tryd.prog 17 #[.int .i64 y, .int .i64 c] w (Ret (.int .i64 m2) w)))
    (P1 : Hid (∀ w, Calls Tryd.prog 18 #[.int .i64 x, .int .i64 c] w (Ret (.int .i64 p1) w))) (P2 : Hid (∀ w, Calls Tryd.prog 18 #[.int .i64 y, .int .i64 c] w (Ret (.int .i64 p2) w)))
    (D1 : Hid (∀ w, Calls Tryd.prog 19 #[.int .i64 x, .int .i64 c] w (Ret (.int .i64 d1) w))) (D2 : Hid (∀ w, Calls Tryd.prog 19 #[.int .i64 y, .int .i64 c] w (Ret (.int .i64 d2) w)))
    (E1 : Hid (∀ w, Calls Tryd.prog 20 #[.int .i64 x, .int .i64 c] w (Ret (.int .i64 e1) w))) (E2 : Hid (∀ w, Calls Tryd.prog 20 #[.int .i64 y, .int .i64 c] w (Ret (.int .i64 e2) w))) (w : World) :
    Calls Tryd.prog 9 #[.int .i64 a, .int .i64 b, .int .i64 c] w (Ret (.bool true) w) := by
  rcases hc with ⟨k1, k2⟩ | ⟨k1, k2, k3, k4⟩ | ⟨k1, k2, k3, k4, k5, k6⟩
  all_goals
    go_enter Tryd.func9, Tryd.ntmps9
    have hp := Hp.start [] w
    go_wp2_with (first
          | ((with_reducible apply sx_guard); (conv => whnf); refine Bx.mk ?_; (try simp only [zp, zq, z0, z1]))
          | ((with_reducible first | refine sx_call hp (S1.out _) ?_ | refine sx_call hp (S2.out _) ?_ | refine sx_call hp (R1.out _) ?_ | refine sx_call hp (R2.out _) ?_ | refine sx_call hp (U1.out _) ?_ | refine sx_call hp (U2.out _) ?_ | refine sx_call hp (F1.out _) ?_ | refine sx_call hp (F2.out _) ?_ | refine sx_call hp (M1.out _) ?_ | refine sx_call hp (M2.out _) ?_ | refine sx_call hp (P1.out _) ?_ | refine sx_call hp (P2.out _) ?_ | refine sx_call hp (D1.out _) ?_ | refine sx_call hp (D2.out _) ?_ | refine sx_call hp (E1.out _) ?_ | refine sx_call hp (E2.out _) ?_ | refine sx_call hp (awake2 _) ?_); clear hp; (try clear w1); intro w1 hp))
    exact bodyPost_ret (results_one rfl rfl) rfl ⟨rfl, hp.keep⟩
theorem order_law (a : Int) (ha : I64 a) (b : Int) (hb : I64 b) (c : Int) (hc : I64 c) (w : World) :
    Calls Tryd.prog 9 #[.int .i64 a, .int .i64 b, .int .i64 c] w (Ret (.bool true) w) := by
  obtain ⟨x, hx⟩ : ∃ x, x = if b < a then b else a := ⟨_, rfl⟩
  obtain ⟨y, hy⟩ : ∃ y, y = if b > a then b else a := ⟨_, rfl⟩
  have hle : x ≤ y := by rw [hx, hy]; split <;> split <;> omega
  have ix : I64 x := by rw [hx]; split <;> assumption
  have iy : I64 y := by rw [hy]; split <;> assumption
  have rm := rootv_mono ix iy hle
  refine order_core a b c x y _ _ _ _ _ _ _ _ _ _ _ _ _ _ _ _ (run_minQ _ _ a b x hx) (run_maxQ _ _ a b y hy) (decide_eq_false ?_) (decide_eq_false ?_) (decide_eq_false ?_) (decide_eq_false ?_) ?_
    (Lib.hid (fadd_any x c ix hc)) (Lib.hid (fadd_any y c iy hc)) (Lib.hid (fsqrt_any x ix)) (Lib.hid (fsqrt_any y iy)) (Lib.hid (fsqrtup_any x ix)) (Lib.hid (fsqrtup_any y iy)) (Lib.hid (ffloor_any x ix)) (Lib.hid (ffloor_any y iy))
    (Lib.hid (fmul_any x c ix hc)) (Lib.hid (fmul_any y c iy hc)) (Lib.hid (fmulup_any x c ix hc)) (Lib.hid (fmulup_any y c iy hc)) (Lib.hid (fdiv_any x c ix hc)) (Lib.hid (fdiv_any y c iy hc)) (Lib.hid (fdivup_any x c ix hc)) (Lib.hid (fdivup_any y c iy hc)) w
  · have := cl_mono (show x + c ≤ y + c by omega)
    omega
  · omega
  · omega
  · omega
  · by_cases h0 : 0 ≤ c
    · have q1 := mulD_mono h0 hle
      have q2 := mulU_mono ix iy hc h0 hle
      by_cases h1 : c ≤ 0
      · exact .inr (.inl ⟨decide_eq_true h0, decide_eq_true h1, decide_eq_false (by omega), decide_eq_false (by omega)⟩)
      · exact .inr (.inr ⟨decide_eq_true h0, decide_eq_false h1, decide_eq_false (by omega), decide_eq_false (by omega), decide_eq_true (dq_mono ix iy (by omega) hle), decide_eq_true (dqU_mono ix iy (by omega) hle)⟩)
    · exact .inl ⟨decide_eq_false h0, decide_eq_true (by omega)⟩
end Go.Proofs.YtbdkbmhejoakiaaDoor
