/-
  ninepinlaw02: FixWhole (contract).
-/
import Derived.Test.YtbdkbmhejoakiaaDoorTp
set_option linter.unusedSimpArgs false
set_option linter.unusedVariables false
set_option maxRecDepth 100000
namespace Go.Proofs.YtbdkbmhejoakiaaDoor
open Go Go.RowKit
attribute [local irreducible] wpList

set_option maxHeartbeats 8000000 in
theorem whole_core (n a on fl k lo hi : Int)
    (hn : decide (-2147483648 ≤ n) = false ∨ (decide (-2147483648 ≤ n) = true ∧ decide (n < 2147483648) = false) ∨ (decide (-2147483648 ≤ n) = true ∧ decide (n < 2147483648) = true ∧ (fl == n) = true))
    (h1 : decide (lo ≤ a) = true) (h2 : decide (a < hi) = true ∨ (decide (a < hi) = false ∧ (hi == 9223372036854775807) = true))
    (O1 : Hid (∀ w, Calls Tryd.prog 16 #[.int .i64 n] w (Ret (.int .i64 on) w)))
    (F1 : Hid (∀ w, Calls Tryd.prog 15 #[.int .i64 on] w (Ret (.int .i64 fl) w)))
    (F2 : Hid (∀ w, Calls Tryd.prog 15 #[.int .i64 a] w (Ret (.int .i64 k) w)))
    (O2 : Hid (∀ w, Calls Tryd.prog 16 #[.int .i64 k] w (Ret (.int .i64 lo) w)))
    (O3 : Hid (∀ w, Calls Tryd.prog 16 #[.int .i64 (wrap64 (k + 1))] w (Ret (.int .i64 hi) w)))
    (M1 : Hid (∀ w, Calls Tryd.prog 17 #[.int .i64 a, .int .i64 4294967296] w (Ret (.int .i64 a) w)))
    (M2 : Hid (∀ w, Calls Tryd.prog 18 #[.int .i64 a, .int .i64 4294967296] w (Ret (.int .i64 a) w)))
    (D1 : Hid (∀ w, Calls Tryd.prog 19 #[.int .i64 a, .int .i64 4294967296] w (Ret (.int .i64 a) w)))
    (D2 : Hid (∀ w, Calls Tryd.prog 20 #[.int .i64 a, .int .i64 4294967296] w (Ret (.int .i64 a) w)))
    (S1 : Hid (∀ w, Calls Tryd.prog 21 #[.int .i64 a, .int .i64 0] w (Ret (.int .i64 a) w))) (w : World) :
    Calls Tryd.prog 5 #[.int .i64 n, .int .i64 a] w (Ret (.bool true) w) := by
  rcases hn with h3 | ⟨h3, h4⟩ | ⟨h3, h4, h5⟩
  all_goals
    rcases h2 with h2 | ⟨h2, h6⟩
  all_goals
    go_enter Tryd.func5, Tryd.ntmps5
    have hp := Hp.start [] w
    go_wp2_with (first
          | ((with_reducible apply sx_guard); (conv => whnf); refine Bx.mk ?_; (try simp only [zp, zq, z0, z1]))
          | ((with_reducible first | refine sx_call hp (O1.out _) ?_ | refine sx_call hp (F1.out _) ?_ | refine sx_call hp (F2.out _) ?_ | refine sx_call hp (O2.out _) ?_ | refine sx_call hp (O3.out _) ?_ | refine sx_call hp (M1.out _) ?_ | refine sx_call hp (M2.out _) ?_ | refine sx_call hp (D1.out _) ?_ | refine sx_call hp (D2.out _) ?_ | refine sx_call hp (S1.out _) ?_ | refine sx_call hp (awake2 _) ?_); clear hp; (try clear w1); intro w1 hp))
    exact bodyPost_ret (results_one rfl rfl) rfl ⟨rfl, hp.keep⟩
theorem whole_law (n : Int) (hn : I64 n) (a : Int) (ha : I64 a) (w : World) :
    Calls Tryd.prog 5 #[.int .i64 n, .int .i64 a] w (Ret (.bool true) w) := by
  have i1 : I64 4294967296 := by unfold I64; omega
  have hk : -2147483648 ≤ a / 4294967296 ∧ a / 4294967296 < 2147483648 := by unfold I64 at ha; omega
  have hki : I64 (a / 4294967296) := by unfold I64; omega
  have hk1 : I64 (a / 4294967296 + 1) := by unfold I64; omega
  have ei : cl a = a := cl_id ha
  have eq1 : qv (a * 4294967296) 4294967296 true = a := by
    obtain ⟨_, _, h⟩ := qv_pos (n := a * 4294967296) (b := 4294967296) (by omega) (fit32 (by unfold I64 at ha; omega))
    omega
  have eq2 : dvq (a * 4294967296) 4294967296 = a := by
    rw [(dv_pos (by omega) (fit32 (by unfold I64 at ha; omega))).1]
    omega
  have M1 := fmul_any a 4294967296 ha i1
  rw [show a * 4294967296 / 4294967296 = a by omega, ei] at M1
  have M2 := fmulup_any a 4294967296 ha i1
  rw [show mulU a 4294967296 = a by unfold mulU; rw [eq1, ei]] at M2
  have D1 := fdiv_any a 4294967296 ha i1
  rw [show dq a 4294967296 = a by unfold dq; rw [if_neg (by omega), eq2, ei]] at D1
  have D2 := fdivup_any a 4294967296 ha i1
  rw [show dqU a 4294967296 = a by unfold dqU; rw [if_neg (by omega), eq1, ei]] at D2
  have S1 := fadd_any a 0 ha (by unfold I64; omega)
  rw [Int.add_zero, ei] at S1
  have O3 := fof_any _ hk1
  rw [← show wrap64 (a / 4294967296 + 1) = a / 4294967296 + 1 by unfold wrap64; omega] at O3
  refine whole_core n a _ (ofv n / 4294967296) _ _ _ ?_ (decide_eq_true ?_) ?_ (Lib.hid (fof_any n hn)) (Lib.hid (ffloor_any _ (cl_i64 _))) (Lib.hid (ffloor_any a ha)) (Lib.hid (fof_any _ hki)) (Lib.hid O3) (Lib.hid M1) (Lib.hid M2) (Lib.hid D1) (Lib.hid D2) (Lib.hid S1) w
  · by_cases h1 : -2147483648 ≤ n
    · by_cases h2 : n < 2147483648
      · refine .inr (.inr ⟨decide_eq_true h1, decide_eq_true h2, ?_⟩)
        have e : ofv n = n * 4294967296 := cl_id (by unfold I64; omega)
        rw [e, show n * 4294967296 / 4294967296 = n by omega]
        simp
      · exact .inr (.inl ⟨decide_eq_true h1, decide_eq_false h2⟩)
    · exact .inl (decide_eq_false h1)
  · have e : ofv (a / 4294967296) = a / 4294967296 * 4294967296 := cl_id (by unfold I64; omega)
    rw [e]
    omega
  · rw [show wrap64 (a / 4294967296 + 1) = a / 4294967296 + 1 by unfold wrap64; omega]
    by_cases h : a / 4294967296 + 1 = 2147483648
    · have e : ofv (a / 4294967296 + 1) = 9223372036854775807 := by rw [h]; decide
      rw [e]
      by_cases h' : a < 9223372036854775807
      · exact .inl (decide_eq_true h')
      · exact .inr ⟨decide_eq_false h', by decide⟩
    · have e : ofv (a / 4294967296 + 1) = (a / 4294967296 + 1) * 4294967296 := cl_id (by unfold I64; omega)
      rw [e]
      exact .inl (decide_eq_true (by omega))
end Go.Proofs.YtbdkbmhejoakiaaDoor
