/-
  ninepinlaw02: FixClamped (contract).
-/
import Derived.Test.YtbdkbmhejoakiaaDoorTc
set_option linter.unusedSimpArgs false
set_option linter.unusedVariables false
set_option maxRecDepth 100000
namespace Go.Proofs.YtbdkbmhejoakiaaDoor
open Go Go.RowKit
attribute [local irreducible] wpList

theorem run_minQ {P : Program} (ts : Array TypeId) (t : TypeId) (a b m : Int) (h : m = if b < a then b else a) : ∀ w, (Builtin.min_ ts t #[.int .i64 a, .int .i64 b]).run P w = .ok (.int .i64 m) w := by
  intro w
  subst h
  simp [Builtin.min_, Builtin.min2]
theorem run_maxQ {P : Program} (ts : Array TypeId) (t : TypeId) (a b m : Int) (h : m = if b > a then b else a) : ∀ w, (Builtin.max_ ts t #[.int .i64 a, .int .i64 b]).run P w = .ok (.int .i64 m) w := by
  intro w
  subst h
  simp [Builtin.max_, Builtin.max2]
set_option maxHeartbeats 4000000 in
theorem clamped_core (a b c lo hi x : Int) (hmn : ∀ w, (Builtin.min_ #[22, 22] 22 #[.int .i64 b, .int .i64 c]).run Tryd.prog w = .ok (.int .i64 lo) w)
    (hmx : ∀ w, (Builtin.max_ #[22, 22] 22 #[.int .i64 b, .int .i64 c]).run Tryd.prog w = .ok (.int .i64 hi) w)
    (h1 : decide (lo ≤ x) = true) (h2 : decide (x ≤ hi) = true) (h3 : decide (a < lo) = true ∨ (decide (a < lo) = false ∧ decide (hi < a) = true) ∨ (decide (a < lo) = false ∧ decide (hi < a) = false ∧ (x == a) = true))
    (C1 : Hid (∀ w, Calls Tryd.prog 22 #[.int .i64 a, .int .i64 lo, .int .i64 hi] w (Ret (.int .i64 x) w)))
    (C2 : Hid (∀ w, Calls Tryd.prog 22 #[.int .i64 x, .int .i64 lo, .int .i64 hi] w (Ret (.int .i64 x) w))) (w : World) :
    Calls Tryd.prog 6 #[.int .i64 a, .int .i64 b, .int .i64 c] w (Ret (.bool true) w) := by
  rcases h3 with h3 | ⟨h3, h4⟩ | ⟨h3, h4, h5⟩
  all_goals
    go_enter Tryd.func6, Tryd.ntmps6
    have hp := Hp.start [] w
    go_wp2_with (first
          | ((with_reducible apply sx_guard); (conv => whnf); refine Bx.mk ?_; (try simp only [zp, zq, z0, z1]))
          | ((with_reducible first | refine sx_call hp (C1.out _) ?_ | refine sx_call hp (C2.out _) ?_ | refine sx_call hp (awake2 _) ?_); clear hp; (try clear w1); intro w1 hp))
    exact bodyPost_ret (results_one rfl rfl) rfl ⟨rfl, hp.keep⟩
theorem clamped_law (a : Int) (ha : I64 a) (b : Int) (hb : I64 b) (c : Int) (hc : I64 c) (w : World) :
    Calls Tryd.prog 6 #[.int .i64 a, .int .i64 b, .int .i64 c] w (Ret (.bool true) w) := by
  obtain ⟨lo, hlo⟩ : ∃ lo, lo = if c < b then c else b := ⟨_, rfl⟩
  obtain ⟨hi, hhi⟩ : ∃ hi, hi = if c > b then c else b := ⟨_, rfl⟩
  have hle : lo ≤ hi := by rw [hlo, hhi]; split <;> split <;> omega
  have C1 := fclamp_any a lo hi
  have C2 := fclamp_any (clampv a lo hi) lo hi
  have f1 : lo ≤ clampv a lo hi ∧ clampv a lo hi ≤ hi ∧ clampv (clampv a lo hi) lo hi = clampv a lo hi ∧ (a < lo ∨ hi < a ∨ clampv a lo hi = a) := by
    unfold clampv
    split
    · rw [if_neg (by omega), if_neg (by omega)]; omega
    · split
      · rw [if_neg (by omega), if_neg (by omega)]; omega
      · omega
  obtain ⟨g1, g2, g3, g4⟩ := f1
  rw [g3] at C2
  generalize clampv a lo hi = x at *
  refine clamped_core a b c lo hi x (run_minQ _ _ b c lo hlo) (run_maxQ _ _ b c hi hhi) (decide_eq_true g1) (decide_eq_true g2) ?_ (Lib.hid C1) (Lib.hid C2) w
  by_cases k1 : a < lo
  · exact .inl (decide_eq_true k1)
  · by_cases k2 : hi < a
    · exact .inr (.inl ⟨decide_eq_false k1, decide_eq_true k2⟩)
    · have e : x = a := by omega
      exact .inr (.inr ⟨decide_eq_false k1, decide_eq_false k2, by simpa using e⟩)
end Go.Proofs.YtbdkbmhejoakiaaDoor
