/-
  ninepinlaw22.RowsAims (contract, plain law).
-/
import Derived.Test.YtboiepagonlnkaaYe
set_option linter.unusedSimpArgs false
set_option linter.unusedVariables false
set_option maxRecDepth 100000
namespace Go.Proofs.Ytboiepagonlnkaa
open Go Go.RowKit
attribute [local irreducible] wpList

theorem run_maxQ {P : Program} (ts : Array TypeId) (t : TypeId) (a b m : Int) (h : m = if b > a then b else a) : ∀ w, (Builtin.max_ ts t #[.int .i64 a, .int .i64 b]).run P w = .ok (.int .i64 m) w := by
  intro w
  subst h
  simp [Builtin.max_, Builtin.max2]
theorem cl_mono {a b : Int} (h : a ≤ b) : cl a ≤ cl b := by
  unfold cl
  split <;> split <;> (try split) <;> (try split) <;> omega
theorem cl_pos {a : Int} (h : 0 ≤ a) : 0 ≤ cl a := by
  unfold cl
  split
  · omega
  · split <;> omega
theorem dq_pos {a b : Int} (ha : 0 ≤ a) (ha' : I64 a) (hb : 0 < b) : dq a b = cl (a * 4294967296 / b) := by
  unfold dq
  rw [if_neg (by omega), (dvq_pos (by omega) (by unfold I64 at ha'; unfold Fit M511; omega) hb).1]
theorem dq_mono {a c b : Int} (ha : 0 ≤ a) (hac : a ≤ c) (hc : I64 c) (hb : 0 < b) : 0 ≤ dq a b ∧ dq a b ≤ dq c b := by
  have ha' : I64 a := by unfold I64 at *; omega
  rw [dq_pos ha ha' hb, dq_pos (by omega) hc hb]
  exact ⟨cl_pos (Int.ediv_nonneg (by omega) (by omega)), cl_mono (Int.ediv_le_ediv hb (by omega))⟩
theorem dq_zero {b : Int} (hb : 0 < b) : dq 0 b = 0 := by
  rw [dq_pos (by omega) (by unfold I64; omega) hb]
  simp [cl]
theorem clampv_in {a l h : Int} (h1 : l ≤ a) (h2 : a ≤ h) : clampv a l h = a := by
  unfold clampv
  rw [if_neg (by omega), if_neg (by omega)]
theorem aim_facts {t : Int} (ht : 0 < t) (hti : I64 t) {g : Int} (hg : I64 g) :
    (g < 0 → aimv g t = (if 8589934592 < dq (cl (0 - g)) (cl (34359738368 * t / 4294967296)) then 8589934592 else dq (cl (0 - g)) (cl (34359738368 * t / 4294967296))) ∧ 0 ≤ dq (cl (0 - g)) (cl (34359738368 * t / 4294967296))) ∧
    (0 ≤ g → aimv g t = (if - dq g t < -1099511627776 then -1099511627776 else - dq g t) ∧ 0 ≤ dq g t) := by
  have hp : 0 < cl (34359738368 * t / 4294967296) := by
    have : 34359738368 * t / 4294967296 = 8 * t := by omega
    rw [this]
    unfold cl
    split
    · omega
    · split <;> omega
  constructor
  · intro h
    have h0 := (dq_mono (a := cl (0 - g)) (c := cl (0 - g)) (cl_pos (by omega)) (Int.le_refl _) (cl_i64 _) hp).1
    refine ⟨?_, h0⟩
    unfold aimv
    rw [if_pos h]
    generalize dq (cl (0 - g)) (cl (34359738368 * t / 4294967296)) = q at *
    by_cases hq : 8589934592 < q
    · rw [if_pos hq]
      exact clampv_in (by omega) (by omega)
    · rw [if_neg hq]
      exact clampv_in (by omega) (by omega)
  · intro h
    have h0 := (dq_mono (b := t) h (Int.le_refl _) hg ht).1
    have h1 := dq_i64 g t
    refine ⟨?_, h0⟩
    unfold aimv
    rw [if_neg (show ¬ g < 0 by omega)]
    generalize dq g t = q at *
    have e : cl (0 - q) = -q := by
      unfold I64 at h1
      unfold cl
      rw [if_neg (by omega), if_neg (by omega)]
      omega
    rw [e]
    by_cases hq : -q < -1099511627776
    · rw [if_pos hq]
      unfold clampv
      rw [if_pos hq]
    · rw [if_neg hq]
      exact clampv_in (by omega) (by omega)
theorem aims_plain {t lo hi : Int} (ht : 0 < t) (hti : I64 t) (hlo : I64 lo) (hhi : I64 hi) (h : lo ≤ hi) :
    aimv hi t ≤ aimv lo t ∧ aimv lo t ≤ 8589934592 ∧ -1099511627776 ≤ aimv hi t ∧ (0 < aimv lo t → lo < 0) ∧ (aimv hi t < 0 → 0 < hi) := by
  obtain ⟨a1, a2⟩ := aim_facts ht hti hlo
  obtain ⟨b1, b2⟩ := aim_facts ht hti hhi
  have hp : 0 < cl (34359738368 * t / 4294967296) := by
    have : 34359738368 * t / 4294967296 = 8 * t := by omega
    rw [this]
    unfold cl
    split
    · omega
    · split <;> omega
  by_cases h1 : lo < 0
  · obtain ⟨e1, n1⟩ := a1 h1
    by_cases h2 : hi < 0
    · obtain ⟨e2, n2⟩ := b1 h2
      have hm := (dq_mono (a := cl (0 - hi)) (c := cl (0 - lo)) (cl_pos (by omega)) (cl_mono (by omega)) (cl_i64 _) hp).2
      rw [e1, e2]
      generalize dq (cl (0 - hi)) (cl (34359738368 * t / 4294967296)) = x at *
      generalize dq (cl (0 - lo)) (cl (34359738368 * t / 4294967296)) = y at *
      refine ⟨?_, ?_, ?_, ?_, ?_⟩ <;> (try intro _) <;> (try split) <;> (try split) <;> (try split at *) <;> omega
    · obtain ⟨e2, n2⟩ := b2 (by omega)
      have hz : hi = 0 → dq hi t = 0 := fun e => by rw [e]; exact dq_zero ht
      rw [e1, e2]
      generalize dq hi t = x at *
      generalize dq (cl (0 - lo)) (cl (34359738368 * t / 4294967296)) = y at *
      have hz' : x = 0 ∨ 0 < hi := by
        by_cases he : hi = 0
        · exact .inl (hz he)
        · exact .inr (by omega)
      clear hz
      refine ⟨?_, ?_, ?_, ?_, ?_⟩ <;> (try intro _) <;> (try split) <;> (try split) <;> (try split at *) <;> omega
  · obtain ⟨e1, n1⟩ := a2 (by omega)
    obtain ⟨e2, n2⟩ := b2 (by omega)
    have hm := (dq_mono (b := t) (a := lo) (c := hi) (by omega) h hhi ht).2
    have hz : hi = 0 → dq hi t = 0 := fun e => by rw [e]; exact dq_zero ht
    rw [e1, e2]
    generalize dq hi t = x at *
    generalize dq lo t = y at *
    have hz' : x = 0 ∨ 0 < hi := by
      by_cases he : hi = 0
      · exact .inl (hz he)
      · exact .inr (by omega)
    clear hz
    refine ⟨?_, ?_, ?_, ?_, ?_⟩ <;> (try intro _) <;> (try split) <;> (try split) <;> (try split at *) <;> omega
theorem aims_core (g h t lo hi : Int) (p q : Int) (hmin : lo = if h < g then h else g) (hmax : hi = if h > g then h else g)
    (A1 : Hid (∀ w, Calls Try.prog 16 #[.int .i64 lo, .int .i64 t] w (Ret (.tuple #[.int .i64 p, .int .i64 0]) w)))
    (A2 : Hid (∀ w, Calls Try.prog 16 #[.int .i64 hi, .int .i64 t] w (Ret (.tuple #[.int .i64 q, .int .i64 0]) w)))
    (h1 : decide (q ≤ p) = true) (h2 : decide (p ≤ 8589934592) = true) (h3 : decide (-1099511627776 ≤ q) = true) (h4 : decide (p ≤ 0) = true ∨ (decide (p ≤ 0) = false ∧ decide (lo < 0) = true)) (h5 : decide (0 ≤ q) = true ∨ (decide (0 ≤ q) = false ∧ decide (0 < hi) = true)) (w : World) :
    Calls Try.prog 5 #[.int .i64 g, .int .i64 h, .int .i64 t] w (Ret (.bool true) w) := by
  have hmn := run_minR (P := Try.prog) #[22, 22] 22 g h lo hmin
  have hmx := run_maxQ (P := Try.prog) #[22, 22] 22 g h hi hmax
  clear hmin hmax
  rcases h4 with h4 | ⟨h4, h4'⟩ <;> rcases h5 with h5 | ⟨h5, h5'⟩
  all_goals
    skip
    go_enter Try.func5, Try.ntmps5
    have hp := Hp.start [] w
    go_wp2_with (first
          | ((with_reducible apply sx_guard); (conv => whnf); refine Bx.mk ?_; (try simp only [zp, zq, z0, z1]))
          | ((with_reducible first | refine sx_call hp (A1.out _) ?_ | refine sx_call hp (A2.out _) ?_ | refine sx_call hp (awake22 _) ?_); clear hp; (try clear w1); intro w1 hp))
    exact bodyPost_ret (results_one rfl rfl) rfl ⟨rfl, hp.keep⟩
theorem aims_none (g h t lo hi : Int) (hmin : lo = if h < g then h else g) (hmax : hi = if h > g then h else g) (ht : t ≤ 0)
    (A1 : Hid (∀ w, Calls Try.prog 16 #[.int .i64 lo, .int .i64 t] w (Ret (.tuple #[.int .i64 0, .int .i64 2]) w)))
    (A2 : Hid (∀ w, Calls Try.prog 16 #[.int .i64 hi, .int .i64 t] w (Ret (.tuple #[.int .i64 0, .int .i64 2]) w))) (w : World) :
    Calls Try.prog 5 #[.int .i64 g, .int .i64 h, .int .i64 t] w (Ret (.bool true) w) := by
  have hmn := run_minR (P := Try.prog) #[22, 22] 22 g h lo hmin
  have hmx := run_maxQ (P := Try.prog) #[22, 22] 22 g h hi hmax
  have ht1 : decide (t ≤ 0) = true := decide_eq_true ht
  clear hmin hmax ht
  go_enter Try.func5, Try.ntmps5
  have hp := Hp.start [] w
  go_wp2_with (first
          | ((with_reducible apply sx_guard); (conv => whnf); refine Bx.mk ?_; (try simp only [zp, zq, z0, z1]))
          | ((with_reducible first | refine sx_call hp (A1.out _) ?_ | refine sx_call hp (A2.out _) ?_ | refine sx_call hp (awake22 _) ?_); clear hp; (try clear w1); intro w1 hp))
  exact bodyPost_ret (results_one rfl rfl) rfl ⟨rfl, hp.keep⟩
theorem aims_law (g : Int) (hg : I64 g) (h : Int) (hh : I64 h) (t : Int) (ht : I64 t) (w : World) :
    Calls Try.prog 5 #[.int .i64 g, .int .i64 h, .int .i64 t] w (Ret (.bool true) w) := by
  obtain ⟨lo, hlo⟩ : ∃ lo : Int, lo = if h < g then h else g := ⟨_, rfl⟩
  obtain ⟨hi, hhi⟩ : ∃ hi : Int, hi = if h > g then h else g := ⟨_, rfl⟩
  have il : I64 lo := by rw [hlo]; split <;> assumption
  have ih : I64 hi := by rw [hhi]; split <;> assumption
  have hle : lo ≤ hi := by rw [hlo, hhi]; split <;> split <;> omega
  have A1 := aim_any lo t il ht
  have A2 := aim_any hi t ih ht
  by_cases h0 : t ≤ 0
  · rw [show aimO lo t = (0, 2) from if_pos h0] at A1
    rw [show aimO hi t = (0, 2) from if_pos h0] at A2
    exact aims_none g h t lo hi hlo hhi h0 (Lib.hid A1) (Lib.hid A2) w
  · rw [show aimO lo t = (aimv lo t, 0) from if_neg h0] at A1
    rw [show aimO hi t = (aimv hi t, 0) from if_neg h0] at A2
    obtain ⟨f1, f2, f3, f4, f5⟩ := aims_plain (show 0 < t by omega) ht il ih hle
    refine aims_core g h t lo hi _ _ hlo hhi (Lib.hid A1) (Lib.hid A2) (decide_eq_true f1) (decide_eq_true f2) (decide_eq_true f3) ?_ ?_ w
    · by_cases hx : aimv lo t ≤ 0
      · exact .inl (decide_eq_true hx)
      · exact .inr ⟨decide_eq_false hx, decide_eq_true (f4 (by omega))⟩
    · by_cases hx : 0 ≤ aimv hi t
      · exact .inl (decide_eq_true hx)
      · exact .inr ⟨decide_eq_false hx, decide_eq_true (f5 (by omega))⟩
end Go.Proofs.Ytboiepagonlnkaa
