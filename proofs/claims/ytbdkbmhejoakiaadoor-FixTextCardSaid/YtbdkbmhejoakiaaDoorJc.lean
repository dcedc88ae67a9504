/-
  Package ninepinref01: Cmp, Shl; package ninepinref02: Within (contracts).
-/
import Derived.Test.YtbdkbmhejoakiaaDoorCa
import Derived.Test.YtbdkbmhejoakiaaDoorGx
import Derived.Test.YtbdkbmhejoakiaaDoorJb
set_option linter.unusedSimpArgs false
set_option linter.unusedVariables false
set_option maxRecDepth 100000
namespace Go.Proofs.YtbdkbmhejoakiaaDoor
open Go Go.RowKit
attribute [local irreducible] wpList

theorem bt_top {x : Int} {E : Nat} (h : -(2 ^ E) ≤ x ∧ x < 2 ^ E) : bt x E = if x < 0 then 1 else 0 := by
  unfold bt
  have hp := pow_pos' E
  generalize (2 : Int) ^ E = P at *
  split
  · have : x / P = -1 := by
      rw [Int.ediv_eq_iff_of_pos hp]
      omega
    rw [this]; rfl
  · rw [Int.ediv_eq_zero_of_lt (by omega) (by omega)]; rfl
theorem low_step {x : Int} {k : Nat} (h : x % 2 ^ k = 0) (hb : bt x k = 0) : x % 2 ^ (k + 1) = 0 := by
  rw [Int.pow_succ, emod_split x _ _ (pow_pos' k) (by omega), h]
  unfold bt at hb
  rw [hb]
  omega
theorem low_one {x : Int} {k : Nat} (hb : bt x k = 1) : x ≠ 0 := fun h => by
  rw [h, bt_zero] at hb
  omega
theorem low_all {x : Int} {E : Nat} (h0 : 0 ≤ x) (h1 : x < 2 ^ E) (h : x % 2 ^ (E + 1) = 0) : x = 0 := by
  rw [Int.emod_eq_of_lt h0 (by rw [Int.pow_succ]; have := pow_pos' E; omega)] at h
  exact h
theorem cmp_room {a b : Int} (ha : Fit a) (hb : Fit b) {E : Nat} (hE : E = 519) : -(2 ^ E) ≤ a + -b ∧ a + -b < 2 ^ E := by
  obtain ⟨c, hc⟩ : ∃ c : Nat, c = 511 := ⟨_, rfl⟩
  have h4 : (2 : Int) ^ E = 2 ^ c * 2 ^ (E - c) := pow_split (by omega)
  rw [← M511_pow hc, show E - c = 8 by omega] at h4
  have : (2 : Int) ^ 8 = 256 := rfl
  rw [h4, this]
  unfold Fit M511 at *
  omega
/-! ### Brought in -/
/-- An integer, brought in. -/
def cl (n : Int) : Int := if n < -9223372036854775808 then -9223372036854775808 else if 9223372036854775807 < n then 9223372036854775807 else n
theorem cl_i64 (n : Int) : I64 (cl n) := by unfold cl I64; split <;> (try split) <;> omega
theorem cl_id {n : Int} (h : I64 n) : cl n = n := by unfold cl; unfold I64 at h; rw [if_neg (by omega), if_neg (by omega)]
/-! ### Further up -/
theorem shl_room {a : Int} (ha : Fit a) (n : Nat) : -(2 ^ (n + 520 - 1)) ≤ a * 2 ^ n ∧ a * 2 ^ n < 2 ^ (n + 520 - 1) := by
  obtain ⟨c, hc⟩ : ∃ c : Nat, c = 519 := ⟨_, rfl⟩
  have h1 : (2 : Int) ^ (n + 520 - 1) = 2 ^ c * 2 ^ n := by rw [← Int.pow_add, show c + n = n + 520 - 1 by omega]
  obtain ⟨d, hd⟩ : ∃ d : Nat, d = 511 := ⟨_, rfl⟩
  have h2 : (2 : Int) ^ d ≤ 2 ^ c := by
    rw [pow_split (show d ≤ c by omega)]
    have h3 := pow_pos' (c - d)
    have := Int.mul_le_mul_of_nonneg_left (show (1 : Int) ≤ 2 ^ (c - d) by omega) (Int.le_of_lt (pow_pos' d))
    omega
  rw [← M511_pow hd] at h2
  have hp := pow_pos' n
  rw [h1]
  have h4 : a < 2 ^ c := by unfold Fit at ha; omega
  have h5 : -(2 ^ c) ≤ a := by unfold Fit at ha; omega
  have h6 := Int.mul_lt_mul_of_pos_right h4 hp
  have h7 := Int.mul_le_mul_of_nonneg_right h5 (Int.le_of_lt hp)
  rw [Int.neg_mul] at h7
  exact ⟨h7, h6⟩
theorem shl_bsl {w : World} {g n cap : Nat} {t : TypeId} {a : Int} {junk : List Value} (h : w.heap[g]? = some (.cells (tab (fun _ => 0) n ++ tab (bt a) 520 ++ junk).toArray t (0, 0))) : BSl w (.slice (some ⟨g, 0, none⟩) (n + 520) cap) (a * 2 ^ n) (n + 520) := by
  refine ⟨g, 0, cap, _, t, _, rfl, h, fun k hk => ?_⟩
  rw [Nat.zero_add, Nat.mul_one]
  rcases Nat.lt_or_ge k n with h1 | h1
  · rw [List.getElem?_append_left (by simp [tab_length]; omega), List.getElem?_append_left (by rw [tab_length]; exact h1), tab_get h1, bt_low0 a h1]
  · rw [List.getElem?_append_left (by simp [tab_length]; omega), List.getElem?_append_right (by rw [tab_length]; exact h1), tab_length, tab_get (by omega)]
    obtain ⟨m, rfl⟩ : ∃ m, k = n + m := ⟨k - n, by omega⟩
    rw [bt_shift, show n + m - n = m by omega]
theorem tab_one_cell (F : Nat → Int) (L : Nat) : (tab F L).all (·.oneCell') = true := by
  unfold tab
  rw [List.all_eq_true]
  intro v hv
  obtain ⟨i, _, rfl⟩ := List.mem_map.1 hv
  rfl
end Go.Proofs.YtbdkbmhejoakiaaDoor
