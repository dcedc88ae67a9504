/-
  Dividing bit by bit: what the rounds of a quotient do (plain).
  Package ninepinref01: Div (contract).
  Package ninepinref01: Div (contract).
  Package ninepinref01: Div, whole (contract).
-/
import Derived.Test.YtbdkbmhejoakiaaDoorCa
import Derived.Test.YtbdkbmhejoakiaaDoorDe
import Derived.Test.YtbdkbmhejoakiaaDoorSg
import Derived.Test.YtbdkbmhejoakiaaDoorDf
set_option linter.unusedSimpArgs false
set_option linter.unusedVariables false
set_option maxRecDepth 100000
namespace Go.Proofs.YtbdkbmhejoakiaaDoor
open Go Go.RowKit
attribute [local irreducible] wpList

theorem tp_top {x : Int} : ∀ {k t : Nat}, tp x k = t + 1 → bt x t = 1
  | 0, t, h => by unfold tp at h; omega
  | k + 1, t, h => by
    unfold tp at h
    split at h
    · exact tp_top h
    · obtain rfl : k = t := by omega
      have := bt_bd x k
      omega
theorem ge_top {x : Int} (h0 : 0 ≤ x) {t : Nat} (h : bt x t = 1) : 2 ^ t ≤ x := by
  unfold bt at h
  have hp := pow_pos' t
  rcases Int.lt_or_le x (2 ^ t) with h1 | h1
  · rw [Int.ediv_eq_zero_of_lt h0 h1] at h
    omega
  · exact h1
theorem pow_le' {i j : Nat} (h : i ≤ j) : (2 : Int) ^ i ≤ 2 ^ j := by
  rw [pow_split h]
  have h1 := pow_pos' (j - i)
  have := Int.mul_le_mul_of_nonneg_left (show (1 : Int) ≤ 2 ^ (j - i) by omega) (Int.le_of_lt (pow_pos' i))
  omega
/-- Ahead of the first round. -/
theorem dv_start {A B : Int} (hA : 0 ≤ A) (hB : 0 < B) {tx ty k : Nat} (hx : A < 2 ^ tx) (hy : ∀ t, ty = t + 1 → bt B t = 1) (hy0 : ty = 0 → B < 1) (hk : k + ty = tx + 1 ∨ (k = 0 ∧ tx < ty)) : A < B * 2 ^ k := by
  have hp := pow_pos' k
  cases ty with
  | zero => have := hy0 rfl; omega
  | succ t =>
    have h1 := ge_top (Int.le_of_lt hB) (hy t rfl)
    have h2 : (2 : Int) ^ t * 2 ^ k ≤ B * 2 ^ k := Int.mul_le_mul_of_nonneg_right h1 (Int.le_of_lt hp)
    rw [← Int.pow_add] at h2
    have h3 := pow_le' (show tx ≤ t + k by omega)
    omega
theorem dv_room {B : Int} (hB : 0 ≤ B) {tx ty j E : Nat} (hy : B < 2 ^ ty) (hj : j + ty ≤ tx) (hE : tx ≤ E) : B * 2 ^ j / 2 ^ E = 0 := by
  refine Int.ediv_eq_zero_of_lt (Int.mul_nonneg hB (Int.le_of_lt (pow_pos' j))) ?_
  have h1 := Int.mul_lt_mul_of_pos_right hy (pow_pos' j)
  rw [← Int.pow_add] at h1
  have h2 := pow_le' (show ty + j ≤ E by omega)
  omega
theorem dv_split (A M : Int) (hM : 0 < M) : A % (M * 2) = M * (A / M % 2) + A % M := emod_split A M 2 hM (by omega)
theorem dv_up (A B : Int) (j : Nat) : A % (B * 2 ^ (j + 1)) = A % (B * 2 ^ j * 2) := by rw [Int.pow_succ, Int.mul_assoc]
theorem dv_q (A B : Int) (j : Nat) (hB : 0 < B) : A / (B * 2 ^ j) = 2 * (A / (B * 2 ^ (j + 1))) + A / (B * 2 ^ j) % 2 := by
  have hM : 0 < B * 2 ^ j := Int.mul_pos hB (pow_pos' j)
  rw [Int.pow_succ, ← Int.mul_assoc]
  generalize B * 2 ^ j = M at *
  rw [← Int.ediv_ediv_of_nonneg (Int.le_of_lt hM)]
  omega
/-- A round that takes nothing away. -/
theorem dv_no {A B : Int} (hB : 0 < B) {j : Nat} (h : A % (B * 2 ^ (j + 1)) < B * 2 ^ j) : A % (B * 2 ^ (j + 1)) = A % (B * 2 ^ j) ∧ A / (B * 2 ^ (j + 1)) * 2 ^ (j + 1) = A / (B * 2 ^ j) * 2 ^ j := by
  have hM : 0 < B * 2 ^ j := Int.mul_pos hB (pow_pos' j)
  have hq := dv_q A B j hB
  rw [dv_up] at h
  rw [dv_up]
  have hs := dv_split A (B * 2 ^ j) hM
  have h1 := Int.emod_nonneg A (show B * 2 ^ j ≠ 0 by omega)
  have h0 : A / (B * 2 ^ j) % 2 = 0 := by
    rcases (show A / (B * 2 ^ j) % 2 = 0 ∨ A / (B * 2 ^ j) % 2 = 1 by omega) with e | e
    · exact e
    · rw [e] at hs; omega
  rw [h0] at hs hq
  refine ⟨by omega, ?_⟩
  rw [hq, Int.add_zero, Int.pow_succ]
  grind
/-- A round that takes some away. -/
theorem dv_yes {A B : Int} (hB : 0 < B) {j : Nat} (h : ¬ A % (B * 2 ^ (j + 1)) < B * 2 ^ j) : A % (B * 2 ^ (j + 1)) + -(B * 2 ^ j) = A % (B * 2 ^ j) ∧ A / (B * 2 ^ (j + 1)) * 2 ^ (j + 1) + 2 ^ j = A / (B * 2 ^ j) * 2 ^ j := by
  have hM : 0 < B * 2 ^ j := Int.mul_pos hB (pow_pos' j)
  have hq := dv_q A B j hB
  rw [dv_up] at h
  rw [dv_up]
  have hs := dv_split A (B * 2 ^ j) hM
  have h1 := Int.emod_lt_of_pos A hM
  have h0 : A / (B * 2 ^ j) % 2 = 1 := by
    rcases (show A / (B * 2 ^ j) % 2 = 0 ∨ A / (B * 2 ^ j) % 2 = 1 by omega) with e | e
    · rw [e] at hs; omega
    · exact e
  rw [h0] at hs hq
  refine ⟨by omega, ?_⟩
  rw [hq, Int.pow_succ]
  grind
theorem dv_setbit (C : Int) (j L : Nat) : tab (upd (bt (C * 2 ^ (j + 1))) (j * 1) 1) L = tab (bt (C * 2 ^ (j + 1) + 2 ^ j)) L := by
  refine tab_congr fun i _ => ?_
  have e : C * 2 ^ (j + 1) + 2 ^ j = (2 * C + 1) * 2 ^ j := by rw [Int.pow_succ]; grind
  rw [Nat.mul_one, e]
  by_cases h : i = j
  · subst h
    have := bt_shift (2 * C + 1) i 0
    rw [Nat.add_zero] at this
    rw [upd_same, this]
    unfold bt
    rw [Int.pow_zero, Int.ediv_one]
    omega
  · rw [upd_ne _ _ h]
    rcases Nat.lt_or_ge i j with h1 | h1
    · rw [bt_low0 C (by omega), bt_low0 (2 * C + 1) h1]
    · obtain ⟨m, rfl⟩ : ∃ m, i = (j + 1) + m := ⟨i - (j + 1), by omega⟩
      rw [bt_shift, show j + 1 + m = j + (m + 1) by omega, bt_shift]
      unfold bt
      rw [Int.pow_succ, Int.mul_comm _ 2, ← Int.ediv_ediv_of_nonneg (by omega), show (2 * C + 1) / 2 = C by omega]
theorem dv_zero (A B : Int) (hA : 0 ≤ A) (k : Nat) (h : A < B * 2 ^ k) : A % (B * 2 ^ k) = A ∧ A / (B * 2 ^ k) * 2 ^ k = 0 := by
  rw [Int.emod_eq_of_lt hA h, Int.ediv_eq_zero_of_lt hA h]
  simp
theorem dv_done (A B : Int) : A % (B * 2 ^ 0) = A % B ∧ A / (B * 2 ^ 0) * 2 ^ 0 = A / B := by simp
theorem tab_zero (L : Nat) : tab (fun _ => 0) L = tab (bt 0) L := tab_congr fun j _ => (bt_zero j).symm
theorem tab_one (L : Nat) : tab (upd (bt 0) 0 1) L = tab (bt 1) L := by
  have := dv_setbit 0 0 L
  simp only [Int.zero_mul, Int.zero_add, Nat.zero_mul, Int.pow_zero] at this
  exact this
end Go.Proofs.YtbdkbmhejoakiaaDoor
set_option linter.unusedSimpArgs false
set_option linter.unusedVariables false
set_option maxRecDepth 100000
namespace Go.Proofs.YtbdkbmhejoakiaaDoor
open Go Go.RowKit
attribute [local irreducible] wpList

theorem results_cct {P : Program} {w : World} {fn : Func} {tmps : Array Value} {p q r : Nat} {t u : TypeId} {a b : Addr} {x y z : Value} (hf : fn.results = #[.cell p t, .cell q u, .tmp r])
    (h1 : tmps.getD p undef = .pointer (some a)) (h1' : (loadVar t a).run P w = .ok x w) (h2 : tmps.getD q undef = .pointer (some b)) (h2' : (loadVar u b).run P w = .ok y w) (h3 : tmps.getD r undef = z) :
    (results fn tmps).run P w = .ok (.tuple #[x, y, z]) w := by
  have e1 : tmps[p]?.getD undef = .pointer (some a) := by simpa using h1
  have e2 : tmps[q]?.getD undef = .pointer (some b) := by simpa using h2
  have e3 : tmps[r]?.getD undef = z := by simpa using h3
  simp [results, hf, e1, e2, e3, asAddr, h1', h2']
theorem tab_one' (L : Nat) : tab (upd (fun _ => 0) 0 1) L = tab (bt 1) L := by
  rw [← tab_one]
  refine tab_congr fun j _ => ?_
  unfold upd
  split
  · rfl
  · exact (bt_zero j).symm
theorem bsl_one {w : World} {g L : Nat} {t : TypeId} (h : w.heap[g]? = some (.cells (tab (upd (fun _ => 0) 0 1) L).toArray t (0, 0))) : BSl w (.slice (some ⟨g, 0, none⟩) L L) 1 L :=
  BSl.of (t := t) (by rw [← tab_one']; exact h)
end Go.Proofs.YtbdkbmhejoakiaaDoor
set_option linter.unusedSimpArgs false
set_option linter.unusedVariables false
set_option maxRecDepth 100000
namespace Go.Proofs.YtbdkbmhejoakiaaDoor
open Go Go.RowKit
attribute [local irreducible] wpList

theorem fq_signs {a b : Int} (hb : b ≠ 0) :
    ((decide (a < 0) == decide (b < 0)) = true → fq a b = ab a / ab b ∧ (if decide (b < 0) = true then -fr a b else fr a b) = ab a % ab b) ∧
    ((decide (a < 0) == decide (b < 0)) = false → ab a % ab b = 0 → fq a b = -(ab a / ab b) ∧ (if decide (b < 0) = true then -fr a b else fr a b) = ab a % ab b) ∧
    ((decide (a < 0) == decide (b < 0)) = false → ab a % ab b ≠ 0 → fq a b = -(ab a / ab b + 1) ∧ (if decide (b < 0) = true then -fr a b else fr a b) = ab b + -(ab a % ab b)) := by
  have hB : 0 < ab b := by unfold ab; split <;> omega
  have h1 := Int.mul_ediv_add_emod (ab a) (ab b)
  have h2 := Int.emod_nonneg (ab a) (show ab b ≠ 0 by omega)
  have h3 := Int.emod_lt_of_pos (ab a) hB
  generalize ab a / ab b = Q at *
  generalize ab a % ab b = R at *
  unfold ab at h1 hB h3 ⊢
  by_cases ha0 : a < 0 <;> by_cases hb0 : b < 0
  · simp only [ha0, hb0, if_true, decide_true, beq_self_eq_true, true_implies] at h1 hB h3 ⊢
    obtain ⟨e1, e2⟩ := fq_is (a := a) (b := b) (q := Q) (r := -R) (by grind) (.inr ⟨hb0, by omega, by omega⟩)
    rw [e1, e2]
    refine ⟨⟨rfl, by omega⟩, fun h => by simp at h, fun h => by simp at h⟩
  · simp only [ha0, hb0, if_true, if_false, decide_true, decide_false] at h1 hB h3 ⊢
    refine ⟨fun h => by simp at h, fun _ hz => ?_, fun _ hz => ?_⟩
    · obtain ⟨e1, e2⟩ := fq_is (a := a) (b := b) (q := -Q) (r := 0) (by subst hz; grind) (.inl ⟨by omega, by omega, by omega⟩)
      rw [e1, e2]
      exact ⟨rfl, by simp; omega⟩
    · obtain ⟨e1, e2⟩ := fq_is (a := a) (b := b) (q := -(Q + 1)) (r := b + -R) (by grind) (.inl ⟨by omega, by omega, by omega⟩)
      rw [e1, e2]
      exact ⟨rfl, by simp⟩
  · simp only [ha0, hb0, if_true, if_false, decide_true, decide_false] at h1 hB h3 ⊢
    refine ⟨fun h => by simp at h, fun _ hz => ?_, fun _ hz => ?_⟩
    · obtain ⟨e1, e2⟩ := fq_is (a := a) (b := b) (q := -Q) (r := 0) (by subst hz; grind) (.inr ⟨by omega, by omega, by omega⟩)
      rw [e1, e2]
      exact ⟨rfl, by omega⟩
    · obtain ⟨e1, e2⟩ := fq_is (a := a) (b := b) (q := -(Q + 1)) (r := R + b) (by grind) (.inr ⟨by omega, by omega, by omega⟩)
      rw [e1, e2]
      exact ⟨rfl, by omega⟩
  · simp only [ha0, hb0, if_true, if_false, decide_false, beq_self_eq_true, true_implies] at h1 hB h3 ⊢
    obtain ⟨e1, e2⟩ := fq_is (a := a) (b := b) (q := Q) (r := R) (by grind) (.inl ⟨by omega, by omega, by omega⟩)
    rw [e1, e2]
    refine ⟨⟨rfl, by simp⟩, fun h => by simp at h, fun h => by simp at h⟩
theorem fr_fit {a b : Int} (hb : Fit b) (hb0 : b ≠ 0) : Fit (fr a b) := by
  have key : (0 < b ∧ 0 ≤ fr a b ∧ fr a b < b) ∨ (b < 0 ∧ fr a b ≤ 0 ∧ b < fr a b) := by
    unfold fr fq
    by_cases h : b < 0
    · right
      rw [if_pos h]
      have h1 := Int.mul_ediv_add_emod (-a) (-b)
      have h2 := Int.emod_nonneg (-a) (show -b ≠ 0 by omega)
      have h3 := Int.emod_lt_of_pos (-a) (show 0 < -b by omega)
      rw [Int.neg_mul, Int.mul_comm] at h1
      omega
    · left
      rw [if_neg h]
      have h1 := Int.mul_ediv_add_emod a b
      have h2 := Int.emod_nonneg a hb0
      have h3 := Int.emod_lt_of_pos a (show 0 < b by omega)
      rw [Int.mul_comm] at h1
      omega
  unfold Fit M511 at *
  omega
theorem ab_div_le (a b : Int) : 0 ≤ ab a / ab b ∧ ab a / ab b ≤ ab a := by
  have h0 : 0 ≤ ab a := by unfold ab; split <;> omega
  have h1 : 0 ≤ ab b := by unfold ab; split <;> omega
  exact ⟨Int.ediv_nonneg h0 h1, Int.ediv_le_self _ h0⟩
theorem fq_room {a b : Int} (ha : Fit a) (hb0 : b ≠ 0) : -(M511 * 256) ≤ fq a b ∧ fq a b < M511 * 256 := by
  obtain ⟨h1, h2, h3⟩ := fq_signs (a := a) hb0
  have h4 := ab_div_le a b
  have h5 := ab_bd ha
  generalize ab a / ab b = Q at *
  have key : fq a b = Q ∨ fq a b = -Q ∨ fq a b = -(Q + 1) := by
    cases hs : (decide (a < 0) == decide (b < 0)) with
    | true => exact .inl (h1 hs).1
    | false =>
      by_cases hz : ab a % ab b = 0
      · exact .inr (.inl (h2 hs hz).1)
      · exact .inr (.inr (h3 hs hz).1)
  unfold M511 at *
  omega
end Go.Proofs.YtbdkbmhejoakiaaDoor
