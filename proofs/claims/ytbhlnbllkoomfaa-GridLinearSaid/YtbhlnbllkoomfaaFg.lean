/-
  Orders of points (plain); an operation with a guard (law of the walk).
-/
import Derived.Test.YtbhlnbllkoomfaaEc
set_option linter.unusedSimpArgs false
set_option linter.unusedVariables false
set_option maxRecDepth 100000
namespace Go.Proofs.Ytbhlnbllkoomfaa
open Go Go.RowKit

theorem cp_lt {x y : Int} (h : x < y) : cp x y = -1 := if_pos h
theorem cp_gt {x y : Int} (h : y < x) : cp x y = 1 := by unfold cp; rw [if_neg (by omega), if_pos h]
theorem cp_eq {x y : Int} (h : x = y) : cp x y = 0 := by unfold cp; rw [if_neg (by omega), if_neg (by omega)]
theorem fst_of {a b c : Int} (h : a ≠ 0) : fst3 a b c = a := if_neg h
theorem fst_snd {a b c : Int} (h : a = 0) (h2 : b ≠ 0) : fst3 a b c = b := by unfold fst3; rw [if_pos h, if_neg h2]
theorem fst_thd {a b c : Int} (h : a = 0) (h2 : b = 0) : fst3 a b c = c := by unfold fst3; rw [if_pos h, if_pos h2]
structure Bx (p : Prop) : Prop where
  out : p
theorem sx_guard {P : Program} {ops : Array Oper} {Q : Exit → Act → World → Prop} {rest : List Oper} {a : Act} {w : World} {dst : Option Tmp} {op : Op} {tp : TypeId} {pos : String} {af : Array Edge} {gd : Nat × Bool}
    (h : match Region.wanted ⟨dst, op, tp, pos, af, some gd⟩ (yielded ops a.tmps) with
      | true => Bx (wpList P ops Q (⟨dst, op, tp, pos, af, none⟩ :: rest) a w)
      | false => Bx (wpList P ops Q rest (a.put dst undef) w)) : wpList P ops Q (⟨dst, op, tp, pos, af, some gd⟩ :: rest) a w := by
  cases hb : Region.wanted ⟨dst, op, tp, pos, af, some gd⟩ (yielded ops a.tmps) with
  | true => rw [hb] at h; exact sx_strip hb h.out
  | false => rw [hb] at h; exact sx_unwanted hb h.out
theorem cp_range (x y : Int) : cp x y = -1 ∨ cp x y = 0 ∨ cp x y = 1 := by
  rcases Int.lt_trichotomy x y with h | h | h
  · exact .inl (cp_lt h)
  · exact .inr (.inl (cp_eq h))
  · exact .inr (.inr (cp_gt h))
theorem pcmp_range (a b : P3) : pcmp a b = -1 ∨ pcmp a b = 0 ∨ pcmp a b = 1 := by
  unfold pcmp
  by_cases h : cp a.x b.x = 0
  · by_cases h1 : cp a.y b.y = 0
    · rw [fst_thd h h1]; exact cp_range _ _
    · rw [fst_snd h h1]; exact cp_range _ _
  · rw [fst_of h]; exact cp_range _ _
/-- What the order says, coordinate by coordinate. -/
theorem pcmp_iff (a b : P3) : (pcmp a b = -1 ↔ (a.x < b.x ∨ (a.x = b.x ∧ (a.y < b.y ∨ (a.y = b.y ∧ a.z < b.z))))) ∧ (pcmp a b = 1 ↔ (b.x < a.x ∨ (a.x = b.x ∧ (b.y < a.y ∨ (a.y = b.y ∧ b.z < a.z))))) ∧ (pcmp a b = 0 ↔ (a.x = b.x ∧ a.y = b.y ∧ a.z = b.z)) := by
  unfold pcmp
  rcases Int.lt_trichotomy a.x b.x with h | h | h
  · rw [fst_of (by rw [cp_lt h]; decide), cp_lt h]; omega
  · rcases Int.lt_trichotomy a.y b.y with h1 | h1 | h1
    · rw [fst_snd (cp_eq h) (by rw [cp_lt h1]; decide), cp_lt h1]; omega
    · rcases Int.lt_trichotomy a.z b.z with h2 | h2 | h2
      · rw [fst_thd (cp_eq h) (cp_eq h1), cp_lt h2]; omega
      · rw [fst_thd (cp_eq h) (cp_eq h1), cp_eq h2]; omega
      · rw [fst_thd (cp_eq h) (cp_eq h1), cp_gt h2]; omega
    · rw [fst_snd (cp_eq h) (by rw [cp_gt h1]; decide), cp_gt h1]; omega
  · rw [fst_of (by rw [cp_gt h]; decide), cp_gt h]; omega
theorem pcmp_anti (a b : P3) : pcmp a b = -pcmp b a := by
  obtain ⟨h1, h2, h3⟩ := pcmp_iff a b
  obtain ⟨k1, k2, k3⟩ := pcmp_iff b a
  rcases pcmp_range b a with h | h | h <;> rw [h] <;> simp only [h] at k1 k2 k3
  · exact h2.2 (by omega)
  · exact h3.2 (by omega)
  · exact h1.2 (by omega)
theorem pcmp_zero (a b : P3) : pcmp a b = 0 ↔ a = b := by
  rw [(pcmp_iff a b).2.2]
  obtain ⟨ax, ay, az⟩ := a
  obtain ⟨bx, by', bz⟩ := b
  simp
theorem pcmp_trans {a b c : P3} (h1 : pcmp a b ≤ 0) (h2 : pcmp b c ≤ 0) : pcmp a c ≤ 0 ∧ (pcmp a b < 0 → pcmp a c < 0) := by
  obtain ⟨a1, a2, a3⟩ := pcmp_iff a b
  obtain ⟨b1, b2, b3⟩ := pcmp_iff b c
  obtain ⟨c1, c2, c3⟩ := pcmp_iff a c
  rcases pcmp_range a b with ha | ha | ha
  · rcases pcmp_range b c with hb | hb | hb
    · have := c1.2 (by have := a1.1 ha; have := b1.1 hb; omega)
      omega
    · have := c1.2 (by have := a1.1 ha; have := b3.1 hb; omega)
      omega
    · omega
  · rcases pcmp_range b c with hb | hb | hb
    · have := c1.2 (by have := a3.1 ha; have := b1.1 hb; omega)
      omega
    · have := c3.2 (by have := a3.1 ha; have := b3.1 hb; omega)
      omega
    · omega
  · omega
end Go.Proofs.Ytbhlnbllkoomfaa
