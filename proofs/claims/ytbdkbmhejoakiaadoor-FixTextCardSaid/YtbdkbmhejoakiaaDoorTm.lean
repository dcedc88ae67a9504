/-
  The reference's Parse: the plain law (it is parseF).
-/
import Derived.Test.YtbdkbmhejoakiaaDoorTy
set_option linter.unusedVariables false
namespace Go.Proofs.YtbdkbmhejoakiaaDoor
open Go Go.Lib Go.RowKit

/-- Digits, until one comes that is none, or the number is great. -/
def scan : Nat → List UInt8 → Nat × List UInt8
  | n, [] => (n, [])
  | n, c :: r => if 48 ≤ c.toNat ∧ c.toNat ≤ 57 ∧ n < 4294967296 then scan (n * 10 + (c.toNat - 48)) r else (n, c :: r)
def hexr : Nat → List UInt8 → Option Nat
  | t, [] => some t
  | t, c :: r => if 48 ≤ c.toNat ∧ c.toNat ≤ 57 then hexr (t * 16 + (c.toNat - 48)) r else if 97 ≤ c.toNat ∧ c.toNat ≤ 102 then hexr (t * 16 + (c.toNat - 97) + 10) r else none
def refT (l : List UInt8) (n : Nat) : Option Nat → Int × Int
  | none => (0, 6)
  | some t => if textB (signed (l.head? == some 45) (n * 4294967296 + t)) = l then (signed (l.head? == some 45) (n * 4294967296 + t), 0) else (0, 6)
def refQ (l : List UInt8) (p : Nat × List UInt8) : Int × Int :=
  if p.2.head? = some 46 ∧ p.2.length = 9 ∧ p.1 ≤ 2147483648 then refT l p.1 (hexr 0 (p.2.drop 1)) else (0, 6)
def refP (l : List UInt8) : Int × Int := refQ l (scan 0 (lessSign l))
theorem scan_of_parse : ∀ (l : List UInt8) (acc v : Nat) (r : List UInt8), acc < 4294967296 → parseUintM 4294967295 acc l = .ok v → scan acc (l ++ 46 :: r) = (v, 46 :: r)
  | [], acc, v, r, ha, h => by
    unfold parseUintM at h
    injection h with h
    subst h
    show scan acc (46 :: r) = _
    unfold scan
    rw [if_neg (by rintro ⟨h, _⟩; exact absurd h (by decide))]
  | c :: l, acc, v, r, ha, h => by
    unfold parseUintM at h
    split at h
    · rename_i hc
      split at h
      · cases h
      · split at h
        · cases h
        · rw [List.cons_append]
          unfold scan
          rw [if_pos ⟨hc.1, hc.2, ha⟩]
          exact scan_of_parse l _ v r (by omega) h
    · cases h
theorem hexr_step : ∀ (d t : Nat) (r : List UInt8), d < 16 → hexr t (hexc d :: r) = hexr (t * 16 + d) r := by
  intro d t r h
  rw [hexr]
  by_cases h1 : d < 10
  · have : (hexc d).toNat = 48 + d := by revert d; decide
    rw [if_pos (by omega), this, show 48 + d - 48 = d by omega]
  · have : (hexc d).toNat = 87 + d := by revert d; decide
    rw [if_neg (by omega), if_pos (by omega), this, show t * 16 + (87 + d - 97) + 10 = t * 16 + d by omega]
theorem hexr_hex8 {n : Nat} (h : n < 4294967296) : hexr 0 (hex8 n) = some n := by
  unfold hex8
  repeat rw [hexr_step _ _ _ (by omega)]
  rw [hexr]
  congr 1
  omega
theorem refP_text (a : Int) (ha : I64 a) : refP (textB a) = (a, 0) := by
  unfold I64 at ha
  have hu : a.natAbs / 4294967296 ≤ 4294967295 := by omega
  have hk : a.natAbs % 4294967296 < 4294967296 := by omega
  have hs : lessSign (textB a) = decDigits (a.natAbs / 4294967296) ++ 46 :: hex8 (a.natAbs % 4294967296) ∧ ((textB a).head? == some 45) = decide (a < 0) := by
    unfold lessSign textB
    by_cases h : a < 0
    · rw [if_pos h]
      simp [h]
    · rw [if_neg h, List.nil_append, if_neg (head_dec _ _)]
      refine ⟨rfl, ?_⟩
      rw [decide_eq_false h]
      exact beq_eq_false_iff_ne.2 (head_dec _ _)
  have hg : signed ((textB a).head? == some 45) (a.natAbs / 4294967296 * 4294967296 + a.natAbs % 4294967296) = a := by
    rw [hs.2, show a.natAbs / 4294967296 * 4294967296 + a.natAbs % 4294967296 = a.natAbs by omega]
    unfold signed wrap64
    by_cases h : a < 0
    · rw [decide_eq_true h, if_pos rfl]
      omega
    · rw [decide_eq_false h, if_neg (by simp)]
      omega
  unfold refP
  rw [hs.1, scan_of_parse _ _ _ _ (by omega) (parse10_dec _ hu)]
  unfold refQ
  rw [if_pos ⟨rfl, by simp [hex8], by show a.natAbs / 4294967296 ≤ _; omega⟩]
  show refT (textB a) (a.natAbs / 4294967296) (hexr 0 (hex8 (a.natAbs % 4294967296))) = _
  rw [hexr_hex8 hk]
  unfold refT
  dsimp only
  rw [hg, if_pos rfl]
theorem refP_or (l : List UInt8) : refP l = (0, 6) ∨ I64 (refP l).1 ∧ (refP l).2 = 0 ∧ textB (refP l).1 = l := by
  unfold refP refQ
  split
  · unfold refT
    split
    · exact .inl rfl
    · split
      · rename_i h
        exact .inr ⟨signed_i64 _ _, rfl, h⟩
      · exact .inl rfl
  · exact .inl rfl
theorem parseF_i64 (l : List UInt8) : I64 (parseF l).1 := by
  unfold parseF
  split
  · split
    · exact signed_i64 _ _
    · unfold I64; dsimp only; omega
  · unfold I64; dsimp only; omega
theorem parse_ref (l : List UInt8) : refP l = parseF l := by
  rcases refP_or l with h | ⟨h1, h2, h3⟩
  · rcases parseF_or l with h' | ⟨h4, h5⟩
    · rw [h, h']
    · have := refP_text (parseF l).1 (parseF_i64 l)
      rw [h5, h] at this
      injection this with _ e
      cases e
  · have := parseF_text (refP l).1 h1
    rw [h3] at this
    rw [this]
    exact Prod.ext rfl h2
end Go.Proofs.YtbdkbmhejoakiaaDoor
