/-
  Texts of numbers: the plain law (what is written is read back).
-/
import Derived.Test.YtbdkbmhejoakiaaDoorHeap
import Derived.Test.YtbdkbmhejoakiaaDoorGx
import Derived.Lib.ItoaNum
import Derived.Lib.ParseIntB
set_option linter.unusedVariables false
namespace Go.Proofs.YtbdkbmhejoakiaaDoor
open Go Go.Lib Go.RowKit

def hexc (d : Nat) : UInt8 := UInt8.ofNat (if d < 10 then 48 + d else 87 + d)
def hex8 (n : Nat) : List UInt8 := [hexc (n / 268435456 % 16), hexc (n / 16777216 % 16), hexc (n / 1048576 % 16), hexc (n / 65536 % 16), hexc (n / 4096 % 16), hexc (n / 256 % 16), hexc (n / 16 % 16), hexc (n % 16)]
/-- The text of a number, P2.5. -/
def textB (a : Int) : List UInt8 := (if a < 0 then [45] else []) ++ (decDigits (a.natAbs / 4294967296) ++ 46 :: hex8 (a.natAbs % 4294967296))
/-- A digit of base 16, as ParseUint reads it: letters above f are digits of a greater base. -/
def dig16 (c : UInt8) : Option Nat := if 48 ≤ c.toNat ∧ c.toNat ≤ 57 then some (c.toNat - 48) else if 97 ≤ (c ||| 32).toNat ∧ (c ||| 32).toNat ≤ 122 then (if (c ||| 32).toNat - 87 < 16 then some ((c ||| 32).toNat - 87) else none) else none
def parse16 (acc : Nat) : List UInt8 → NumEnd Nat
  | [] => .ok acc
  | c :: r => match dig16 c with
    | none => .syntax
    | some d => if 4294967295 < acc * 16 + d then .range else parse16 (acc * 16 + d) r
def pu10 (l : List UInt8) : NumEnd Nat := if l = [] then .syntax else parseUintM 4294967295 0 l
def pu16 (l : List UInt8) : NumEnd Nat := if l = [] then .syntax else parse16 0 l
def cutA (l : List UInt8) : List UInt8 := l.takeWhile (fun c => c != 46)
def cutB (l : List UInt8) : List UInt8 := (l.dropWhile (fun c => c != 46)).drop 1
def lessSign (l : List UInt8) : List UInt8 := if l.head? = some 45 then l.drop 1 else l
/-- What Parse comes to. -/
def signed (below : Bool) (n : Nat) : Int := if below then wrap64 (-(wrap64 n)) else wrap64 n
def parseF (l : List UInt8) : Int × Int :=
  match pu10 (cutA (lessSign l)), pu16 (cutB (lessSign l)) with
  | .ok n, .ok k => if textB (signed (l.head? == some 45) (n * 4294967296 + k)) = l then (signed (l.head? == some 45) (n * 4294967296 + k), 0) else (0, 6)
  | _, _ => (0, 6)
theorem hexc_dig : ∀ d, d < 16 → dig16 (hexc d) = some d := by decide
theorem hexc_ne : ∀ d, d < 16 → hexc d ≠ 46 := by decide
theorem pu16_hex8 {n : Nat} (h : n < 4294967296) : pu16 (hex8 n) = .ok n := by
  unfold pu16
  rw [if_neg (by unfold hex8; simp)]
  unfold hex8
  have hd : ∀ m, dig16 (hexc (m % 16)) = some (m % 16) := fun m => hexc_dig _ (by omega)
  simp only [parse16, hd]
  repeat rw [if_neg (by omega)]
  rw [show ((((((((0 * 16 + n / 268435456 % 16) * 16 + n / 16777216 % 16) * 16 + n / 1048576 % 16) * 16 + n / 65536 % 16) * 16 + n / 4096 % 16) * 16 + n / 256 % 16) * 16 + n / 16 % 16) * 16 + n % 16) = n by omega]
theorem parse10_last (M : Nat) (c : UInt8) (hc : 48 ≤ c.toNat ∧ c.toNat ≤ 57) : ∀ (l : List UInt8) (acc v : Nat), parseUintM M acc l = .ok v → v < 1844674407370955162 → v * 10 + (c.toNat - 48) ≤ M → parseUintM M acc (l ++ [c]) = .ok (v * 10 + (c.toNat - 48))
  | [], acc, v, h, h1, h2 => by
    unfold parseUintM at h
    injection h with h
    subst h
    show parseUintM M acc [c] = _
    unfold parseUintM
    rw [if_pos hc, if_neg (by omega), if_neg (by omega)]
    rfl
  | x :: l, acc, v, h, h1, h2 => by
    unfold parseUintM at h
    rw [List.cons_append]
    unfold parseUintM
    split at h
    · rename_i hx
      rw [if_pos hx]
      split at h
      · cases h
      · rename_i h3
        rw [if_neg h3]
        split at h
        · cases h
        · rename_i h4
          rw [if_neg h4]
          exact parse10_last M c hc l _ v h h1 h2
    · cases h
theorem digit_nat (k : Nat) (h : k < 10) : (UInt8.ofNat (48 + k)).toNat = 48 + k := by
  rw [UInt8.toNat_ofNat']
  omega
theorem parse10_dec : ∀ (u : Nat), u ≤ 4294967295 → parseUintM 4294967295 0 (decDigits u) = .ok u := by
  intro u
  induction u using Nat.strongRecOn with
  | ind u ih =>
    intro h
    rw [decDigits]
    by_cases h1 : u < 10
    · rw [dif_pos h1]
      unfold parseUintM
      rw [digit_nat u h1, if_pos (by omega), if_neg (by omega), if_neg (by omega)]
      unfold parseUintM
      congr 1
      omega
    · rw [dif_neg h1]
      have hd := digit_nat (u % 10) (by omega)
      have := parse10_last 4294967295 (UInt8.ofNat (48 + u % 10)) (by omega) _ 0 (u / 10) (ih (u / 10) (by omega) (by omega)) (by omega) (by omega)
      rw [this, hd]
      congr 1
      omega
theorem dec_ne (u : Nat) : decDigits u ≠ [] := by
  rw [decDigits]
  split <;> simp
theorem dec_digit : ∀ (u : Nat) (c : UInt8), c ∈ decDigits u → 48 ≤ c.toNat ∧ c.toNat ≤ 57 := by
  intro u
  induction u using Nat.strongRecOn with
  | ind u ih =>
    intro c hc
    rw [decDigits] at hc
    by_cases h1 : u < 10
    · rw [dif_pos h1] at hc
      simp only [List.mem_cons, List.not_mem_nil, or_false] at hc
      rw [hc, digit_nat u h1]
      omega
    · rw [dif_neg h1] at hc
      rcases List.mem_append.1 hc with hc | hc
      · exact ih (u / 10) (by omega) c hc
      · simp only [List.mem_cons, List.not_mem_nil, or_false] at hc
        rw [hc, digit_nat (u % 10) (by omega)]
        omega
theorem cut_text (u : Nat) (r : List UInt8) : cutA (decDigits u ++ 46 :: r) = decDigits u ∧ cutB (decDigits u ++ 46 :: r) = r := by
  have h : ∀ c ∈ decDigits u, (c != 46) = true := fun c hc => by
    have := dec_digit u c hc
    rw [bne_iff_ne]
    intro e
    rw [e] at this
    simp at this
  unfold cutA cutB
  rw [List.takeWhile_append_of_pos h, List.dropWhile_append_of_pos h]
  simp
theorem head_dec (u : Nat) (r : List UInt8) : (decDigits u ++ r).head? ≠ some 45 := by
  cases e : decDigits u with
  | nil => exact absurd e (dec_ne u)
  | cons c l =>
    have := dec_digit u c (by rw [e]; simp)
    rw [List.cons_append, List.head?_cons]
    intro h
    injection h with h
    rw [h] at this
    simp at this
theorem pu10_dec {u : Nat} (h : u ≤ 4294967295) : pu10 (decDigits u) = .ok u := by
  unfold pu10
  rw [if_neg (dec_ne u), parse10_dec u h]
/-- What is written is read back. -/
theorem parseF_text (a : Int) (ha : I64 a) : parseF (textB a) = (a, 0) := by
  unfold I64 at ha
  have hu : a.natAbs / 4294967296 ≤ 4294967295 := by omega
  have hk : a.natAbs % 4294967296 < 4294967296 := by omega
  obtain ⟨c1, c2⟩ := cut_text (a.natAbs / 4294967296) (hex8 (a.natAbs % 4294967296))
  have hs : lessSign (textB a) = decDigits (a.natAbs / 4294967296) ++ 46 :: hex8 (a.natAbs % 4294967296) ∧ ((textB a).head? == some 45) = decide (a < 0) := by
    unfold lessSign textB
    by_cases h : a < 0
    · rw [if_pos h]
      simp [h]
    · rw [if_neg h, List.nil_append, if_neg (head_dec _ _)]
      refine ⟨rfl, ?_⟩
      rw [decide_eq_false h]
      exact beq_eq_false_iff_ne.2 (head_dec _ _)
  have hg : signed ((textB a).head? == some 45) (a.natAbs / 4294967296 * 4294967296 + a.natAbs % 4294967296) = a := by
    rw [hs.2, show a.natAbs / 4294967296 * 4294967296 + a.natAbs % 4294967296 = a.natAbs by omega]
    unfold signed wrap64
    by_cases h : a < 0
    · rw [decide_eq_true h, if_pos rfl]
      omega
    · rw [decide_eq_false h, if_neg (by simp)]
      omega
  unfold parseF
  rw [hs.1, c1, c2, pu10_dec hu, pu16_hex8 hk]
  dsimp only
  rw [hg, if_pos rfl]
/-- What is read is written so. -/
theorem parseF_or (l : List UInt8) : parseF l = (0, 6) ∨ (parseF l).2 = 0 ∧ textB (parseF l).1 = l := by
  unfold parseF
  split
  · split
    · rename_i h
      exact .inr ⟨rfl, h⟩
    · exact .inl rfl
  · exact .inl rfl
end Go.Proofs.YtbdkbmhejoakiaaDoor
