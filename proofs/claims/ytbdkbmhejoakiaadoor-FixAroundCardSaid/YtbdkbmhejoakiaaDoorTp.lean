/-
  Plain: quotients, products and roots, rounded either way, and their order.
-/
import Derived.Test.YtbdkbmhejoakiaaDoorTc
set_option linter.unusedSimpArgs false
set_option linter.unusedVariables false
set_option maxRecDepth 100000
namespace Go.Proofs.YtbdkbmhejoakiaaDoor
open Go Go.RowKit

theorem run_minQ {P : Program} (ts : Array TypeId) (t : TypeId) (a b m : Int) (h : m = if b < a then b else a) : ∀ w, (Builtin.min_ ts t #[.int .i64 a, .int .i64 b]).run P w = .ok (.int .i64 m) w := by
  intro w
  subst h
  simp [Builtin.min_, Builtin.min2]
theorem run_maxQ {P : Program} (ts : Array TypeId) (t : TypeId) (a b m : Int) (h : m = if b > a then b else a) : ∀ w, (Builtin.max_ ts t #[.int .i64 a, .int .i64 b]).run P w = .ok (.int .i64 m) w := by
  intro w
  subst h
  simp [Builtin.max_, Builtin.max2]
theorem cl_mono {a b : Int} (h : a ≤ b) : cl a ≤ cl b := by
  unfold cl
  split <;> split <;> (try split) <;> (try split) <;> omega
theorem dv_pos {n b : Int} (hb : 0 < b) (hf : Fit (n / b)) : dvq n b = n / b ∧ (dvr n b = 0 ↔ b * (n / b) = n) := by
  have e : fq n b = n / b := by unfold fq; rw [if_neg (by omega)]
  have ok : dvok n b := ⟨by omega, by rw [e]; exact hf⟩
  unfold dvq dvr
  rw [if_pos ok, if_pos ok]
  unfold fr
  rw [e, Int.mul_comm (n / b)]
  exact ⟨rfl, by omega⟩
theorem dv_neg {n b : Int} (hb : b < 0) (hf : Fit (-n / -b)) : dvq n b = -n / -b ∧ (dvr n b = 0 ↔ -b * (-n / -b) = -n) := by
  have e : fq n b = -n / -b := by unfold fq; rw [if_pos hb]
  have ok : dvok n b := ⟨by omega, by rw [e]; exact hf⟩
  unfold dvq dvr
  rw [if_pos ok, if_pos ok]
  unfold fr
  rw [e, Int.mul_comm (-n / -b) b, Int.neg_mul]
  exact ⟨rfl, by omega⟩
/-- A quotient by what is above 0, rounded up. -/
theorem ceil_facts {n b : Int} (hb : 0 < b) : b * (n / b) ≤ n ∧ n < b * (n / b + 1) ∧
    (∀ C, (C = n / b ∧ b * (n / b) = n) ∨ (C = n / b + 1 ∧ b * (n / b) ≠ n) → b * (C - 1) < n ∧ n ≤ b * C) := by
  have h := Int.mul_ediv_add_emod n b
  have h0 := Int.emod_nonneg n (show b ≠ 0 by omega)
  have h1 := Int.emod_lt_of_pos n hb
  refine ⟨by omega, by rw [Int.mul_add, Int.mul_one]; omega, ?_⟩
  rintro C (⟨rfl, e⟩ | ⟨rfl, e⟩)
  · rw [Int.mul_sub, Int.mul_one]
    omega
  · rw [show n / b + 1 - 1 = n / b by omega, Int.mul_add, Int.mul_one]
    omega
theorem mul_lt_of {b x y : Int} (hb : 0 < b) (h : b * x < b * y) : x < y := by
  by_cases h1 : x < y
  · exact h1
  · have := Int.mul_le_mul_of_nonneg_left (show y ≤ x by omega) (Int.le_of_lt hb)
    omega
theorem qv_pos {n b : Int} (hb : 0 < b) (hf : Fit (n / b)) : b * (qv n b true - 1) < n ∧ n ≤ b * qv n b true ∧ ((qv n b true = n / b ∧ b * (n / b) = n) ∨ (qv n b true = n / b + 1 ∧ b * (n / b) ≠ n)) := by
  obtain ⟨e1, e2⟩ := dv_pos hb hf
  obtain ⟨_, _, h⟩ := ceil_facts (n := n) hb
  have key : (qv n b true = n / b ∧ b * (n / b) = n) ∨ (qv n b true = n / b + 1 ∧ b * (n / b) ≠ n) := by
    unfold qv
    by_cases h0 : dvr n b = 0
    · rw [if_neg (by simp [h0]), e1]
      exact .inl ⟨rfl, e2.1 h0⟩
    · rw [if_pos ⟨rfl, h0⟩, e1]
      exact .inr ⟨rfl, fun e => h0 (e2.2 e)⟩
  exact ⟨(h _ key).1, (h _ key).2, key⟩
theorem qv_mono {m n b : Int} (hb : 0 < b) (hm : Fit (m / b)) (hn : Fit (n / b)) (h : m ≤ n) : qv m b true ≤ qv n b true := by
  obtain ⟨a1, _, _⟩ := qv_pos hb hm
  obtain ⟨_, b2, _⟩ := qv_pos hb hn
  have := mul_lt_of hb (show b * (qv m b true - 1) < b * qv n b true by omega)
  omega
theorem div_mono {m n b : Int} (hb : 0 < b) (h : m ≤ n) : m / b ≤ n / b := Int.ediv_le_ediv hb h
theorem fit32 {p : Int} (h : -85070591730234615865843651857942052864 ≤ p ∧ p ≤ 85070591730234615865843651857942052864) : Fit (p / 4294967296) := (dvq_32 h).2
theorem fitdv {a b : Int} (ha : I64 a) (hb : 0 < b) : Fit (a * 4294967296 / b) := by
  have := ediv_bd (M := 39614081257132168796771975168) (by omega) (show -39614081257132168796771975168 ≤ a * 4294967296 ∧ a * 4294967296 ≤ 39614081257132168796771975168 by unfold I64 at ha; omega) hb
  unfold Fit M511
  omega
theorem mulU_mono {x y c : Int} (hx : I64 x) (hy : I64 y) (hc : I64 c) (h0 : 0 ≤ c) (h : x ≤ y) : mulU x c ≤ mulU y c := by
  unfold mulU
  exact cl_mono (qv_mono (by omega) (fit32 (i64_mul hx hc)) (fit32 (i64_mul hy hc)) (Int.mul_le_mul_of_nonneg_right h h0))
theorem mulD_mono {x y c : Int} (h0 : 0 ≤ c) (h : x ≤ y) : cl (x * c / 4294967296) ≤ cl (y * c / 4294967296) := cl_mono (div_mono (by omega) (Int.mul_le_mul_of_nonneg_right h h0))
theorem dq_mono {x y c : Int} (hx : I64 x) (hy : I64 y) (h0 : 0 < c) (h : x ≤ y) : dq x c ≤ dq y c := by
  unfold dq
  rw [if_neg (by omega), if_neg (by omega), (dv_pos h0 (fitdv hx h0)).1, (dv_pos h0 (fitdv hy h0)).1]
  exact cl_mono (div_mono h0 (by omega))
theorem dqU_mono {x y c : Int} (hx : I64 x) (hy : I64 y) (h0 : 0 < c) (h : x ≤ y) : dqU x c ≤ dqU y c := by
  unfold dqU
  rw [if_neg (by omega), if_neg (by omega)]
  exact cl_mono (qv_mono h0 (fitdv hx h0) (fitdv hy h0) (by omega))
/-- A root, rounded either way. -/
theorem rootv_facts {a : Int} (ha : I64 a) (h : 0 ≤ a) : 0 ≤ rootv a false ∧ rootv a false ≤ 199032864766430 ∧ rootv a false * rootv a false ≤ a * 4294967296 ∧ a * 4294967296 < (rootv a false + 1) * (rootv a false + 1) ∧
    ((rootv a true = rootv a false ∧ rootv a false * rootv a false = a * 4294967296) ∨ (rootv a true = rootv a false + 1 ∧ rootv a false * rootv a false ≠ a * 4294967296)) := by
  obtain ⟨r0, r1⟩ := root_bd ha h
  have hs := rt_spec (n := a * 4294967296) (by omega)
  have hd : rootv a false = rt (a * 4294967296) := by
    unfold rootv
    rw [if_neg (show ¬ a < 0 by omega), if_neg (by simp)]
  have hu : rootv a true = if true = true ∧ rt (a * 4294967296) * rt (a * 4294967296) ≠ a * 4294967296 then rt (a * 4294967296) + 1 else rt (a * 4294967296) := by
    unfold rootv
    rw [if_neg (show ¬ a < 0 by omega)]
  rw [hd, hu]
  refine ⟨r0, r1, hs.1, hs.2, ?_⟩
  by_cases he : rt (a * 4294967296) * rt (a * 4294967296) = a * 4294967296
  · rw [if_neg (by simp [he])]
    exact .inl ⟨rfl, he⟩
  · rw [if_pos ⟨rfl, he⟩]
    exact .inr ⟨rfl, he⟩
theorem rootv_neg {a : Int} (h : a < 0) (up : Bool) : rootv a up = 0 := by
  unfold rootv
  rw [if_pos h]
theorem sq_lt_of {x y : Int} (hx : 0 ≤ x) (hy : 0 ≤ y) (h : x * x < y * y) : x < y := by
  by_cases h1 : x < y
  · exact h1
  · have := sq_mono (a := y) (b := x) hy (by omega)
    omega
theorem rootv_mono {x y : Int} (hx : I64 x) (hy : I64 y) (h : x ≤ y) : rootv x false ≤ rootv y false ∧ rootv x true ≤ rootv y true := by
  by_cases h0 : x < 0
  · rw [rootv_neg h0, rootv_neg h0]
    by_cases h1 : y < 0
    · rw [rootv_neg h1, rootv_neg h1]; omega
    · obtain ⟨r0, _, _, _, r3⟩ := rootv_facts hy (by omega)
      omega
  · obtain ⟨r0, _, r1, r2, r3⟩ := rootv_facts hx (by omega)
    obtain ⟨s0, _, s1, s2, s3⟩ := rootv_facts hy (by omega)
    have k1 := sq_lt_of (x := rootv x false) (y := rootv y false + 1) r0 (by omega) (by omega)
    refine ⟨by omega, ?_⟩
    rcases s3 with ⟨s3, s4⟩ | ⟨s3, s4⟩
    · rcases r3 with ⟨r3, r4⟩ | ⟨r3, r4⟩
      · omega
      · have := sq_lt_of (x := rootv x false) (y := rootv y false) r0 s0 (by omega)
        omega
    · omega
end Go.Proofs.YtbdkbmhejoakiaaDoor
