/-
  Points in simplices: what is inside of a face, and the middle of two points, is inside (plain).
-/
import Derived.Test.YthnpmmpcejfllaaPr
set_option linter.unusedSimpArgs false
set_option linter.unusedVariables false
namespace Go.Proofs.Ythnpmmpcejfllaa
open Go Go.RowKit

/-- No plane parts p from these points. -/
def Cv (vs : List P3) (p : P3) : Prop := ∀ m x : P3, (∀ v ∈ vs, 0 ≤ m.dot (v.sub x)) → 0 ≤ m.dot (p.sub x)
theorem Cv.mono {vs ws : List P3} {p : P3} (h : Cv vs p) (hs : ∀ v ∈ vs, v ∈ ws) : Cv ws p := fun m x hx => h m x fun v hv => hx v (hs v hv)
theorem Cv.self {vs : List P3} {p : P3} (h : p ∈ vs) : Cv vs p := fun m x hx => hx p h
def P3.scale (k : Int) (m : P3) : P3 := ⟨k * m.x, k * m.y, k * m.z⟩
theorem scale_dot (k : Int) (m q : P3) : (m.scale k).dot q = k * m.dot q := by
  simp only [P3.scale, P3.dot]
  grind
theorem dot_shift (m p x y : P3) : m.dot (p.sub x) = m.dot (p.sub y) + m.dot (y.sub x) := by
  simp only [P3.dot, P3.sub]
  grind
theorem Cv.zero {vs : List P3} {p m x : P3} (h : Cv vs p) (hx : ∀ v ∈ vs, m.dot (v.sub x) = 0) : m.dot (p.sub x) = 0 := by
  have h1 := h m x fun v hv => by rw [hx v hv]; omega
  have h2 := h (m.scale (-1)) x fun v hv => by rw [scale_dot, hx v hv]; omega
  rw [scale_dot] at h2
  omega
theorem nonneg_of_mul {W F : Int} (hW : 0 < W) (h : 0 ≤ W * F) : 0 ≤ F := by
  by_cases hF : F < 0
  · have := Int.mul_neg_of_pos_of_neg hW hF
    omega
  · omega
theorem sq_nonneg (x : Int) : 0 ≤ x * x := by
  rcases Int.le_total 0 x with h | h
  · exact Int.mul_nonneg h h
  · have := Int.mul_nonneg (a := -x) (b := -x) (by omega) (by omega)
    rwa [Int.neg_mul_neg] at this
theorem sq_pos {n : P3} (h : n ≠ ⟨0, 0, 0⟩) : 0 < n.dot n := by
  obtain ⟨x, y, z⟩ := n
  simp only [P3.dot]
  have hx := sq_nonneg x
  have hy := sq_nonneg y
  have hz := sq_nonneg z
  by_cases h' : 0 < x * x + y * y + z * z
  · exact h'
  · exfalso
    have h1 : x * x = 0 := by omega
    have h2 : y * y = 0 := by omega
    have h3 : z * z = 0 := by omega
    have e1 : x = 0 := (Int.mul_eq_zero.1 h1).elim id id
    have e2 : y = 0 := (Int.mul_eq_zero.1 h2).elim id id
    have e3 : z = 0 := (Int.mul_eq_zero.1 h3).elim id id
    exact h (by rw [e1, e2, e3])
/-- Two points, with weights. -/
theorem cv_two {x y p : P3} (W s : Int) (hW : 0 < W) (h0 : 0 ≤ s) (h1 : s ≤ W) (hx : W * (p.x - x.x) = s * (y.x - x.x)) (hy : W * (p.y - x.y) = s * (y.y - x.y)) (hz : W * (p.z - x.z) = s * (y.z - x.z)) : Cv [x, y] p := by
  intro m b hv
  have hA := hv x (by simp)
  have hB := hv y (by simp)
  refine nonneg_of_mul hW ?_
  have e : W * m.dot (p.sub b) = (W - s) * m.dot (x.sub b) + s * m.dot (y.sub b) := by
    simp only [P3.dot, P3.sub]
    grind
  rw [e]
  have := Int.mul_nonneg (by omega : 0 ≤ W - s) hA
  have := Int.mul_nonneg h0 hB
  omega
theorem cv_three {x y z p : P3} (W s t : Int) (hW : 0 < W) (h0 : 0 ≤ s) (h1 : 0 ≤ t) (h2 : s + t ≤ W) (hx : W * (p.x - x.x) = s * (y.x - x.x) + t * (z.x - x.x)) (hy : W * (p.y - x.y) = s * (y.y - x.y) + t * (z.y - x.y)) (hz : W * (p.z - x.z) = s * (y.z - x.z) + t * (z.z - x.z)) : Cv [x, y, z] p := by
  intro m b hv
  have hA := hv x (by simp)
  have hB := hv y (by simp)
  have hC := hv z (by simp)
  refine nonneg_of_mul hW ?_
  have e : W * m.dot (p.sub b) = (W - s - t) * m.dot (x.sub b) + s * m.dot (y.sub b) + t * m.dot (z.sub b) := by
    simp only [P3.dot, P3.sub]
    grind
  rw [e]
  have := Int.mul_nonneg (by omega : 0 ≤ W - s - t) hA
  have := Int.mul_nonneg h0 hB
  have := Int.mul_nonneg h1 hC
  omega
theorem sub_ne {a b : P3} (h : b ≠ a) : b.sub a ≠ ⟨0, 0, 0⟩ := by
  intro h'
  apply h
  obtain ⟨ax, ay, az⟩ := a
  obtain ⟨bx, by', bz⟩ := b
  simp only [P3.sub, P3.mk.injEq] at h' ⊢
  omega
theorem cv_of_between {x y p : P3} (hne : y ≠ x) (h : betweenb x y p = true) : Cv [x, y] p := by
  unfold betweenb at h
  simp only [decide_eq_true_eq] at h
  obtain ⟨hc, h0, h1⟩ := h
  have hW := sq_pos (sub_ne hne)
  refine cv_two _ _ hW h0 h1 ?_ ?_ ?_
  all_goals
    simp only [P3.cross, P3.sub, P3.mk.injEq] at hc
    simp only [P3.dot, P3.sub]
    generalize y.x - x.x = ux at *
    generalize y.y - x.y = uy at *
    generalize y.z - x.z = uz at *
    generalize p.x - x.x = qx at *
    generalize p.y - x.y = qy at *
    generalize p.z - x.z = qz at *
    obtain ⟨h1, h2, h3⟩ := hc
    grind
theorem grass (u v q : P3) : ∀ n, n = u.cross v → n.dot n * q.x = n.dot (q.cross v) * u.x + n.dot (u.cross q) * v.x + n.dot q * n.x ∧ n.dot n * q.y = n.dot (q.cross v) * u.y + n.dot (u.cross q) * v.y + n.dot q * n.y ∧ n.dot n * q.z = n.dot (q.cross v) * u.z + n.dot (u.cross q) * v.z + n.dot q * n.z := by
  rintro n rfl
  simp only [P3.dot, P3.cross]
  refine ⟨?_, ?_, ?_⟩ <;> grind
theorem cv_of_within {x y z p : P3} (hne : (y.sub x).cross (z.sub x) ≠ ⟨0, 0, 0⟩) (h : withinb x y z p = true) : Cv [x, y, z] p := by
  unfold withinb at h
  simp only [decide_eq_true_eq] at h
  obtain ⟨hp, h1, h2, h3⟩ := h
  have hW := sq_pos hne
  have hg := grass (y.sub x) (z.sub x) (p.sub x) _ rfl
  have e3 : edge ((y.sub x).cross (z.sub x)) z x p = ((y.sub x).cross (z.sub x)).dot ((p.sub x).cross (z.sub x)) := by
    unfold edge
    congr 1
    simp only [P3.cross, P3.sub, P3.mk.injEq]
    grind
  have e2 : edge ((y.sub x).cross (z.sub x)) y z p = ((y.sub x).cross (z.sub x)).dot ((y.sub x).cross (z.sub x)) - ((y.sub x).cross (z.sub x)).dot ((p.sub x).cross (z.sub x)) - ((y.sub x).cross (z.sub x)).dot ((y.sub x).cross (p.sub x)) := by
    have e : ∀ n : P3, n.dot ((z.sub y).cross (p.sub y)) = n.dot ((y.sub x).cross (z.sub x)) - n.dot ((p.sub x).cross (z.sub x)) - n.dot ((y.sub x).cross (p.sub x)) := by
      intro n
      simp only [P3.dot, P3.cross, P3.sub]
      grind
    exact e _
  have e1 : edge ((y.sub x).cross (z.sub x)) x y p = ((y.sub x).cross (z.sub x)).dot ((y.sub x).cross (p.sub x)) := rfl
  rw [e1] at h1
  rw [e2] at h2
  rw [e3] at h3
  rw [hp] at hg
  generalize ((y.sub x).cross (z.sub x)).dot ((y.sub x).cross (z.sub x)) = W at *
  generalize ((y.sub x).cross (z.sub x)).dot ((p.sub x).cross (z.sub x)) = s at *
  generalize ((y.sub x).cross (z.sub x)).dot ((y.sub x).cross (p.sub x)) = t at *
  simp only [P3.sub] at hg
  exact cv_three W s t hW h3 h1 (by omega) (by omega) (by omega) (by omega)
theorem cv_mid {x y p : P3} (hx : 2 * p.x = x.x + y.x) (hy : 2 * p.y = x.y + y.y) (hz : 2 * p.z = x.z + y.z) : Cv [x, y] p :=
  cv_two 2 1 (by omega) (by omega) (by omega) (by omega) (by omega) (by omega)

/-! ### A simplex, by what raised it -/
theorem spst_le (ps : List P3) : ∀ k, (spst ps k).1.length ≤ k
  | 0 => by simp [spst]
  | k + 1 => by
    have := spst_le ps k
    unfold spst
    cases ps[k]? with
    | none => dsimp only; omega
    | some p =>
      dsimp only
      split
      · simp; omega
      · omega
theorem spst_full (ps : List P3) : ∀ k, k ≤ ps.length → (spst ps k).1.length = k → (spst ps k).1 = ps.take k
  | 0, _, _ => by simp [spst]
  | k + 1, hk, h => by
    have hl := spst_le ps k
    have hp : ps[k]? = some ps[k] := List.getElem?_eq_getElem (by omega)
    unfold spst at h ⊢
    rw [hp] at h ⊢
    dsimp only at h ⊢
    split
    · rename_i hr
      rw [if_pos hr] at h
      simp only [List.length_append, List.length_cons, List.length_nil] at h
      rw [spst_full ps k (by omega) (by omega), List.take_add_one, hp]
      rfl
    · rename_i hr
      rw [if_neg hr] at h
      omega
theorem simplex_raised {ps : List P3} (h : simplexb ps = true) : fineb ps = true ∧ 1 ≤ ps.length ∧ ps.length ≤ 4 ∧ Raised [] ps := by
  unfold simplexb at h
  simp only [decide_eq_true_eq] at h
  obtain ⟨h1, h4, he, hr⟩ := h
  unfold rankO at he hr
  have hs : (spreadO ps).2 = 0 := by
    split at he
    · assumption
    · exact he
  rw [if_pos hs] at hr
  have hf : fineb ps = true ∧ spreadO ps = (spread ps, 0) := by
    unfold spreadO at hs ⊢
    split at hs
    · cases hs
    · rename_i hf
      rw [if_neg hf]
      split at hs
      · cases hs
      · rename_i h2
        rw [if_neg h2]
        exact ⟨by simpa using hf, rfl⟩
  rw [hf.2] at hr
  dsimp only at hr
  obtain ⟨_, hl, _⟩ := spst_ok ps ps.length
  have hfull := spst_full ps ps.length (Nat.le_refl _) (by rw [hl]; unfold spread at hr; omega)
  rw [List.take_length] at hfull
  refine ⟨hf.1, h1, h4, ?_⟩
  rw [← hfull]
  exact spst_raised ps ps.length
theorem simplex_of {ps : List P3} (hf : fineb ps = true) (h1 : 1 ≤ ps.length) (h4 : ps.length ≤ 4) (hr : Raised [] ps) : simplexb ps = true := by
  unfold simplexb
  simp only [decide_eq_true_eq]
  have hs : spreadO ps = (spread ps, 0) := by
    unfold spreadO
    rw [if_neg (by rw [hf]; simp), if_neg (by omega)]
  unfold rankO
  rw [hs]
  dsimp only
  rw [if_pos rfl, spread_all hr]
  exact ⟨h1, h4, rfl, rfl⟩

/-! ### What no plane parts from a simplex is inside -/
theorem dot_nonneg (n : P3) : 0 ≤ n.dot n := by
  have h1 := sq_nonneg n.x
  have h2 := sq_nonneg n.y
  have h3 := sq_nonneg n.z
  simp only [P3.dot]
  omega
theorem between_of_cv {a b p : P3} (h : Cv [a, b] p) : betweenb a b p = true := by
  have zero : ∀ m : P3, m.dot (a.sub a) = 0 := by intro m; simp only [P3.dot, P3.sub]; grind
  have hx := h.zero (m := ⟨0, -(b.sub a).z, (b.sub a).y⟩) (x := a) (by
    intro v hv
    simp only [List.mem_cons, List.not_mem_nil, or_false] at hv
    rcases hv with rfl | rfl
    · exact zero _
    · simp only [P3.dot, P3.sub]; grind)
  have hy := h.zero (m := ⟨(b.sub a).z, 0, -(b.sub a).x⟩) (x := a) (by
    intro v hv
    simp only [List.mem_cons, List.not_mem_nil, or_false] at hv
    rcases hv with rfl | rfl
    · exact zero _
    · simp only [P3.dot, P3.sub]; grind)
  have hz := h.zero (m := ⟨-(b.sub a).y, (b.sub a).x, 0⟩) (x := a) (by
    intro v hv
    simp only [List.mem_cons, List.not_mem_nil, or_false] at hv
    rcases hv with rfl | rfl
    · exact zero _
    · simp only [P3.dot, P3.sub]; grind)
  have h0 := h (b.sub a) a (by
    intro v hv
    simp only [List.mem_cons, List.not_mem_nil, or_false] at hv
    rcases hv with rfl | rfl
    · rw [zero]; omega
    · exact dot_nonneg _)
  have h1 := h ((b.sub a).scale (-1)) b (by
    intro v hv
    simp only [List.mem_cons, List.not_mem_nil, or_false] at hv
    rcases hv with rfl | rfl
    · have e : ((b.sub v).scale (-1)).dot (v.sub b) = (b.sub v).dot (b.sub v) := by simp only [P3.dot, P3.sub, P3.scale]; grind
      rw [e]
      exact dot_nonneg _
    · have e : ((v.sub a).scale (-1)).dot (v.sub v) = 0 := by simp only [P3.dot, P3.sub, P3.scale]; grind
      rw [e]; omega)
  unfold betweenb
  simp only [decide_eq_true_eq]
  refine ⟨?_, h0, ?_⟩
  · simp only [P3.dot] at hx hy hz
    simp only [P3.cross, P3.mk.injEq]
    refine ⟨by grind, by grind, by grind⟩
  · have e : ((b.sub a).scale (-1)).dot (p.sub b) = (b.sub a).dot (b.sub a) - (b.sub a).dot (p.sub a) := by simp only [P3.dot, P3.sub, P3.scale]; grind
    omega
theorem edge_eq (n x y p : P3) : edge n x y p = (n.cross (y.sub x)).dot (p.sub x) := by
  unfold edge
  simp only [P3.dot, P3.cross]
  grind
theorem edge_self (n x y : P3) : edge n x y x = 0 ∧ edge n x y y = 0 := by
  simp only [edge, P3.dot, P3.cross, P3.sub]
  constructor <;> grind
theorem edge_third (a b c : P3) : ∀ n, n = (b.sub a).cross (c.sub a) → edge n a b c = n.dot n ∧ edge n b c a = n.dot n ∧ edge n c a b = n.dot n ∧ n.dot (a.sub a) = 0 ∧ n.dot (b.sub a) = 0 ∧ n.dot (c.sub a) = 0 := by
  intro n hn
  have e1 : (b.sub a).cross (c.sub a) = n := hn.symm
  have e2 : (c.sub b).cross (a.sub b) = n := by
    rw [hn]; simp only [P3.cross, P3.sub, P3.mk.injEq]; refine ⟨by grind, by grind, by grind⟩
  have e3 : (a.sub c).cross (b.sub c) = n := by
    rw [hn]; simp only [P3.cross, P3.sub, P3.mk.injEq]; refine ⟨by grind, by grind, by grind⟩
  unfold edge
  rw [e1, e2, e3]
  refine ⟨rfl, rfl, rfl, ?_, ?_, ?_⟩
  all_goals
    rw [hn]
    simp only [P3.dot, P3.cross, P3.sub]
    grind
theorem within_of_cv {a b c p : P3} (h : Cv [a, b, c] p) : withinb a b c p = true := by
  unfold withinb
  simp only [decide_eq_true_eq]
  obtain ⟨t1, t2, t3, z1, z2, z3⟩ := edge_third a b c _ rfl
  generalize (b.sub a).cross (c.sub a) = n at *
  have hn := dot_nonneg n
  refine ⟨?_, ?_, ?_, ?_⟩
  · refine h.zero fun v hv => ?_
    simp only [List.mem_cons, List.not_mem_nil, or_false] at hv
    rcases hv with rfl | rfl | rfl <;> assumption
  all_goals
    rw [edge_eq]
    refine h _ _ fun v hv => ?_
    rw [← edge_eq]
    simp only [List.mem_cons, List.not_mem_nil, or_false] at hv
    rcases hv with rfl | rfl | rfl
    all_goals first | (rw [(edge_self n _ _).1]; omega) | (rw [(edge_self n _ _).2]; omega) | (rw [t1]; exact hn) | (rw [t2]; exact hn) | (rw [t3]; exact hn)
theorem sgn_mul {a b : Int} (h : 0 ≤ a * b) : 0 ≤ sgn a * sgn b := by
  unfold sgn
  by_cases ha : a < 0
  · by_cases hb : b < 0
    · simp [ha, hb]
    · by_cases hb0 : b = 0
      · simp [hb0]
      · have := Int.mul_neg_of_neg_of_pos ha (by omega : 0 < b)
        omega
  · by_cases ha0 : a = 0
    · simp [ha0]
    · by_cases hb : b < 0
      · have := Int.mul_neg_of_pos_of_neg (by omega : 0 < a) hb
        omega
      · by_cases hb0 : b = 0
        · simp [hb0]
        · simp [ha, ha0, hb, hb0]
theorem det_dot (x y z p : P3) : P3.det (y.sub x) (z.sub x) (p.sub x) = ((y.sub x).cross (z.sub x)).dot (p.sub x) := by
  simp only [P3.det, P3.dot, P3.cross, P3.sub]
  grind
theorem det_self (x y z : P3) : ((y.sub x).cross (z.sub x)).dot (x.sub x) = 0 ∧ ((y.sub x).cross (z.sub x)).dot (y.sub x) = 0 ∧ ((y.sub x).cross (z.sub x)).dot (z.sub x) = 0 := by
  simp only [P3.dot, P3.cross, P3.sub]
  refine ⟨by grind, by grind, by grind⟩
theorem side_of_cv {x y z a p : P3} {vs : List P3} (h : Cv vs p) (hv : ∀ v ∈ vs, v = x ∨ v = y ∨ v = z ∨ v = a) : 0 ≤ side x y z a * side x y z p := by
  unfold side
  refine sgn_mul ?_
  rw [det_dot, det_dot]
  obtain ⟨z1, z2, z3⟩ := det_self x y z
  rw [← scale_dot]
  refine h _ _ fun v hv' => ?_
  rw [scale_dot]
  rcases hv v hv' with rfl | rfl | rfl | rfl
  · rw [z1]; omega
  · rw [z2]; omega
  · rw [z3]; omega
  · exact sq_nonneg _
theorem deep_of_cv {a b c d p : P3} (h : Cv [a, b, c, d] p) : deepb a b c d p = true := by
  unfold deepb
  simp only [decide_eq_true_eq]
  refine ⟨side_of_cv h ?_, side_of_cv h ?_, side_of_cv h ?_, side_of_cv h ?_⟩
  all_goals
    intro v hv
    simp only [List.mem_cons, List.not_mem_nil, or_false] at hv
    rcases hv with rfl | rfl | rfl | rfl <;> simp
end Go.Proofs.Ythnpmmpcejfllaa
