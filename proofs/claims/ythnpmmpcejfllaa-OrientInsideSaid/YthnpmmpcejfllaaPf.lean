/-
  The spread of points that each raised the rank (plain).
  Points in simplices: what is inside of a face, and the middle of two points, is inside (plain).
  Faces of simplices: what ninepinlaw07.OrientFaces asks, of points (plain).
-/
import Derived.Test.YthnpmmpcejfllaaHk
set_option linter.unusedSimpArgs false
set_option linter.unusedVariables false
namespace Go.Proofs.Ythnpmmpcejfllaa
open Go Go.RowKit

/-! ### The spread of what was taken -/
theorem raisesb_mono {tk : List P3} {p : P3} (h : raisesb tk p = true) : tk.length ≤ 3 := raisesb_four h
/-- Each of these raises the rank of those before it. -/
def Raised : List P3 → List P3 → Prop
  | _, [] => True
  | tk, p :: ps => raisesb tk p = true ∧ Raised (tk ++ [p]) ps
theorem Raised.append : ∀ {ps : List P3} {tk : List P3} {p : P3}, Raised tk ps → raisesb (tk ++ ps) p = true → Raised tk (ps ++ [p])
  | [], tk, p, _, h => by rw [List.append_nil] at h; exact ⟨h, trivial⟩
  | q :: ps, tk, p, h1, h => ⟨h1.1, Raised.append h1.2 (by simpa using h)⟩
theorem spst_raised (ps : List P3) : ∀ k, Raised [] (spst ps k).1
  | 0 => trivial
  | k + 1 => by
    have ih := spst_raised ps k
    unfold spst
    cases hp : ps[k]? with
    | none => exact ih
    | some p =>
      dsimp only
      split
      · rename_i hr
        exact ih.append (by simpa using hr)
      · exact ih
theorem Raised.take : ∀ {ps tk : List P3} (n : Nat), Raised tk ps → Raised tk (ps.take n)
  | _, _, 0, _ => by simp [Raised]
  | [], _, _ + 1, _ => trivial
  | _ :: _, _, n + 1, h => ⟨h.1, Raised.take n h.2⟩
/-- The spread of points that each raise the rank is all of them. -/
theorem spst_all {ps : List P3} (h : Raised [] ps) : ∀ k, k ≤ ps.length → (spst ps k).1 = ps.take k ∧ (spst ps k).2 = (List.range k).map (fun i : Nat => (i : Int))
  | 0, _ => ⟨rfl, rfl⟩
  | k + 1, hk => by
    obtain ⟨h1, h2⟩ := spst_all h k (by omega)
    have hp : ps[k]? = some ps[k] := List.getElem?_eq_getElem (by omega)
    have key : ∀ (l tk : List P3) (i : Nat) (q : P3), Raised tk l → l[i]? = some q → raisesb (tk ++ l.take i) q = true := by
      intro l
      induction l with
      | nil => intro tk i q _ hq; simp at hq
      | cons a l ih =>
        intro tk i q hr hq
        cases i with
        | zero => simp at hq; subst hq; simpa using hr.1
        | succ i =>
          have := ih (tk ++ [a]) i q hr.2 (by simpa using hq)
          simpa using this
    have hr := key ps [] k ps[k] h hp
    unfold spst
    rw [hp]
    dsimp only
    rw [h1, h2, if_pos (by simpa using hr)]
    exact ⟨by rw [List.take_add_one, hp]; rfl, by rw [List.range_succ]; simp⟩
theorem spread_all {ps : List P3} (h : Raised [] ps) : (spread ps).length = ps.length := by
  unfold spread
  rw [(spst_all h ps.length (Nat.le_refl _)).2]
  simp
/-- What is taken stands at the places that are told, which rise. -/
theorem spst_places (ps : List P3) : ∀ k, k ≤ ps.length → (∀ (i : Nat) (n : Int), (spst ps k).2[i]? = some n → 0 ≤ n ∧ n < k ∧ (spst ps k).1[i]? = ps[n.toNat]?) ∧ (∀ (i : Nat) (m n : Int), (spst ps k).2[i]? = some m → (spst ps k).2[i + 1]? = some n → m < n)
  | 0, _ => by simp [spst]
  | k + 1, hk => by
    obtain ⟨h1, h2⟩ := spst_places ps k (by omega)
    obtain ⟨_, hlen, _⟩ := spst_ok ps k
    have hp : ps[k]? = some ps[k] := List.getElem?_eq_getElem (by omega)
    unfold spst
    rw [hp]
    dsimp only
    split
    · refine ⟨fun i n hn => ?_, fun i m n hm hn => ?_⟩
      · rw [List.getElem?_append] at hn
        split at hn
        · rename_i hi
          obtain ⟨a, b, c⟩ := h1 i n hn
          refine ⟨a, by omega, ?_⟩
          rw [List.getElem?_append_left (by omega)]
          exact c
        · rename_i hi
          have hi' : i = (spst ps k).2.length := by
            rcases Nat.lt_or_ge (i - (spst ps k).2.length) 1 with h | h
            · omega
            · rw [List.getElem?_eq_none (by simpa using h)] at hn; cases hn
          subst hi'
          simp at hn
          subst hn
          refine ⟨by omega, by omega, ?_⟩
          rw [List.getElem?_append_right (by omega), hlen]
          simp [hp]
      · have hlt : i + 1 ≤ (spst ps k).2.length := by
          rcases Nat.lt_or_ge (i + 1) ((spst ps k).2 ++ [(k : Int)]).length with h | h
          · simp at h; omega
          · rw [List.getElem?_eq_none h] at hn; cases hn
        rw [List.getElem?_append_left (by omega)] at hm
        rw [List.getElem?_append] at hn
        split at hn
        · exact h2 i m n hm hn
        · rename_i hi
          have hi' : i + 1 - (spst ps k).2.length = 0 := by omega
          rw [hi'] at hn
          simp at hn
          subst hn
          exact (h1 i m hm).2.1
    · exact ⟨fun i n hn => by obtain ⟨a, b, c⟩ := h1 i n hn; exact ⟨a, by omega, c⟩, h2⟩
/-- The points of a spread. -/
def taken (ps : List P3) : List P3 := (spst ps ps.length).1
theorem taken_rank {ps : List P3} (hf : fineb ps = true) (i : Nat) (hi : i < (taken ps).length) : rankO ((taken ps).take (i + 1)) = ((i : Int), 0) := by
  have hr : Raised [] ((taken ps).take (i + 1)) := (spst_raised ps ps.length).take (i + 1)
  obtain ⟨h4, _, hsub⟩ := spst_ok ps ps.length
  have hff : fineb ((taken ps).take (i + 1)) = true := by
    unfold fineb
    rw [List.all_eq_true]
    intro q hq
    have := fineb_mem hf (hsub q (List.mem_of_mem_take hq))
    simpa using this
  have hl : ((taken ps).take (i + 1)).length = i + 1 := by rw [List.length_take]; omega
  have h256 : ¬ 256 < ((taken ps).take (i + 1)).length := by
    have : (taken ps).length ≤ 4 := h4
    omega
  have hs : spreadO ((taken ps).take (i + 1)) = (spread ((taken ps).take (i + 1)), 0) := by
    unfold spreadO
    rw [if_neg (by rw [hff]; simp), if_neg h256]
  unfold rankO
  rw [hs]
  dsimp only
  rw [if_pos rfl, spread_all hr, hl]
  simp
end Go.Proofs.Ythnpmmpcejfllaa
set_option linter.unusedSimpArgs false
set_option linter.unusedVariables false
namespace Go.Proofs.Ythnpmmpcejfllaa
open Go Go.RowKit

/-- No plane parts p from these points. -/
def Cv (vs : List P3) (p : P3) : Prop := ∀ m x : P3, (∀ v ∈ vs, 0 ≤ m.dot (v.sub x)) → 0 ≤ m.dot (p.sub x)
theorem Cv.mono {vs ws : List P3} {p : P3} (h : Cv vs p) (hs : ∀ v ∈ vs, v ∈ ws) : Cv ws p := fun m x hx => h m x fun v hv => hx v (hs v hv)
theorem Cv.self {vs : List P3} {p : P3} (h : p ∈ vs) : Cv vs p := fun m x hx => hx p h
def P3.scale (k : Int) (m : P3) : P3 := ⟨k * m.x, k * m.y, k * m.z⟩
theorem scale_dot (k : Int) (m q : P3) : (m.scale k).dot q = k * m.dot q := by
  simp only [P3.scale, P3.dot]
  grind
theorem dot_shift (m p x y : P3) : m.dot (p.sub x) = m.dot (p.sub y) + m.dot (y.sub x) := by
  simp only [P3.dot, P3.sub]
  grind
theorem Cv.zero {vs : List P3} {p m x : P3} (h : Cv vs p) (hx : ∀ v ∈ vs, m.dot (v.sub x) = 0) : m.dot (p.sub x) = 0 := by
  have h1 := h m x fun v hv => by rw [hx v hv]; omega
  have h2 := h (m.scale (-1)) x fun v hv => by rw [scale_dot, hx v hv]; omega
  rw [scale_dot] at h2
  omega
theorem nonneg_of_mul {W F : Int} (hW : 0 < W) (h : 0 ≤ W * F) : 0 ≤ F := by
  by_cases hF : F < 0
  · have := Int.mul_neg_of_pos_of_neg hW hF
    omega
  · omega
theorem sq_nonneg (x : Int) : 0 ≤ x * x := by
  rcases Int.le_total 0 x with h | h
  · exact Int.mul_nonneg h h
  · have := Int.mul_nonneg (a := -x) (b := -x) (by omega) (by omega)
    rwa [Int.neg_mul_neg] at this
theorem sq_pos {n : P3} (h : n ≠ ⟨0, 0, 0⟩) : 0 < n.dot n := by
  obtain ⟨x, y, z⟩ := n
  simp only [P3.dot]
  have hx := sq_nonneg x
  have hy := sq_nonneg y
  have hz := sq_nonneg z
  by_cases h' : 0 < x * x + y * y + z * z
  · exact h'
  · exfalso
    have h1 : x * x = 0 := by omega
    have h2 : y * y = 0 := by omega
    have h3 : z * z = 0 := by omega
    have e1 : x = 0 := (Int.mul_eq_zero.1 h1).elim id id
    have e2 : y = 0 := (Int.mul_eq_zero.1 h2).elim id id
    have e3 : z = 0 := (Int.mul_eq_zero.1 h3).elim id id
    exact h (by rw [e1, e2, e3])
/-- Two points, with weights. -/
theorem cv_two {x y p : P3} (W s : Int) (hW : 0 < W) (h0 : 0 ≤ s) (h1 : s ≤ W) (hx : W * (p.x - x.x) = s * (y.x - x.x)) (hy : W * (p.y - x.y) = s * (y.y - x.y)) (hz : W * (p.z - x.z) = s * (y.z - x.z)) : Cv [x, y] p := by
  intro m b hv
  have hA := hv x (by simp)
  have hB := hv y (by simp)
  refine nonneg_of_mul hW ?_
  have e : W * m.dot (p.sub b) = (W - s) * m.dot (x.sub b) + s * m.dot (y.sub b) := by
    simp only [P3.dot, P3.sub]
    grind
  rw [e]
  have := Int.mul_nonneg (by omega : 0 ≤ W - s) hA
  have := Int.mul_nonneg h0 hB
  omega
theorem cv_three {x y z p : P3} (W s t : Int) (hW : 0 < W) (h0 : 0 ≤ s) (h1 : 0 ≤ t) (h2 : s + t ≤ W) (hx : W * (p.x - x.x) = s * (y.x - x.x) + t * (z.x - x.x)) (hy : W * (p.y - x.y) = s * (y.y - x.y) + t * (z.y - x.y)) (hz : W * (p.z - x.z) = s * (y.z - x.z) + t * (z.z - x.z)) : Cv [x, y, z] p := by
  intro m b hv
  have hA := hv x (by simp)
  have hB := hv y (by simp)
  have hC := hv z (by simp)
  refine nonneg_of_mul hW ?_
  have e : W * m.dot (p.sub b) = (W - s - t) * m.dot (x.sub b) + s * m.dot (y.sub b) + t * m.dot (z.sub b) := by
    simp only [P3.dot, P3.sub]
    grind
  rw [e]
  have := Int.mul_nonneg (by omega : 0 ≤ W - s - t) hA
  have := Int.mul_nonneg h0 hB
  have := Int.mul_nonneg h1 hC
  omega
theorem sub_ne {a b : P3} (h : b ≠ a) : b.sub a ≠ ⟨0, 0, 0⟩ := by
  intro h'
  apply h
  obtain ⟨ax, ay, az⟩ := a
  obtain ⟨bx, by', bz⟩ := b
  simp only [P3.sub, P3.mk.injEq] at h' ⊢
  omega
theorem cv_of_between {x y p : P3} (hne : y ≠ x) (h : betweenb x y p = true) : Cv [x, y] p := by
  unfold betweenb at h
  simp only [decide_eq_true_eq] at h
  obtain ⟨hc, h0, h1⟩ := h
  have hW := sq_pos (sub_ne hne)
  refine cv_two _ _ hW h0 h1 ?_ ?_ ?_
  all_goals
    simp only [P3.cross, P3.sub, P3.mk.injEq] at hc
    simp only [P3.dot, P3.sub]
    generalize y.x - x.x = ux at *
    generalize y.y - x.y = uy at *
    generalize y.z - x.z = uz at *
    generalize p.x - x.x = qx at *
    generalize p.y - x.y = qy at *
    generalize p.z - x.z = qz at *
    obtain ⟨h1, h2, h3⟩ := hc
    grind
theorem grass (u v q : P3) : ∀ n, n = u.cross v → n.dot n * q.x = n.dot (q.cross v) * u.x + n.dot (u.cross q) * v.x + n.dot q * n.x ∧ n.dot n * q.y = n.dot (q.cross v) * u.y + n.dot (u.cross q) * v.y + n.dot q * n.y ∧ n.dot n * q.z = n.dot (q.cross v) * u.z + n.dot (u.cross q) * v.z + n.dot q * n.z := by
  rintro n rfl
  simp only [P3.dot, P3.cross]
  refine ⟨?_, ?_, ?_⟩ <;> grind
theorem cv_of_within {x y z p : P3} (hne : (y.sub x).cross (z.sub x) ≠ ⟨0, 0, 0⟩) (h : withinb x y z p = true) : Cv [x, y, z] p := by
  unfold withinb at h
  simp only [decide_eq_true_eq] at h
  obtain ⟨hp, h1, h2, h3⟩ := h
  have hW := sq_pos hne
  have hg := grass (y.sub x) (z.sub x) (p.sub x) _ rfl
  have e3 : edge ((y.sub x).cross (z.sub x)) z x p = ((y.sub x).cross (z.sub x)).dot ((p.sub x).cross (z.sub x)) := by
    unfold edge
    congr 1
    simp only [P3.cross, P3.sub, P3.mk.injEq]
    grind
  have e2 : edge ((y.sub x).cross (z.sub x)) y z p = ((y.sub x).cross (z.sub x)).dot ((y.sub x).cross (z.sub x)) - ((y.sub x).cross (z.sub x)).dot ((p.sub x).cross (z.sub x)) - ((y.sub x).cross (z.sub x)).dot ((y.sub x).cross (p.sub x)) := by
    have e : ∀ n : P3, n.dot ((z.sub y).cross (p.sub y)) = n.dot ((y.sub x).cross (z.sub x)) - n.dot ((p.sub x).cross (z.sub x)) - n.dot ((y.sub x).cross (p.sub x)) := by
      intro n
      simp only [P3.dot, P3.cross, P3.sub]
      grind
    exact e _
  have e1 : edge ((y.sub x).cross (z.sub x)) x y p = ((y.sub x).cross (z.sub x)).dot ((y.sub x).cross (p.sub x)) := rfl
  rw [e1] at h1
  rw [e2] at h2
  rw [e3] at h3
  rw [hp] at hg
  generalize ((y.sub x).cross (z.sub x)).dot ((y.sub x).cross (z.sub x)) = W at *
  generalize ((y.sub x).cross (z.sub x)).dot ((p.sub x).cross (z.sub x)) = s at *
  generalize ((y.sub x).cross (z.sub x)).dot ((y.sub x).cross (p.sub x)) = t at *
  simp only [P3.sub] at hg
  exact cv_three W s t hW h3 h1 (by omega) (by omega) (by omega) (by omega)
theorem cv_mid {x y p : P3} (hx : 2 * p.x = x.x + y.x) (hy : 2 * p.y = x.y + y.y) (hz : 2 * p.z = x.z + y.z) : Cv [x, y] p :=
  cv_two 2 1 (by omega) (by omega) (by omega) (by omega) (by omega) (by omega)

/-! ### A simplex, by what raised it -/
theorem spst_le (ps : List P3) : ∀ k, (spst ps k).1.length ≤ k
  | 0 => by simp [spst]
  | k + 1 => by
    have := spst_le ps k
    unfold spst
    cases ps[k]? with
    | none => dsimp only; omega
    | some p =>
      dsimp only
      split
      · simp; omega
      · omega
theorem spst_full (ps : List P3) : ∀ k, k ≤ ps.length → (spst ps k).1.length = k → (spst ps k).1 = ps.take k
  | 0, _, _ => by simp [spst]
  | k + 1, hk, h => by
    have hl := spst_le ps k
    have hp : ps[k]? = some ps[k] := List.getElem?_eq_getElem (by omega)
    unfold spst at h ⊢
    rw [hp] at h ⊢
    dsimp only at h ⊢
    split
    · rename_i hr
      rw [if_pos hr] at h
      simp only [List.length_append, List.length_cons, List.length_nil] at h
      rw [spst_full ps k (by omega) (by omega), List.take_add_one, hp]
      rfl
    · rename_i hr
      rw [if_neg hr] at h
      omega
theorem simplex_raised {ps : List P3} (h : simplexb ps = true) : fineb ps = true ∧ 1 ≤ ps.length ∧ ps.length ≤ 4 ∧ Raised [] ps := by
  unfold simplexb at h
  simp only [decide_eq_true_eq] at h
  obtain ⟨h1, h4, he, hr⟩ := h
  unfold rankO at he hr
  have hs : (spreadO ps).2 = 0 := by
    split at he
    · assumption
    · exact he
  rw [if_pos hs] at hr
  have hf : fineb ps = true ∧ spreadO ps = (spread ps, 0) := by
    unfold spreadO at hs ⊢
    split at hs
    · cases hs
    · rename_i hf
      rw [if_neg hf]
      split at hs
      · cases hs
      · rename_i h2
        rw [if_neg h2]
        exact ⟨by simpa using hf, rfl⟩
  rw [hf.2] at hr
  dsimp only at hr
  obtain ⟨_, hl, _⟩ := spst_ok ps ps.length
  have hfull := spst_full ps ps.length (Nat.le_refl _) (by rw [hl]; unfold spread at hr; omega)
  rw [List.take_length] at hfull
  refine ⟨hf.1, h1, h4, ?_⟩
  rw [← hfull]
  exact spst_raised ps ps.length
theorem simplex_of {ps : List P3} (hf : fineb ps = true) (h1 : 1 ≤ ps.length) (h4 : ps.length ≤ 4) (hr : Raised [] ps) : simplexb ps = true := by
  unfold simplexb
  simp only [decide_eq_true_eq]
  have hs : spreadO ps = (spread ps, 0) := by
    unfold spreadO
    rw [if_neg (by rw [hf]; simp), if_neg (by omega)]
  unfold rankO
  rw [hs]
  dsimp only
  rw [if_pos rfl, spread_all hr]
  exact ⟨h1, h4, rfl, rfl⟩

/-! ### What no plane parts from a simplex is inside -/
theorem dot_nonneg (n : P3) : 0 ≤ n.dot n := by
  have h1 := sq_nonneg n.x
  have h2 := sq_nonneg n.y
  have h3 := sq_nonneg n.z
  simp only [P3.dot]
  omega
theorem between_of_cv {a b p : P3} (h : Cv [a, b] p) : betweenb a b p = true := by
  have zero : ∀ m : P3, m.dot (a.sub a) = 0 := by intro m; simp only [P3.dot, P3.sub]; grind
  have hx := h.zero (m := ⟨0, -(b.sub a).z, (b.sub a).y⟩) (x := a) (by
    intro v hv
    simp only [List.mem_cons, List.not_mem_nil, or_false] at hv
    rcases hv with rfl | rfl
    · exact zero _
    · simp only [P3.dot, P3.sub]; grind)
  have hy := h.zero (m := ⟨(b.sub a).z, 0, -(b.sub a).x⟩) (x := a) (by
    intro v hv
    simp only [List.mem_cons, List.not_mem_nil, or_false] at hv
    rcases hv with rfl | rfl
    · exact zero _
    · simp only [P3.dot, P3.sub]; grind)
  have hz := h.zero (m := ⟨-(b.sub a).y, (b.sub a).x, 0⟩) (x := a) (by
    intro v hv
    simp only [List.mem_cons, List.not_mem_nil, or_false] at hv
    rcases hv with rfl | rfl
    · exact zero _
    · simp only [P3.dot, P3.sub]; grind)
  have h0 := h (b.sub a) a (by
    intro v hv
    simp only [List.mem_cons, List.not_mem_nil, or_false] at hv
    rcases hv with rfl | rfl
    · rw [zero]; omega
    · exact dot_nonneg _)
  have h1 := h ((b.sub a).scale (-1)) b (by
    intro v hv
    simp only [List.mem_cons, List.not_mem_nil, or_false] at hv
    rcases hv with rfl | rfl
    · have e : ((b.sub v).scale (-1)).dot (v.sub b) = (b.sub v).dot (b.sub v) := by simp only [P3.dot, P3.sub, P3.scale]; grind
      rw [e]
      exact dot_nonneg _
    · have e : ((v.sub a).scale (-1)).dot (v.sub v) = 0 := by simp only [P3.dot, P3.sub, P3.scale]; grind
      rw [e]; omega)
  unfold betweenb
  simp only [decide_eq_true_eq]
  refine ⟨?_, h0, ?_⟩
  · simp only [P3.dot] at hx hy hz
    simp only [P3.cross, P3.mk.injEq]
    refine ⟨by grind, by grind, by grind⟩
  · have e : ((b.sub a).scale (-1)).dot (p.sub b) = (b.sub a).dot (b.sub a) - (b.sub a).dot (p.sub a) := by simp only [P3.dot, P3.sub, P3.scale]; grind
    omega
theorem edge_eq (n x y p : P3) : edge n x y p = (n.cross (y.sub x)).dot (p.sub x) := by
  unfold edge
  simp only [P3.dot, P3.cross]
  grind
theorem edge_self (n x y : P3) : edge n x y x = 0 ∧ edge n x y y = 0 := by
  simp only [edge, P3.dot, P3.cross, P3.sub]
  constructor <;> grind
theorem edge_third (a b c : P3) : ∀ n, n = (b.sub a).cross (c.sub a) → edge n a b c = n.dot n ∧ edge n b c a = n.dot n ∧ edge n c a b = n.dot n ∧ n.dot (a.sub a) = 0 ∧ n.dot (b.sub a) = 0 ∧ n.dot (c.sub a) = 0 := by
  intro n hn
  have e1 : (b.sub a).cross (c.sub a) = n := hn.symm
  have e2 : (c.sub b).cross (a.sub b) = n := by
    rw [hn]; simp only [P3.cross, P3.sub, P3.mk.injEq]; refine ⟨by grind, by grind, by grind⟩
  have e3 : (a.sub c).cross (b.sub c) = n := by
    rw [hn]; simp only [P3.cross, P3.sub, P3.mk.injEq]; refine ⟨by grind, by grind, by grind⟩
  unfold edge
  rw [e1, e2, e3]
  refine ⟨rfl, rfl, rfl, ?_, ?_, ?_⟩
  all_goals
    rw [hn]
    simp only [P3.dot, P3.cross, P3.sub]
    grind
theorem within_of_cv {a b c p : P3} (h : Cv [a, b, c] p) : withinb a b c p = true := by
  unfold withinb
  simp only [decide_eq_true_eq]
  obtain ⟨t1, t2, t3, z1, z2, z3⟩ := edge_third a b c _ rfl
  generalize (b.sub a).cross (c.sub a) = n at *
  have hn := dot_nonneg n
  refine ⟨?_, ?_, ?_, ?_⟩
  · refine h.zero fun v hv => ?_
    simp only [List.mem_cons, List.not_mem_nil, or_false] at hv
    rcases hv with rfl | rfl | rfl <;> assumption
  all_goals
    rw [edge_eq]
    refine h _ _ fun v hv => ?_
    rw [← edge_eq]
    simp only [List.mem_cons, List.not_mem_nil, or_false] at hv
    rcases hv with rfl | rfl | rfl
    all_goals first | (rw [(edge_self n _ _).1]; omega) | (rw [(edge_self n _ _).2]; omega) | (rw [t1]; exact hn) | (rw [t2]; exact hn) | (rw [t3]; exact hn)
theorem sgn_mul {a b : Int} (h : 0 ≤ a * b) : 0 ≤ sgn a * sgn b := by
  unfold sgn
  by_cases ha : a < 0
  · by_cases hb : b < 0
    · simp [ha, hb]
    · by_cases hb0 : b = 0
      · simp [hb0]
      · have := Int.mul_neg_of_neg_of_pos ha (by omega : 0 < b)
        omega
  · by_cases ha0 : a = 0
    · simp [ha0]
    · by_cases hb : b < 0
      · have := Int.mul_neg_of_pos_of_neg (by omega : 0 < a) hb
        omega
      · by_cases hb0 : b = 0
        · simp [hb0]
        · simp [ha, ha0, hb, hb0]
theorem det_dot (x y z p : P3) : P3.det (y.sub x) (z.sub x) (p.sub x) = ((y.sub x).cross (z.sub x)).dot (p.sub x) := by
  simp only [P3.det, P3.dot, P3.cross, P3.sub]
  grind
theorem det_self (x y z : P3) : ((y.sub x).cross (z.sub x)).dot (x.sub x) = 0 ∧ ((y.sub x).cross (z.sub x)).dot (y.sub x) = 0 ∧ ((y.sub x).cross (z.sub x)).dot (z.sub x) = 0 := by
  simp only [P3.dot, P3.cross, P3.sub]
  refine ⟨by grind, by grind, by grind⟩
theorem side_of_cv {x y z a p : P3} {vs : List P3} (h : Cv vs p) (hv : ∀ v ∈ vs, v = x ∨ v = y ∨ v = z ∨ v = a) : 0 ≤ side x y z a * side x y z p := by
  unfold side
  refine sgn_mul ?_
  rw [det_dot, det_dot]
  obtain ⟨z1, z2, z3⟩ := det_self x y z
  rw [← scale_dot]
  refine h _ _ fun v hv' => ?_
  rw [scale_dot]
  rcases hv v hv' with rfl | rfl | rfl | rfl
  · rw [z1]; omega
  · rw [z2]; omega
  · rw [z3]; omega
  · exact sq_nonneg _
theorem deep_of_cv {a b c d p : P3} (h : Cv [a, b, c, d] p) : deepb a b c d p = true := by
  unfold deepb
  simp only [decide_eq_true_eq]
  refine ⟨side_of_cv h ?_, side_of_cv h ?_, side_of_cv h ?_, side_of_cv h ?_⟩
  all_goals
    intro v hv
    simp only [List.mem_cons, List.not_mem_nil, or_false] at hv
    rcases hv with rfl | rfl | rfl | rfl <;> simp
end Go.Proofs.Ythnpmmpcejfllaa
set_option linter.unusedSimpArgs false
set_option linter.unusedVariables false
namespace Go.Proofs.Ythnpmmpcejfllaa
open Go Go.RowKit

/-- Of the first k points all but the one at place i. -/
def fc (l : List P3) (i : Nat) : Nat → List P3
  | 0 => []
  | k + 1 => if k = i then fc l i k else match l[k]? with
    | some q => fc l i k ++ [q]
    | none => fc l i k
theorem fc_sub (l : List P3) (i : Nat) : ∀ k, ∀ q ∈ fc l i k, q ∈ l
  | 0, q, h => by simp [fc] at h
  | k + 1, q, h => by
    unfold fc at h
    split at h
    · exact fc_sub l i k q h
    · cases hk : l[k]? with
      | none => rw [hk] at h; exact fc_sub l i k q h
      | some x =>
        rw [hk] at h
        rcases List.mem_append.1 h with h | h
        · exact fc_sub l i k q h
        · simp at h; subst h; exact List.mem_of_getElem? hk
theorem fc_len (l : List P3) (i : Nat) : ∀ k, (fc l i k).length ≤ k
  | 0 => by simp [fc]
  | k + 1 => by
    have := fc_len l i k
    unfold fc
    split
    · omega
    · cases l[k]? with
      | none => dsimp only; omega
      | some x => simp; omega
theorem inside_of_cv {l : List P3} {p : P3} (h1 : 1 ≤ l.length) (h4 : l.length ≤ 4) (h : Cv l p) : insideb l p = true := by
  obtain ⟨a, rfl⟩ | ⟨a, b, rfl⟩ | ⟨a, b, c, rfl⟩ | ⟨a, b, c, d, rfl⟩ := one_to_four h1 h4
  · have hz : ∀ m : P3, m.dot (p.sub a) = 0 := fun m => h.zero fun v hv => by
      simp at hv; subst hv
      simp only [P3.dot, P3.sub]; grind
    have e1 := hz ⟨1, 0, 0⟩
    have e2 := hz ⟨0, 1, 0⟩
    have e3 := hz ⟨0, 0, 1⟩
    obtain ⟨ax, ay, az⟩ := a
    obtain ⟨px, py, pz⟩ := p
    simp only [P3.dot, P3.sub] at e1 e2 e3
    simp only [insideb, decide_eq_true_eq, P3.mk.injEq]
    omega
  · exact between_of_cv h
  · exact within_of_cv h
  · exact deep_of_cv h
theorem raised_two {a b : P3} : Raised [] [a, b] ↔ b ≠ a := by
  simp [Raised, raisesb]
theorem raised_three {a b c : P3} : Raised [] [a, b, c] ↔ b ≠ a ∧ (b.sub a).cross (c.sub a) ≠ ⟨0, 0, 0⟩ := by
  simp [Raised, raisesb]
theorem raised_four {a b c d : P3} : Raised [] [a, b, c, d] ↔ b ≠ a ∧ (b.sub a).cross (c.sub a) ≠ ⟨0, 0, 0⟩ ∧ P3.det (b.sub a) (c.sub a) (d.sub a) ≠ 0 := by
  simp [Raised, raisesb]
theorem ne_of_cross {x y z : P3} (h : (y.sub x).cross (z.sub x) ≠ ⟨0, 0, 0⟩) : y ≠ x := by
  rintro rfl
  apply h
  simp only [P3.cross, P3.sub, P3.mk.injEq]
  refine ⟨by grind, by grind, by grind⟩
theorem three_of_det {x y z w : P3} {k : Int} (hk : k ≠ 0) (h : k = ((y.sub x).cross (z.sub x)).dot (w.sub x) ∨ k = -((y.sub x).cross (z.sub x)).dot (w.sub x)) : Raised [] [x, y, z] := by
  have hc : (y.sub x).cross (z.sub x) ≠ ⟨0, 0, 0⟩ := by
    intro h0
    rw [h0] at h
    apply hk
    simp only [P3.dot] at h
    rcases h with h | h <;> simpa using h
  exact raised_three.2 ⟨ne_of_cross hc, hc⟩
theorem fine_sub {l m : List P3} (h : fineb l = true) (hs : ∀ q ∈ m, q ∈ l) : fineb m = true := by
  unfold fineb at h ⊢
  rw [List.all_eq_true] at h ⊢
  exact fun q hq => h q (hs q hq)
theorem face_raised {l : List P3} (hs : Raised [] l) (h2 : 2 ≤ l.length) (h4 : l.length ≤ 4) (i : Nat) (hi : i < l.length) : Raised [] (fc l i l.length) ∧ (fc l i l.length).length + 1 = l.length := by
  obtain ⟨a, rfl⟩ | ⟨a, b, rfl⟩ | ⟨a, b, c, rfl⟩ | ⟨a, b, c, d, rfl⟩ := one_to_four (ps := l) (by omega) h4
  · simp at h2
  · obtain rfl | rfl : i = 0 ∨ i = 1 := by simp at hi; omega
    · exact ⟨⟨rfl, trivial⟩, rfl⟩
    · exact ⟨⟨rfl, trivial⟩, rfl⟩
  · obtain ⟨hab, hc⟩ := raised_three.1 hs
    obtain rfl | rfl | rfl : i = 0 ∨ i = 1 ∨ i = 2 := by simp at hi; omega
    · refine ⟨raised_two.2 ?_, rfl⟩
      rintro rfl
      apply hc
      simp only [P3.cross, P3.mk.injEq]
      refine ⟨by grind, by grind, by grind⟩
    · refine ⟨raised_two.2 ?_, rfl⟩
      rintro rfl
      apply hc
      simp only [P3.cross, P3.sub, P3.mk.injEq]
      refine ⟨by grind, by grind, by grind⟩
    · exact ⟨raised_two.2 hab, rfl⟩
  · obtain ⟨hab, hc, hd⟩ := raised_four.1 hs
    obtain rfl | rfl | rfl | rfl : i = 0 ∨ i = 1 ∨ i = 2 ∨ i = 3 := by simp at hi; omega
    · refine ⟨three_of_det (w := a) hd (.inr ?_), rfl⟩
      simp only [P3.det, P3.dot, P3.cross, P3.sub]; grind
    · refine ⟨three_of_det (w := b) hd (.inl ?_), rfl⟩
      simp only [P3.det, P3.dot, P3.cross, P3.sub]; try grind
    · refine ⟨three_of_det (w := c) hd (.inr ?_), rfl⟩
      simp only [P3.det, P3.dot, P3.cross, P3.sub]; grind
    · exact ⟨raised_three.2 ⟨hab, hc⟩, rfl⟩
theorem cv_of_inside {l : List P3} {p : P3} (hr : Raised [] l) (h1 : 1 ≤ l.length) (h3 : l.length ≤ 3) (h : insideb l p = true) : Cv l p := by
  obtain ⟨a, rfl⟩ | ⟨a, b, rfl⟩ | ⟨a, b, c, rfl⟩ | ⟨a, b, c, d, rfl⟩ := one_to_four (ps := l) h1 (by omega)
  · simp only [insideb, decide_eq_true_eq] at h
    subst h
    exact Cv.self (by simp)
  · exact cv_of_between (raised_two.1 hr) h
  · exact cv_of_within (raised_three.1 hr).2 h
  · simp at h3
/-- Each point of a simplex is inside. -/
theorem faces_vertex {l : List P3} (hs : simplexb l = true) {q : P3} (hq : q ∈ l) : insideO l q = (true, 0) := by
  obtain ⟨hf, h1, h4, _⟩ := simplex_raised hs
  unfold insideO
  rw [if_neg (by simp [hf, fineb_mem hf hq]), if_neg (by simp [hs]), inside_of_cv h1 h4 (Cv.self hq)]
/-- The middle of two points is inside. -/
theorem faces_mid {l : List P3} (hs : simplexb l = true) {a b m : P3} (ha : a ∈ l) (hb : b ∈ l) (hx : 2 * m.x = a.x + b.x) (hy : 2 * m.y = a.y + b.y) (hz : 2 * m.z = a.z + b.z) : insideO l m = (true, 0) := by
  obtain ⟨hf, h1, h4, _⟩ := simplex_raised hs
  have hm : m.may := by
    have h1 := fineb_mem hf ha
    have h2 := fineb_mem hf hb
    unfold P3.may may at *
    omega
  have hcv : Cv l m := (cv_mid hx hy hz).mono fun v hv => by
    simp only [List.mem_cons, List.not_mem_nil, or_false] at hv
    rcases hv with rfl | rfl <;> assumption
  unfold insideO
  rw [if_neg (by simp [hf, hm]), if_neg (by simp [hs]), inside_of_cv h1 h4 hcv]
/-- A face is a simplex, and what is inside of it is inside. -/
theorem faces_face {l : List P3} (hs : simplexb l = true) {p : P3} (hp : p.may) (i : Nat) (hi : i < l.length) (h2 : 2 ≤ l.length) : (insideO (fc l i l.length) p).2 = 0 ∧ ((insideO (fc l i l.length) p).1 = true → (insideO l p).1 = true) := by
  obtain ⟨hf, h1, h4, hr⟩ := simplex_raised hs
  obtain ⟨hfr, hfl⟩ := face_raised hr h2 h4 i hi
  have hff := fine_sub hf (fc_sub l i l.length)
  have hfs := simplex_of hff (by omega) (by omega) hfr
  have e1 : insideO (fc l i l.length) p = (insideb (fc l i l.length) p, 0) := by
    unfold insideO
    rw [if_neg (by simp [hff, hp]), if_neg (by simp [hfs])]
  have e2 : insideO l p = (insideb l p, 0) := by
    unfold insideO
    rw [if_neg (by simp [hf, hp]), if_neg (by simp [hs])]
  rw [e1, e2]
  exact ⟨rfl, fun h => inside_of_cv h1 h4 ((cv_of_inside hfr (by omega) (by omega) h).mono (fc_sub l i l.length))⟩
end Go.Proofs.Ythnpmmpcejfllaa
