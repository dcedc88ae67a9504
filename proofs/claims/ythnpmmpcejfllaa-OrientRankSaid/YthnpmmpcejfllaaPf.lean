/-
  Faces of simplices: what ninepinlaw07.OrientFaces asks, of points (plain).
-/
import Derived.Test.YthnpmmpcejfllaaPg
set_option linter.unusedSimpArgs false
set_option linter.unusedVariables false
namespace Go.Proofs.Ythnpmmpcejfllaa
open Go Go.RowKit

/-- Of the first k points all but the one at place i. -/
def fc (l : List P3) (i : Nat) : Nat → List P3
  | 0 => []
  | k + 1 => if k = i then fc l i k else match l[k]? with
    | some q => fc l i k ++ [q]
    | none => fc l i k
theorem fc_sub (l : List P3) (i : Nat) : ∀ k, ∀ q ∈ fc l i k, q ∈ l
  | 0, q, h => by simp [fc] at h
  | k + 1, q, h => by
    unfold fc at h
    split at h
    · exact fc_sub l i k q h
    · cases hk : l[k]? with
      | none => rw [hk] at h; exact fc_sub l i k q h
      | some x =>
        rw [hk] at h
        rcases List.mem_append.1 h with h | h
        · exact fc_sub l i k q h
        · simp at h; subst h; exact List.mem_of_getElem? hk
theorem fc_len (l : List P3) (i : Nat) : ∀ k, (fc l i k).length ≤ k
  | 0 => by simp [fc]
  | k + 1 => by
    have := fc_len l i k
    unfold fc
    split
    · omega
    · cases l[k]? with
      | none => dsimp only; omega
      | some x => simp; omega
theorem inside_of_cv {l : List P3} {p : P3} (h1 : 1 ≤ l.length) (h4 : l.length ≤ 4) (h : Cv l p) : insideb l p = true := by
  obtain ⟨a, rfl⟩ | ⟨a, b, rfl⟩ | ⟨a, b, c, rfl⟩ | ⟨a, b, c, d, rfl⟩ := one_to_four h1 h4
  · have hz : ∀ m : P3, m.dot (p.sub a) = 0 := fun m => h.zero fun v hv => by
      simp at hv; subst hv
      simp only [P3.dot, P3.sub]; grind
    have e1 := hz ⟨1, 0, 0⟩
    have e2 := hz ⟨0, 1, 0⟩
    have e3 := hz ⟨0, 0, 1⟩
    obtain ⟨ax, ay, az⟩ := a
    obtain ⟨px, py, pz⟩ := p
    simp only [P3.dot, P3.sub] at e1 e2 e3
    simp only [insideb, decide_eq_true_eq, P3.mk.injEq]
    omega
  · exact between_of_cv h
  · exact within_of_cv h
  · exact deep_of_cv h
theorem raised_two {a b : P3} : Raised [] [a, b] ↔ b ≠ a := by
  simp [Raised, raisesb]
theorem raised_three {a b c : P3} : Raised [] [a, b, c] ↔ b ≠ a ∧ (b.sub a).cross (c.sub a) ≠ ⟨0, 0, 0⟩ := by
  simp [Raised, raisesb]
theorem raised_four {a b c d : P3} : Raised [] [a, b, c, d] ↔ b ≠ a ∧ (b.sub a).cross (c.sub a) ≠ ⟨0, 0, 0⟩ ∧ P3.det (b.sub a) (c.sub a) (d.sub a) ≠ 0 := by
  simp [Raised, raisesb]
theorem ne_of_cross {x y z : P3} (h : (y.sub x).cross (z.sub x) ≠ ⟨0, 0, 0⟩) : y ≠ x := by
  rintro rfl
  apply h
  simp only [P3.cross, P3.sub, P3.mk.injEq]
  refine ⟨by grind, by grind, by grind⟩
theorem three_of_det {x y z w : P3} {k : Int} (hk : k ≠ 0) (h : k = ((y.sub x).cross (z.sub x)).dot (w.sub x) ∨ k = -((y.sub x).cross (z.sub x)).dot (w.sub x)) : Raised [] [x, y, z] := by
  have hc : (y.sub x).cross (z.sub x) ≠ ⟨0, 0, 0⟩ := by
    intro h0
    rw [h0] at h
    apply hk
    simp only [P3.dot] at h
    rcases h with h | h <;> simpa using h
  exact raised_three.2 ⟨ne_of_cross hc, hc⟩
theorem fine_sub {l m : List P3} (h : fineb l = true) (hs : ∀ q ∈ m, q ∈ l) : fineb m = true := by
  unfold fineb at h ⊢
  rw [List.all_eq_true] at h ⊢
  exact fun q hq => h q (hs q hq)
theorem face_raised {l : List P3} (hs : Raised [] l) (h2 : 2 ≤ l.length) (h4 : l.length ≤ 4) (i : Nat) (hi : i < l.length) : Raised [] (fc l i l.length) ∧ (fc l i l.length).length + 1 = l.length := by
  obtain ⟨a, rfl⟩ | ⟨a, b, rfl⟩ | ⟨a, b, c, rfl⟩ | ⟨a, b, c, d, rfl⟩ := one_to_four (ps := l) (by omega) h4
  · simp at h2
  · obtain rfl | rfl : i = 0 ∨ i = 1 := by simp at hi; omega
    · exact ⟨⟨rfl, trivial⟩, rfl⟩
    · exact ⟨⟨rfl, trivial⟩, rfl⟩
  · obtain ⟨hab, hc⟩ := raised_three.1 hs
    obtain rfl | rfl | rfl : i = 0 ∨ i = 1 ∨ i = 2 := by simp at hi; omega
    · refine ⟨raised_two.2 ?_, rfl⟩
      rintro rfl
      apply hc
      simp only [P3.cross, P3.mk.injEq]
      refine ⟨by grind, by grind, by grind⟩
    · refine ⟨raised_two.2 ?_, rfl⟩
      rintro rfl
      apply hc
      simp only [P3.cross, P3.sub, P3.mk.injEq]
      refine ⟨by grind, by grind, by grind⟩
    · exact ⟨raised_two.2 hab, rfl⟩
  · obtain ⟨hab, hc, hd⟩ := raised_four.1 hs
    obtain rfl | rfl | rfl | rfl : i = 0 ∨ i = 1 ∨ i = 2 ∨ i = 3 := by simp at hi; omega
    · refine ⟨three_of_det (w := a) hd (.inr ?_), rfl⟩
      simp only [P3.det, P3.dot, P3.cross, P3.sub]; grind
    · refine ⟨three_of_det (w := b) hd (.inl ?_), rfl⟩
      simp only [P3.det, P3.dot, P3.cross, P3.sub]; try grind
    · refine ⟨three_of_det (w := c) hd (.inr ?_), rfl⟩
      simp only [P3.det, P3.dot, P3.cross, P3.sub]; grind
    · exact ⟨raised_three.2 ⟨hab, hc⟩, rfl⟩
theorem cv_of_inside {l : List P3} {p : P3} (hr : Raised [] l) (h1 : 1 ≤ l.length) (h3 : l.length ≤ 3) (h : insideb l p = true) : Cv l p := by
  obtain ⟨a, rfl⟩ | ⟨a, b, rfl⟩ | ⟨a, b, c, rfl⟩ | ⟨a, b, c, d, rfl⟩ := one_to_four (ps := l) h1 (by omega)
  · simp only [insideb, decide_eq_true_eq] at h
    subst h
    exact Cv.self (by simp)
  · exact cv_of_between (raised_two.1 hr) h
  · exact cv_of_within (raised_three.1 hr).2 h
  · simp at h3
/-- Each point of a simplex is inside. -/
theorem faces_vertex {l : List P3} (hs : simplexb l = true) {q : P3} (hq : q ∈ l) : insideO l q = (true, 0) := by
  obtain ⟨hf, h1, h4, _⟩ := simplex_raised hs
  unfold insideO
  rw [if_neg (by simp [hf, fineb_mem hf hq]), if_neg (by simp [hs]), inside_of_cv h1 h4 (Cv.self hq)]
/-- The middle of two points is inside. -/
theorem faces_mid {l : List P3} (hs : simplexb l = true) {a b m : P3} (ha : a ∈ l) (hb : b ∈ l) (hx : 2 * m.x = a.x + b.x) (hy : 2 * m.y = a.y + b.y) (hz : 2 * m.z = a.z + b.z) : insideO l m = (true, 0) := by
  obtain ⟨hf, h1, h4, _⟩ := simplex_raised hs
  have hm : m.may := by
    have h1 := fineb_mem hf ha
    have h2 := fineb_mem hf hb
    unfold P3.may may at *
    omega
  have hcv : Cv l m := (cv_mid hx hy hz).mono fun v hv => by
    simp only [List.mem_cons, List.not_mem_nil, or_false] at hv
    rcases hv with rfl | rfl <;> assumption
  unfold insideO
  rw [if_neg (by simp [hf, hm]), if_neg (by simp [hs]), inside_of_cv h1 h4 hcv]
/-- A face is a simplex, and what is inside of it is inside. -/
theorem faces_face {l : List P3} (hs : simplexb l = true) {p : P3} (hp : p.may) (i : Nat) (hi : i < l.length) (h2 : 2 ≤ l.length) : (insideO (fc l i l.length) p).2 = 0 ∧ ((insideO (fc l i l.length) p).1 = true → (insideO l p).1 = true) := by
  obtain ⟨hf, h1, h4, hr⟩ := simplex_raised hs
  obtain ⟨hfr, hfl⟩ := face_raised hr h2 h4 i hi
  have hff := fine_sub hf (fc_sub l i l.length)
  have hfs := simplex_of hff (by omega) (by omega) hfr
  have e1 : insideO (fc l i l.length) p = (insideb (fc l i l.length) p, 0) := by
    unfold insideO
    rw [if_neg (by simp [hff, hp]), if_neg (by simp [hfs])]
  have e2 : insideO l p = (insideb l p, 0) := by
    unfold insideO
    rw [if_neg (by simp [hf, hp]), if_neg (by simp [hs])]
  rw [e1, e2]
  exact ⟨rfl, fun h => inside_of_cv h1 h4 ((cv_of_inside hfr (by omega) (by omega) h).mono (fc_sub l i l.length))⟩
end Go.Proofs.Ythnpmmpcejfllaa
