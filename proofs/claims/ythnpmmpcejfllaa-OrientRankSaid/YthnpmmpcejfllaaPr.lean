/-
  The spread of points that each raised the rank (plain).
-/
import Derived.Test.YthnpmmpcejfllaaHk
set_option linter.unusedSimpArgs false
set_option linter.unusedVariables false
namespace Go.Proofs.Ythnpmmpcejfllaa
open Go Go.RowKit

/-! ### The spread of what was taken -/
theorem raisesb_mono {tk : List P3} {p : P3} (h : raisesb tk p = true) : tk.length ≤ 3 := raisesb_four h
/-- Each of these raises the rank of those before it. -/
def Raised : List P3 → List P3 → Prop
  | _, [] => True
  | tk, p :: ps => raisesb tk p = true ∧ Raised (tk ++ [p]) ps
theorem Raised.append : ∀ {ps : List P3} {tk : List P3} {p : P3}, Raised tk ps → raisesb (tk ++ ps) p = true → Raised tk (ps ++ [p])
  | [], tk, p, _, h => by rw [List.append_nil] at h; exact ⟨h, trivial⟩
  | q :: ps, tk, p, h1, h => ⟨h1.1, Raised.append h1.2 (by simpa using h)⟩
theorem spst_raised (ps : List P3) : ∀ k, Raised [] (spst ps k).1
  | 0 => trivial
  | k + 1 => by
    have ih := spst_raised ps k
    unfold spst
    cases hp : ps[k]? with
    | none => exact ih
    | some p =>
      dsimp only
      split
      · rename_i hr
        exact ih.append (by simpa using hr)
      · exact ih
theorem Raised.take : ∀ {ps tk : List P3} (n : Nat), Raised tk ps → Raised tk (ps.take n)
  | _, _, 0, _ => by simp [Raised]
  | [], _, _ + 1, _ => trivial
  | _ :: _, _, n + 1, h => ⟨h.1, Raised.take n h.2⟩
/-- The spread of points that each raise the rank is all of them. -/
theorem spst_all {ps : List P3} (h : Raised [] ps) : ∀ k, k ≤ ps.length → (spst ps k).1 = ps.take k ∧ (spst ps k).2 = (List.range k).map (fun i : Nat => (i : Int))
  | 0, _ => ⟨rfl, rfl⟩
  | k + 1, hk => by
    obtain ⟨h1, h2⟩ := spst_all h k (by omega)
    have hp : ps[k]? = some ps[k] := List.getElem?_eq_getElem (by omega)
    have key : ∀ (l tk : List P3) (i : Nat) (q : P3), Raised tk l → l[i]? = some q → raisesb (tk ++ l.take i) q = true := by
      intro l
      induction l with
      | nil => intro tk i q _ hq; simp at hq
      | cons a l ih =>
        intro tk i q hr hq
        cases i with
        | zero => simp at hq; subst hq; simpa using hr.1
        | succ i =>
          have := ih (tk ++ [a]) i q hr.2 (by simpa using hq)
          simpa using this
    have hr := key ps [] k ps[k] h hp
    unfold spst
    rw [hp]
    dsimp only
    rw [h1, h2, if_pos (by simpa using hr)]
    exact ⟨by rw [List.take_add_one, hp]; rfl, by rw [List.range_succ]; simp⟩
theorem spread_all {ps : List P3} (h : Raised [] ps) : (spread ps).length = ps.length := by
  unfold spread
  rw [(spst_all h ps.length (Nat.le_refl _)).2]
  simp
/-- What is taken stands at the places that are told, which rise. -/
theorem spst_places (ps : List P3) : ∀ k, k ≤ ps.length → (∀ (i : Nat) (n : Int), (spst ps k).2[i]? = some n → 0 ≤ n ∧ n < k ∧ (spst ps k).1[i]? = ps[n.toNat]?) ∧ (∀ (i : Nat) (m n : Int), (spst ps k).2[i]? = some m → (spst ps k).2[i + 1]? = some n → m < n)
  | 0, _ => by simp [spst]
  | k + 1, hk => by
    obtain ⟨h1, h2⟩ := spst_places ps k (by omega)
    obtain ⟨_, hlen, _⟩ := spst_ok ps k
    have hp : ps[k]? = some ps[k] := List.getElem?_eq_getElem (by omega)
    unfold spst
    rw [hp]
    dsimp only
    split
    · refine ⟨fun i n hn => ?_, fun i m n hm hn => ?_⟩
      · rw [List.getElem?_append] at hn
        split at hn
        · rename_i hi
          obtain ⟨a, b, c⟩ := h1 i n hn
          refine ⟨a, by omega, ?_⟩
          rw [List.getElem?_append_left (by omega)]
          exact c
        · rename_i hi
          have hi' : i = (spst ps k).2.length := by
            rcases Nat.lt_or_ge (i - (spst ps k).2.length) 1 with h | h
            · omega
            · rw [List.getElem?_eq_none (by simpa using h)] at hn; cases hn
          subst hi'
          simp at hn
          subst hn
          refine ⟨by omega, by omega, ?_⟩
          rw [List.getElem?_append_right (by omega), hlen]
          simp [hp]
      · have hlt : i + 1 ≤ (spst ps k).2.length := by
          rcases Nat.lt_or_ge (i + 1) ((spst ps k).2 ++ [(k : Int)]).length with h | h
          · simp at h; omega
          · rw [List.getElem?_eq_none h] at hn; cases hn
        rw [List.getElem?_append_left (by omega)] at hm
        rw [List.getElem?_append] at hn
        split at hn
        · exact h2 i m n hm hn
        · rename_i hi
          have hi' : i + 1 - (spst ps k).2.length = 0 := by omega
          rw [hi'] at hn
          simp at hn
          subst hn
          exact (h1 i m hm).2.1
    · exact ⟨fun i n hn => by obtain ⟨a, b, c⟩ := h1 i n hn; exact ⟨a, by omega, c⟩, h2⟩
/-- The points of a spread. -/
def taken (ps : List P3) : List P3 := (spst ps ps.length).1
theorem taken_rank {ps : List P3} (hf : fineb ps = true) (i : Nat) (hi : i < (taken ps).length) : rankO ((taken ps).take (i + 1)) = ((i : Int), 0) := by
  have hr : Raised [] ((taken ps).take (i + 1)) := (spst_raised ps ps.length).take (i + 1)
  obtain ⟨h4, _, hsub⟩ := spst_ok ps ps.length
  have hff : fineb ((taken ps).take (i + 1)) = true := by
    unfold fineb
    rw [List.all_eq_true]
    intro q hq
    have := fineb_mem hf (hsub q (List.mem_of_mem_take hq))
    simpa using this
  have hl : ((taken ps).take (i + 1)).length = i + 1 := by rw [List.length_take]; omega
  have h256 : ¬ 256 < ((taken ps).take (i + 1)).length := by
    have : (taken ps).length ≤ 4 := h4
    omega
  have hs : spreadO ((taken ps).take (i + 1)) = (spread ((taken ps).take (i + 1)), 0) := by
    unfold spreadO
    rw [if_neg (by rw [hff]; simp), if_neg h256]
  unfold rankO
  rw [hs]
  dsimp only
  rw [if_pos rfl, spread_all hr, hl]
  simp
end Go.Proofs.Ythnpmmpcejfllaa
