/-
  Points moved alike: no answer of package orient changes (plain).
-/
import Derived.Test.YthnpmmpcejfllaaHv
import Derived.Test.YthnpmmpcejfllaaPr
set_option linter.unusedSimpArgs false
set_option linter.unusedVariables false
namespace Go.Proofs.Ythnpmmpcejfllaa
open Go Go.RowKit

/-- A point, moved. -/
def P3.add (a b : P3) : P3 := ⟨a.x + b.x, a.y + b.y, a.z + b.z⟩
theorem sub_moved (a b t : P3) : (a.add t).sub (b.add t) = a.sub b := by
  simp only [P3.add, P3.sub, P3.mk.injEq]
  omega
theorem moved_inj {a b t : P3} : a.add t = b.add t ↔ a = b := by
  obtain ⟨ax, ay, az⟩ := a
  obtain ⟨bx, by', bz⟩ := b
  simp only [P3.add, P3.mk.injEq]
  omega
theorem raises_moved (t : P3) (tk : List P3) (p : P3) : raisesb (tk.map (·.add t)) (p.add t) = raisesb tk p := by
  match tk with
  | [] => rfl
  | [a] => simp only [List.map_cons, List.map_nil, raisesb, ne_eq, moved_inj]
  | [a, b] => simp only [List.map_cons, List.map_nil, raisesb, sub_moved]
  | [a, b, c] => simp only [List.map_cons, List.map_nil, raisesb, sub_moved]
  | _ :: _ :: _ :: _ :: _ => rfl
theorem spst_moved (t : P3) (ps : List P3) : ∀ k, spst (ps.map (·.add t)) k = ((spst ps k).1.map (·.add t), (spst ps k).2)
  | 0 => rfl
  | k + 1 => by
    unfold spst
    rw [List.getElem?_map, spst_moved t ps k]
    cases hk : ps[k]? with
    | none => rfl
    | some p =>
      simp only [Option.map_some, raises_moved]
      split
      · simp
      · rfl
theorem spread_moved (t : P3) (ps : List P3) : spread (ps.map (·.add t)) = spread ps := by
  unfold spread
  rw [spst_moved, List.length_map]
theorem spreadO_moved {t : P3} {ps : List P3} (h : fineb (ps.map (·.add t)) = fineb ps) : spreadO (ps.map (·.add t)) = spreadO ps := by
  unfold spreadO
  rw [h, List.length_map, spread_moved]
theorem simplexb_moved {t : P3} {ps : List P3} (h : fineb (ps.map (·.add t)) = fineb ps) : simplexb (ps.map (·.add t)) = simplexb ps := by
  unfold simplexb rankO
  rw [spreadO_moved h, List.length_map]
theorem insideb_moved (t : P3) (ps : List P3) (p : P3) : insideb (ps.map (·.add t)) (p.add t) = insideb ps p := by
  match ps with
  | [] => rfl
  | [a] => simp only [List.map_cons, List.map_nil, insideb, moved_inj]
  | [a, b] => simp only [List.map_cons, List.map_nil, insideb, betweenb, decide_eq_decide, sub_moved]
  | [a, b, c] => simp only [List.map_cons, List.map_nil, insideb, withinb, edge, sub_moved]; rfl
  | [a, b, c, d] => simp only [List.map_cons, List.map_nil, insideb, deepb, side, sub_moved]; rfl
  | _ :: _ :: _ :: _ :: _ :: _ => rfl
theorem insideO_moved {t : P3} {ps : List P3} {p : P3} (h : fineb (ps.map (·.add t)) = fineb ps) (hp : p.may) (hp' : (p.add t).may) : insideO (ps.map (·.add t)) (p.add t) = insideO ps p := by
  unfold insideO
  rw [simplexb_moved h, insideb_moved, h]
  simp only [hp, hp']
theorem volO_moved {t : P3} {ps : List P3} (h : fineb (ps.map (·.add t)) = fineb ps) : volO (ps.map (·.add t)) = volO ps := by
  unfold volO
  rw [h, List.length_map]
  have : vol (ps.map (·.add t)) = vol ps := by
    match ps with
    | [] => rfl
    | [_] => rfl
    | [_, _] => rfl
    | [_, _, _] => rfl
    | [a, b, c, d] => simp only [List.map_cons, List.map_nil, vol, sub_moved]
    | _ :: _ :: _ :: _ :: _ :: _ => rfl
  rw [this]
end Go.Proofs.Ythnpmmpcejfllaa
