/-
  Points in slices; package orient: less, fine, Side (contracts).
-/
import Derived.Test.YtbhlnbllkoomfaaGe
import Derived.Test.YtbhlnbllkoomfaaSl
set_option linter.unusedSimpArgs false
set_option maxRecDepth 100000
namespace Go.Proofs.Ytbhlnbllkoomfaa
open Go Go.RowKit

/-- Points, cell by cell. -/
def pcs : List P3 → List Value
  | [] => []
  | p :: ps => .int .i64 p.x :: .int .i64 p.y :: .int .i64 p.z :: pcs ps
theorem pcs_length : ∀ ps : List P3, (pcs ps).length = ps.length * 3
  | [] => rfl
  | p :: ps => by simp [pcs, pcs_length ps]; omega
theorem pcs_drop : ∀ (ps : List P3) (k : Nat) (p : P3), ps[k]? = some p → ((pcs ps).drop (k * 3)).take 3 = [.int .i64 p.x, .int .i64 p.y, .int .i64 p.z]
  | [], _, _, h => by simp at h
  | q :: ps, 0, p, h => by simp at h; subst h; rfl
  | q :: ps, k + 1, p, h => by
    have := pcs_drop ps k p (by simpa using h)
    rw [show (k + 1) * 3 = k * 3 + 3 by omega, pcs]
    simpa using this
theorem pcs_at {bc : List Value} {off : Nat} {ps : List P3} (h : (bc.drop off).take (ps.length * 3) = pcs ps) {k : Nat} {p : P3} (hk : ps[k]? = some p) : (bc.drop (off + k * 3)).take 3 = [.int .i64 p.x, .int .i64 p.y, .int .i64 p.z] := by
  have hlt : k < ps.length := by
    rcases Nat.lt_or_ge k ps.length with h' | h'
    · exact h'
    · rw [List.getElem?_eq_none h'] at hk; cases hk
  rw [← pcs_drop ps k p hk, ← h, List.drop_take, List.take_take, List.drop_drop, show min 3 (ps.length * 3 - k * 3) = 3 by omega]
theorem pcs_room {bc : List Value} {off : Nat} {ps : List P3} (h : (bc.drop off).take (ps.length * 3) = pcs ps) : ps = [] ∨ off + ps.length * 3 ≤ bc.length := by
  cases ps with
  | nil => exact .inl rfl
  | cons p ps =>
    right
    have := congrArg List.length h
    rw [pcs_length] at this
    simp at this
    simp
    omega
/-- A slice of points, as it lies in a world. -/
def PSl (w : World) (v : Value) (ps : List P3) : Prop :=
  (v = .slice none 0 0 ∧ ps = []) ∨ ∃ g off cap bc t z, v = .slice (some ⟨g, off, none⟩) ps.length cap ∧ w.heap[g]? = some (.cells (bc : List Value).toArray t z) ∧ (bc.drop off).take (ps.length * 3) = pcs ps
theorem PSl.keep {w w' : World} {v : Value} {ps : List P3} (h : PSl w v ps) (hk : Keep [] w w') : PSl w' v ps := by
  rcases h with h | ⟨g, off, cap, bc, t, z, h1, h2, h3⟩
  · exact .inl h
  · refine .inr ⟨g, off, cap, bc, t, z, h1, ?_, h3⟩
    have hlt : g < w.heap.size := by
      rcases Nat.lt_or_ge g w.heap.size with h' | h'
      · exact h'
      · rw [Array.getElem?_eq_none h'] at h2; cases h2
    rw [hk.block g hlt (by simp)]
    exact h2
def fineb (ps : List P3) : Bool := ps.all fun p => decide p.may

end Go.Proofs.Ytbhlnbllkoomfaa
