/-
  Package ninepinref01: Div (contract).
-/
import Derived.Test.YtbdkbmhejoakiaaDoorCb
import Derived.Test.YtbdkbmhejoakiaaDoorDf
set_option linter.unusedSimpArgs false
set_option linter.unusedVariables false
set_option maxRecDepth 100000
namespace Go.Proofs.YtbdkbmhejoakiaaDoor
open Go Go.RowKit
attribute [local irreducible] wpList

theorem results_cct {P : Program} {w : World} {fn : Func} {tmps : Array Value} {p q r : Nat} {t u : TypeId} {a b : Addr} {x y z : Value} (hf : fn.results = #[.cell p t, .cell q u, .tmp r])
    (h1 : tmps.getD p undef = .pointer (some a)) (h1' : (loadVar t a).run P w = .ok x w) (h2 : tmps.getD q undef = .pointer (some b)) (h2' : (loadVar u b).run P w = .ok y w) (h3 : tmps.getD r undef = z) :
    (results fn tmps).run P w = .ok (.tuple #[x, y, z]) w := by
  have e1 : tmps[p]?.getD undef = .pointer (some a) := by simpa using h1
  have e2 : tmps[q]?.getD undef = .pointer (some b) := by simpa using h2
  have e3 : tmps[r]?.getD undef = z := by simpa using h3
  simp [results, hf, e1, e2, e3, asAddr, h1', h2']
theorem tab_one' (L : Nat) : tab (upd (fun _ => 0) 0 1) L = tab (bt 1) L := by
  rw [← tab_one]
  refine tab_congr fun j _ => ?_
  unfold upd
  split
  · rfl
  · exact (bt_zero j).symm
theorem bsl_one {w : World} {g L : Nat} {t : TypeId} (h : w.heap[g]? = some (.cells (tab (upd (fun _ => 0) 0 1) L).toArray t (0, 0))) : BSl w (.slice (some ⟨g, 0, none⟩) L L) 1 L :=
  BSl.of (t := t) (by rw [← tab_one']; exact h)
end Go.Proofs.YtbdkbmhejoakiaaDoor
