/-
  What a row's condition on the listed variables says (Env).
-/
import Derived.Test.YtbdkbmhejoakiaaDoorTw
import Derived.Test.YtbdkbmhejoakiaaDoorRows
import Derived.ProofKit
import Derived.LaidMore
set_option linter.unusedVariables false
namespace Go.Proofs.YtbdkbmhejoakiaaDoor
open Go Go.ChangeShapes Go.WideShapes Go.RowKit

set_option maxRecDepth 100000
theorem bnd_of_weight {H : Type} (P : Program) {t u : TypeId} {d : DataW H} {bs : List UInt8} (h : ((DataW.weightsEach P [t, u] [d, .lit (.string bs)]).all fun x => decide (x ≤ reachBytes)) = true) : bs.length ≤ 140737488351232 := by
  simp only [DataW.weightsEach, DataW.weights, List.all_append, List.all_cons, List.all_nil, Bool.and_true, Bool.and_eq_true, decide_eq_true_eq, List.append_nil] at h
  have := h.2
  simpa [reachBytes] using this
/-- One variable off the list. -/
theorem var_of {P : Program} {W : World} {n : String} {d : DataW Unit} {r : List (String × DataW Unit)} {ps : List MemPlace} (g : Nat) (t : TypeId) (hg : P.globalNamed n = some g) (ht : (P.globals[g]?).map (·.type) = some t) (h : DataW.LaidVars P W ((n, d) :: r) ps) :
    (∃ cs fuel p, W.var? P n = some cs ∧ DataW.trod (fun _ => ()) P W 0 (fun _ => true) false fuel t cs.toList = some (d, p)) ∧ ∃ q, DataW.LaidVars P W r q := by
  obtain ⟨g', t', cs, fuel, p, q, hg', ht', hv, hd, hr, _⟩ := h
  obtain rfl := Option.some.inj (hg.symm.trans hg')
  obtain rfl := Option.some.inj (ht.symm.trans ht')
  exact ⟨⟨cs, fuel, p, hv, hd⟩, q, hr⟩
theorem skip_of {P : Program} {W : World} {n : String} {d : DataW Unit} {r : List (String × DataW Unit)} {ps : List MemPlace} (h : DataW.LaidVars P W ((n, d) :: r) ps) : ∃ q, DataW.LaidVars P W r q := by
  obtain ⟨g', t', cs, fuel, p, q, hg', ht', hv, hd, hr, _⟩ := h
  exact ⟨q, hr⟩
theorem err_of {P : Program} {W : World} {n nm : String} {d : DataW Unit} {g : Nat} {t : TypeId} {ms : Array (String × TypeId)} (hi : P.underlying t = some (.interface ms)) (hg : P.globalNamed n = some g)
    (h : ∃ cs fuel p, W.var? P n = some cs ∧ DataW.trod (fun _ => ()) P W 0 (fun _ => true) false fuel t cs.toList = some (.iface nm d, p)) :
    ∃ ev t z, W.heap[g]? = some (.cells #[ev] t z) ∧ (ev = .nilIface ∨ ∃ te pe, ev = .iface te pe) := by
  obtain ⟨cs, fuel, p, hv, hd⟩ := h
  obtain ⟨_, u, v, hcs, _, _⟩ := iface_of_trod hi hd
  have e : cs = #[.iface u v] := Array.eq_one_of_toList hcs
  subst e
  simp only [World.var?, hg, Option.bind_some] at hv
  split at hv
  · rename_i cs' t' z' hh
    obtain rfl := Option.some.inj hv
    exact ⟨_, _, _, hh, .inr ⟨u, v, rfl⟩⟩
  · cases hv
theorem env_of_laid {W : World} (h : laidMetH Tryd.prog Rows.fixBackRow.laid W) : Env W := by
  rw [MakeChecks.laidMetH_plain _ _ _ (by kernel_rfl)] at h
  obtain ⟨ps, h0, _⟩ := h
  obtain ⟨q1, h1⟩ := skip_of h0
  obtain ⟨q2, h2⟩ := skip_of h1
  obtain ⟨⟨cs, fuel, p, hv, hd⟩, q3, h3⟩ := var_of 3 110 (show Tryd.prog.globalNamed "internal/strconv.uint64pow10" = some 3 by kernel_rfl) (by kernel_rfl) h2
  obtain ⟨hr, q4, h4⟩ := var_of 2 53 (show Tryd.prog.globalNamed "strconv.ErrRange" = some 2 by kernel_rfl) (by kernel_rfl) h3
  obtain ⟨hs, q5, h5⟩ := var_of 1 53 (show Tryd.prog.globalNamed "strconv.ErrSyntax" = some 1 by kernel_rfl) (by kernel_rfl) h4
  refine ⟨err_of Tryd.underlying53 (by kernel_rfl) hs, err_of Tryd.underlying53 (by kernel_rfl) hr, ?_⟩
  unfold Lib.TabIs
  rw [hv]
  have e : cs.toList = Lib.pow10Tab.map fun z => Value.int .u64 z := Lib.cells_of_tab Tryd.underlying110 Tryd.underlying35 (by kernel_rfl) (by kernel_rfl) hd
  rw [← e]
end Go.Proofs.YtbdkbmhejoakiaaDoor
