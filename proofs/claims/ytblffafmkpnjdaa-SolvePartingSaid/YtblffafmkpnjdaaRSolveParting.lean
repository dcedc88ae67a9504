/-
  Rows.SolvePartingSaid: the law answers true at every input, and leaves its arguments as they were.
-/
import Derived.Test.YtblffafmkpnjdaaLo
import Derived.Test.YtblffafmkpnjdaaLq
import Derived.Test.YtblffafmkpnjdaaUv
import Derived.Test.YtblffafmkpnjdaaUx
import Derived.Test.YtblffafmkpnjdaaRows
set_option linter.unusedVariables false
namespace Go.Proofs.Ytblffafmkpnjdaa
open Go Go.ChangeShapes Go.WideShapes Go.ChangeAt Go.RowKit

set_option maxRecDepth 100000
theorem solveParting_c0 : (Rows.solvePartingRow.wf (OpenSpec.ofChange Rows.solvePartingSpec)) = true := by kernel_rfl
theorem solveParting_c1 : (laidOutB Try.pinned.checked.prog) = true := by kernel_rfl
theorem solveParting_c2 : (mapsRowed Try.pinned.checked.prog) = true := by kernel_rfl
theorem solveParting_c3 : (Try.f5.params.all (Try.pinned.checked.prog.readableRec ·)) = true := by kernel_rfl
theorem solveParting_c4 : (namedTie Try.pinned.checked.prog Rows.solvePartingRow.named Rows.solvePartingSpec.vars) = true := by kernel_rfl
theorem solveParting_c5 : ((Rows.solvePartingRow.stops == [])) = true := by kernel_rfl
theorem solveParting_c6 : ((Try.pinned.checked.prog.stops == [])) = true := by kernel_rfl
theorem solveParting_c7 : ((Rows.solvePartingRow.knobs == [])) = true := by kernel_rfl
theorem solveParting_c8 : ((Try.pinned.checked.prog.stopKnobs == [])) = true := by kernel_rfl
theorem solveParting_c9 : ((Rows.solvePartingRow.inPlace == Try.pinned.checked.prog.inPlace 5)) = true := by kernel_rfl
theorem solveParting_c10 : ((Rows.solvePartingRow.unfollowed == Try.pinned.checked.prog.unfollowed 5)) = true := by kernel_rfl
theorem solveParting_c11 : ((Rows.solvePartingRow.recurses == Try.pinned.checked.prog.recurses 5)) = true := by kernel_rfl
theorem solveParting_c12 : ((Rows.solvePartingRow.named == Try.pinned.checked.prog.varsNamed 5)) = true := by kernel_rfl
theorem solveParting_c13 : ((Rows.solvePartingRow.maps == (Try.f5.params.toList ++ Rows.solvePartingSpec.plain.varTypes Try.pinned.checked.prog).any (Try.pinned.checked.prog.mapsRec ·))) = true := by kernel_rfl
theorem solveParting_c14 : ((Rows.solvePartingRow.ifaces == (Try.f5.params.toList ++ Rows.solvePartingSpec.plain.varTypes Try.pinned.checked.prog).any (Try.pinned.checked.prog.ifacesRec ·))) = true := by kernel_rfl
theorem solveParting_c15 : ((Rows.solvePartingRow.mapsOut == Try.pinned.checked.prog.mapsAmong Try.f5.resultTypes.toList)) = true := by kernel_rfl
theorem solveParting_c16 : ((Rows.solvePartingRow.loops == (Try.f5.params.toList ++ Rows.solvePartingSpec.plain.varTypes Try.pinned.checked.prog).any (Try.pinned.checked.prog.loopsFrom ·))) = true := by kernel_rfl
theorem solveParting_c17 : ((Rows.solvePartingRow.wideKeys == (Try.f5.params.toList ++ Rows.solvePartingSpec.plain.varTypes Try.pinned.checked.prog ++ Try.f5.resultTypes.toList).any (Try.pinned.checked.prog.wideKeysFrom ·))) = true := by kernel_rfl
theorem solveParting_c18 : (Rows.solvePartingSpec.vars.all (Try.pinned.checked.prog.varReadable ·)) = true := by kernel_rfl
theorem solveParting_c19 : (Try.f5.resultTypes.all (fun t => Try.pinned.checked.prog.readableRec t && decide (t < Try.pinned.checked.prog.types.size))) = true := by kernel_rfl
theorem solveParting_c20 : ((Rows.solvePartingRow.ifacesOut == Try.f5.resultTypes.toList.any (Try.pinned.checked.prog.ifacesRec ·))) = true := by kernel_rfl
theorem solveParting_c21 : ((Rows.solvePartingRow.loopsOut == Try.f5.resultTypes.toList.any (Try.pinned.checked.prog.loopsFrom ·))) = true := by kernel_rfl
theorem solveParting_c22 : ((Rows.solvePartingRow.plainKeys == Try.pinned.checked.prog.plainKeys)) = true := by kernel_rfl
theorem solveParting_c23 : (Rows.solvePartingRow.shortTexts.isNone) = true := by kernel_rfl
theorem solveParting_c24 : (Try.pinned.checked.prog.stopsHeard) = true := by kernel_rfl
theorem solveParting_c25 : (Try.pinned.checked.prog.mayEnter) = true := by kernel_rfl
theorem solveParting_c26 : ((Rows.solvePartingRow.lifted == Try.pinned.checked.prog.liftsFinal)) = true := by kernel_rfl
theorem solveParting_c27 : ((Try.pinned.checked.prog.make == some Rows.solvePartingRow.make)) = true := by kernel_rfl
theorem solveParting_c28 : ((Rows.solvePartingRow.kinds == (if Rows.solvePartingRow.domain.isEmpty then [] else Try.f5.params.toList.map fun t => match Try.pinned.checked.prog.underlying t with | some (.int k) => some k | _ => none))) = true := by kernel_rfl
theorem solveParting_c29 : ((Rows.solvePartingRow.pinned == Rows.solvePartingRow.pinnedBy)) = true := by kernel_rfl
theorem solveParting_c30 : ((Rows.solvePartingRow.veiled == (Try.f5.params.toList ++ Rows.solvePartingSpec.plain.varTypes Try.pinned.checked.prog ++ Try.f5.resultTypes.toList).any (Try.pinned.checked.prog.veiledRec ·))) = true := by kernel_rfl
theorem solveParting_c31 : (Rows.solvePartingRow.veiledFits Try.pinned.checked.prog Try.f5.params.toList (Try.f5.params.toList ++ Rows.solvePartingSpec.plain.varTypes Try.pinned.checked.prog ++ Try.f5.resultTypes.toList)) = true := by kernel_rfl
theorem solveParting_closed : joinedFacts Try.pinned.checked.prog 5 Try.f5 Rows.solvePartingSpec Rows.solvePartingRow = true := by
  unfold joinedFacts
  simp only [Bool.and_eq_true]
  exact ⟨⟨⟨⟨⟨⟨⟨⟨⟨⟨⟨⟨⟨⟨⟨⟨⟨⟨⟨⟨⟨⟨⟨⟨⟨⟨⟨⟨⟨⟨⟨solveParting_c0, solveParting_c1⟩, solveParting_c2⟩, solveParting_c3⟩, solveParting_c4⟩, solveParting_c5⟩, solveParting_c6⟩, solveParting_c7⟩, solveParting_c8⟩, solveParting_c9⟩, solveParting_c10⟩, solveParting_c11⟩, solveParting_c12⟩, solveParting_c13⟩, solveParting_c14⟩, solveParting_c15⟩, solveParting_c16⟩, solveParting_c17⟩, solveParting_c18⟩, solveParting_c19⟩, solveParting_c20⟩, solveParting_c21⟩, solveParting_c22⟩, solveParting_c23⟩, solveParting_c24⟩, solveParting_c25⟩, solveParting_c26⟩, solveParting_c27⟩, solveParting_c28⟩, solveParting_c29⟩, solveParting_c30⟩, solveParting_c31⟩
theorem solveParting_lifted (os : Os) (started : os.Started) (H : Type) (enc : TypeId × Value → H) :
    ReturnsInHanded {} Try.checked os 5 .any (Rows.solvePartingSpec.pre6 enc Try.prog Try.f5 Rows.solvePartingRow.domain false) (Rows.solvePartingSpec.post enc Try.prog Try.f5 false true false false) := by
  refine returnsInHanded_of_change (C := Try.checked) own started (by kernel_rfl) Try.func5
    (ChangeSpec.witness6 (enc := enc) (C := Try.checked) false ⟨#[], #[.agg #[.int .i64 0, .int .i64 0, .int .i64 0, .int .i64 0, .int .i64 0, .int .i64 0, .int .i64 0, .int .i64 0, .int .i64 0, .int .i64 0, .int .i64 0, .int .i64 0, .int .i64 0, .int .i64 0, .int .i64 0, .int .i64 0], .agg #[.int .i64 0, .int .i64 0, .int .i64 0, .int .i64 0, .int .i64 0, .int .i64 0, .int .i64 0, .int .i64 0, .int .i64 0, .int .i64 0, .int .i64 0, .int .i64 0, .int .i64 0, .int .i64 0, .int .i64 0, .int .i64 0], .agg #[.int .i64 0, .int .i64 0, .int .i64 0, .int .i64 0, .int .i64 0, .int .i64 0, .int .i64 0, .int .i64 0, .int .i64 0, .int .i64 0, .int .i64 0, .int .i64 0, .int .i64 0, .int .i64 0, .int .i64 0, .int .i64 0, .int .i64 0, .int .i64 0, .int .i64 0, .int .i64 0, .int .i64 0, .int .i64 0, .int .i64 0, .int .i64 0, .int .i64 0], .int .i64 0], []⟩ 8 (by kernel_rfl) (by kernel_rfl) (by kernel_rfl) (by kernel_rfl)) ?_
  intro W base args ds gs before hval0 hW hcnd _
  have hval : ∀ (j : Nat) t v, Try.f5.params[j]? = some t → args[j]? = some v → Value.okWide Try.prog W .any base t v := hval0
  have hW' := hW
  obtain ⟨p, q, hA0, hV, rfl, hfz, hnd⟩ := hW
  have hA : DataW.TrodAll enc Try.prog W 0 (fun _ => true) true Try.f5.params.toList args.toList ds p := hA0
  rw [Try.params5] at hA hval
  obtain ⟨v0, vs0, d0, ds0, p0, q0, hargs, rfl, rfl, h0, r0⟩ := trodAll_cons hA
  obtain ⟨v1, vs1, d1, ds1, p1, q1, rfl, rfl, rfl, h1, r1⟩ := trodAll_cons r0
  obtain ⟨v2, vs2, d2, ds2, p2, q2, rfl, rfl, rfl, h2, r2⟩ := trodAll_cons r1
  obtain ⟨v3, vs3, d3, ds3, p3, q3, rfl, rfl, rfl, h3, r3⟩ := trodAll_cons r2
  obtain ⟨rfl, rfl, rfl⟩ := trodAll_nil r3
  obtain rfl : args = #[v0, v1, v2, v3] := by cases args; simp_all
  obtain ⟨rfl, rfl⟩ := trodVars_none hV
  have k0 := h0
  have k1 := h1
  have k2 := h2
  have k3 := h3
  have lt0 : ∀ x ∈ p0, x.block < W.heap.size := by obtain ⟨m, hm⟩ := k0; exact DataW.trod_lt m _ _ _ hm
  have lt1 : ∀ x ∈ p1, x.block < W.heap.size := by obtain ⟨m, hm⟩ := k1; exact DataW.trod_lt m _ _ _ hm
  have lt2 : ∀ x ∈ p2, x.block < W.heap.size := by obtain ⟨m, hm⟩ := k2; exact DataW.trod_lt m _ _ _ hm
  have lt3 : ∀ x ∈ p3, x.block < W.heap.size := by obtain ⟨m, hm⟩ := k3; exact DataW.trod_lt m _ _ _ hm
  obtain ⟨a0, rfl, ha0⟩ := open_inert (hval 0 40 v0 rfl rfl) h0
  obtain ⟨a1, rfl, ha1⟩ := open_inert (hval 1 40 v1 rfl rfl) h1
  obtain ⟨a2, rfl, ha2⟩ := open_rowf (hval 2 33 v2 rfl rfl) h2
  obtain ⟨a3, rfl, ha3⟩ := open_idx (hval 3 3 v3 rfl rfl) h3
  clear hA0 hval0
  refine (part_law a0 ha0 a1 ha1 a2 ha2 a3 ha3 W).mono fun e W' ⟨he, hk⟩ => ?_
  subst he
  have bel := hk.below
  exact ⟨_, rfl, _, _, _, [], _, [], hW', trodAll_mk1 (shut_bool Try.underlying4 _), (trodAll_cons_mk (Below.trod laidOut (by kernel_rfl) (of_decide_eq_true (by kernel_rfl)) k0 bel lt0) (trodAll_cons_mk (Below.trod laidOut (by kernel_rfl) (of_decide_eq_true (by kernel_rfl)) k1 bel lt1) (trodAll_cons_mk (Below.trod laidOut (by kernel_rfl) (of_decide_eq_true (by kernel_rfl)) k2 bel lt2) (trodAll_cons_mk (Below.trod laidOut (by kernel_rfl) (of_decide_eq_true (by kernel_rfl)) k3 bel lt3) trodAll_mk0)))), rfl, bel.frame _, fun h => by cases h⟩
theorem solveParting_named : Try.pinned.checked.prog.funcNamed Rows.solvePartingRow.func = some 5 := by kernel_rfl
theorem solveParting_inst : (Try.f5).isInstance Try.pinned.checked.prog Rows.solvePartingRow.origin Rows.solvePartingRow.targs := of_decide_eq_true (by kernel_rfl)
theorem solveParting_wrap : (Try.f5).isWrapper Try.pinned.checked.prog Rows.solvePartingRow.wrapper Rows.solvePartingRow.mainSum := by unfold Func.isWrapper; rw [if_neg (of_decide_eq_false (by kernel_rfl))]; exact ⟨rfl, rfl⟩
theorem solveParting_over : Rows.solvePartingRow.holds Try.pinned (OpenSpec.ofChange Rows.solvePartingSpec) :=
  OpenClaim.holds_of_wide 5 Try.f5 rfl rfl rfl rfl rfl rfl rfl ⟨rfl, rfl, rfl, rfl, rfl⟩ rfl rfl rfl rfl rfl solveParting_named Try.func5 solveParting_closed
    solveParting_inst solveParting_wrap
    (fun os started H enc _ => solveParting_lifted os started H enc)
/-- The statement. -/
theorem solveParting_proved : Rows.SolvePartingSaid := solveParting_over
end Go.Proofs.Ytblffafmkpnjdaa
