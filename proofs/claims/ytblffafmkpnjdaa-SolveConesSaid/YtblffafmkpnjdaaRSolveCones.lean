/-
  Rows.SolveConesSaid: the law answers true at every input, and leaves its arguments as they were.
-/
import Derived.Test.YtblffafmkpnjdaaLo
import Derived.Test.YtblffafmkpnjdaaUp
import Derived.Test.YtblffafmkpnjdaaRows
set_option linter.unusedVariables false
namespace Go.Proofs.Ytblffafmkpnjdaa
open Go Go.ChangeShapes Go.WideShapes Go.ChangeAt Go.RowKit

set_option maxRecDepth 100000
theorem solveCones_c0 : (Rows.solveConesRow.wf (OpenSpec.ofChange Rows.solveConesSpec)) = true := by kernel_rfl
theorem solveCones_c1 : (laidOutB Try.pinned.checked.prog) = true := by kernel_rfl
theorem solveCones_c2 : (mapsRowed Try.pinned.checked.prog) = true := by kernel_rfl
theorem solveCones_c3 : (Try.f4.params.all (Try.pinned.checked.prog.readableRec ·)) = true := by kernel_rfl
theorem solveCones_c4 : (namedTie Try.pinned.checked.prog Rows.solveConesRow.named Rows.solveConesSpec.vars) = true := by kernel_rfl
theorem solveCones_c5 : ((Rows.solveConesRow.stops == [])) = true := by kernel_rfl
theorem solveCones_c6 : ((Try.pinned.checked.prog.stops == [])) = true := by kernel_rfl
theorem solveCones_c7 : ((Rows.solveConesRow.knobs == [])) = true := by kernel_rfl
theorem solveCones_c8 : ((Try.pinned.checked.prog.stopKnobs == [])) = true := by kernel_rfl
theorem solveCones_c9 : ((Rows.solveConesRow.inPlace == Try.pinned.checked.prog.inPlace 4)) = true := by kernel_rfl
theorem solveCones_c10 : ((Rows.solveConesRow.unfollowed == Try.pinned.checked.prog.unfollowed 4)) = true := by kernel_rfl
theorem solveCones_c11 : ((Rows.solveConesRow.recurses == Try.pinned.checked.prog.recurses 4)) = true := by kernel_rfl
theorem solveCones_c12 : ((Rows.solveConesRow.named == Try.pinned.checked.prog.varsNamed 4)) = true := by kernel_rfl
theorem solveCones_c13 : ((Rows.solveConesRow.maps == (Try.f4.params.toList ++ Rows.solveConesSpec.plain.varTypes Try.pinned.checked.prog).any (Try.pinned.checked.prog.mapsRec ·))) = true := by kernel_rfl
theorem solveCones_c14 : ((Rows.solveConesRow.ifaces == (Try.f4.params.toList ++ Rows.solveConesSpec.plain.varTypes Try.pinned.checked.prog).any (Try.pinned.checked.prog.ifacesRec ·))) = true := by kernel_rfl
theorem solveCones_c15 : ((Rows.solveConesRow.mapsOut == Try.pinned.checked.prog.mapsAmong Try.f4.resultTypes.toList)) = true := by kernel_rfl
theorem solveCones_c16 : ((Rows.solveConesRow.loops == (Try.f4.params.toList ++ Rows.solveConesSpec.plain.varTypes Try.pinned.checked.prog).any (Try.pinned.checked.prog.loopsFrom ·))) = true := by kernel_rfl
theorem solveCones_c17 : ((Rows.solveConesRow.wideKeys == (Try.f4.params.toList ++ Rows.solveConesSpec.plain.varTypes Try.pinned.checked.prog ++ Try.f4.resultTypes.toList).any (Try.pinned.checked.prog.wideKeysFrom ·))) = true := by kernel_rfl
theorem solveCones_c18 : (Rows.solveConesSpec.vars.all (Try.pinned.checked.prog.varReadable ·)) = true := by kernel_rfl
theorem solveCones_c19 : (Try.f4.resultTypes.all (fun t => Try.pinned.checked.prog.readableRec t && decide (t < Try.pinned.checked.prog.types.size))) = true := by kernel_rfl
theorem solveCones_c20 : ((Rows.solveConesRow.ifacesOut == Try.f4.resultTypes.toList.any (Try.pinned.checked.prog.ifacesRec ·))) = true := by kernel_rfl
theorem solveCones_c21 : ((Rows.solveConesRow.loopsOut == Try.f4.resultTypes.toList.any (Try.pinned.checked.prog.loopsFrom ·))) = true := by kernel_rfl
theorem solveCones_c22 : ((Rows.solveConesRow.plainKeys == Try.pinned.checked.prog.plainKeys)) = true := by kernel_rfl
theorem solveCones_c23 : (Rows.solveConesRow.shortTexts.isNone) = true := by kernel_rfl
theorem solveCones_c24 : (Try.pinned.checked.prog.stopsHeard) = true := by kernel_rfl
theorem solveCones_c25 : (Try.pinned.checked.prog.mayEnter) = true := by kernel_rfl
theorem solveCones_c26 : ((Rows.solveConesRow.lifted == Try.pinned.checked.prog.liftsFinal)) = true := by kernel_rfl
theorem solveCones_c27 : ((Try.pinned.checked.prog.make == some Rows.solveConesRow.make)) = true := by kernel_rfl
theorem solveCones_c28 : ((Rows.solveConesRow.kinds == (if Rows.solveConesRow.domain.isEmpty then [] else Try.f4.params.toList.map fun t => match Try.pinned.checked.prog.underlying t with | some (.int k) => some k | _ => none))) = true := by kernel_rfl
theorem solveCones_c29 : ((Rows.solveConesRow.pinned == Rows.solveConesRow.pinnedBy)) = true := by kernel_rfl
theorem solveCones_c30 : ((Rows.solveConesRow.veiled == (Try.f4.params.toList ++ Rows.solveConesSpec.plain.varTypes Try.pinned.checked.prog ++ Try.f4.resultTypes.toList).any (Try.pinned.checked.prog.veiledRec ·))) = true := by kernel_rfl
theorem solveCones_c31 : (Rows.solveConesRow.veiledFits Try.pinned.checked.prog Try.f4.params.toList (Try.f4.params.toList ++ Rows.solveConesSpec.plain.varTypes Try.pinned.checked.prog ++ Try.f4.resultTypes.toList)) = true := by kernel_rfl
theorem solveCones_closed : joinedFacts Try.pinned.checked.prog 4 Try.f4 Rows.solveConesSpec Rows.solveConesRow = true := by
  unfold joinedFacts
  simp only [Bool.and_eq_true]
  exact ⟨⟨⟨⟨⟨⟨⟨⟨⟨⟨⟨⟨⟨⟨⟨⟨⟨⟨⟨⟨⟨⟨⟨⟨⟨⟨⟨⟨⟨⟨⟨solveCones_c0, solveCones_c1⟩, solveCones_c2⟩, solveCones_c3⟩, solveCones_c4⟩, solveCones_c5⟩, solveCones_c6⟩, solveCones_c7⟩, solveCones_c8⟩, solveCones_c9⟩, solveCones_c10⟩, solveCones_c11⟩, solveCones_c12⟩, solveCones_c13⟩, solveCones_c14⟩, solveCones_c15⟩, solveCones_c16⟩, solveCones_c17⟩, solveCones_c18⟩, solveCones_c19⟩, solveCones_c20⟩, solveCones_c21⟩, solveCones_c22⟩, solveCones_c23⟩, solveCones_c24⟩, solveCones_c25⟩, solveCones_c26⟩, solveCones_c27⟩, solveCones_c28⟩, solveCones_c29⟩, solveCones_c30⟩, solveCones_c31⟩
theorem solveCones_lifted (os : Os) (started : os.Started) (H : Type) (enc : TypeId × Value → H) :
    ReturnsInHanded {} Try.checked os 4 .any (Rows.solveConesSpec.pre6 enc Try.prog Try.f4 Rows.solveConesRow.domain false) (Rows.solveConesSpec.post enc Try.prog Try.f4 false true false false) := by
  refine returnsInHanded_of_change (C := Try.checked) own started (by kernel_rfl) Try.func4
    (ChangeSpec.witness6 (enc := enc) (C := Try.checked) false ⟨#[], #[.int .i64 0, .int .i64 0, .int .i64 0], []⟩ 8 (by kernel_rfl) (by kernel_rfl) (by kernel_rfl) (by kernel_rfl)) ?_
  intro W base args ds gs before hval0 hW hcnd _
  have hval : ∀ (j : Nat) t v, Try.f4.params[j]? = some t → args[j]? = some v → Value.okWide Try.prog W .any base t v := hval0
  have hW' := hW
  obtain ⟨p, q, hA0, hV, rfl, hfz, hnd⟩ := hW
  have hA : DataW.TrodAll enc Try.prog W 0 (fun _ => true) true Try.f4.params.toList args.toList ds p := hA0
  rw [Try.params4] at hA hval
  obtain ⟨v0, vs0, d0, ds0, p0, q0, hargs, rfl, rfl, h0, r0⟩ := trodAll_cons hA
  obtain ⟨v1, vs1, d1, ds1, p1, q1, rfl, rfl, rfl, h1, r1⟩ := trodAll_cons r0
  obtain ⟨v2, vs2, d2, ds2, p2, q2, rfl, rfl, rfl, h2, r2⟩ := trodAll_cons r1
  obtain ⟨rfl, rfl, rfl⟩ := trodAll_nil r2
  obtain rfl : args = #[v0, v1, v2] := by cases args; simp_all
  obtain ⟨rfl, rfl⟩ := trodVars_none hV
  have k0 := h0
  have k1 := h1
  have k2 := h2
  have lt0 : ∀ x ∈ p0, x.block < W.heap.size := by obtain ⟨m, hm⟩ := k0; exact DataW.trod_lt m _ _ _ hm
  have lt1 : ∀ x ∈ p1, x.block < W.heap.size := by obtain ⟨m, hm⟩ := k1; exact DataW.trod_lt m _ _ _ hm
  have lt2 : ∀ x ∈ p2, x.block < W.heap.size := by obtain ⟨m, hm⟩ := k2; exact DataW.trod_lt m _ _ _ hm
  obtain ⟨a0, rfl, ha0⟩ := open_fix (hval 0 29 v0 rfl rfl) h0
  obtain ⟨a1, rfl, ha1⟩ := open_fix (hval 1 29 v1 rfl rfl) h1
  obtain ⟨a2, rfl, ha2⟩ := open_fix (hval 2 29 v2 rfl rfl) h2
  clear hA0 hval0
  refine (cones_law a0 ha0 a1 ha1 a2 ha2 W).mono fun e W' ⟨he, hk⟩ => ?_
  subst he
  have bel := hk.below
  exact ⟨_, rfl, _, _, _, [], _, [], hW', trodAll_mk1 (shut_bool Try.underlying4 _), (trodAll_cons_mk (Below.trod laidOut (by kernel_rfl) (of_decide_eq_true (by kernel_rfl)) k0 bel lt0) (trodAll_cons_mk (Below.trod laidOut (by kernel_rfl) (of_decide_eq_true (by kernel_rfl)) k1 bel lt1) (trodAll_cons_mk (Below.trod laidOut (by kernel_rfl) (of_decide_eq_true (by kernel_rfl)) k2 bel lt2) trodAll_mk0))), rfl, bel.frame _, fun h => by cases h⟩
theorem solveCones_named : Try.pinned.checked.prog.funcNamed Rows.solveConesRow.func = some 4 := by kernel_rfl
theorem solveCones_inst : (Try.f4).isInstance Try.pinned.checked.prog Rows.solveConesRow.origin Rows.solveConesRow.targs := of_decide_eq_true (by kernel_rfl)
theorem solveCones_wrap : (Try.f4).isWrapper Try.pinned.checked.prog Rows.solveConesRow.wrapper Rows.solveConesRow.mainSum := by unfold Func.isWrapper; rw [if_neg (of_decide_eq_false (by kernel_rfl))]; exact ⟨rfl, rfl⟩
theorem solveCones_over : Rows.solveConesRow.holds Try.pinned (OpenSpec.ofChange Rows.solveConesSpec) :=
  OpenClaim.holds_of_wide 4 Try.f4 rfl rfl rfl rfl rfl rfl rfl ⟨rfl, rfl, rfl, rfl, rfl⟩ rfl rfl rfl rfl rfl solveCones_named Try.func4 solveCones_closed
    solveCones_inst solveCones_wrap
    (fun os started H enc _ => solveCones_lifted os started H enc)
/-- The statement. -/
theorem solveCones_proved : Rows.SolveConesSaid := solveCones_over
end Go.Proofs.Ytblffafmkpnjdaa
