/-
  Rows.SolveSignsSaid: the law answers true at every input, and leaves its arguments as they were.
-/
import Derived.Test.YtblffafmkpnjdaaLo
import Derived.Test.YtblffafmkpnjdaaLt
import Derived.Test.YtblffafmkpnjdaaUs
import Derived.Test.YtblffafmkpnjdaaRows
set_option linter.unusedVariables false
namespace Go.Proofs.Ytblffafmkpnjdaa
open Go Go.ChangeShapes Go.WideShapes Go.ChangeAt Go.RowKit

set_option maxRecDepth 100000
theorem solveSigns_c0 : (Rows.solveSignsRow.wf (OpenSpec.ofChange Rows.solveSignsSpec)) = true := by kernel_rfl
theorem solveSigns_c1 : (laidOutB Try.pinned.checked.prog) = true := by kernel_rfl
theorem solveSigns_c2 : (mapsRowed Try.pinned.checked.prog) = true := by kernel_rfl
theorem solveSigns_c3 : (Try.f3.params.all (Try.pinned.checked.prog.readableRec ·)) = true := by kernel_rfl
theorem solveSigns_c4 : (namedTie Try.pinned.checked.prog Rows.solveSignsRow.named Rows.solveSignsSpec.vars) = true := by kernel_rfl
theorem solveSigns_c5 : ((Rows.solveSignsRow.stops == [])) = true := by kernel_rfl
theorem solveSigns_c6 : ((Try.pinned.checked.prog.stops == [])) = true := by kernel_rfl
theorem solveSigns_c7 : ((Rows.solveSignsRow.knobs == [])) = true := by kernel_rfl
theorem solveSigns_c8 : ((Try.pinned.checked.prog.stopKnobs == [])) = true := by kernel_rfl
theorem solveSigns_c9 : ((Rows.solveSignsRow.inPlace == Try.pinned.checked.prog.inPlace 3)) = true := by kernel_rfl
theorem solveSigns_c10 : ((Rows.solveSignsRow.unfollowed == Try.pinned.checked.prog.unfollowed 3)) = true := by kernel_rfl
theorem solveSigns_c11 : ((Rows.solveSignsRow.recurses == Try.pinned.checked.prog.recurses 3)) = true := by kernel_rfl
theorem solveSigns_c12 : ((Rows.solveSignsRow.named == Try.pinned.checked.prog.varsNamed 3)) = true := by kernel_rfl
theorem solveSigns_c13 : ((Rows.solveSignsRow.maps == (Try.f3.params.toList ++ Rows.solveSignsSpec.plain.varTypes Try.pinned.checked.prog).any (Try.pinned.checked.prog.mapsRec ·))) = true := by kernel_rfl
theorem solveSigns_c14 : ((Rows.solveSignsRow.ifaces == (Try.f3.params.toList ++ Rows.solveSignsSpec.plain.varTypes Try.pinned.checked.prog).any (Try.pinned.checked.prog.ifacesRec ·))) = true := by kernel_rfl
theorem solveSigns_c15 : ((Rows.solveSignsRow.mapsOut == Try.pinned.checked.prog.mapsAmong Try.f3.resultTypes.toList)) = true := by kernel_rfl
theorem solveSigns_c16 : ((Rows.solveSignsRow.loops == (Try.f3.params.toList ++ Rows.solveSignsSpec.plain.varTypes Try.pinned.checked.prog).any (Try.pinned.checked.prog.loopsFrom ·))) = true := by kernel_rfl
theorem solveSigns_c17 : ((Rows.solveSignsRow.wideKeys == (Try.f3.params.toList ++ Rows.solveSignsSpec.plain.varTypes Try.pinned.checked.prog ++ Try.f3.resultTypes.toList).any (Try.pinned.checked.prog.wideKeysFrom ·))) = true := by kernel_rfl
theorem solveSigns_c18 : (Rows.solveSignsSpec.vars.all (Try.pinned.checked.prog.varReadable ·)) = true := by kernel_rfl
theorem solveSigns_c19 : (Try.f3.resultTypes.all (fun t => Try.pinned.checked.prog.readableRec t && decide (t < Try.pinned.checked.prog.types.size))) = true := by kernel_rfl
theorem solveSigns_c20 : ((Rows.solveSignsRow.ifacesOut == Try.f3.resultTypes.toList.any (Try.pinned.checked.prog.ifacesRec ·))) = true := by kernel_rfl
theorem solveSigns_c21 : ((Rows.solveSignsRow.loopsOut == Try.f3.resultTypes.toList.any (Try.pinned.checked.prog.loopsFrom ·))) = true := by kernel_rfl
theorem solveSigns_c22 : ((Rows.solveSignsRow.plainKeys == Try.pinned.checked.prog.plainKeys)) = true := by kernel_rfl
theorem solveSigns_c23 : (Rows.solveSignsRow.shortTexts.isNone) = true := by kernel_rfl
theorem solveSigns_c24 : (Try.pinned.checked.prog.stopsHeard) = true := by kernel_rfl
theorem solveSigns_c25 : (Try.pinned.checked.prog.mayEnter) = true := by kernel_rfl
theorem solveSigns_c26 : ((Rows.solveSignsRow.lifted == Try.pinned.checked.prog.liftsFinal)) = true := by kernel_rfl
theorem solveSigns_c27 : ((Try.pinned.checked.prog.make == some Rows.solveSignsRow.make)) = true := by kernel_rfl
theorem solveSigns_c28 : ((Rows.solveSignsRow.kinds == (if Rows.solveSignsRow.domain.isEmpty then [] else Try.f3.params.toList.map fun t => match Try.pinned.checked.prog.underlying t with | some (.int k) => some k | _ => none))) = true := by kernel_rfl
theorem solveSigns_c29 : ((Rows.solveSignsRow.pinned == Rows.solveSignsRow.pinnedBy)) = true := by kernel_rfl
theorem solveSigns_c30 : ((Rows.solveSignsRow.veiled == (Try.f3.params.toList ++ Rows.solveSignsSpec.plain.varTypes Try.pinned.checked.prog ++ Try.f3.resultTypes.toList).any (Try.pinned.checked.prog.veiledRec ·))) = true := by kernel_rfl
theorem solveSigns_c31 : (Rows.solveSignsRow.veiledFits Try.pinned.checked.prog Try.f3.params.toList (Try.f3.params.toList ++ Rows.solveSignsSpec.plain.varTypes Try.pinned.checked.prog ++ Try.f3.resultTypes.toList)) = true := by kernel_rfl
theorem solveSigns_closed : joinedFacts Try.pinned.checked.prog 3 Try.f3 Rows.solveSignsSpec Rows.solveSignsRow = true := by
  unfold joinedFacts
  simp only [Bool.and_eq_true]
  exact ⟨⟨⟨⟨⟨⟨⟨⟨⟨⟨⟨⟨⟨⟨⟨⟨⟨⟨⟨⟨⟨⟨⟨⟨⟨⟨⟨⟨⟨⟨⟨solveSigns_c0, solveSigns_c1⟩, solveSigns_c2⟩, solveSigns_c3⟩, solveSigns_c4⟩, solveSigns_c5⟩, solveSigns_c6⟩, solveSigns_c7⟩, solveSigns_c8⟩, solveSigns_c9⟩, solveSigns_c10⟩, solveSigns_c11⟩, solveSigns_c12⟩, solveSigns_c13⟩, solveSigns_c14⟩, solveSigns_c15⟩, solveSigns_c16⟩, solveSigns_c17⟩, solveSigns_c18⟩, solveSigns_c19⟩, solveSigns_c20⟩, solveSigns_c21⟩, solveSigns_c22⟩, solveSigns_c23⟩, solveSigns_c24⟩, solveSigns_c25⟩, solveSigns_c26⟩, solveSigns_c27⟩, solveSigns_c28⟩, solveSigns_c29⟩, solveSigns_c30⟩, solveSigns_c31⟩
theorem solveSigns_lifted (os : Os) (started : os.Started) (H : Type) (enc : TypeId × Value → H) :
    ReturnsInHanded {} Try.checked os 3 .any (Rows.solveSignsSpec.pre6 enc Try.prog Try.f3 Rows.solveSignsRow.domain false) (Rows.solveSignsSpec.post enc Try.prog Try.f3 false true false false) := by
  refine returnsInHanded_of_change (C := Try.checked) own started (by kernel_rfl) Try.func3
    (ChangeSpec.witness6 (enc := enc) (C := Try.checked) false ⟨#[], #[.slice none 0 0, .slice none 0 0, .int .i64 0], []⟩ 8 (by kernel_rfl) (by kernel_rfl) (by kernel_rfl) (by kernel_rfl)) ?_
  intro W base args ds gs before hval0 hW hcnd _
  have hval : ∀ (j : Nat) t v, Try.f3.params[j]? = some t → args[j]? = some v → Value.okWide Try.prog W .any base t v := hval0
  have hW' := hW
  obtain ⟨p, q, hA0, hV, rfl, hfz, hnd⟩ := hW
  have hA : DataW.TrodAll enc Try.prog W 0 (fun _ => true) true Try.f3.params.toList args.toList ds p := hA0
  rw [Try.params3] at hA hval
  obtain ⟨v0, vs0, d0, ds0, p0, q0, hargs, rfl, rfl, h0, r0⟩ := trodAll_cons hA
  obtain ⟨v1, vs1, d1, ds1, p1, q1, rfl, rfl, rfl, h1, r1⟩ := trodAll_cons r0
  obtain ⟨v2, vs2, d2, ds2, p2, q2, rfl, rfl, rfl, h2, r2⟩ := trodAll_cons r1
  obtain ⟨rfl, rfl, rfl⟩ := trodAll_nil r2
  obtain rfl : args = #[v0, v1, v2] := by cases args; simp_all
  obtain ⟨rfl, rfl⟩ := trodVars_none hV
  have k0 := h0
  have k1 := h1
  have k2 := h2
  have lt0 : ∀ x ∈ p0, x.block < W.heap.size := by obtain ⟨m, hm⟩ := k0; exact DataW.trod_lt m _ _ _ hm
  have lt1 : ∀ x ∈ p1, x.block < W.heap.size := by obtain ⟨m, hm⟩ := k1; exact DataW.trod_lt m _ _ _ hm
  have lt2 : ∀ x ∈ p2, x.block < W.heap.size := by obtain ⟨m, hm⟩ := k2; exact DataW.trod_lt m _ _ _ hm
  obtain ⟨l0, s0, n0, i0⟩ := open_bodies (hval 0 22 v0 rfl rfl) h0
  obtain ⟨l1, s1, n1, i1⟩ := open_rows (hval 1 23 v1 rfl rfl) h1
  obtain ⟨a2, rfl, ha2⟩ := open_idx (hval 2 3 v2 rfl rfl) h2
  clear hA0 hval0
  refine (signs_law l0 n0 i0 s0 l1 n1 i1 s1 a2 ha2).mono fun e W' ⟨he, hk⟩ => ?_
  subst he
  have bel := hk.below
  exact ⟨_, rfl, _, _, _, [], _, [], hW', trodAll_mk1 (shut_bool Try.underlying4 _), (trodAll_cons_mk (Below.trod laidOut (by kernel_rfl) (of_decide_eq_true (by kernel_rfl)) k0 bel lt0) (trodAll_cons_mk (Below.trod laidOut (by kernel_rfl) (of_decide_eq_true (by kernel_rfl)) k1 bel lt1) (trodAll_cons_mk (Below.trod laidOut (by kernel_rfl) (of_decide_eq_true (by kernel_rfl)) k2 bel lt2) trodAll_mk0))), rfl, bel.frame _, fun h => by cases h⟩
theorem solveSigns_named : Try.pinned.checked.prog.funcNamed Rows.solveSignsRow.func = some 3 := by kernel_rfl
theorem solveSigns_inst : (Try.f3).isInstance Try.pinned.checked.prog Rows.solveSignsRow.origin Rows.solveSignsRow.targs := of_decide_eq_true (by kernel_rfl)
theorem solveSigns_wrap : (Try.f3).isWrapper Try.pinned.checked.prog Rows.solveSignsRow.wrapper Rows.solveSignsRow.mainSum := by unfold Func.isWrapper; rw [if_neg (of_decide_eq_false (by kernel_rfl))]; exact ⟨rfl, rfl⟩
theorem solveSigns_over : Rows.solveSignsRow.holds Try.pinned (OpenSpec.ofChange Rows.solveSignsSpec) :=
  OpenClaim.holds_of_wide 3 Try.f3 rfl rfl rfl rfl rfl rfl rfl ⟨rfl, rfl, rfl, rfl, rfl⟩ rfl rfl rfl rfl rfl solveSigns_named Try.func3 solveSigns_closed
    solveSigns_inst solveSigns_wrap
    (fun os started H enc _ => solveSigns_lifted os started H enc)
/-- The statement. -/
theorem solveSigns_proved : Rows.SolveSignsSaid := solveSigns_over
end Go.Proofs.Ytblffafmkpnjdaa
