/-
  Rows.VecCrossSaid: the vector product is the document's.
-/
import Derived.Test.YtnipjafcgicddaaVm
import Derived.Test.YtnipjafcgicddaaLo
import Derived.Test.YtnipjafcgicddaaRows
set_option linter.unusedVariables false
namespace Go.Proofs.Ytnipjafcgicddaa
open Go Go.ChangeShapes Go.WideShapes Go.ChangeAt Go.RowKit

set_option maxRecDepth 100000
theorem vecCross_c0 : (Rows.vecCrossRow.wf (OpenSpec.ofChange Rows.vecCrossSpec)) = true := by kernel_rfl
theorem vecCross_c1 : (laidOutB Try.pinned.checked.prog) = true := by kernel_rfl
theorem vecCross_c2 : (mapsRowed Try.pinned.checked.prog) = true := by kernel_rfl
theorem vecCross_c3 : (Try.f4.params.all (Try.pinned.checked.prog.readableRec ·)) = true := by kernel_rfl
theorem vecCross_c4 : (namedTie Try.pinned.checked.prog Rows.vecCrossRow.named Rows.vecCrossSpec.vars) = true := by kernel_rfl
theorem vecCross_c5 : ((Rows.vecCrossRow.stops == [])) = true := by kernel_rfl
theorem vecCross_c6 : ((Try.pinned.checked.prog.stops == [])) = true := by kernel_rfl
theorem vecCross_c7 : ((Rows.vecCrossRow.knobs == [])) = true := by kernel_rfl
theorem vecCross_c8 : ((Try.pinned.checked.prog.stopKnobs == [])) = true := by kernel_rfl
theorem vecCross_c9 : ((Rows.vecCrossRow.inPlace == Try.pinned.checked.prog.inPlace 4)) = true := by kernel_rfl
theorem vecCross_c10 : ((Rows.vecCrossRow.unfollowed == Try.pinned.checked.prog.unfollowed 4)) = true := by kernel_rfl
theorem vecCross_c11 : ((Rows.vecCrossRow.recurses == Try.pinned.checked.prog.recurses 4)) = true := by kernel_rfl
theorem vecCross_c12 : ((Rows.vecCrossRow.named == Try.pinned.checked.prog.varsNamed 4)) = true := by kernel_rfl
theorem vecCross_c13 : ((Rows.vecCrossRow.maps == (Try.f4.params.toList ++ Rows.vecCrossSpec.plain.varTypes Try.pinned.checked.prog).any (Try.pinned.checked.prog.mapsRec ·))) = true := by kernel_rfl
theorem vecCross_c14 : ((Rows.vecCrossRow.ifaces == (Try.f4.params.toList ++ Rows.vecCrossSpec.plain.varTypes Try.pinned.checked.prog).any (Try.pinned.checked.prog.ifacesRec ·))) = true := by kernel_rfl
theorem vecCross_c15 : ((Rows.vecCrossRow.mapsOut == Try.pinned.checked.prog.mapsAmong Try.f4.resultTypes.toList)) = true := by kernel_rfl
theorem vecCross_c16 : ((Rows.vecCrossRow.loops == (Try.f4.params.toList ++ Rows.vecCrossSpec.plain.varTypes Try.pinned.checked.prog).any (Try.pinned.checked.prog.loopsFrom ·))) = true := by kernel_rfl
theorem vecCross_c17 : ((Rows.vecCrossRow.wideKeys == (Try.f4.params.toList ++ Rows.vecCrossSpec.plain.varTypes Try.pinned.checked.prog ++ Try.f4.resultTypes.toList).any (Try.pinned.checked.prog.wideKeysFrom ·))) = true := by kernel_rfl
theorem vecCross_c18 : (Rows.vecCrossSpec.vars.all (Try.pinned.checked.prog.varReadable ·)) = true := by kernel_rfl
theorem vecCross_c19 : (Try.f4.resultTypes.all (fun t => Try.pinned.checked.prog.readableRec t && decide (t < Try.pinned.checked.prog.types.size))) = true := by kernel_rfl
theorem vecCross_c20 : ((Rows.vecCrossRow.ifacesOut == Try.f4.resultTypes.toList.any (Try.pinned.checked.prog.ifacesRec ·))) = true := by kernel_rfl
theorem vecCross_c21 : ((Rows.vecCrossRow.loopsOut == Try.f4.resultTypes.toList.any (Try.pinned.checked.prog.loopsFrom ·))) = true := by kernel_rfl
theorem vecCross_c22 : ((Rows.vecCrossRow.plainKeys == Try.pinned.checked.prog.plainKeys)) = true := by kernel_rfl
theorem vecCross_c23 : (Rows.vecCrossRow.shortTexts.isNone) = true := by kernel_rfl
theorem vecCross_c24 : (Try.pinned.checked.prog.stopsHeard) = true := by kernel_rfl
theorem vecCross_c25 : (Try.pinned.checked.prog.mayEnter) = true := by kernel_rfl
theorem vecCross_c26 : ((Rows.vecCrossRow.lifted == Try.pinned.checked.prog.liftsFinal)) = true := by kernel_rfl
theorem vecCross_c27 : ((Try.pinned.checked.prog.make == some Rows.vecCrossRow.make)) = true := by kernel_rfl
theorem vecCross_c28 : ((Rows.vecCrossRow.kinds == (if Rows.vecCrossRow.domain.isEmpty then [] else Try.f4.params.toList.map fun t => match Try.pinned.checked.prog.underlying t with | some (.int k) => some k | _ => none))) = true := by kernel_rfl
theorem vecCross_c29 : ((Rows.vecCrossRow.pinned == Rows.vecCrossRow.pinnedBy)) = true := by kernel_rfl
theorem vecCross_c30 : ((Rows.vecCrossRow.veiled == (Try.f4.params.toList ++ Rows.vecCrossSpec.plain.varTypes Try.pinned.checked.prog ++ Try.f4.resultTypes.toList).any (Try.pinned.checked.prog.veiledRec ·))) = true := by kernel_rfl
theorem vecCross_c31 : (Rows.vecCrossRow.veiledFits Try.pinned.checked.prog Try.f4.params.toList (Try.f4.params.toList ++ Rows.vecCrossSpec.plain.varTypes Try.pinned.checked.prog ++ Try.f4.resultTypes.toList)) = true := by kernel_rfl
theorem vecCross_closed : joinedFacts Try.pinned.checked.prog 4 Try.f4 Rows.vecCrossSpec Rows.vecCrossRow = true := by
  unfold joinedFacts
  simp only [Bool.and_eq_true]
  exact ⟨⟨⟨⟨⟨⟨⟨⟨⟨⟨⟨⟨⟨⟨⟨⟨⟨⟨⟨⟨⟨⟨⟨⟨⟨⟨⟨⟨⟨⟨⟨vecCross_c0, vecCross_c1⟩, vecCross_c2⟩, vecCross_c3⟩, vecCross_c4⟩, vecCross_c5⟩, vecCross_c6⟩, vecCross_c7⟩, vecCross_c8⟩, vecCross_c9⟩, vecCross_c10⟩, vecCross_c11⟩, vecCross_c12⟩, vecCross_c13⟩, vecCross_c14⟩, vecCross_c15⟩, vecCross_c16⟩, vecCross_c17⟩, vecCross_c18⟩, vecCross_c19⟩, vecCross_c20⟩, vecCross_c21⟩, vecCross_c22⟩, vecCross_c23⟩, vecCross_c24⟩, vecCross_c25⟩, vecCross_c26⟩, vecCross_c27⟩, vecCross_c28⟩, vecCross_c29⟩, vecCross_c30⟩, vecCross_c31⟩
theorem vecCross_lifted (os : Os) (started : os.Started) (H : Type) (enc : TypeId × Value → H) :
    ReturnsInHanded {} Try.checked os 4 .any (Rows.vecCrossSpec.pre6 enc Try.prog Try.f4 Rows.vecCrossRow.domain false) (Rows.vecCrossSpec.post enc Try.prog Try.f4 false true false false) := by
  refine returnsInHanded_of_change (C := Try.checked) own started (by kernel_rfl) Try.func4
    (ChangeSpec.witness6 (enc := enc) (C := Try.checked) false ⟨#[], #[.agg #[.int .i64 0, .int .i64 0, .int .i64 0], .agg #[.int .i64 0, .int .i64 0, .int .i64 0]], []⟩ 8 (by kernel_rfl) (by kernel_rfl) (by kernel_rfl) (by kernel_rfl)) ?_
  intro W base args ds gs before hval0 hW hcnd _
  have hval : ∀ (j : Nat) t v, Try.f4.params[j]? = some t → args[j]? = some v → Value.okWide Try.prog W .any base t v := hval0
  have hW' := hW
  obtain ⟨p, q, hA0, hV, rfl, hfz, hnd⟩ := hW
  have hA : DataW.TrodAll enc Try.prog W 0 (fun _ => true) true Try.f4.params.toList args.toList ds p := hA0
  rw [Try.params4] at hA hval
  obtain ⟨v0, vs0, d0, ds0, p0, q0, hargs, rfl, rfl, h0, r0⟩ := trodAll_cons hA
  obtain ⟨v1, vs1, d1, ds1, p1, q1, rfl, rfl, rfl, h1, r1⟩ := trodAll_cons r0
  obtain ⟨rfl, rfl, rfl⟩ := trodAll_nil r1
  obtain rfl : args = #[v0, v1] := by cases args; simp_all
  obtain ⟨rfl, rfl⟩ := trodVars_none hV
  have k0 := h0
  have k1 := h1
  have lt0 : ∀ x ∈ p0, x.block < W.heap.size := by obtain ⟨m, hm⟩ := k0; exact DataW.trod_lt m _ _ _ hm
  have lt1 : ∀ x ∈ p1, x.block < W.heap.size := by obtain ⟨m, hm⟩ := k1; exact DataW.trod_lt m _ _ _ hm
  obtain ⟨a0, rfl, ha0⟩ := open_vec (hval 0 24 v0 rfl rfl) h0
  obtain ⟨a1, rfl, ha1⟩ := open_vec (hval 1 24 v1 rfl rfl) h1
  clear hA0 hval0
  refine (veccross_law a0 ha0 a1 ha1 W).mono fun e W' ⟨he, hk⟩ => ?_
  subst he
  have bel := hk.below
  exact ⟨_, rfl, _, _, _, [], _, [], hW', trodAll_mk1 (shut_bool Try.underlying4 _), (trodAll_cons_mk (Below.trod laidOut (by kernel_rfl) (of_decide_eq_true (by kernel_rfl)) k0 bel lt0) (trodAll_cons_mk (Below.trod laidOut (by kernel_rfl) (of_decide_eq_true (by kernel_rfl)) k1 bel lt1) trodAll_mk0)), rfl, bel.frame _, fun h => by cases h⟩
theorem vecCross_named : Try.pinned.checked.prog.funcNamed Rows.vecCrossRow.func = some 4 := by kernel_rfl
theorem vecCross_inst : (Try.f4).isInstance Try.pinned.checked.prog Rows.vecCrossRow.origin Rows.vecCrossRow.targs := of_decide_eq_true (by kernel_rfl)
theorem vecCross_wrap : (Try.f4).isWrapper Try.pinned.checked.prog Rows.vecCrossRow.wrapper Rows.vecCrossRow.mainSum := by unfold Func.isWrapper; rw [if_neg (of_decide_eq_false (by kernel_rfl))]; exact ⟨rfl, rfl⟩
theorem vecCross_over : Rows.vecCrossRow.holds Try.pinned (OpenSpec.ofChange Rows.vecCrossSpec) :=
  OpenClaim.holds_of_wide 4 Try.f4 rfl rfl rfl rfl rfl rfl rfl ⟨rfl, rfl, rfl, rfl, rfl⟩ rfl rfl rfl rfl rfl vecCross_named Try.func4 vecCross_closed
    vecCross_inst vecCross_wrap
    (fun os started H enc _ => vecCross_lifted os started H enc)
/-- The statement. -/
theorem vecCross_proved : Rows.VecCrossSaid := vecCross_over
end Go.Proofs.Ytnipjafcgicddaa
