/-
  Rows.VecUnitSaid: a vector by its length is the document's.
-/
import Derived.Test.YtnipjafcgicddaaVm
import Derived.Test.YtnipjafcgicddaaLo
import Derived.Test.YtnipjafcgicddaaRows
set_option linter.unusedVariables false
namespace Go.Proofs.Ytnipjafcgicddaa
open Go Go.ChangeShapes Go.WideShapes Go.ChangeAt Go.RowKit

set_option maxRecDepth 100000
theorem vecUnit_c0 : (Rows.vecUnitRow.wf (OpenSpec.ofChange Rows.vecUnitSpec)) = true := by kernel_rfl
theorem vecUnit_c1 : (laidOutB Try.pinned.checked.prog) = true := by kernel_rfl
theorem vecUnit_c2 : (mapsRowed Try.pinned.checked.prog) = true := by kernel_rfl
theorem vecUnit_c3 : (Try.f5.params.all (Try.pinned.checked.prog.readableRec ·)) = true := by kernel_rfl
theorem vecUnit_c4 : (namedTie Try.pinned.checked.prog Rows.vecUnitRow.named Rows.vecUnitSpec.vars) = true := by kernel_rfl
theorem vecUnit_c5 : ((Rows.vecUnitRow.stops == [])) = true := by kernel_rfl
theorem vecUnit_c6 : ((Try.pinned.checked.prog.stops == [])) = true := by kernel_rfl
theorem vecUnit_c7 : ((Rows.vecUnitRow.knobs == [])) = true := by kernel_rfl
theorem vecUnit_c8 : ((Try.pinned.checked.prog.stopKnobs == [])) = true := by kernel_rfl
theorem vecUnit_c9 : ((Rows.vecUnitRow.inPlace == Try.pinned.checked.prog.inPlace 5)) = true := by kernel_rfl
theorem vecUnit_c10 : ((Rows.vecUnitRow.unfollowed == Try.pinned.checked.prog.unfollowed 5)) = true := by kernel_rfl
theorem vecUnit_c11 : ((Rows.vecUnitRow.recurses == Try.pinned.checked.prog.recurses 5)) = true := by kernel_rfl
theorem vecUnit_c12 : ((Rows.vecUnitRow.named == Try.pinned.checked.prog.varsNamed 5)) = true := by kernel_rfl
theorem vecUnit_c13 : ((Rows.vecUnitRow.maps == (Try.f5.params.toList ++ Rows.vecUnitSpec.plain.varTypes Try.pinned.checked.prog).any (Try.pinned.checked.prog.mapsRec ·))) = true := by kernel_rfl
theorem vecUnit_c14 : ((Rows.vecUnitRow.ifaces == (Try.f5.params.toList ++ Rows.vecUnitSpec.plain.varTypes Try.pinned.checked.prog).any (Try.pinned.checked.prog.ifacesRec ·))) = true := by kernel_rfl
theorem vecUnit_c15 : ((Rows.vecUnitRow.mapsOut == Try.pinned.checked.prog.mapsAmong Try.f5.resultTypes.toList)) = true := by kernel_rfl
theorem vecUnit_c16 : ((Rows.vecUnitRow.loops == (Try.f5.params.toList ++ Rows.vecUnitSpec.plain.varTypes Try.pinned.checked.prog).any (Try.pinned.checked.prog.loopsFrom ·))) = true := by kernel_rfl
theorem vecUnit_c17 : ((Rows.vecUnitRow.wideKeys == (Try.f5.params.toList ++ Rows.vecUnitSpec.plain.varTypes Try.pinned.checked.prog ++ Try.f5.resultTypes.toList).any (Try.pinned.checked.prog.wideKeysFrom ·))) = true := by kernel_rfl
theorem vecUnit_c18 : (Rows.vecUnitSpec.vars.all (Try.pinned.checked.prog.varReadable ·)) = true := by kernel_rfl
theorem vecUnit_c19 : (Try.f5.resultTypes.all (fun t => Try.pinned.checked.prog.readableRec t && decide (t < Try.pinned.checked.prog.types.size))) = true := by kernel_rfl
theorem vecUnit_c20 : ((Rows.vecUnitRow.ifacesOut == Try.f5.resultTypes.toList.any (Try.pinned.checked.prog.ifacesRec ·))) = true := by kernel_rfl
theorem vecUnit_c21 : ((Rows.vecUnitRow.loopsOut == Try.f5.resultTypes.toList.any (Try.pinned.checked.prog.loopsFrom ·))) = true := by kernel_rfl
theorem vecUnit_c22 : ((Rows.vecUnitRow.plainKeys == Try.pinned.checked.prog.plainKeys)) = true := by kernel_rfl
theorem vecUnit_c23 : (Rows.vecUnitRow.shortTexts.isNone) = true := by kernel_rfl
theorem vecUnit_c24 : (Try.pinned.checked.prog.stopsHeard) = true := by kernel_rfl
theorem vecUnit_c25 : (Try.pinned.checked.prog.mayEnter) = true := by kernel_rfl
theorem vecUnit_c26 : ((Rows.vecUnitRow.lifted == Try.pinned.checked.prog.liftsFinal)) = true := by kernel_rfl
theorem vecUnit_c27 : ((Try.pinned.checked.prog.make == some Rows.vecUnitRow.make)) = true := by kernel_rfl
theorem vecUnit_c28 : ((Rows.vecUnitRow.kinds == (if Rows.vecUnitRow.domain.isEmpty then [] else Try.f5.params.toList.map fun t => match Try.pinned.checked.prog.underlying t with | some (.int k) => some k | _ => none))) = true := by kernel_rfl
theorem vecUnit_c29 : ((Rows.vecUnitRow.pinned == Rows.vecUnitRow.pinnedBy)) = true := by kernel_rfl
theorem vecUnit_c30 : ((Rows.vecUnitRow.veiled == (Try.f5.params.toList ++ Rows.vecUnitSpec.plain.varTypes Try.pinned.checked.prog ++ Try.f5.resultTypes.toList).any (Try.pinned.checked.prog.veiledRec ·))) = true := by kernel_rfl
theorem vecUnit_c31 : (Rows.vecUnitRow.veiledFits Try.pinned.checked.prog Try.f5.params.toList (Try.f5.params.toList ++ Rows.vecUnitSpec.plain.varTypes Try.pinned.checked.prog ++ Try.f5.resultTypes.toList)) = true := by kernel_rfl
theorem vecUnit_closed : joinedFacts Try.pinned.checked.prog 5 Try.f5 Rows.vecUnitSpec Rows.vecUnitRow = true := by
  unfold joinedFacts
  simp only [Bool.and_eq_true]
  exact ⟨⟨⟨⟨⟨⟨⟨⟨⟨⟨⟨⟨⟨⟨⟨⟨⟨⟨⟨⟨⟨⟨⟨⟨⟨⟨⟨⟨⟨⟨⟨vecUnit_c0, vecUnit_c1⟩, vecUnit_c2⟩, vecUnit_c3⟩, vecUnit_c4⟩, vecUnit_c5⟩, vecUnit_c6⟩, vecUnit_c7⟩, vecUnit_c8⟩, vecUnit_c9⟩, vecUnit_c10⟩, vecUnit_c11⟩, vecUnit_c12⟩, vecUnit_c13⟩, vecUnit_c14⟩, vecUnit_c15⟩, vecUnit_c16⟩, vecUnit_c17⟩, vecUnit_c18⟩, vecUnit_c19⟩, vecUnit_c20⟩, vecUnit_c21⟩, vecUnit_c22⟩, vecUnit_c23⟩, vecUnit_c24⟩, vecUnit_c25⟩, vecUnit_c26⟩, vecUnit_c27⟩, vecUnit_c28⟩, vecUnit_c29⟩, vecUnit_c30⟩, vecUnit_c31⟩
theorem vecUnit_lifted (os : Os) (started : os.Started) (H : Type) (enc : TypeId × Value → H) :
    ReturnsInHanded {} Try.checked os 5 .any (Rows.vecUnitSpec.pre6 enc Try.prog Try.f5 Rows.vecUnitRow.domain false) (Rows.vecUnitSpec.post enc Try.prog Try.f5 false true false false) := by
  refine returnsInHanded_of_change (C := Try.checked) own started (by kernel_rfl) Try.func5
    (ChangeSpec.witness6 (enc := enc) (C := Try.checked) false ⟨#[], #[.agg #[.int .i64 0, .int .i64 0, .int .i64 0]], []⟩ 8 (by kernel_rfl) (by kernel_rfl) (by kernel_rfl) (by kernel_rfl)) ?_
  intro W base args ds gs before hval0 hW hcnd _
  have hval : ∀ (j : Nat) t v, Try.f5.params[j]? = some t → args[j]? = some v → Value.okWide Try.prog W .any base t v := hval0
  have hW' := hW
  obtain ⟨p, q, hA0, hV, rfl, hfz, hnd⟩ := hW
  have hA : DataW.TrodAll enc Try.prog W 0 (fun _ => true) true Try.f5.params.toList args.toList ds p := hA0
  rw [Try.params5] at hA hval
  obtain ⟨v0, vs0, d0, ds0, p0, q0, hargs, rfl, rfl, h0, r0⟩ := trodAll_cons hA
  obtain ⟨rfl, rfl, rfl⟩ := trodAll_nil r0
  obtain rfl : args = #[v0] := by cases args; simp_all
  obtain ⟨rfl, rfl⟩ := trodVars_none hV
  have k0 := h0
  have lt0 : ∀ x ∈ p0, x.block < W.heap.size := by obtain ⟨m, hm⟩ := k0; exact DataW.trod_lt m _ _ _ hm
  obtain ⟨a0, rfl, ha0⟩ := open_vec (hval 0 24 v0 rfl rfl) h0
  clear hA0 hval0
  refine (vecunit_law a0 ha0 W).mono fun e W' ⟨he, hk⟩ => ?_
  subst he
  have bel := hk.below
  exact ⟨_, rfl, _, _, _, [], _, [], hW', trodAll_mk1 (shut_bool Try.underlying4 _), (trodAll_cons_mk (Below.trod laidOut (by kernel_rfl) (of_decide_eq_true (by kernel_rfl)) k0 bel lt0) trodAll_mk0), rfl, bel.frame _, fun h => by cases h⟩
theorem vecUnit_named : Try.pinned.checked.prog.funcNamed Rows.vecUnitRow.func = some 5 := by kernel_rfl
theorem vecUnit_inst : (Try.f5).isInstance Try.pinned.checked.prog Rows.vecUnitRow.origin Rows.vecUnitRow.targs := of_decide_eq_true (by kernel_rfl)
theorem vecUnit_wrap : (Try.f5).isWrapper Try.pinned.checked.prog Rows.vecUnitRow.wrapper Rows.vecUnitRow.mainSum := by unfold Func.isWrapper; rw [if_neg (of_decide_eq_false (by kernel_rfl))]; exact ⟨rfl, rfl⟩
theorem vecUnit_over : Rows.vecUnitRow.holds Try.pinned (OpenSpec.ofChange Rows.vecUnitSpec) :=
  OpenClaim.holds_of_wide 5 Try.f5 rfl rfl rfl rfl rfl rfl rfl ⟨rfl, rfl, rfl, rfl, rfl⟩ rfl rfl rfl rfl rfl vecUnit_named Try.func5 vecUnit_closed
    vecUnit_inst vecUnit_wrap
    (fun os started H enc _ => vecUnit_lifted os started H enc)
/-- The statement. -/
theorem vecUnit_proved : Rows.VecUnitSaid := vecUnit_over
end Go.Proofs.Ytnipjafcgicddaa
