/-
  Rows.VecUnitarySaid: a unit's numbers are from -1 to 1, with the signs of the vector's, and its square is from 1 - 2^-30 to 1 + 2^-30.
-/
import Derived.Test.YtnipjafcgicddaaVr
import Derived.Test.YtnipjafcgicddaaLo
import Derived.Test.YtnipjafcgicddaaRows
set_option linter.unusedVariables false
namespace Go.Proofs.Ytnipjafcgicddaa
open Go Go.ChangeShapes Go.WideShapes Go.ChangeAt Go.RowKit

set_option maxRecDepth 100000
theorem vecUnitary_c0 : (Rows.vecUnitaryRow.wf (OpenSpec.ofChange Rows.vecUnitarySpec)) = true := by kernel_rfl
theorem vecUnitary_c1 : (laidOutB Try.pinned.checked.prog) = true := by kernel_rfl
theorem vecUnitary_c2 : (mapsRowed Try.pinned.checked.prog) = true := by kernel_rfl
theorem vecUnitary_c3 : (Try.f7.params.all (Try.pinned.checked.prog.readableRec ·)) = true := by kernel_rfl
theorem vecUnitary_c4 : (namedTie Try.pinned.checked.prog Rows.vecUnitaryRow.named Rows.vecUnitarySpec.vars) = true := by kernel_rfl
theorem vecUnitary_c5 : ((Rows.vecUnitaryRow.stops == [])) = true := by kernel_rfl
theorem vecUnitary_c6 : ((Try.pinned.checked.prog.stops == [])) = true := by kernel_rfl
theorem vecUnitary_c7 : ((Rows.vecUnitaryRow.knobs == [])) = true := by kernel_rfl
theorem vecUnitary_c8 : ((Try.pinned.checked.prog.stopKnobs == [])) = true := by kernel_rfl
theorem vecUnitary_c9 : ((Rows.vecUnitaryRow.inPlace == Try.pinned.checked.prog.inPlace 7)) = true := by kernel_rfl
theorem vecUnitary_c10 : ((Rows.vecUnitaryRow.unfollowed == Try.pinned.checked.prog.unfollowed 7)) = true := by kernel_rfl
theorem vecUnitary_c11 : ((Rows.vecUnitaryRow.recurses == Try.pinned.checked.prog.recurses 7)) = true := by kernel_rfl
theorem vecUnitary_c12 : ((Rows.vecUnitaryRow.named == Try.pinned.checked.prog.varsNamed 7)) = true := by kernel_rfl
theorem vecUnitary_c13 : ((Rows.vecUnitaryRow.maps == (Try.f7.params.toList ++ Rows.vecUnitarySpec.plain.varTypes Try.pinned.checked.prog).any (Try.pinned.checked.prog.mapsRec ·))) = true := by kernel_rfl
theorem vecUnitary_c14 : ((Rows.vecUnitaryRow.ifaces == (Try.f7.params.toList ++ Rows.vecUnitarySpec.plain.varTypes Try.pinned.checked.prog).any (Try.pinned.checked.prog.ifacesRec ·))) = true := by kernel_rfl
theorem vecUnitary_c15 : ((Rows.vecUnitaryRow.mapsOut == Try.pinned.checked.prog.mapsAmong Try.f7.resultTypes.toList)) = true := by kernel_rfl
theorem vecUnitary_c16 : ((Rows.vecUnitaryRow.loops == (Try.f7.params.toList ++ Rows.vecUnitarySpec.plain.varTypes Try.pinned.checked.prog).any (Try.pinned.checked.prog.loopsFrom ·))) = true := by kernel_rfl
theorem vecUnitary_c17 : ((Rows.vecUnitaryRow.wideKeys == (Try.f7.params.toList ++ Rows.vecUnitarySpec.plain.varTypes Try.pinned.checked.prog ++ Try.f7.resultTypes.toList).any (Try.pinned.checked.prog.wideKeysFrom ·))) = true := by kernel_rfl
theorem vecUnitary_c18 : (Rows.vecUnitarySpec.vars.all (Try.pinned.checked.prog.varReadable ·)) = true := by kernel_rfl
theorem vecUnitary_c19 : (Try.f7.resultTypes.all (fun t => Try.pinned.checked.prog.readableRec t && decide (t < Try.pinned.checked.prog.types.size))) = true := by kernel_rfl
theorem vecUnitary_c20 : ((Rows.vecUnitaryRow.ifacesOut == Try.f7.resultTypes.toList.any (Try.pinned.checked.prog.ifacesRec ·))) = true := by kernel_rfl
theorem vecUnitary_c21 : ((Rows.vecUnitaryRow.loopsOut == Try.f7.resultTypes.toList.any (Try.pinned.checked.prog.loopsFrom ·))) = true := by kernel_rfl
theorem vecUnitary_c22 : ((Rows.vecUnitaryRow.plainKeys == Try.pinned.checked.prog.plainKeys)) = true := by kernel_rfl
theorem vecUnitary_c23 : (Rows.vecUnitaryRow.shortTexts.isNone) = true := by kernel_rfl
theorem vecUnitary_c24 : (Try.pinned.checked.prog.stopsHeard) = true := by kernel_rfl
theorem vecUnitary_c25 : (Try.pinned.checked.prog.mayEnter) = true := by kernel_rfl
theorem vecUnitary_c26 : ((Rows.vecUnitaryRow.lifted == Try.pinned.checked.prog.liftsFinal)) = true := by kernel_rfl
theorem vecUnitary_c27 : ((Try.pinned.checked.prog.make == some Rows.vecUnitaryRow.make)) = true := by kernel_rfl
theorem vecUnitary_c28 : ((Rows.vecUnitaryRow.kinds == (if Rows.vecUnitaryRow.domain.isEmpty then [] else Try.f7.params.toList.map fun t => match Try.pinned.checked.prog.underlying t with | some (.int k) => some k | _ => none))) = true := by kernel_rfl
theorem vecUnitary_c29 : ((Rows.vecUnitaryRow.pinned == Rows.vecUnitaryRow.pinnedBy)) = true := by kernel_rfl
theorem vecUnitary_c30 : ((Rows.vecUnitaryRow.veiled == (Try.f7.params.toList ++ Rows.vecUnitarySpec.plain.varTypes Try.pinned.checked.prog ++ Try.f7.resultTypes.toList).any (Try.pinned.checked.prog.veiledRec ·))) = true := by kernel_rfl
theorem vecUnitary_c31 : (Rows.vecUnitaryRow.veiledFits Try.pinned.checked.prog Try.f7.params.toList (Try.f7.params.toList ++ Rows.vecUnitarySpec.plain.varTypes Try.pinned.checked.prog ++ Try.f7.resultTypes.toList)) = true := by kernel_rfl
theorem vecUnitary_closed : joinedFacts Try.pinned.checked.prog 7 Try.f7 Rows.vecUnitarySpec Rows.vecUnitaryRow = true := by
  unfold joinedFacts
  simp only [Bool.and_eq_true]
  exact ⟨⟨⟨⟨⟨⟨⟨⟨⟨⟨⟨⟨⟨⟨⟨⟨⟨⟨⟨⟨⟨⟨⟨⟨⟨⟨⟨⟨⟨⟨⟨vecUnitary_c0, vecUnitary_c1⟩, vecUnitary_c2⟩, vecUnitary_c3⟩, vecUnitary_c4⟩, vecUnitary_c5⟩, vecUnitary_c6⟩, vecUnitary_c7⟩, vecUnitary_c8⟩, vecUnitary_c9⟩, vecUnitary_c10⟩, vecUnitary_c11⟩, vecUnitary_c12⟩, vecUnitary_c13⟩, vecUnitary_c14⟩, vecUnitary_c15⟩, vecUnitary_c16⟩, vecUnitary_c17⟩, vecUnitary_c18⟩, vecUnitary_c19⟩, vecUnitary_c20⟩, vecUnitary_c21⟩, vecUnitary_c22⟩, vecUnitary_c23⟩, vecUnitary_c24⟩, vecUnitary_c25⟩, vecUnitary_c26⟩, vecUnitary_c27⟩, vecUnitary_c28⟩, vecUnitary_c29⟩, vecUnitary_c30⟩, vecUnitary_c31⟩
theorem vecUnitary_lifted (os : Os) (started : os.Started) (H : Type) (enc : TypeId × Value → H) :
    ReturnsInHanded {} Try.checked os 7 .any (Rows.vecUnitarySpec.pre6 enc Try.prog Try.f7 Rows.vecUnitaryRow.domain false) (Rows.vecUnitarySpec.post enc Try.prog Try.f7 false true false false) := by
  refine returnsInHanded_of_change (C := Try.checked) own started (by kernel_rfl) Try.func7
    (ChangeSpec.witness6 (enc := enc) (C := Try.checked) false ⟨#[], #[.agg #[.int .i64 0, .int .i64 0, .int .i64 0]], []⟩ 8 (by kernel_rfl) (by kernel_rfl) (by kernel_rfl) (by kernel_rfl)) ?_
  intro W base args ds gs before hval0 hW hcnd _
  have hval : ∀ (j : Nat) t v, Try.f7.params[j]? = some t → args[j]? = some v → Value.okWide Try.prog W .any base t v := hval0
  have hW' := hW
  obtain ⟨p, q, hA0, hV, rfl, hfz, hnd⟩ := hW
  have hA : DataW.TrodAll enc Try.prog W 0 (fun _ => true) true Try.f7.params.toList args.toList ds p := hA0
  rw [Try.params7] at hA hval
  obtain ⟨v0, vs0, d0, ds0, p0, q0, hargs, rfl, rfl, h0, r0⟩ := trodAll_cons hA
  obtain ⟨rfl, rfl, rfl⟩ := trodAll_nil r0
  obtain rfl : args = #[v0] := by cases args; simp_all
  obtain ⟨rfl, rfl⟩ := trodVars_none hV
  have k0 := h0
  have lt0 : ∀ x ∈ p0, x.block < W.heap.size := by obtain ⟨m, hm⟩ := k0; exact DataW.trod_lt m _ _ _ hm
  obtain ⟨a0, rfl, ha0⟩ := open_vec (hval 0 24 v0 rfl rfl) h0
  clear hA0 hval0
  refine (unitary_law a0 ha0 W).mono fun e W' ⟨he, hk⟩ => ?_
  subst he
  have bel := hk.below
  exact ⟨_, rfl, _, _, _, [], _, [], hW', trodAll_mk1 (shut_bool Try.underlying4 _), (trodAll_cons_mk (Below.trod laidOut (by kernel_rfl) (of_decide_eq_true (by kernel_rfl)) k0 bel lt0) trodAll_mk0), rfl, bel.frame _, fun h => by cases h⟩
theorem vecUnitary_named : Try.pinned.checked.prog.funcNamed Rows.vecUnitaryRow.func = some 7 := by kernel_rfl
theorem vecUnitary_inst : (Try.f7).isInstance Try.pinned.checked.prog Rows.vecUnitaryRow.origin Rows.vecUnitaryRow.targs := of_decide_eq_true (by kernel_rfl)
theorem vecUnitary_wrap : (Try.f7).isWrapper Try.pinned.checked.prog Rows.vecUnitaryRow.wrapper Rows.vecUnitaryRow.mainSum := by unfold Func.isWrapper; rw [if_neg (of_decide_eq_false (by kernel_rfl))]; exact ⟨rfl, rfl⟩
theorem vecUnitary_over : Rows.vecUnitaryRow.holds Try.pinned (OpenSpec.ofChange Rows.vecUnitarySpec) :=
  OpenClaim.holds_of_wide 7 Try.f7 rfl rfl rfl rfl rfl rfl rfl ⟨rfl, rfl, rfl, rfl, rfl⟩ rfl rfl rfl rfl rfl vecUnitary_named Try.func7 vecUnitary_closed
    vecUnitary_inst vecUnitary_wrap
    (fun os started H enc _ => vecUnitary_lifted os started H enc)
/-- The statement. -/
theorem vecUnitary_proved : Rows.VecUnitarySaid := vecUnitary_over
end Go.Proofs.Ytnipjafcgicddaa
