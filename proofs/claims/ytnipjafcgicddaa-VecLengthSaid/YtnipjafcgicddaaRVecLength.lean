/-
  Rows.VecLengthSaid: the length's square is not above the vector's, and that of the next number is; rounded up it is that, or the next.
-/
import Derived.Test.YtnipjafcgicddaaVq
import Derived.Test.YtnipjafcgicddaaLo
import Derived.Test.YtnipjafcgicddaaRows
set_option linter.unusedVariables false
namespace Go.Proofs.Ytnipjafcgicddaa
open Go Go.ChangeShapes Go.WideShapes Go.ChangeAt Go.RowKit

set_option maxRecDepth 100000
theorem vecLength_c0 : (Rows.vecLengthRow.wf (OpenSpec.ofChange Rows.vecLengthSpec)) = true := by kernel_rfl
theorem vecLength_c1 : (laidOutB Try.pinned.checked.prog) = true := by kernel_rfl
theorem vecLength_c2 : (mapsRowed Try.pinned.checked.prog) = true := by kernel_rfl
theorem vecLength_c3 : (Try.f9.params.all (Try.pinned.checked.prog.readableRec ·)) = true := by kernel_rfl
theorem vecLength_c4 : (namedTie Try.pinned.checked.prog Rows.vecLengthRow.named Rows.vecLengthSpec.vars) = true := by kernel_rfl
theorem vecLength_c5 : ((Rows.vecLengthRow.stops == [])) = true := by kernel_rfl
theorem vecLength_c6 : ((Try.pinned.checked.prog.stops == [])) = true := by kernel_rfl
theorem vecLength_c7 : ((Rows.vecLengthRow.knobs == [])) = true := by kernel_rfl
theorem vecLength_c8 : ((Try.pinned.checked.prog.stopKnobs == [])) = true := by kernel_rfl
theorem vecLength_c9 : ((Rows.vecLengthRow.inPlace == Try.pinned.checked.prog.inPlace 9)) = true := by kernel_rfl
theorem vecLength_c10 : ((Rows.vecLengthRow.unfollowed == Try.pinned.checked.prog.unfollowed 9)) = true := by kernel_rfl
theorem vecLength_c11 : ((Rows.vecLengthRow.recurses == Try.pinned.checked.prog.recurses 9)) = true := by kernel_rfl
theorem vecLength_c12 : ((Rows.vecLengthRow.named == Try.pinned.checked.prog.varsNamed 9)) = true := by kernel_rfl
theorem vecLength_c13 : ((Rows.vecLengthRow.maps == (Try.f9.params.toList ++ Rows.vecLengthSpec.plain.varTypes Try.pinned.checked.prog).any (Try.pinned.checked.prog.mapsRec ·))) = true := by kernel_rfl
theorem vecLength_c14 : ((Rows.vecLengthRow.ifaces == (Try.f9.params.toList ++ Rows.vecLengthSpec.plain.varTypes Try.pinned.checked.prog).any (Try.pinned.checked.prog.ifacesRec ·))) = true := by kernel_rfl
theorem vecLength_c15 : ((Rows.vecLengthRow.mapsOut == Try.pinned.checked.prog.mapsAmong Try.f9.resultTypes.toList)) = true := by kernel_rfl
theorem vecLength_c16 : ((Rows.vecLengthRow.loops == (Try.f9.params.toList ++ Rows.vecLengthSpec.plain.varTypes Try.pinned.checked.prog).any (Try.pinned.checked.prog.loopsFrom ·))) = true := by kernel_rfl
theorem vecLength_c17 : ((Rows.vecLengthRow.wideKeys == (Try.f9.params.toList ++ Rows.vecLengthSpec.plain.varTypes Try.pinned.checked.prog ++ Try.f9.resultTypes.toList).any (Try.pinned.checked.prog.wideKeysFrom ·))) = true := by kernel_rfl
theorem vecLength_c18 : (Rows.vecLengthSpec.vars.all (Try.pinned.checked.prog.varReadable ·)) = true := by kernel_rfl
theorem vecLength_c19 : (Try.f9.resultTypes.all (fun t => Try.pinned.checked.prog.readableRec t && decide (t < Try.pinned.checked.prog.types.size))) = true := by kernel_rfl
theorem vecLength_c20 : ((Rows.vecLengthRow.ifacesOut == Try.f9.resultTypes.toList.any (Try.pinned.checked.prog.ifacesRec ·))) = true := by kernel_rfl
theorem vecLength_c21 : ((Rows.vecLengthRow.loopsOut == Try.f9.resultTypes.toList.any (Try.pinned.checked.prog.loopsFrom ·))) = true := by kernel_rfl
theorem vecLength_c22 : ((Rows.vecLengthRow.plainKeys == Try.pinned.checked.prog.plainKeys)) = true := by kernel_rfl
theorem vecLength_c23 : (Rows.vecLengthRow.shortTexts.isNone) = true := by kernel_rfl
theorem vecLength_c24 : (Try.pinned.checked.prog.stopsHeard) = true := by kernel_rfl
theorem vecLength_c25 : (Try.pinned.checked.prog.mayEnter) = true := by kernel_rfl
theorem vecLength_c26 : ((Rows.vecLengthRow.lifted == Try.pinned.checked.prog.liftsFinal)) = true := by kernel_rfl
theorem vecLength_c27 : ((Try.pinned.checked.prog.make == some Rows.vecLengthRow.make)) = true := by kernel_rfl
theorem vecLength_c28 : ((Rows.vecLengthRow.kinds == (if Rows.vecLengthRow.domain.isEmpty then [] else Try.f9.params.toList.map fun t => match Try.pinned.checked.prog.underlying t with | some (.int k) => some k | _ => none))) = true := by kernel_rfl
theorem vecLength_c29 : ((Rows.vecLengthRow.pinned == Rows.vecLengthRow.pinnedBy)) = true := by kernel_rfl
theorem vecLength_c30 : ((Rows.vecLengthRow.veiled == (Try.f9.params.toList ++ Rows.vecLengthSpec.plain.varTypes Try.pinned.checked.prog ++ Try.f9.resultTypes.toList).any (Try.pinned.checked.prog.veiledRec ·))) = true := by kernel_rfl
theorem vecLength_c31 : (Rows.vecLengthRow.veiledFits Try.pinned.checked.prog Try.f9.params.toList (Try.f9.params.toList ++ Rows.vecLengthSpec.plain.varTypes Try.pinned.checked.prog ++ Try.f9.resultTypes.toList)) = true := by kernel_rfl
theorem vecLength_closed : joinedFacts Try.pinned.checked.prog 9 Try.f9 Rows.vecLengthSpec Rows.vecLengthRow = true := by
  unfold joinedFacts
  simp only [Bool.and_eq_true]
  exact ⟨⟨⟨⟨⟨⟨⟨⟨⟨⟨⟨⟨⟨⟨⟨⟨⟨⟨⟨⟨⟨⟨⟨⟨⟨⟨⟨⟨⟨⟨⟨vecLength_c0, vecLength_c1⟩, vecLength_c2⟩, vecLength_c3⟩, vecLength_c4⟩, vecLength_c5⟩, vecLength_c6⟩, vecLength_c7⟩, vecLength_c8⟩, vecLength_c9⟩, vecLength_c10⟩, vecLength_c11⟩, vecLength_c12⟩, vecLength_c13⟩, vecLength_c14⟩, vecLength_c15⟩, vecLength_c16⟩, vecLength_c17⟩, vecLength_c18⟩, vecLength_c19⟩, vecLength_c20⟩, vecLength_c21⟩, vecLength_c22⟩, vecLength_c23⟩, vecLength_c24⟩, vecLength_c25⟩, vecLength_c26⟩, vecLength_c27⟩, vecLength_c28⟩, vecLength_c29⟩, vecLength_c30⟩, vecLength_c31⟩
theorem vecLength_lifted (os : Os) (started : os.Started) (H : Type) (enc : TypeId × Value → H) :
    ReturnsInHanded {} Try.checked os 9 .any (Rows.vecLengthSpec.pre6 enc Try.prog Try.f9 Rows.vecLengthRow.domain false) (Rows.vecLengthSpec.post enc Try.prog Try.f9 false true false false) := by
  refine returnsInHanded_of_change (C := Try.checked) own started (by kernel_rfl) Try.func9
    (ChangeSpec.witness6 (enc := enc) (C := Try.checked) false ⟨#[], #[.agg #[.int .i64 0, .int .i64 0, .int .i64 0]], []⟩ 8 (by kernel_rfl) (by kernel_rfl) (by kernel_rfl) (by kernel_rfl)) ?_
  intro W base args ds gs before hval0 hW hcnd _
  have hval : ∀ (j : Nat) t v, Try.f9.params[j]? = some t → args[j]? = some v → Value.okWide Try.prog W .any base t v := hval0
  have hW' := hW
  obtain ⟨p, q, hA0, hV, rfl, hfz, hnd⟩ := hW
  have hA : DataW.TrodAll enc Try.prog W 0 (fun _ => true) true Try.f9.params.toList args.toList ds p := hA0
  rw [Try.params9] at hA hval
  obtain ⟨v0, vs0, d0, ds0, p0, q0, hargs, rfl, rfl, h0, r0⟩ := trodAll_cons hA
  obtain ⟨rfl, rfl, rfl⟩ := trodAll_nil r0
  obtain rfl : args = #[v0] := by cases args; simp_all
  obtain ⟨rfl, rfl⟩ := trodVars_none hV
  have k0 := h0
  have lt0 : ∀ x ∈ p0, x.block < W.heap.size := by obtain ⟨m, hm⟩ := k0; exact DataW.trod_lt m _ _ _ hm
  obtain ⟨a0, rfl, ha0⟩ := open_vec (hval 0 24 v0 rfl rfl) h0
  clear hA0 hval0
  refine (length_law a0 ha0 W).mono fun e W' ⟨he, hk⟩ => ?_
  subst he
  have bel := hk.below
  exact ⟨_, rfl, _, _, _, [], _, [], hW', trodAll_mk1 (shut_bool Try.underlying4 _), (trodAll_cons_mk (Below.trod laidOut (by kernel_rfl) (of_decide_eq_true (by kernel_rfl)) k0 bel lt0) trodAll_mk0), rfl, bel.frame _, fun h => by cases h⟩
theorem vecLength_named : Try.pinned.checked.prog.funcNamed Rows.vecLengthRow.func = some 9 := by kernel_rfl
theorem vecLength_inst : (Try.f9).isInstance Try.pinned.checked.prog Rows.vecLengthRow.origin Rows.vecLengthRow.targs := of_decide_eq_true (by kernel_rfl)
theorem vecLength_wrap : (Try.f9).isWrapper Try.pinned.checked.prog Rows.vecLengthRow.wrapper Rows.vecLengthRow.mainSum := by unfold Func.isWrapper; rw [if_neg (of_decide_eq_false (by kernel_rfl))]; exact ⟨rfl, rfl⟩
theorem vecLength_over : Rows.vecLengthRow.holds Try.pinned (OpenSpec.ofChange Rows.vecLengthSpec) :=
  OpenClaim.holds_of_wide 9 Try.f9 rfl rfl rfl rfl rfl rfl rfl ⟨rfl, rfl, rfl, rfl, rfl⟩ rfl rfl rfl rfl rfl vecLength_named Try.func9 vecLength_closed
    vecLength_inst vecLength_wrap
    (fun os started H enc _ => vecLength_lifted os started H enc)
/-- The statement. -/
theorem vecLength_proved : Rows.VecLengthSaid := vecLength_over
end Go.Proofs.Ytnipjafcgicddaa
