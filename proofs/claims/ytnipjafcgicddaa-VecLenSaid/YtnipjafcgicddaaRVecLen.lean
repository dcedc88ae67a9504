/-
  Rows.VecLenSaid: lengths, rounded either way, are the document's.
-/
import Derived.Test.YtnipjafcgicddaaVm
import Derived.Test.YtnipjafcgicddaaLo
import Derived.Test.YtnipjafcgicddaaRows
set_option linter.unusedVariables false
namespace Go.Proofs.Ytnipjafcgicddaa
open Go Go.ChangeShapes Go.WideShapes Go.ChangeAt Go.RowKit

set_option maxRecDepth 100000
theorem vecLen_c0 : (Rows.vecLenRow.wf (OpenSpec.ofChange Rows.vecLenSpec)) = true := by kernel_rfl
theorem vecLen_c1 : (laidOutB Try.pinned.checked.prog) = true := by kernel_rfl
theorem vecLen_c2 : (mapsRowed Try.pinned.checked.prog) = true := by kernel_rfl
theorem vecLen_c3 : (Try.f8.params.all (Try.pinned.checked.prog.readableRec ·)) = true := by kernel_rfl
theorem vecLen_c4 : (namedTie Try.pinned.checked.prog Rows.vecLenRow.named Rows.vecLenSpec.vars) = true := by kernel_rfl
theorem vecLen_c5 : ((Rows.vecLenRow.stops == [])) = true := by kernel_rfl
theorem vecLen_c6 : ((Try.pinned.checked.prog.stops == [])) = true := by kernel_rfl
theorem vecLen_c7 : ((Rows.vecLenRow.knobs == [])) = true := by kernel_rfl
theorem vecLen_c8 : ((Try.pinned.checked.prog.stopKnobs == [])) = true := by kernel_rfl
theorem vecLen_c9 : ((Rows.vecLenRow.inPlace == Try.pinned.checked.prog.inPlace 8)) = true := by kernel_rfl
theorem vecLen_c10 : ((Rows.vecLenRow.unfollowed == Try.pinned.checked.prog.unfollowed 8)) = true := by kernel_rfl
theorem vecLen_c11 : ((Rows.vecLenRow.recurses == Try.pinned.checked.prog.recurses 8)) = true := by kernel_rfl
theorem vecLen_c12 : ((Rows.vecLenRow.named == Try.pinned.checked.prog.varsNamed 8)) = true := by kernel_rfl
theorem vecLen_c13 : ((Rows.vecLenRow.maps == (Try.f8.params.toList ++ Rows.vecLenSpec.plain.varTypes Try.pinned.checked.prog).any (Try.pinned.checked.prog.mapsRec ·))) = true := by kernel_rfl
theorem vecLen_c14 : ((Rows.vecLenRow.ifaces == (Try.f8.params.toList ++ Rows.vecLenSpec.plain.varTypes Try.pinned.checked.prog).any (Try.pinned.checked.prog.ifacesRec ·))) = true := by kernel_rfl
theorem vecLen_c15 : ((Rows.vecLenRow.mapsOut == Try.pinned.checked.prog.mapsAmong Try.f8.resultTypes.toList)) = true := by kernel_rfl
theorem vecLen_c16 : ((Rows.vecLenRow.loops == (Try.f8.params.toList ++ Rows.vecLenSpec.plain.varTypes Try.pinned.checked.prog).any (Try.pinned.checked.prog.loopsFrom ·))) = true := by kernel_rfl
theorem vecLen_c17 : ((Rows.vecLenRow.wideKeys == (Try.f8.params.toList ++ Rows.vecLenSpec.plain.varTypes Try.pinned.checked.prog ++ Try.f8.resultTypes.toList).any (Try.pinned.checked.prog.wideKeysFrom ·))) = true := by kernel_rfl
theorem vecLen_c18 : (Rows.vecLenSpec.vars.all (Try.pinned.checked.prog.varReadable ·)) = true := by kernel_rfl
theorem vecLen_c19 : (Try.f8.resultTypes.all (fun t => Try.pinned.checked.prog.readableRec t && decide (t < Try.pinned.checked.prog.types.size))) = true := by kernel_rfl
theorem vecLen_c20 : ((Rows.vecLenRow.ifacesOut == Try.f8.resultTypes.toList.any (Try.pinned.checked.prog.ifacesRec ·))) = true := by kernel_rfl
theorem vecLen_c21 : ((Rows.vecLenRow.loopsOut == Try.f8.resultTypes.toList.any (Try.pinned.checked.prog.loopsFrom ·))) = true := by kernel_rfl
theorem vecLen_c22 : ((Rows.vecLenRow.plainKeys == Try.pinned.checked.prog.plainKeys)) = true := by kernel_rfl
theorem vecLen_c23 : (Rows.vecLenRow.shortTexts.isNone) = true := by kernel_rfl
theorem vecLen_c24 : (Try.pinned.checked.prog.stopsHeard) = true := by kernel_rfl
theorem vecLen_c25 : (Try.pinned.checked.prog.mayEnter) = true := by kernel_rfl
theorem vecLen_c26 : ((Rows.vecLenRow.lifted == Try.pinned.checked.prog.liftsFinal)) = true := by kernel_rfl
theorem vecLen_c27 : ((Try.pinned.checked.prog.make == some Rows.vecLenRow.make)) = true := by kernel_rfl
theorem vecLen_c28 : ((Rows.vecLenRow.kinds == (if Rows.vecLenRow.domain.isEmpty then [] else Try.f8.params.toList.map fun t => match Try.pinned.checked.prog.underlying t with | some (.int k) => some k | _ => none))) = true := by kernel_rfl
theorem vecLen_c29 : ((Rows.vecLenRow.pinned == Rows.vecLenRow.pinnedBy)) = true := by kernel_rfl
theorem vecLen_c30 : ((Rows.vecLenRow.veiled == (Try.f8.params.toList ++ Rows.vecLenSpec.plain.varTypes Try.pinned.checked.prog ++ Try.f8.resultTypes.toList).any (Try.pinned.checked.prog.veiledRec ·))) = true := by kernel_rfl
theorem vecLen_c31 : (Rows.vecLenRow.veiledFits Try.pinned.checked.prog Try.f8.params.toList (Try.f8.params.toList ++ Rows.vecLenSpec.plain.varTypes Try.pinned.checked.prog ++ Try.f8.resultTypes.toList)) = true := by kernel_rfl
theorem vecLen_closed : joinedFacts Try.pinned.checked.prog 8 Try.f8 Rows.vecLenSpec Rows.vecLenRow = true := by
  unfold joinedFacts
  simp only [Bool.and_eq_true]
  exact ⟨⟨⟨⟨⟨⟨⟨⟨⟨⟨⟨⟨⟨⟨⟨⟨⟨⟨⟨⟨⟨⟨⟨⟨⟨⟨⟨⟨⟨⟨⟨vecLen_c0, vecLen_c1⟩, vecLen_c2⟩, vecLen_c3⟩, vecLen_c4⟩, vecLen_c5⟩, vecLen_c6⟩, vecLen_c7⟩, vecLen_c8⟩, vecLen_c9⟩, vecLen_c10⟩, vecLen_c11⟩, vecLen_c12⟩, vecLen_c13⟩, vecLen_c14⟩, vecLen_c15⟩, vecLen_c16⟩, vecLen_c17⟩, vecLen_c18⟩, vecLen_c19⟩, vecLen_c20⟩, vecLen_c21⟩, vecLen_c22⟩, vecLen_c23⟩, vecLen_c24⟩, vecLen_c25⟩, vecLen_c26⟩, vecLen_c27⟩, vecLen_c28⟩, vecLen_c29⟩, vecLen_c30⟩, vecLen_c31⟩
theorem vecLen_lifted (os : Os) (started : os.Started) (H : Type) (enc : TypeId × Value → H) :
    ReturnsInHanded {} Try.checked os 8 .any (Rows.vecLenSpec.pre6 enc Try.prog Try.f8 Rows.vecLenRow.domain false) (Rows.vecLenSpec.post enc Try.prog Try.f8 false true false false) := by
  refine returnsInHanded_of_change (C := Try.checked) own started (by kernel_rfl) Try.func8
    (ChangeSpec.witness6 (enc := enc) (C := Try.checked) false ⟨#[], #[.agg #[.int .i64 0, .int .i64 0, .int .i64 0]], []⟩ 8 (by kernel_rfl) (by kernel_rfl) (by kernel_rfl) (by kernel_rfl)) ?_
  intro W base args ds gs before hval0 hW hcnd _
  have hval : ∀ (j : Nat) t v, Try.f8.params[j]? = some t → args[j]? = some v → Value.okWide Try.prog W .any base t v := hval0
  have hW' := hW
  obtain ⟨p, q, hA0, hV, rfl, hfz, hnd⟩ := hW
  have hA : DataW.TrodAll enc Try.prog W 0 (fun _ => true) true Try.f8.params.toList args.toList ds p := hA0
  rw [Try.params8] at hA hval
  obtain ⟨v0, vs0, d0, ds0, p0, q0, hargs, rfl, rfl, h0, r0⟩ := trodAll_cons hA
  obtain ⟨rfl, rfl, rfl⟩ := trodAll_nil r0
  obtain rfl : args = #[v0] := by cases args; simp_all
  obtain ⟨rfl, rfl⟩ := trodVars_none hV
  have k0 := h0
  have lt0 : ∀ x ∈ p0, x.block < W.heap.size := by obtain ⟨m, hm⟩ := k0; exact DataW.trod_lt m _ _ _ hm
  obtain ⟨a0, rfl, ha0⟩ := open_vec (hval 0 24 v0 rfl rfl) h0
  clear hA0 hval0
  refine (veclen_law a0 ha0 W).mono fun e W' ⟨he, hk⟩ => ?_
  subst he
  have bel := hk.below
  exact ⟨_, rfl, _, _, _, [], _, [], hW', trodAll_mk1 (shut_bool Try.underlying4 _), (trodAll_cons_mk (Below.trod laidOut (by kernel_rfl) (of_decide_eq_true (by kernel_rfl)) k0 bel lt0) trodAll_mk0), rfl, bel.frame _, fun h => by cases h⟩
theorem vecLen_named : Try.pinned.checked.prog.funcNamed Rows.vecLenRow.func = some 8 := by kernel_rfl
theorem vecLen_inst : (Try.f8).isInstance Try.pinned.checked.prog Rows.vecLenRow.origin Rows.vecLenRow.targs := of_decide_eq_true (by kernel_rfl)
theorem vecLen_wrap : (Try.f8).isWrapper Try.pinned.checked.prog Rows.vecLenRow.wrapper Rows.vecLenRow.mainSum := by unfold Func.isWrapper; rw [if_neg (of_decide_eq_false (by kernel_rfl))]; exact ⟨rfl, rfl⟩
theorem vecLen_over : Rows.vecLenRow.holds Try.pinned (OpenSpec.ofChange Rows.vecLenSpec) :=
  OpenClaim.holds_of_wide 8 Try.f8 rfl rfl rfl rfl rfl rfl rfl ⟨rfl, rfl, rfl, rfl, rfl⟩ rfl rfl rfl rfl rfl vecLen_named Try.func8 vecLen_closed
    vecLen_inst vecLen_wrap
    (fun os started H enc _ => vecLen_lifted os started H enc)
/-- The statement. -/
theorem vecLen_proved : Rows.VecLenSaid := vecLen_over
end Go.Proofs.Ytnipjafcgicddaa
