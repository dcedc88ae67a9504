/-
  Rows.VecDotSaid: the sum of the products is the document's.
-/
import Derived.Test.YtnipjafcgicddaaVm
import Derived.Test.YtnipjafcgicddaaLo
import Derived.Test.YtnipjafcgicddaaRows
set_option linter.unusedVariables false
namespace Go.Proofs.Ytnipjafcgicddaa
open Go Go.ChangeShapes Go.WideShapes Go.ChangeAt Go.RowKit

set_option maxRecDepth 100000
theorem vecDot_c0 : (Rows.vecDotRow.wf (OpenSpec.ofChange Rows.vecDotSpec)) = true := by kernel_rfl
theorem vecDot_c1 : (laidOutB Try.pinned.checked.prog) = true := by kernel_rfl
theorem vecDot_c2 : (mapsRowed Try.pinned.checked.prog) = true := by kernel_rfl
theorem vecDot_c3 : (Try.f3.params.all (Try.pinned.checked.prog.readableRec ·)) = true := by kernel_rfl
theorem vecDot_c4 : (namedTie Try.pinned.checked.prog Rows.vecDotRow.named Rows.vecDotSpec.vars) = true := by kernel_rfl
theorem vecDot_c5 : ((Rows.vecDotRow.stops == [])) = true := by kernel_rfl
theorem vecDot_c6 : ((Try.pinned.checked.prog.stops == [])) = true := by kernel_rfl
theorem vecDot_c7 : ((Rows.vecDotRow.knobs == [])) = true := by kernel_rfl
theorem vecDot_c8 : ((Try.pinned.checked.prog.stopKnobs == [])) = true := by kernel_rfl
theorem vecDot_c9 : ((Rows.vecDotRow.inPlace == Try.pinned.checked.prog.inPlace 3)) = true := by kernel_rfl
theorem vecDot_c10 : ((Rows.vecDotRow.unfollowed == Try.pinned.checked.prog.unfollowed 3)) = true := by kernel_rfl
theorem vecDot_c11 : ((Rows.vecDotRow.recurses == Try.pinned.checked.prog.recurses 3)) = true := by kernel_rfl
theorem vecDot_c12 : ((Rows.vecDotRow.named == Try.pinned.checked.prog.varsNamed 3)) = true := by kernel_rfl
theorem vecDot_c13 : ((Rows.vecDotRow.maps == (Try.f3.params.toList ++ Rows.vecDotSpec.plain.varTypes Try.pinned.checked.prog).any (Try.pinned.checked.prog.mapsRec ·))) = true := by kernel_rfl
theorem vecDot_c14 : ((Rows.vecDotRow.ifaces == (Try.f3.params.toList ++ Rows.vecDotSpec.plain.varTypes Try.pinned.checked.prog).any (Try.pinned.checked.prog.ifacesRec ·))) = true := by kernel_rfl
theorem vecDot_c15 : ((Rows.vecDotRow.mapsOut == Try.pinned.checked.prog.mapsAmong Try.f3.resultTypes.toList)) = true := by kernel_rfl
theorem vecDot_c16 : ((Rows.vecDotRow.loops == (Try.f3.params.toList ++ Rows.vecDotSpec.plain.varTypes Try.pinned.checked.prog).any (Try.pinned.checked.prog.loopsFrom ·))) = true := by kernel_rfl
theorem vecDot_c17 : ((Rows.vecDotRow.wideKeys == (Try.f3.params.toList ++ Rows.vecDotSpec.plain.varTypes Try.pinned.checked.prog ++ Try.f3.resultTypes.toList).any (Try.pinned.checked.prog.wideKeysFrom ·))) = true := by kernel_rfl
theorem vecDot_c18 : (Rows.vecDotSpec.vars.all (Try.pinned.checked.prog.varReadable ·)) = true := by kernel_rfl
theorem vecDot_c19 : (Try.f3.resultTypes.all (fun t => Try.pinned.checked.prog.readableRec t && decide (t < Try.pinned.checked.prog.types.size))) = true := by kernel_rfl
theorem vecDot_c20 : ((Rows.vecDotRow.ifacesOut == Try.f3.resultTypes.toList.any (Try.pinned.checked.prog.ifacesRec ·))) = true := by kernel_rfl
theorem vecDot_c21 : ((Rows.vecDotRow.loopsOut == Try.f3.resultTypes.toList.any (Try.pinned.checked.prog.loopsFrom ·))) = true := by kernel_rfl
theorem vecDot_c22 : ((Rows.vecDotRow.plainKeys == Try.pinned.checked.prog.plainKeys)) = true := by kernel_rfl
theorem vecDot_c23 : (Rows.vecDotRow.shortTexts.isNone) = true := by kernel_rfl
theorem vecDot_c24 : (Try.pinned.checked.prog.stopsHeard) = true := by kernel_rfl
theorem vecDot_c25 : (Try.pinned.checked.prog.mayEnter) = true := by kernel_rfl
theorem vecDot_c26 : ((Rows.vecDotRow.lifted == Try.pinned.checked.prog.liftsFinal)) = true := by kernel_rfl
theorem vecDot_c27 : ((Try.pinned.checked.prog.make == some Rows.vecDotRow.make)) = true := by kernel_rfl
theorem vecDot_c28 : ((Rows.vecDotRow.kinds == (if Rows.vecDotRow.domain.isEmpty then [] else Try.f3.params.toList.map fun t => match Try.pinned.checked.prog.underlying t with | some (.int k) => some k | _ => none))) = true := by kernel_rfl
theorem vecDot_c29 : ((Rows.vecDotRow.pinned == Rows.vecDotRow.pinnedBy)) = true := by kernel_rfl
theorem vecDot_c30 : ((Rows.vecDotRow.veiled == (Try.f3.params.toList ++ Rows.vecDotSpec.plain.varTypes Try.pinned.checked.prog ++ Try.f3.resultTypes.toList).any (Try.pinned.checked.prog.veiledRec ·))) = true := by kernel_rfl
theorem vecDot_c31 : (Rows.vecDotRow.veiledFits Try.pinned.checked.prog Try.f3.params.toList (Try.f3.params.toList ++ Rows.vecDotSpec.plain.varTypes Try.pinned.checked.prog ++ Try.f3.resultTypes.toList)) = true := by kernel_rfl
theorem vecDot_closed : joinedFacts Try.pinned.checked.prog 3 Try.f3 Rows.vecDotSpec Rows.vecDotRow = true := by
  unfold joinedFacts
  simp only [Bool.and_eq_true]
  exact ⟨⟨⟨⟨⟨⟨⟨⟨⟨⟨⟨⟨⟨⟨⟨⟨⟨⟨⟨⟨⟨⟨⟨⟨⟨⟨⟨⟨⟨⟨⟨vecDot_c0, vecDot_c1⟩, vecDot_c2⟩, vecDot_c3⟩, vecDot_c4⟩, vecDot_c5⟩, vecDot_c6⟩, vecDot_c7⟩, vecDot_c8⟩, vecDot_c9⟩, vecDot_c10⟩, vecDot_c11⟩, vecDot_c12⟩, vecDot_c13⟩, vecDot_c14⟩, vecDot_c15⟩, vecDot_c16⟩, vecDot_c17⟩, vecDot_c18⟩, vecDot_c19⟩, vecDot_c20⟩, vecDot_c21⟩, vecDot_c22⟩, vecDot_c23⟩, vecDot_c24⟩, vecDot_c25⟩, vecDot_c26⟩, vecDot_c27⟩, vecDot_c28⟩, vecDot_c29⟩, vecDot_c30⟩, vecDot_c31⟩
theorem vecDot_lifted (os : Os) (started : os.Started) (H : Type) (enc : TypeId × Value → H) :
    ReturnsInHanded {} Try.checked os 3 .any (Rows.vecDotSpec.pre6 enc Try.prog Try.f3 Rows.vecDotRow.domain false) (Rows.vecDotSpec.post enc Try.prog Try.f3 false true false false) := by
  refine returnsInHanded_of_change (C := Try.checked) own started (by kernel_rfl) Try.func3
    (ChangeSpec.witness6 (enc := enc) (C := Try.checked) false ⟨#[], #[.agg #[.int .i64 0, .int .i64 0, .int .i64 0], .agg #[.int .i64 0, .int .i64 0, .int .i64 0]], []⟩ 8 (by kernel_rfl) (by kernel_rfl) (by kernel_rfl) (by kernel_rfl)) ?_
  intro W base args ds gs before hval0 hW hcnd _
  have hval : ∀ (j : Nat) t v, Try.f3.params[j]? = some t → args[j]? = some v → Value.okWide Try.prog W .any base t v := hval0
  have hW' := hW
  obtain ⟨p, q, hA0, hV, rfl, hfz, hnd⟩ := hW
  have hA : DataW.TrodAll enc Try.prog W 0 (fun _ => true) true Try.f3.params.toList args.toList ds p := hA0
  rw [Try.params3] at hA hval
  obtain ⟨v0, vs0, d0, ds0, p0, q0, hargs, rfl, rfl, h0, r0⟩ := trodAll_cons hA
  obtain ⟨v1, vs1, d1, ds1, p1, q1, rfl, rfl, rfl, h1, r1⟩ := trodAll_cons r0
  obtain ⟨rfl, rfl, rfl⟩ := trodAll_nil r1
  obtain rfl : args = #[v0, v1] := by cases args; simp_all
  obtain ⟨rfl, rfl⟩ := trodVars_none hV
  have k0 := h0
  have k1 := h1
  have lt0 : ∀ x ∈ p0, x.block < W.heap.size := by obtain ⟨m, hm⟩ := k0; exact DataW.trod_lt m _ _ _ hm
  have lt1 : ∀ x ∈ p1, x.block < W.heap.size := by obtain ⟨m, hm⟩ := k1; exact DataW.trod_lt m _ _ _ hm
  obtain ⟨a0, rfl, ha0⟩ := open_vec (hval 0 24 v0 rfl rfl) h0
  obtain ⟨a1, rfl, ha1⟩ := open_vec (hval 1 24 v1 rfl rfl) h1
  clear hA0 hval0
  refine (vecdot_law a0 ha0 a1 ha1 W).mono fun e W' ⟨he, hk⟩ => ?_
  subst he
  have bel := hk.below
  exact ⟨_, rfl, _, _, _, [], _, [], hW', trodAll_mk1 (shut_bool Try.underlying4 _), (trodAll_cons_mk (Below.trod laidOut (by kernel_rfl) (of_decide_eq_true (by kernel_rfl)) k0 bel lt0) (trodAll_cons_mk (Below.trod laidOut (by kernel_rfl) (of_decide_eq_true (by kernel_rfl)) k1 bel lt1) trodAll_mk0)), rfl, bel.frame _, fun h => by cases h⟩
theorem vecDot_named : Try.pinned.checked.prog.funcNamed Rows.vecDotRow.func = some 3 := by kernel_rfl
theorem vecDot_inst : (Try.f3).isInstance Try.pinned.checked.prog Rows.vecDotRow.origin Rows.vecDotRow.targs := of_decide_eq_true (by kernel_rfl)
theorem vecDot_wrap : (Try.f3).isWrapper Try.pinned.checked.prog Rows.vecDotRow.wrapper Rows.vecDotRow.mainSum := by unfold Func.isWrapper; rw [if_neg (of_decide_eq_false (by kernel_rfl))]; exact ⟨rfl, rfl⟩
theorem vecDot_over : Rows.vecDotRow.holds Try.pinned (OpenSpec.ofChange Rows.vecDotSpec) :=
  OpenClaim.holds_of_wide 3 Try.f3 rfl rfl rfl rfl rfl rfl rfl ⟨rfl, rfl, rfl, rfl, rfl⟩ rfl rfl rfl rfl rfl vecDot_named Try.func3 vecDot_closed
    vecDot_inst vecDot_wrap
    (fun os started H enc _ => vecDot_lifted os started H enc)
/-- The statement. -/
theorem vecDot_proved : Rows.VecDotSaid := vecDot_over
end Go.Proofs.Ytnipjafcgicddaa
