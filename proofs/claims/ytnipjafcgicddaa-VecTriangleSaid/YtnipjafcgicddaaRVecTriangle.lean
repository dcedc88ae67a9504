/-
  Rows.VecTriangleSaid: the length of a sum, rounded up, is at most the sum of the lengths, rounded up.
-/
import Derived.Test.YtnipjafcgicddaaVq
import Derived.Test.YtnipjafcgicddaaLo
import Derived.Test.YtnipjafcgicddaaRows
set_option linter.unusedVariables false
namespace Go.Proofs.Ytnipjafcgicddaa
open Go Go.ChangeShapes Go.WideShapes Go.ChangeAt Go.RowKit

set_option maxRecDepth 100000
theorem vecTriangle_c0 : (Rows.vecTriangleRow.wf (OpenSpec.ofChange Rows.vecTriangleSpec)) = true := by kernel_rfl
theorem vecTriangle_c1 : (laidOutB Try.pinned.checked.prog) = true := by kernel_rfl
theorem vecTriangle_c2 : (mapsRowed Try.pinned.checked.prog) = true := by kernel_rfl
theorem vecTriangle_c3 : (Try.f11.params.all (Try.pinned.checked.prog.readableRec ·)) = true := by kernel_rfl
theorem vecTriangle_c4 : (namedTie Try.pinned.checked.prog Rows.vecTriangleRow.named Rows.vecTriangleSpec.vars) = true := by kernel_rfl
theorem vecTriangle_c5 : ((Rows.vecTriangleRow.stops == [])) = true := by kernel_rfl
theorem vecTriangle_c6 : ((Try.pinned.checked.prog.stops == [])) = true := by kernel_rfl
theorem vecTriangle_c7 : ((Rows.vecTriangleRow.knobs == [])) = true := by kernel_rfl
theorem vecTriangle_c8 : ((Try.pinned.checked.prog.stopKnobs == [])) = true := by kernel_rfl
theorem vecTriangle_c9 : ((Rows.vecTriangleRow.inPlace == Try.pinned.checked.prog.inPlace 11)) = true := by kernel_rfl
theorem vecTriangle_c10 : ((Rows.vecTriangleRow.unfollowed == Try.pinned.checked.prog.unfollowed 11)) = true := by kernel_rfl
theorem vecTriangle_c11 : ((Rows.vecTriangleRow.recurses == Try.pinned.checked.prog.recurses 11)) = true := by kernel_rfl
theorem vecTriangle_c12 : ((Rows.vecTriangleRow.named == Try.pinned.checked.prog.varsNamed 11)) = true := by kernel_rfl
theorem vecTriangle_c13 : ((Rows.vecTriangleRow.maps == (Try.f11.params.toList ++ Rows.vecTriangleSpec.plain.varTypes Try.pinned.checked.prog).any (Try.pinned.checked.prog.mapsRec ·))) = true := by kernel_rfl
theorem vecTriangle_c14 : ((Rows.vecTriangleRow.ifaces == (Try.f11.params.toList ++ Rows.vecTriangleSpec.plain.varTypes Try.pinned.checked.prog).any (Try.pinned.checked.prog.ifacesRec ·))) = true := by kernel_rfl
theorem vecTriangle_c15 : ((Rows.vecTriangleRow.mapsOut == Try.pinned.checked.prog.mapsAmong Try.f11.resultTypes.toList)) = true := by kernel_rfl
theorem vecTriangle_c16 : ((Rows.vecTriangleRow.loops == (Try.f11.params.toList ++ Rows.vecTriangleSpec.plain.varTypes Try.pinned.checked.prog).any (Try.pinned.checked.prog.loopsFrom ·))) = true := by kernel_rfl
theorem vecTriangle_c17 : ((Rows.vecTriangleRow.wideKeys == (Try.f11.params.toList ++ Rows.vecTriangleSpec.plain.varTypes Try.pinned.checked.prog ++ Try.f11.resultTypes.toList).any (Try.pinned.checked.prog.wideKeysFrom ·))) = true := by kernel_rfl
theorem vecTriangle_c18 : (Rows.vecTriangleSpec.vars.all (Try.pinned.checked.prog.varReadable ·)) = true := by kernel_rfl
theorem vecTriangle_c19 : (Try.f11.resultTypes.all (fun t => Try.pinned.checked.prog.readableRec t && decide (t < Try.pinned.checked.prog.types.size))) = true := by kernel_rfl
theorem vecTriangle_c20 : ((Rows.vecTriangleRow.ifacesOut == Try.f11.resultTypes.toList.any (Try.pinned.checked.prog.ifacesRec ·))) = true := by kernel_rfl
theorem vecTriangle_c21 : ((Rows.vecTriangleRow.loopsOut == Try.f11.resultTypes.toList.any (Try.pinned.checked.prog.loopsFrom ·))) = true := by kernel_rfl
theorem vecTriangle_c22 : ((Rows.vecTriangleRow.plainKeys == Try.pinned.checked.prog.plainKeys)) = true := by kernel_rfl
theorem vecTriangle_c23 : (Rows.vecTriangleRow.shortTexts.isNone) = true := by kernel_rfl
theorem vecTriangle_c24 : (Try.pinned.checked.prog.stopsHeard) = true := by kernel_rfl
theorem vecTriangle_c25 : (Try.pinned.checked.prog.mayEnter) = true := by kernel_rfl
theorem vecTriangle_c26 : ((Rows.vecTriangleRow.lifted == Try.pinned.checked.prog.liftsFinal)) = true := by kernel_rfl
theorem vecTriangle_c27 : ((Try.pinned.checked.prog.make == some Rows.vecTriangleRow.make)) = true := by kernel_rfl
theorem vecTriangle_c28 : ((Rows.vecTriangleRow.kinds == (if Rows.vecTriangleRow.domain.isEmpty then [] else Try.f11.params.toList.map fun t => match Try.pinned.checked.prog.underlying t with | some (.int k) => some k | _ => none))) = true := by kernel_rfl
theorem vecTriangle_c29 : ((Rows.vecTriangleRow.pinned == Rows.vecTriangleRow.pinnedBy)) = true := by kernel_rfl
theorem vecTriangle_c30 : ((Rows.vecTriangleRow.veiled == (Try.f11.params.toList ++ Rows.vecTriangleSpec.plain.varTypes Try.pinned.checked.prog ++ Try.f11.resultTypes.toList).any (Try.pinned.checked.prog.veiledRec ·))) = true := by kernel_rfl
theorem vecTriangle_c31 : (Rows.vecTriangleRow.veiledFits Try.pinned.checked.prog Try.f11.params.toList (Try.f11.params.toList ++ Rows.vecTriangleSpec.plain.varTypes Try.pinned.checked.prog ++ Try.f11.resultTypes.toList)) = true := by kernel_rfl
theorem vecTriangle_closed : joinedFacts Try.pinned.checked.prog 11 Try.f11 Rows.vecTriangleSpec Rows.vecTriangleRow = true := by
  unfold joinedFacts
  simp only [Bool.and_eq_true]
  exact ⟨⟨⟨⟨⟨⟨⟨⟨⟨⟨⟨⟨⟨⟨⟨⟨⟨⟨⟨⟨⟨⟨⟨⟨⟨⟨⟨⟨⟨⟨⟨vecTriangle_c0, vecTriangle_c1⟩, vecTriangle_c2⟩, vecTriangle_c3⟩, vecTriangle_c4⟩, vecTriangle_c5⟩, vecTriangle_c6⟩, vecTriangle_c7⟩, vecTriangle_c8⟩, vecTriangle_c9⟩, vecTriangle_c10⟩, vecTriangle_c11⟩, vecTriangle_c12⟩, vecTriangle_c13⟩, vecTriangle_c14⟩, vecTriangle_c15⟩, vecTriangle_c16⟩, vecTriangle_c17⟩, vecTriangle_c18⟩, vecTriangle_c19⟩, vecTriangle_c20⟩, vecTriangle_c21⟩, vecTriangle_c22⟩, vecTriangle_c23⟩, vecTriangle_c24⟩, vecTriangle_c25⟩, vecTriangle_c26⟩, vecTriangle_c27⟩, vecTriangle_c28⟩, vecTriangle_c29⟩, vecTriangle_c30⟩, vecTriangle_c31⟩
theorem vecTriangle_lifted (os : Os) (started : os.Started) (H : Type) (enc : TypeId × Value → H) :
    ReturnsInHanded {} Try.checked os 11 .any (Rows.vecTriangleSpec.pre6 enc Try.prog Try.f11 Rows.vecTriangleRow.domain false) (Rows.vecTriangleSpec.post enc Try.prog Try.f11 false true false false) := by
  refine returnsInHanded_of_change (C := Try.checked) own started (by kernel_rfl) Try.func11
    (ChangeSpec.witness6 (enc := enc) (C := Try.checked) false ⟨#[], #[.agg #[.int .i64 0, .int .i64 0, .int .i64 0], .agg #[.int .i64 0, .int .i64 0, .int .i64 0]], []⟩ 8 (by kernel_rfl) (by kernel_rfl) (by kernel_rfl) (by kernel_rfl)) ?_
  intro W base args ds gs before hval0 hW hcnd _
  have hval : ∀ (j : Nat) t v, Try.f11.params[j]? = some t → args[j]? = some v → Value.okWide Try.prog W .any base t v := hval0
  have hW' := hW
  obtain ⟨p, q, hA0, hV, rfl, hfz, hnd⟩ := hW
  have hA : DataW.TrodAll enc Try.prog W 0 (fun _ => true) true Try.f11.params.toList args.toList ds p := hA0
  rw [Try.params11] at hA hval
  obtain ⟨v0, vs0, d0, ds0, p0, q0, hargs, rfl, rfl, h0, r0⟩ := trodAll_cons hA
  obtain ⟨v1, vs1, d1, ds1, p1, q1, rfl, rfl, rfl, h1, r1⟩ := trodAll_cons r0
  obtain ⟨rfl, rfl, rfl⟩ := trodAll_nil r1
  obtain rfl : args = #[v0, v1] := by cases args; simp_all
  obtain ⟨rfl, rfl⟩ := trodVars_none hV
  have k0 := h0
  have k1 := h1
  have lt0 : ∀ x ∈ p0, x.block < W.heap.size := by obtain ⟨m, hm⟩ := k0; exact DataW.trod_lt m _ _ _ hm
  have lt1 : ∀ x ∈ p1, x.block < W.heap.size := by obtain ⟨m, hm⟩ := k1; exact DataW.trod_lt m _ _ _ hm
  obtain ⟨a0, rfl, ha0⟩ := open_vec (hval 0 24 v0 rfl rfl) h0
  obtain ⟨a1, rfl, ha1⟩ := open_vec (hval 1 24 v1 rfl rfl) h1
  clear hA0 hval0
  refine (triangle_law a0 ha0 a1 ha1 W).mono fun e W' ⟨he, hk⟩ => ?_
  subst he
  have bel := hk.below
  exact ⟨_, rfl, _, _, _, [], _, [], hW', trodAll_mk1 (shut_bool Try.underlying4 _), (trodAll_cons_mk (Below.trod laidOut (by kernel_rfl) (of_decide_eq_true (by kernel_rfl)) k0 bel lt0) (trodAll_cons_mk (Below.trod laidOut (by kernel_rfl) (of_decide_eq_true (by kernel_rfl)) k1 bel lt1) trodAll_mk0)), rfl, bel.frame _, fun h => by cases h⟩
theorem vecTriangle_named : Try.pinned.checked.prog.funcNamed Rows.vecTriangleRow.func = some 11 := by kernel_rfl
theorem vecTriangle_inst : (Try.f11).isInstance Try.pinned.checked.prog Rows.vecTriangleRow.origin Rows.vecTriangleRow.targs := of_decide_eq_true (by kernel_rfl)
theorem vecTriangle_wrap : (Try.f11).isWrapper Try.pinned.checked.prog Rows.vecTriangleRow.wrapper Rows.vecTriangleRow.mainSum := by unfold Func.isWrapper; rw [if_neg (of_decide_eq_false (by kernel_rfl))]; exact ⟨rfl, rfl⟩
theorem vecTriangle_over : Rows.vecTriangleRow.holds Try.pinned (OpenSpec.ofChange Rows.vecTriangleSpec) :=
  OpenClaim.holds_of_wide 11 Try.f11 rfl rfl rfl rfl rfl rfl rfl ⟨rfl, rfl, rfl, rfl, rfl⟩ rfl rfl rfl rfl rfl vecTriangle_named Try.func11 vecTriangle_closed
    vecTriangle_inst vecTriangle_wrap
    (fun os started H enc _ => vecTriangle_lifted os started H enc)
/-- The statement. -/
theorem vecTriangle_proved : Rows.VecTriangleSaid := vecTriangle_over
end Go.Proofs.Ytnipjafcgicddaa
