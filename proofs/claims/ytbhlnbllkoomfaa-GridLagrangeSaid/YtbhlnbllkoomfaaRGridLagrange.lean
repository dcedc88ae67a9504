/-
  Rows.GridLagrangeSaid: the square of the cross product and that of the dot product are together the product of the squares; the cross product is level with both, and is turned over with them.
-/
import Derived.Test.YtbhlnbllkoomfaaFf
import Derived.Test.YtbhlnbllkoomfaaLc
import Derived.Test.YtbhlnbllkoomfaaRows
set_option linter.unusedVariables false
namespace Go.Proofs.Ytbhlnbllkoomfaa
open Go Go.ChangeShapes Go.WideShapes Go.ChangeAt Go.RowKit

set_option maxRecDepth 100000
theorem gridLagrange_c0 : (Rows.gridLagrangeRow.wf (OpenSpec.ofChange Rows.gridLagrangeSpec)) = true := by kernel_rfl
theorem gridLagrange_c1 : (laidOutB Try.pinned.checked.prog) = true := by kernel_rfl
theorem gridLagrange_c2 : (mapsRowed Try.pinned.checked.prog) = true := by kernel_rfl
theorem gridLagrange_c3 : (Try.f8.params.all (Try.pinned.checked.prog.readableRec ·)) = true := by kernel_rfl
theorem gridLagrange_c4 : (namedTie Try.pinned.checked.prog Rows.gridLagrangeRow.named Rows.gridLagrangeSpec.vars) = true := by kernel_rfl
theorem gridLagrange_c5 : ((Rows.gridLagrangeRow.stops == [])) = true := by kernel_rfl
theorem gridLagrange_c6 : ((Try.pinned.checked.prog.stops == [])) = true := by kernel_rfl
theorem gridLagrange_c7 : ((Rows.gridLagrangeRow.knobs == [])) = true := by kernel_rfl
theorem gridLagrange_c8 : ((Try.pinned.checked.prog.stopKnobs == [])) = true := by kernel_rfl
theorem gridLagrange_c9 : ((Rows.gridLagrangeRow.inPlace == Try.pinned.checked.prog.inPlace 8)) = true := by kernel_rfl
theorem gridLagrange_c10 : ((Rows.gridLagrangeRow.unfollowed == Try.pinned.checked.prog.unfollowed 8)) = true := by kernel_rfl
theorem gridLagrange_c11 : ((Rows.gridLagrangeRow.recurses == Try.pinned.checked.prog.recurses 8)) = true := by kernel_rfl
theorem gridLagrange_c12 : ((Rows.gridLagrangeRow.named == Try.pinned.checked.prog.varsNamed 8)) = true := by kernel_rfl
theorem gridLagrange_c13 : ((Rows.gridLagrangeRow.maps == (Try.f8.params.toList ++ Rows.gridLagrangeSpec.plain.varTypes Try.pinned.checked.prog).any (Try.pinned.checked.prog.mapsRec ·))) = true := by kernel_rfl
theorem gridLagrange_c14 : ((Rows.gridLagrangeRow.ifaces == (Try.f8.params.toList ++ Rows.gridLagrangeSpec.plain.varTypes Try.pinned.checked.prog).any (Try.pinned.checked.prog.ifacesRec ·))) = true := by kernel_rfl
theorem gridLagrange_c15 : ((Rows.gridLagrangeRow.mapsOut == Try.pinned.checked.prog.mapsAmong Try.f8.resultTypes.toList)) = true := by kernel_rfl
theorem gridLagrange_c16 : ((Rows.gridLagrangeRow.loops == (Try.f8.params.toList ++ Rows.gridLagrangeSpec.plain.varTypes Try.pinned.checked.prog).any (Try.pinned.checked.prog.loopsFrom ·))) = true := by kernel_rfl
theorem gridLagrange_c17 : ((Rows.gridLagrangeRow.wideKeys == (Try.f8.params.toList ++ Rows.gridLagrangeSpec.plain.varTypes Try.pinned.checked.prog ++ Try.f8.resultTypes.toList).any (Try.pinned.checked.prog.wideKeysFrom ·))) = true := by kernel_rfl
theorem gridLagrange_c18 : (Rows.gridLagrangeSpec.vars.all (Try.pinned.checked.prog.varReadable ·)) = true := by kernel_rfl
theorem gridLagrange_c19 : (Try.f8.resultTypes.all (fun t => Try.pinned.checked.prog.readableRec t && decide (t < Try.pinned.checked.prog.types.size))) = true := by kernel_rfl
theorem gridLagrange_c20 : ((Rows.gridLagrangeRow.ifacesOut == Try.f8.resultTypes.toList.any (Try.pinned.checked.prog.ifacesRec ·))) = true := by kernel_rfl
theorem gridLagrange_c21 : ((Rows.gridLagrangeRow.loopsOut == Try.f8.resultTypes.toList.any (Try.pinned.checked.prog.loopsFrom ·))) = true := by kernel_rfl
theorem gridLagrange_c22 : ((Rows.gridLagrangeRow.plainKeys == Try.pinned.checked.prog.plainKeys)) = true := by kernel_rfl
theorem gridLagrange_c23 : (Rows.gridLagrangeRow.shortTexts.isNone) = true := by kernel_rfl
theorem gridLagrange_c24 : (Try.pinned.checked.prog.stopsHeard) = true := by kernel_rfl
theorem gridLagrange_c25 : (Try.pinned.checked.prog.mayEnter) = true := by kernel_rfl
theorem gridLagrange_c26 : ((Rows.gridLagrangeRow.lifted == Try.pinned.checked.prog.liftsFinal)) = true := by kernel_rfl
theorem gridLagrange_c27 : ((Try.pinned.checked.prog.make == some Rows.gridLagrangeRow.make)) = true := by kernel_rfl
theorem gridLagrange_c28 : ((Rows.gridLagrangeRow.kinds == (if Rows.gridLagrangeRow.domain.isEmpty then [] else Try.f8.params.toList.map fun t => match Try.pinned.checked.prog.underlying t with | some (.int k) => some k | _ => none))) = true := by kernel_rfl
theorem gridLagrange_c29 : ((Rows.gridLagrangeRow.pinned == Rows.gridLagrangeRow.pinnedBy)) = true := by kernel_rfl
theorem gridLagrange_c30 : ((Rows.gridLagrangeRow.veiled == (Try.f8.params.toList ++ Rows.gridLagrangeSpec.plain.varTypes Try.pinned.checked.prog ++ Try.f8.resultTypes.toList).any (Try.pinned.checked.prog.veiledRec ·))) = true := by kernel_rfl
theorem gridLagrange_c31 : (Rows.gridLagrangeRow.veiledFits Try.pinned.checked.prog Try.f8.params.toList (Try.f8.params.toList ++ Rows.gridLagrangeSpec.plain.varTypes Try.pinned.checked.prog ++ Try.f8.resultTypes.toList)) = true := by kernel_rfl
theorem gridLagrange_closed : joinedFacts Try.pinned.checked.prog 8 Try.f8 Rows.gridLagrangeSpec Rows.gridLagrangeRow = true := by
  unfold joinedFacts
  simp only [Bool.and_eq_true]
  exact ⟨⟨⟨⟨⟨⟨⟨⟨⟨⟨⟨⟨⟨⟨⟨⟨⟨⟨⟨⟨⟨⟨⟨⟨⟨⟨⟨⟨⟨⟨⟨gridLagrange_c0, gridLagrange_c1⟩, gridLagrange_c2⟩, gridLagrange_c3⟩, gridLagrange_c4⟩, gridLagrange_c5⟩, gridLagrange_c6⟩, gridLagrange_c7⟩, gridLagrange_c8⟩, gridLagrange_c9⟩, gridLagrange_c10⟩, gridLagrange_c11⟩, gridLagrange_c12⟩, gridLagrange_c13⟩, gridLagrange_c14⟩, gridLagrange_c15⟩, gridLagrange_c16⟩, gridLagrange_c17⟩, gridLagrange_c18⟩, gridLagrange_c19⟩, gridLagrange_c20⟩, gridLagrange_c21⟩, gridLagrange_c22⟩, gridLagrange_c23⟩, gridLagrange_c24⟩, gridLagrange_c25⟩, gridLagrange_c26⟩, gridLagrange_c27⟩, gridLagrange_c28⟩, gridLagrange_c29⟩, gridLagrange_c30⟩, gridLagrange_c31⟩
theorem gridLagrange_lifted (os : Os) (started : os.Started) (H : Type) (enc : TypeId × Value → H) :
    ReturnsInHanded {} Try.checked os 8 .any (Rows.gridLagrangeSpec.pre6 enc Try.prog Try.f8 Rows.gridLagrangeRow.domain false) (Rows.gridLagrangeSpec.post enc Try.prog Try.f8 false true false false) := by
  refine returnsInHanded_of_change (C := Try.checked) own started (by kernel_rfl) Try.func8
    (ChangeSpec.witness6 (enc := enc) (C := Try.checked) false ⟨#[], #[.agg #[.int .i64 0, .int .i64 0, .int .i64 0], .agg #[.int .i64 0, .int .i64 0, .int .i64 0]], []⟩ 8 (by kernel_rfl) (by kernel_rfl) (by kernel_rfl) (by kernel_rfl)) ?_
  intro W base args ds gs before hval0 hW hcnd _
  have hval : ∀ (j : Nat) t v, Try.f8.params[j]? = some t → args[j]? = some v → Value.okWide Try.prog W .any base t v := hval0
  have hW' := hW
  obtain ⟨p, q, hA0, hV, rfl, hfz, hnd⟩ := hW
  have hA : DataW.TrodAll enc Try.prog W 0 (fun _ => true) true Try.f8.params.toList args.toList ds p := hA0
  rw [Try.params8] at hA hval
  obtain ⟨v0, vs0, d0, ds0, p0, q0, hargs, rfl, rfl, h0, r0⟩ := trodAll_cons hA
  obtain ⟨v1, vs1, d1, ds1, p1, q1, rfl, rfl, rfl, h1, r1⟩ := trodAll_cons r0
  obtain ⟨rfl, rfl, rfl⟩ := trodAll_nil r1
  obtain rfl : args = #[v0, v1] := by cases args; simp_all
  obtain ⟨rfl, rfl⟩ := trodVars_none hV
  have k0 := h0
  have k1 := h1
  have lt0 : ∀ x ∈ p0, x.block < W.heap.size := by obtain ⟨m, hm⟩ := k0; exact DataW.trod_lt m _ _ _ hm
  have lt1 : ∀ x ∈ p1, x.block < W.heap.size := by obtain ⟨m, hm⟩ := k1; exact DataW.trod_lt m _ _ _ hm
  obtain ⟨a0, rfl, ha0⟩ := open_point (hval 0 29 v0 rfl rfl) h0
  obtain ⟨a1, rfl, ha1⟩ := open_point (hval 1 29 v1 rfl rfl) h1
  clear hA0 hval0
  refine (lagrange_law a0 ha0 a1 ha1 W).mono fun e W' ⟨he, hk⟩ => ?_
  subst he
  have bel := hk.below
  exact ⟨_, rfl, _, _, _, [], _, [], hW', trodAll_mk1 (shut_bool Try.underlying4 _), (trodAll_cons_mk (Below.trod laidOut (by kernel_rfl) (of_decide_eq_true (by kernel_rfl)) k0 bel lt0) (trodAll_cons_mk (Below.trod laidOut (by kernel_rfl) (of_decide_eq_true (by kernel_rfl)) k1 bel lt1) trodAll_mk0)), rfl, bel.frame _, fun h => by cases h⟩
theorem gridLagrange_named : Try.pinned.checked.prog.funcNamed Rows.gridLagrangeRow.func = some 8 := by kernel_rfl
theorem gridLagrange_inst : (Try.f8).isInstance Try.pinned.checked.prog Rows.gridLagrangeRow.origin Rows.gridLagrangeRow.targs := of_decide_eq_true (by kernel_rfl)
theorem gridLagrange_wrap : (Try.f8).isWrapper Try.pinned.checked.prog Rows.gridLagrangeRow.wrapper Rows.gridLagrangeRow.mainSum := by unfold Func.isWrapper; rw [if_neg (of_decide_eq_false (by kernel_rfl))]; exact ⟨rfl, rfl⟩
theorem gridLagrange_over : Rows.gridLagrangeRow.holds Try.pinned (OpenSpec.ofChange Rows.gridLagrangeSpec) :=
  OpenClaim.holds_of_wide 8 Try.f8 rfl rfl rfl rfl rfl rfl rfl ⟨rfl, rfl, rfl, rfl, rfl⟩ rfl rfl rfl rfl rfl gridLagrange_named Try.func8 gridLagrange_closed
    gridLagrange_inst gridLagrange_wrap
    (fun os started H enc _ => gridLagrange_lifted os started H enc)
/-- The statement. -/
theorem gridLagrange_proved : Rows.GridLagrangeSaid := gridLagrange_over
end Go.Proofs.Ytbhlnbllkoomfaa
