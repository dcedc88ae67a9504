/-
  Rows.GridLessSaid: differences of points, and their order, are the document's.
-/
import Derived.Test.YtbhlnbllkoomfaaFd
import Derived.Test.YtbhlnbllkoomfaaLc
import Derived.Test.YtbhlnbllkoomfaaRows
set_option linter.unusedVariables false
namespace Go.Proofs.Ytbhlnbllkoomfaa
open Go Go.ChangeShapes Go.WideShapes Go.ChangeAt Go.RowKit

set_option maxRecDepth 100000
theorem gridLess_c0 : (Rows.gridLessRow.wf (OpenSpec.ofChange Rows.gridLessSpec)) = true := by kernel_rfl
theorem gridLess_c1 : (laidOutB Try.pinned.checked.prog) = true := by kernel_rfl
theorem gridLess_c2 : (mapsRowed Try.pinned.checked.prog) = true := by kernel_rfl
theorem gridLess_c3 : (Try.f10.params.all (Try.pinned.checked.prog.readableRec ·)) = true := by kernel_rfl
theorem gridLess_c4 : (namedTie Try.pinned.checked.prog Rows.gridLessRow.named Rows.gridLessSpec.vars) = true := by kernel_rfl
theorem gridLess_c5 : ((Rows.gridLessRow.stops == [])) = true := by kernel_rfl
theorem gridLess_c6 : ((Try.pinned.checked.prog.stops == [])) = true := by kernel_rfl
theorem gridLess_c7 : ((Rows.gridLessRow.knobs == [])) = true := by kernel_rfl
theorem gridLess_c8 : ((Try.pinned.checked.prog.stopKnobs == [])) = true := by kernel_rfl
theorem gridLess_c9 : ((Rows.gridLessRow.inPlace == Try.pinned.checked.prog.inPlace 10)) = true := by kernel_rfl
theorem gridLess_c10 : ((Rows.gridLessRow.unfollowed == Try.pinned.checked.prog.unfollowed 10)) = true := by kernel_rfl
theorem gridLess_c11 : ((Rows.gridLessRow.recurses == Try.pinned.checked.prog.recurses 10)) = true := by kernel_rfl
theorem gridLess_c12 : ((Rows.gridLessRow.named == Try.pinned.checked.prog.varsNamed 10)) = true := by kernel_rfl
theorem gridLess_c13 : ((Rows.gridLessRow.maps == (Try.f10.params.toList ++ Rows.gridLessSpec.plain.varTypes Try.pinned.checked.prog).any (Try.pinned.checked.prog.mapsRec ·))) = true := by kernel_rfl
theorem gridLess_c14 : ((Rows.gridLessRow.ifaces == (Try.f10.params.toList ++ Rows.gridLessSpec.plain.varTypes Try.pinned.checked.prog).any (Try.pinned.checked.prog.ifacesRec ·))) = true := by kernel_rfl
theorem gridLess_c15 : ((Rows.gridLessRow.mapsOut == Try.pinned.checked.prog.mapsAmong Try.f10.resultTypes.toList)) = true := by kernel_rfl
theorem gridLess_c16 : ((Rows.gridLessRow.loops == (Try.f10.params.toList ++ Rows.gridLessSpec.plain.varTypes Try.pinned.checked.prog).any (Try.pinned.checked.prog.loopsFrom ·))) = true := by kernel_rfl
theorem gridLess_c17 : ((Rows.gridLessRow.wideKeys == (Try.f10.params.toList ++ Rows.gridLessSpec.plain.varTypes Try.pinned.checked.prog ++ Try.f10.resultTypes.toList).any (Try.pinned.checked.prog.wideKeysFrom ·))) = true := by kernel_rfl
theorem gridLess_c18 : (Rows.gridLessSpec.vars.all (Try.pinned.checked.prog.varReadable ·)) = true := by kernel_rfl
theorem gridLess_c19 : (Try.f10.resultTypes.all (fun t => Try.pinned.checked.prog.readableRec t && decide (t < Try.pinned.checked.prog.types.size))) = true := by kernel_rfl
theorem gridLess_c20 : ((Rows.gridLessRow.ifacesOut == Try.f10.resultTypes.toList.any (Try.pinned.checked.prog.ifacesRec ·))) = true := by kernel_rfl
theorem gridLess_c21 : ((Rows.gridLessRow.loopsOut == Try.f10.resultTypes.toList.any (Try.pinned.checked.prog.loopsFrom ·))) = true := by kernel_rfl
theorem gridLess_c22 : ((Rows.gridLessRow.plainKeys == Try.pinned.checked.prog.plainKeys)) = true := by kernel_rfl
theorem gridLess_c23 : (Rows.gridLessRow.shortTexts.isNone) = true := by kernel_rfl
theorem gridLess_c24 : (Try.pinned.checked.prog.stopsHeard) = true := by kernel_rfl
theorem gridLess_c25 : (Try.pinned.checked.prog.mayEnter) = true := by kernel_rfl
theorem gridLess_c26 : ((Rows.gridLessRow.lifted == Try.pinned.checked.prog.liftsFinal)) = true := by kernel_rfl
theorem gridLess_c27 : ((Try.pinned.checked.prog.make == some Rows.gridLessRow.make)) = true := by kernel_rfl
theorem gridLess_c28 : ((Rows.gridLessRow.kinds == (if Rows.gridLessRow.domain.isEmpty then [] else Try.f10.params.toList.map fun t => match Try.pinned.checked.prog.underlying t with | some (.int k) => some k | _ => none))) = true := by kernel_rfl
theorem gridLess_c29 : ((Rows.gridLessRow.pinned == Rows.gridLessRow.pinnedBy)) = true := by kernel_rfl
theorem gridLess_c30 : ((Rows.gridLessRow.veiled == (Try.f10.params.toList ++ Rows.gridLessSpec.plain.varTypes Try.pinned.checked.prog ++ Try.f10.resultTypes.toList).any (Try.pinned.checked.prog.veiledRec ·))) = true := by kernel_rfl
theorem gridLess_c31 : (Rows.gridLessRow.veiledFits Try.pinned.checked.prog Try.f10.params.toList (Try.f10.params.toList ++ Rows.gridLessSpec.plain.varTypes Try.pinned.checked.prog ++ Try.f10.resultTypes.toList)) = true := by kernel_rfl
theorem gridLess_closed : joinedFacts Try.pinned.checked.prog 10 Try.f10 Rows.gridLessSpec Rows.gridLessRow = true := by
  unfold joinedFacts
  simp only [Bool.and_eq_true]
  exact ⟨⟨⟨⟨⟨⟨⟨⟨⟨⟨⟨⟨⟨⟨⟨⟨⟨⟨⟨⟨⟨⟨⟨⟨⟨⟨⟨⟨⟨⟨⟨gridLess_c0, gridLess_c1⟩, gridLess_c2⟩, gridLess_c3⟩, gridLess_c4⟩, gridLess_c5⟩, gridLess_c6⟩, gridLess_c7⟩, gridLess_c8⟩, gridLess_c9⟩, gridLess_c10⟩, gridLess_c11⟩, gridLess_c12⟩, gridLess_c13⟩, gridLess_c14⟩, gridLess_c15⟩, gridLess_c16⟩, gridLess_c17⟩, gridLess_c18⟩, gridLess_c19⟩, gridLess_c20⟩, gridLess_c21⟩, gridLess_c22⟩, gridLess_c23⟩, gridLess_c24⟩, gridLess_c25⟩, gridLess_c26⟩, gridLess_c27⟩, gridLess_c28⟩, gridLess_c29⟩, gridLess_c30⟩, gridLess_c31⟩
theorem gridLess_lifted (os : Os) (started : os.Started) (H : Type) (enc : TypeId × Value → H) :
    ReturnsInHanded {} Try.checked os 10 .any (Rows.gridLessSpec.pre6 enc Try.prog Try.f10 Rows.gridLessRow.domain false) (Rows.gridLessSpec.post enc Try.prog Try.f10 false true false false) := by
  refine returnsInHanded_of_change (C := Try.checked) own started (by kernel_rfl) Try.func10
    (ChangeSpec.witness6 (enc := enc) (C := Try.checked) false ⟨#[], #[.agg #[.int .i64 0, .int .i64 0, .int .i64 0], .agg #[.int .i64 0, .int .i64 0, .int .i64 0]], []⟩ 8 (by kernel_rfl) (by kernel_rfl) (by kernel_rfl) (by kernel_rfl)) ?_
  intro W base args ds gs before hval0 hW hcnd _
  have hval : ∀ (j : Nat) t v, Try.f10.params[j]? = some t → args[j]? = some v → Value.okWide Try.prog W .any base t v := hval0
  have hW' := hW
  obtain ⟨p, q, hA0, hV, rfl, hfz, hnd⟩ := hW
  have hA : DataW.TrodAll enc Try.prog W 0 (fun _ => true) true Try.f10.params.toList args.toList ds p := hA0
  rw [Try.params10] at hA hval
  obtain ⟨v0, vs0, d0, ds0, p0, q0, hargs, rfl, rfl, h0, r0⟩ := trodAll_cons hA
  obtain ⟨v1, vs1, d1, ds1, p1, q1, rfl, rfl, rfl, h1, r1⟩ := trodAll_cons r0
  obtain ⟨rfl, rfl, rfl⟩ := trodAll_nil r1
  obtain rfl : args = #[v0, v1] := by cases args; simp_all
  obtain ⟨rfl, rfl⟩ := trodVars_none hV
  have k0 := h0
  have k1 := h1
  have lt0 : ∀ x ∈ p0, x.block < W.heap.size := by obtain ⟨m, hm⟩ := k0; exact DataW.trod_lt m _ _ _ hm
  have lt1 : ∀ x ∈ p1, x.block < W.heap.size := by obtain ⟨m, hm⟩ := k1; exact DataW.trod_lt m _ _ _ hm
  obtain ⟨a0, rfl, ha0⟩ := open_point (hval 0 29 v0 rfl rfl) h0
  obtain ⟨a1, rfl, ha1⟩ := open_point (hval 1 29 v1 rfl rfl) h1
  clear hA0 hval0
  refine (less_law a0 ha0 a1 ha1 W).mono fun e W' ⟨he, hk⟩ => ?_
  subst he
  have bel := hk.below
  exact ⟨_, rfl, _, _, _, [], _, [], hW', trodAll_mk1 (shut_bool Try.underlying4 _), (trodAll_cons_mk (Below.trod laidOut (by kernel_rfl) (of_decide_eq_true (by kernel_rfl)) k0 bel lt0) (trodAll_cons_mk (Below.trod laidOut (by kernel_rfl) (of_decide_eq_true (by kernel_rfl)) k1 bel lt1) trodAll_mk0)), rfl, bel.frame _, fun h => by cases h⟩
theorem gridLess_named : Try.pinned.checked.prog.funcNamed Rows.gridLessRow.func = some 10 := by kernel_rfl
theorem gridLess_inst : (Try.f10).isInstance Try.pinned.checked.prog Rows.gridLessRow.origin Rows.gridLessRow.targs := of_decide_eq_true (by kernel_rfl)
theorem gridLess_wrap : (Try.f10).isWrapper Try.pinned.checked.prog Rows.gridLessRow.wrapper Rows.gridLessRow.mainSum := by unfold Func.isWrapper; rw [if_neg (of_decide_eq_false (by kernel_rfl))]; exact ⟨rfl, rfl⟩
theorem gridLess_over : Rows.gridLessRow.holds Try.pinned (OpenSpec.ofChange Rows.gridLessSpec) :=
  OpenClaim.holds_of_wide 10 Try.f10 rfl rfl rfl rfl rfl rfl rfl ⟨rfl, rfl, rfl, rfl, rfl⟩ rfl rfl rfl rfl rfl gridLess_named Try.func10 gridLess_closed
    gridLess_inst gridLess_wrap
    (fun os started H enc _ => gridLess_lifted os started H enc)
/-- The statement. -/
theorem gridLess_proved : Rows.GridLessSaid := gridLess_over
end Go.Proofs.Ytbhlnbllkoomfaa
