/-
  Rows.GridAlongSaid: how far a point is along any span is the document's, or does not fit.
-/
import Derived.Test.YtbhlnbllkoomfaaFi
import Derived.Test.YtbhlnbllkoomfaaLk
import Derived.Test.YtbhlnbllkoomfaaRows
set_option linter.unusedVariables false
namespace Go.Proofs.Ytbhlnbllkoomfaa
open Go Go.ChangeShapes Go.WideShapes Go.ChangeAt Go.RowKit

set_option maxRecDepth 100000
theorem gridAlong_c0 : (Rows.gridAlongRow.wf (OpenSpec.ofChange Rows.gridAlongSpec)) = true := by kernel_rfl
theorem gridAlong_c1 : (laidOutB Try.pinned.checked.prog) = true := by kernel_rfl
theorem gridAlong_c2 : (mapsRowed Try.pinned.checked.prog) = true := by kernel_rfl
theorem gridAlong_c3 : (Try.f3.params.all (Try.pinned.checked.prog.readableRec ·)) = true := by kernel_rfl
theorem gridAlong_c4 : (namedTie Try.pinned.checked.prog Rows.gridAlongRow.named Rows.gridAlongSpec.vars) = true := by kernel_rfl
theorem gridAlong_c5 : ((Rows.gridAlongRow.stops == [])) = true := by kernel_rfl
theorem gridAlong_c6 : ((Try.pinned.checked.prog.stops == [])) = true := by kernel_rfl
theorem gridAlong_c7 : ((Rows.gridAlongRow.knobs == [])) = true := by kernel_rfl
theorem gridAlong_c8 : ((Try.pinned.checked.prog.stopKnobs == [])) = true := by kernel_rfl
theorem gridAlong_c9 : ((Rows.gridAlongRow.inPlace == Try.pinned.checked.prog.inPlace 3)) = true := by kernel_rfl
theorem gridAlong_c10 : ((Rows.gridAlongRow.unfollowed == Try.pinned.checked.prog.unfollowed 3)) = true := by kernel_rfl
theorem gridAlong_c11 : ((Rows.gridAlongRow.recurses == Try.pinned.checked.prog.recurses 3)) = true := by kernel_rfl
theorem gridAlong_c12 : ((Rows.gridAlongRow.named == Try.pinned.checked.prog.varsNamed 3)) = true := by kernel_rfl
theorem gridAlong_c13 : ((Rows.gridAlongRow.maps == (Try.f3.params.toList ++ Rows.gridAlongSpec.plain.varTypes Try.pinned.checked.prog).any (Try.pinned.checked.prog.mapsRec ·))) = true := by kernel_rfl
theorem gridAlong_c14 : ((Rows.gridAlongRow.ifaces == (Try.f3.params.toList ++ Rows.gridAlongSpec.plain.varTypes Try.pinned.checked.prog).any (Try.pinned.checked.prog.ifacesRec ·))) = true := by kernel_rfl
theorem gridAlong_c15 : ((Rows.gridAlongRow.mapsOut == Try.pinned.checked.prog.mapsAmong Try.f3.resultTypes.toList)) = true := by kernel_rfl
theorem gridAlong_c16 : ((Rows.gridAlongRow.loops == (Try.f3.params.toList ++ Rows.gridAlongSpec.plain.varTypes Try.pinned.checked.prog).any (Try.pinned.checked.prog.loopsFrom ·))) = true := by kernel_rfl
theorem gridAlong_c17 : ((Rows.gridAlongRow.wideKeys == (Try.f3.params.toList ++ Rows.gridAlongSpec.plain.varTypes Try.pinned.checked.prog ++ Try.f3.resultTypes.toList).any (Try.pinned.checked.prog.wideKeysFrom ·))) = true := by kernel_rfl
theorem gridAlong_c18 : (Rows.gridAlongSpec.vars.all (Try.pinned.checked.prog.varReadable ·)) = true := by kernel_rfl
theorem gridAlong_c19 : (Try.f3.resultTypes.all (fun t => Try.pinned.checked.prog.readableRec t && decide (t < Try.pinned.checked.prog.types.size))) = true := by kernel_rfl
theorem gridAlong_c20 : ((Rows.gridAlongRow.ifacesOut == Try.f3.resultTypes.toList.any (Try.pinned.checked.prog.ifacesRec ·))) = true := by kernel_rfl
theorem gridAlong_c21 : ((Rows.gridAlongRow.loopsOut == Try.f3.resultTypes.toList.any (Try.pinned.checked.prog.loopsFrom ·))) = true := by kernel_rfl
theorem gridAlong_c22 : ((Rows.gridAlongRow.plainKeys == Try.pinned.checked.prog.plainKeys)) = true := by kernel_rfl
theorem gridAlong_c23 : (Rows.gridAlongRow.shortTexts.isNone) = true := by kernel_rfl
theorem gridAlong_c24 : (Try.pinned.checked.prog.stopsHeard) = true := by kernel_rfl
theorem gridAlong_c25 : (Try.pinned.checked.prog.mayEnter) = true := by kernel_rfl
theorem gridAlong_c26 : ((Rows.gridAlongRow.lifted == Try.pinned.checked.prog.liftsFinal)) = true := by kernel_rfl
theorem gridAlong_c27 : ((Try.pinned.checked.prog.make == some Rows.gridAlongRow.make)) = true := by kernel_rfl
theorem gridAlong_c28 : ((Rows.gridAlongRow.kinds == (if Rows.gridAlongRow.domain.isEmpty then [] else Try.f3.params.toList.map fun t => match Try.pinned.checked.prog.underlying t with | some (.int k) => some k | _ => none))) = true := by kernel_rfl
theorem gridAlong_c29 : ((Rows.gridAlongRow.pinned == Rows.gridAlongRow.pinnedBy)) = true := by kernel_rfl
theorem gridAlong_c30 : ((Rows.gridAlongRow.veiled == (Try.f3.params.toList ++ Rows.gridAlongSpec.plain.varTypes Try.pinned.checked.prog ++ Try.f3.resultTypes.toList).any (Try.pinned.checked.prog.veiledRec ·))) = true := by kernel_rfl
theorem gridAlong_c31 : (Rows.gridAlongRow.veiledFits Try.pinned.checked.prog Try.f3.params.toList (Try.f3.params.toList ++ Rows.gridAlongSpec.plain.varTypes Try.pinned.checked.prog ++ Try.f3.resultTypes.toList)) = true := by kernel_rfl
theorem gridAlong_closed : joinedFacts Try.pinned.checked.prog 3 Try.f3 Rows.gridAlongSpec Rows.gridAlongRow = true := by
  unfold joinedFacts
  simp only [Bool.and_eq_true]
  exact ⟨⟨⟨⟨⟨⟨⟨⟨⟨⟨⟨⟨⟨⟨⟨⟨⟨⟨⟨⟨⟨⟨⟨⟨⟨⟨⟨⟨⟨⟨⟨gridAlong_c0, gridAlong_c1⟩, gridAlong_c2⟩, gridAlong_c3⟩, gridAlong_c4⟩, gridAlong_c5⟩, gridAlong_c6⟩, gridAlong_c7⟩, gridAlong_c8⟩, gridAlong_c9⟩, gridAlong_c10⟩, gridAlong_c11⟩, gridAlong_c12⟩, gridAlong_c13⟩, gridAlong_c14⟩, gridAlong_c15⟩, gridAlong_c16⟩, gridAlong_c17⟩, gridAlong_c18⟩, gridAlong_c19⟩, gridAlong_c20⟩, gridAlong_c21⟩, gridAlong_c22⟩, gridAlong_c23⟩, gridAlong_c24⟩, gridAlong_c25⟩, gridAlong_c26⟩, gridAlong_c27⟩, gridAlong_c28⟩, gridAlong_c29⟩, gridAlong_c30⟩, gridAlong_c31⟩
theorem gridAlong_lifted (os : Os) (started : os.Started) (H : Type) (enc : TypeId × Value → H) :
    ReturnsInHanded {} Try.checked os 3 .any (Rows.gridAlongSpec.pre6 enc Try.prog Try.f3 Rows.gridAlongRow.domain false) (Rows.gridAlongSpec.post enc Try.prog Try.f3 false true false false) := by
  refine returnsInHanded_of_change (C := Try.checked) own started (by kernel_rfl) Try.func3
    (ChangeSpec.witness6 (enc := enc) (C := Try.checked) false ⟨#[], #[.agg #[.int .u64 0, .int .u64 0, .int .u64 0, .int .u64 0, .int .u64 0, .int .u64 0, .int .u64 0, .int .u64 0, .int .u64 0, .int .u64 0, .int .u64 0, .int .u64 0, .int .u64 0, .int .u64 0, .int .u64 0, .int .u64 0, .int .u64 0, .int .u64 0, .int .u64 0, .int .u64 0, .int .u64 0, .int .u64 0, .int .u64 0, .int .u64 0], .agg #[.int .i64 0, .int .i64 0, .int .i64 0]], []⟩ 8 (by kernel_rfl) (by kernel_rfl) (by kernel_rfl) (by kernel_rfl)) ?_
  intro W base args ds gs before hval0 hW hcnd _
  have hval : ∀ (j : Nat) t v, Try.f3.params[j]? = some t → args[j]? = some v → Value.okWide Try.prog W .any base t v := hval0
  have hW' := hW
  obtain ⟨p, q, hA0, hV, rfl, hfz, hnd⟩ := hW
  have hA : DataW.TrodAll enc Try.prog W 0 (fun _ => true) true Try.f3.params.toList args.toList ds p := hA0
  rw [Try.params3] at hA hval
  obtain ⟨v0, vs0, d0, ds0, p0, q0, hargs, rfl, rfl, h0, r0⟩ := trodAll_cons hA
  obtain ⟨v1, vs1, d1, ds1, p1, q1, rfl, rfl, rfl, h1, r1⟩ := trodAll_cons r0
  obtain ⟨rfl, rfl, rfl⟩ := trodAll_nil r1
  obtain rfl : args = #[v0, v1] := by cases args; simp_all
  obtain ⟨rfl, rfl⟩ := trodVars_none hV
  have k0 := h0
  have k1 := h1
  have lt0 : ∀ x ∈ p0, x.block < W.heap.size := by obtain ⟨m, hm⟩ := k0; exact DataW.trod_lt m _ _ _ hm
  have lt1 : ∀ x ∈ p1, x.block < W.heap.size := by obtain ⟨m, hm⟩ := k1; exact DataW.trod_lt m _ _ _ hm
  obtain ⟨a0, rfl, ha0⟩ := open_span (hval 0 27 v0 rfl rfl) h0
  obtain ⟨a1, rfl, ha1⟩ := open_point (hval 1 29 v1 rfl rfl) h1
  clear hA0 hval0
  refine (along_law a0 ha0 a1 ha1 W).mono fun e W' ⟨he, hk⟩ => ?_
  subst he
  have bel := hk.below
  exact ⟨_, rfl, _, _, _, [], _, [], hW', trodAll_mk1 (shut_bool Try.underlying4 _), (trodAll_cons_mk (Below.trod laidOut (by kernel_rfl) (of_decide_eq_true (by kernel_rfl)) k0 bel lt0) (trodAll_cons_mk (Below.trod laidOut (by kernel_rfl) (of_decide_eq_true (by kernel_rfl)) k1 bel lt1) trodAll_mk0)), rfl, bel.frame _, fun h => by cases h⟩
theorem gridAlong_named : Try.pinned.checked.prog.funcNamed Rows.gridAlongRow.func = some 3 := by kernel_rfl
theorem gridAlong_inst : (Try.f3).isInstance Try.pinned.checked.prog Rows.gridAlongRow.origin Rows.gridAlongRow.targs := of_decide_eq_true (by kernel_rfl)
theorem gridAlong_wrap : (Try.f3).isWrapper Try.pinned.checked.prog Rows.gridAlongRow.wrapper Rows.gridAlongRow.mainSum := by unfold Func.isWrapper; rw [if_neg (of_decide_eq_false (by kernel_rfl))]; exact ⟨rfl, rfl⟩
theorem gridAlong_over : Rows.gridAlongRow.holds Try.pinned (OpenSpec.ofChange Rows.gridAlongSpec) :=
  OpenClaim.holds_of_wide 3 Try.f3 rfl rfl rfl rfl rfl rfl rfl ⟨rfl, rfl, rfl, rfl, rfl⟩ rfl rfl rfl rfl rfl gridAlong_named Try.func3 gridAlong_closed
    gridAlong_inst gridAlong_wrap
    (fun os started H enc _ => gridAlong_lifted os started H enc)
/-- The statement. -/
theorem gridAlong_proved : Rows.GridAlongSaid := gridAlong_over
end Go.Proofs.Ytbhlnbllkoomfaa
