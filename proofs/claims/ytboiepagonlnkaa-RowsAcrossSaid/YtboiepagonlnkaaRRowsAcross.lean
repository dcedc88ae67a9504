/-
  Rows.RowsAcrossSaid: a unit has a frame, whose directions are nearly as long as 1, and nearly across one another.
-/
import Derived.Test.YtboiepagonlnkaaLo
import Derived.Test.YtboiepagonlnkaaYk
import Derived.Test.YtboiepagonlnkaaRows
set_option linter.unusedVariables false
namespace Go.Proofs.Ytboiepagonlnkaa
open Go Go.ChangeShapes Go.WideShapes Go.ChangeAt Go.RowKit

set_option maxRecDepth 100000
theorem rowsAcross_c0 : (Rows.rowsAcrossRow.wf (OpenSpec.ofChange Rows.rowsAcrossSpec)) = true := by kernel_rfl
theorem rowsAcross_c1 : (laidOutB Try.pinned.checked.prog) = true := by kernel_rfl
theorem rowsAcross_c2 : (mapsRowed Try.pinned.checked.prog) = true := by kernel_rfl
theorem rowsAcross_c3 : (Try.f3.params.all (Try.pinned.checked.prog.readableRec ·)) = true := by kernel_rfl
theorem rowsAcross_c4 : (namedTie Try.pinned.checked.prog Rows.rowsAcrossRow.named Rows.rowsAcrossSpec.vars) = true := by kernel_rfl
theorem rowsAcross_c5 : ((Rows.rowsAcrossRow.stops == [])) = true := by kernel_rfl
theorem rowsAcross_c6 : ((Try.pinned.checked.prog.stops == [])) = true := by kernel_rfl
theorem rowsAcross_c7 : ((Rows.rowsAcrossRow.knobs == [])) = true := by kernel_rfl
theorem rowsAcross_c8 : ((Try.pinned.checked.prog.stopKnobs == [])) = true := by kernel_rfl
theorem rowsAcross_c9 : ((Rows.rowsAcrossRow.inPlace == Try.pinned.checked.prog.inPlace 3)) = true := by kernel_rfl
theorem rowsAcross_c10 : ((Rows.rowsAcrossRow.unfollowed == Try.pinned.checked.prog.unfollowed 3)) = true := by kernel_rfl
theorem rowsAcross_c11 : ((Rows.rowsAcrossRow.recurses == Try.pinned.checked.prog.recurses 3)) = true := by kernel_rfl
theorem rowsAcross_c12 : ((Rows.rowsAcrossRow.named == Try.pinned.checked.prog.varsNamed 3)) = true := by kernel_rfl
theorem rowsAcross_c13 : ((Rows.rowsAcrossRow.maps == (Try.f3.params.toList ++ Rows.rowsAcrossSpec.plain.varTypes Try.pinned.checked.prog).any (Try.pinned.checked.prog.mapsRec ·))) = true := by kernel_rfl
theorem rowsAcross_c14 : ((Rows.rowsAcrossRow.ifaces == (Try.f3.params.toList ++ Rows.rowsAcrossSpec.plain.varTypes Try.pinned.checked.prog).any (Try.pinned.checked.prog.ifacesRec ·))) = true := by kernel_rfl
theorem rowsAcross_c15 : ((Rows.rowsAcrossRow.mapsOut == Try.pinned.checked.prog.mapsAmong Try.f3.resultTypes.toList)) = true := by kernel_rfl
theorem rowsAcross_c16 : ((Rows.rowsAcrossRow.loops == (Try.f3.params.toList ++ Rows.rowsAcrossSpec.plain.varTypes Try.pinned.checked.prog).any (Try.pinned.checked.prog.loopsFrom ·))) = true := by kernel_rfl
theorem rowsAcross_c17 : ((Rows.rowsAcrossRow.wideKeys == (Try.f3.params.toList ++ Rows.rowsAcrossSpec.plain.varTypes Try.pinned.checked.prog ++ Try.f3.resultTypes.toList).any (Try.pinned.checked.prog.wideKeysFrom ·))) = true := by kernel_rfl
theorem rowsAcross_c18 : (Rows.rowsAcrossSpec.vars.all (Try.pinned.checked.prog.varReadable ·)) = true := by kernel_rfl
theorem rowsAcross_c19 : (Try.f3.resultTypes.all (fun t => Try.pinned.checked.prog.readableRec t && decide (t < Try.pinned.checked.prog.types.size))) = true := by kernel_rfl
theorem rowsAcross_c20 : ((Rows.rowsAcrossRow.ifacesOut == Try.f3.resultTypes.toList.any (Try.pinned.checked.prog.ifacesRec ·))) = true := by kernel_rfl
theorem rowsAcross_c21 : ((Rows.rowsAcrossRow.loopsOut == Try.f3.resultTypes.toList.any (Try.pinned.checked.prog.loopsFrom ·))) = true := by kernel_rfl
theorem rowsAcross_c22 : ((Rows.rowsAcrossRow.plainKeys == Try.pinned.checked.prog.plainKeys)) = true := by kernel_rfl
theorem rowsAcross_c23 : (Rows.rowsAcrossRow.shortTexts.isNone) = true := by kernel_rfl
theorem rowsAcross_c24 : (Try.pinned.checked.prog.stopsHeard) = true := by kernel_rfl
theorem rowsAcross_c25 : (Try.pinned.checked.prog.mayEnter) = true := by kernel_rfl
theorem rowsAcross_c26 : ((Rows.rowsAcrossRow.lifted == Try.pinned.checked.prog.liftsFinal)) = true := by kernel_rfl
theorem rowsAcross_c27 : ((Try.pinned.checked.prog.make == some Rows.rowsAcrossRow.make)) = true := by kernel_rfl
theorem rowsAcross_c28 : ((Rows.rowsAcrossRow.kinds == (if Rows.rowsAcrossRow.domain.isEmpty then [] else Try.f3.params.toList.map fun t => match Try.pinned.checked.prog.underlying t with | some (.int k) => some k | _ => none))) = true := by kernel_rfl
theorem rowsAcross_c29 : ((Rows.rowsAcrossRow.pinned == Rows.rowsAcrossRow.pinnedBy)) = true := by kernel_rfl
theorem rowsAcross_c30 : ((Rows.rowsAcrossRow.veiled == (Try.f3.params.toList ++ Rows.rowsAcrossSpec.plain.varTypes Try.pinned.checked.prog ++ Try.f3.resultTypes.toList).any (Try.pinned.checked.prog.veiledRec ·))) = true := by kernel_rfl
theorem rowsAcross_c31 : (Rows.rowsAcrossRow.veiledFits Try.pinned.checked.prog Try.f3.params.toList (Try.f3.params.toList ++ Rows.rowsAcrossSpec.plain.varTypes Try.pinned.checked.prog ++ Try.f3.resultTypes.toList)) = true := by kernel_rfl
theorem rowsAcross_closed : joinedFacts Try.pinned.checked.prog 3 Try.f3 Rows.rowsAcrossSpec Rows.rowsAcrossRow = true := by
  unfold joinedFacts
  simp only [Bool.and_eq_true]
  exact ⟨⟨⟨⟨⟨⟨⟨⟨⟨⟨⟨⟨⟨⟨⟨⟨⟨⟨⟨⟨⟨⟨⟨⟨⟨⟨⟨⟨⟨⟨⟨rowsAcross_c0, rowsAcross_c1⟩, rowsAcross_c2⟩, rowsAcross_c3⟩, rowsAcross_c4⟩, rowsAcross_c5⟩, rowsAcross_c6⟩, rowsAcross_c7⟩, rowsAcross_c8⟩, rowsAcross_c9⟩, rowsAcross_c10⟩, rowsAcross_c11⟩, rowsAcross_c12⟩, rowsAcross_c13⟩, rowsAcross_c14⟩, rowsAcross_c15⟩, rowsAcross_c16⟩, rowsAcross_c17⟩, rowsAcross_c18⟩, rowsAcross_c19⟩, rowsAcross_c20⟩, rowsAcross_c21⟩, rowsAcross_c22⟩, rowsAcross_c23⟩, rowsAcross_c24⟩, rowsAcross_c25⟩, rowsAcross_c26⟩, rowsAcross_c27⟩, rowsAcross_c28⟩, rowsAcross_c29⟩, rowsAcross_c30⟩, rowsAcross_c31⟩
theorem rowsAcross_lifted (os : Os) (started : os.Started) (H : Type) (enc : TypeId × Value → H) :
    ReturnsInHanded {} Try.checked os 3 .any (Rows.rowsAcrossSpec.pre6 enc Try.prog Try.f3 Rows.rowsAcrossRow.domain false) (Rows.rowsAcrossSpec.post enc Try.prog Try.f3 false true false false) := by
  refine returnsInHanded_of_change (C := Try.checked) own started (by kernel_rfl) Try.func3
    (ChangeSpec.witness6 (enc := enc) (C := Try.checked) false ⟨#[], #[.agg #[.int .i64 0, .int .i64 0, .int .i64 0]], []⟩ 8 (by kernel_rfl) (by kernel_rfl) (by kernel_rfl) (by kernel_rfl)) ?_
  intro W base args ds gs before hval0 hW hcnd _
  have hval : ∀ (j : Nat) t v, Try.f3.params[j]? = some t → args[j]? = some v → Value.okWide Try.prog W .any base t v := hval0
  have hW' := hW
  obtain ⟨p, q, hA0, hV, rfl, hfz, hnd⟩ := hW
  have hA : DataW.TrodAll enc Try.prog W 0 (fun _ => true) true Try.f3.params.toList args.toList ds p := hA0
  rw [Try.params3] at hA hval
  obtain ⟨v0, vs0, d0, ds0, p0, q0, hargs, rfl, rfl, h0, r0⟩ := trodAll_cons hA
  obtain ⟨rfl, rfl, rfl⟩ := trodAll_nil r0
  obtain rfl : args = #[v0] := by cases args; simp_all
  obtain ⟨rfl, rfl⟩ := trodVars_none hV
  have k0 := h0
  have lt0 : ∀ x ∈ p0, x.block < W.heap.size := by obtain ⟨m, hm⟩ := k0; exact DataW.trod_lt m _ _ _ hm
  obtain ⟨a0, rfl, ha0⟩ := open_vec (hval 0 24 v0 rfl rfl) h0
  clear hA0 hval0
  refine (across_law a0 ha0 W).mono fun e W' ⟨he, hk⟩ => ?_
  subst he
  have bel := hk.below
  exact ⟨_, rfl, _, _, _, [], _, [], hW', trodAll_mk1 (shut_bool Try.underlying4 _), (trodAll_cons_mk (Below.trod laidOut (by kernel_rfl) (of_decide_eq_true (by kernel_rfl)) k0 bel lt0) trodAll_mk0), rfl, bel.frame _, fun h => by cases h⟩
theorem rowsAcross_named : Try.pinned.checked.prog.funcNamed Rows.rowsAcrossRow.func = some 3 := by kernel_rfl
theorem rowsAcross_inst : (Try.f3).isInstance Try.pinned.checked.prog Rows.rowsAcrossRow.origin Rows.rowsAcrossRow.targs := of_decide_eq_true (by kernel_rfl)
theorem rowsAcross_wrap : (Try.f3).isWrapper Try.pinned.checked.prog Rows.rowsAcrossRow.wrapper Rows.rowsAcrossRow.mainSum := by unfold Func.isWrapper; rw [if_neg (of_decide_eq_false (by kernel_rfl))]; exact ⟨rfl, rfl⟩
theorem rowsAcross_over : Rows.rowsAcrossRow.holds Try.pinned (OpenSpec.ofChange Rows.rowsAcrossSpec) :=
  OpenClaim.holds_of_wide 3 Try.f3 rfl rfl rfl rfl rfl rfl rfl ⟨rfl, rfl, rfl, rfl, rfl⟩ rfl rfl rfl rfl rfl rowsAcross_named Try.func3 rowsAcross_closed
    rowsAcross_inst rowsAcross_wrap
    (fun os started H enc _ => rowsAcross_lifted os started H enc)
/-- The statement. -/
theorem rowsAcross_proved : Rows.RowsAcrossSaid := rowsAcross_over
end Go.Proofs.Ytboiepagonlnkaa
