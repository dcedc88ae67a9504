/-
  Rows.GridSameSaid: the primitive span of a primitive one is itself, and some integer above 0 makes a span of its primitive one.
-/
import Derived.Test.YtbhlnbllkoomfaaFk
import Derived.Test.YtbhlnbllkoomfaaLk
import Derived.Test.YtbhlnbllkoomfaaRows
set_option linter.unusedVariables false
namespace Go.Proofs.Ytbhlnbllkoomfaa
open Go Go.ChangeShapes Go.WideShapes Go.ChangeAt Go.RowKit

set_option maxRecDepth 100000
theorem gridSame_c0 : (Rows.gridSameRow.wf (OpenSpec.ofChange Rows.gridSameSpec)) = true := by kernel_rfl
theorem gridSame_c1 : (laidOutB Try.pinned.checked.prog) = true := by kernel_rfl
theorem gridSame_c2 : (mapsRowed Try.pinned.checked.prog) = true := by kernel_rfl
theorem gridSame_c3 : (Try.f6.params.all (Try.pinned.checked.prog.readableRec ·)) = true := by kernel_rfl
theorem gridSame_c4 : (namedTie Try.pinned.checked.prog Rows.gridSameRow.named Rows.gridSameSpec.vars) = true := by kernel_rfl
theorem gridSame_c5 : ((Rows.gridSameRow.stops == [])) = true := by kernel_rfl
theorem gridSame_c6 : ((Try.pinned.checked.prog.stops == [])) = true := by kernel_rfl
theorem gridSame_c7 : ((Rows.gridSameRow.knobs == [])) = true := by kernel_rfl
theorem gridSame_c8 : ((Try.pinned.checked.prog.stopKnobs == [])) = true := by kernel_rfl
theorem gridSame_c9 : ((Rows.gridSameRow.inPlace == Try.pinned.checked.prog.inPlace 6)) = true := by kernel_rfl
theorem gridSame_c10 : ((Rows.gridSameRow.unfollowed == Try.pinned.checked.prog.unfollowed 6)) = true := by kernel_rfl
theorem gridSame_c11 : ((Rows.gridSameRow.recurses == Try.pinned.checked.prog.recurses 6)) = true := by kernel_rfl
theorem gridSame_c12 : ((Rows.gridSameRow.named == Try.pinned.checked.prog.varsNamed 6)) = true := by kernel_rfl
theorem gridSame_c13 : ((Rows.gridSameRow.maps == (Try.f6.params.toList ++ Rows.gridSameSpec.plain.varTypes Try.pinned.checked.prog).any (Try.pinned.checked.prog.mapsRec ·))) = true := by kernel_rfl
theorem gridSame_c14 : ((Rows.gridSameRow.ifaces == (Try.f6.params.toList ++ Rows.gridSameSpec.plain.varTypes Try.pinned.checked.prog).any (Try.pinned.checked.prog.ifacesRec ·))) = true := by kernel_rfl
theorem gridSame_c15 : ((Rows.gridSameRow.mapsOut == Try.pinned.checked.prog.mapsAmong Try.f6.resultTypes.toList)) = true := by kernel_rfl
theorem gridSame_c16 : ((Rows.gridSameRow.loops == (Try.f6.params.toList ++ Rows.gridSameSpec.plain.varTypes Try.pinned.checked.prog).any (Try.pinned.checked.prog.loopsFrom ·))) = true := by kernel_rfl
theorem gridSame_c17 : ((Rows.gridSameRow.wideKeys == (Try.f6.params.toList ++ Rows.gridSameSpec.plain.varTypes Try.pinned.checked.prog ++ Try.f6.resultTypes.toList).any (Try.pinned.checked.prog.wideKeysFrom ·))) = true := by kernel_rfl
theorem gridSame_c18 : (Rows.gridSameSpec.vars.all (Try.pinned.checked.prog.varReadable ·)) = true := by kernel_rfl
theorem gridSame_c19 : (Try.f6.resultTypes.all (fun t => Try.pinned.checked.prog.readableRec t && decide (t < Try.pinned.checked.prog.types.size))) = true := by kernel_rfl
theorem gridSame_c20 : ((Rows.gridSameRow.ifacesOut == Try.f6.resultTypes.toList.any (Try.pinned.checked.prog.ifacesRec ·))) = true := by kernel_rfl
theorem gridSame_c21 : ((Rows.gridSameRow.loopsOut == Try.f6.resultTypes.toList.any (Try.pinned.checked.prog.loopsFrom ·))) = true := by kernel_rfl
theorem gridSame_c22 : ((Rows.gridSameRow.plainKeys == Try.pinned.checked.prog.plainKeys)) = true := by kernel_rfl
theorem gridSame_c23 : (Rows.gridSameRow.shortTexts.isNone) = true := by kernel_rfl
theorem gridSame_c24 : (Try.pinned.checked.prog.stopsHeard) = true := by kernel_rfl
theorem gridSame_c25 : (Try.pinned.checked.prog.mayEnter) = true := by kernel_rfl
theorem gridSame_c26 : ((Rows.gridSameRow.lifted == Try.pinned.checked.prog.liftsFinal)) = true := by kernel_rfl
theorem gridSame_c27 : ((Try.pinned.checked.prog.make == some Rows.gridSameRow.make)) = true := by kernel_rfl
theorem gridSame_c28 : ((Rows.gridSameRow.kinds == (if Rows.gridSameRow.domain.isEmpty then [] else Try.f6.params.toList.map fun t => match Try.pinned.checked.prog.underlying t with | some (.int k) => some k | _ => none))) = true := by kernel_rfl
theorem gridSame_c29 : ((Rows.gridSameRow.pinned == Rows.gridSameRow.pinnedBy)) = true := by kernel_rfl
theorem gridSame_c30 : ((Rows.gridSameRow.veiled == (Try.f6.params.toList ++ Rows.gridSameSpec.plain.varTypes Try.pinned.checked.prog ++ Try.f6.resultTypes.toList).any (Try.pinned.checked.prog.veiledRec ·))) = true := by kernel_rfl
theorem gridSame_c31 : (Rows.gridSameRow.veiledFits Try.pinned.checked.prog Try.f6.params.toList (Try.f6.params.toList ++ Rows.gridSameSpec.plain.varTypes Try.pinned.checked.prog ++ Try.f6.resultTypes.toList)) = true := by kernel_rfl
theorem gridSame_closed : joinedFacts Try.pinned.checked.prog 6 Try.f6 Rows.gridSameSpec Rows.gridSameRow = true := by
  unfold joinedFacts
  simp only [Bool.and_eq_true]
  exact ⟨⟨⟨⟨⟨⟨⟨⟨⟨⟨⟨⟨⟨⟨⟨⟨⟨⟨⟨⟨⟨⟨⟨⟨⟨⟨⟨⟨⟨⟨⟨gridSame_c0, gridSame_c1⟩, gridSame_c2⟩, gridSame_c3⟩, gridSame_c4⟩, gridSame_c5⟩, gridSame_c6⟩, gridSame_c7⟩, gridSame_c8⟩, gridSame_c9⟩, gridSame_c10⟩, gridSame_c11⟩, gridSame_c12⟩, gridSame_c13⟩, gridSame_c14⟩, gridSame_c15⟩, gridSame_c16⟩, gridSame_c17⟩, gridSame_c18⟩, gridSame_c19⟩, gridSame_c20⟩, gridSame_c21⟩, gridSame_c22⟩, gridSame_c23⟩, gridSame_c24⟩, gridSame_c25⟩, gridSame_c26⟩, gridSame_c27⟩, gridSame_c28⟩, gridSame_c29⟩, gridSame_c30⟩, gridSame_c31⟩
theorem gridSame_lifted (os : Os) (started : os.Started) (H : Type) (enc : TypeId × Value → H) :
    ReturnsInHanded {} Try.checked os 6 .any (Rows.gridSameSpec.pre6 enc Try.prog Try.f6 Rows.gridSameRow.domain false) (Rows.gridSameSpec.post enc Try.prog Try.f6 false true false false) := by
  refine returnsInHanded_of_change (C := Try.checked) own started (by kernel_rfl) Try.func6
    (ChangeSpec.witness6 (enc := enc) (C := Try.checked) false ⟨#[], #[.agg #[.int .u64 0, .int .u64 0, .int .u64 0, .int .u64 0, .int .u64 0, .int .u64 0, .int .u64 0, .int .u64 0, .int .u64 0, .int .u64 0, .int .u64 0, .int .u64 0, .int .u64 0, .int .u64 0, .int .u64 0, .int .u64 0, .int .u64 0, .int .u64 0, .int .u64 0, .int .u64 0, .int .u64 0, .int .u64 0, .int .u64 0, .int .u64 0]], []⟩ 8 (by kernel_rfl) (by kernel_rfl) (by kernel_rfl) (by kernel_rfl)) ?_
  intro W base args ds gs before hval0 hW hcnd _
  have hval : ∀ (j : Nat) t v, Try.f6.params[j]? = some t → args[j]? = some v → Value.okWide Try.prog W .any base t v := hval0
  have hW' := hW
  obtain ⟨p, q, hA0, hV, rfl, hfz, hnd⟩ := hW
  have hA : DataW.TrodAll enc Try.prog W 0 (fun _ => true) true Try.f6.params.toList args.toList ds p := hA0
  rw [Try.params6] at hA hval
  obtain ⟨v0, vs0, d0, ds0, p0, q0, hargs, rfl, rfl, h0, r0⟩ := trodAll_cons hA
  obtain ⟨rfl, rfl, rfl⟩ := trodAll_nil r0
  obtain rfl : args = #[v0] := by cases args; simp_all
  obtain ⟨rfl, rfl⟩ := trodVars_none hV
  have k0 := h0
  have lt0 : ∀ x ∈ p0, x.block < W.heap.size := by obtain ⟨m, hm⟩ := k0; exact DataW.trod_lt m _ _ _ hm
  obtain ⟨a0, rfl, ha0⟩ := open_span (hval 0 27 v0 rfl rfl) h0
  clear hA0 hval0
  refine (same_law a0 ha0 W).mono fun e W' ⟨he, hk⟩ => ?_
  subst he
  have bel := hk.below
  exact ⟨_, rfl, _, _, _, [], _, [], hW', trodAll_mk1 (shut_bool Try.underlying4 _), (trodAll_cons_mk (Below.trod laidOut (by kernel_rfl) (of_decide_eq_true (by kernel_rfl)) k0 bel lt0) trodAll_mk0), rfl, bel.frame _, fun h => by cases h⟩
theorem gridSame_named : Try.pinned.checked.prog.funcNamed Rows.gridSameRow.func = some 6 := by kernel_rfl
theorem gridSame_inst : (Try.f6).isInstance Try.pinned.checked.prog Rows.gridSameRow.origin Rows.gridSameRow.targs := of_decide_eq_true (by kernel_rfl)
theorem gridSame_wrap : (Try.f6).isWrapper Try.pinned.checked.prog Rows.gridSameRow.wrapper Rows.gridSameRow.mainSum := by unfold Func.isWrapper; rw [if_neg (of_decide_eq_false (by kernel_rfl))]; exact ⟨rfl, rfl⟩
theorem gridSame_over : Rows.gridSameRow.holds Try.pinned (OpenSpec.ofChange Rows.gridSameSpec) :=
  OpenClaim.holds_of_wide 6 Try.f6 rfl rfl rfl rfl rfl rfl rfl ⟨rfl, rfl, rfl, rfl, rfl⟩ rfl rfl rfl rfl rfl gridSame_named Try.func6 gridSame_closed
    gridSame_inst gridSame_wrap
    (fun os started H enc _ => gridSame_lifted os started H enc)
/-- The statement. -/
theorem gridSame_proved : Rows.GridSameSaid := gridSame_over
end Go.Proofs.Ytbhlnbllkoomfaa
