/-
  Rows.GridRoundSaid: vectors are rounded, points are told as vectors, and accepted or refused, as the document says.
-/
import Derived.Test.YtbhlnbllkoomfaaJe
import Derived.Test.YtbhlnbllkoomfaaLo
import Derived.Test.YtbhlnbllkoomfaaRows
set_option linter.unusedVariables false
namespace Go.Proofs.Ytbhlnbllkoomfaa
open Go Go.ChangeShapes Go.WideShapes Go.ChangeAt Go.RowKit

set_option maxRecDepth 100000
theorem gridRound_c0 : (Rows.gridRoundRow.wf (OpenSpec.ofChange Rows.gridRoundSpec)) = true := by kernel_rfl
theorem gridRound_c1 : (laidOutB Try.pinned.checked.prog) = true := by kernel_rfl
theorem gridRound_c2 : (mapsRowed Try.pinned.checked.prog) = true := by kernel_rfl
theorem gridRound_c3 : (Try.f12.params.all (Try.pinned.checked.prog.readableRec ·)) = true := by kernel_rfl
theorem gridRound_c4 : (namedTie Try.pinned.checked.prog Rows.gridRoundRow.named Rows.gridRoundSpec.vars) = true := by kernel_rfl
theorem gridRound_c5 : ((Rows.gridRoundRow.stops == [])) = true := by kernel_rfl
theorem gridRound_c6 : ((Try.pinned.checked.prog.stops == [])) = true := by kernel_rfl
theorem gridRound_c7 : ((Rows.gridRoundRow.knobs == [])) = true := by kernel_rfl
theorem gridRound_c8 : ((Try.pinned.checked.prog.stopKnobs == [])) = true := by kernel_rfl
theorem gridRound_c9 : ((Rows.gridRoundRow.inPlace == Try.pinned.checked.prog.inPlace 12)) = true := by kernel_rfl
theorem gridRound_c10 : ((Rows.gridRoundRow.unfollowed == Try.pinned.checked.prog.unfollowed 12)) = true := by kernel_rfl
theorem gridRound_c11 : ((Rows.gridRoundRow.recurses == Try.pinned.checked.prog.recurses 12)) = true := by kernel_rfl
theorem gridRound_c12 : ((Rows.gridRoundRow.named == Try.pinned.checked.prog.varsNamed 12)) = true := by kernel_rfl
theorem gridRound_c13 : ((Rows.gridRoundRow.maps == (Try.f12.params.toList ++ Rows.gridRoundSpec.plain.varTypes Try.pinned.checked.prog).any (Try.pinned.checked.prog.mapsRec ·))) = true := by kernel_rfl
theorem gridRound_c14 : ((Rows.gridRoundRow.ifaces == (Try.f12.params.toList ++ Rows.gridRoundSpec.plain.varTypes Try.pinned.checked.prog).any (Try.pinned.checked.prog.ifacesRec ·))) = true := by kernel_rfl
theorem gridRound_c15 : ((Rows.gridRoundRow.mapsOut == Try.pinned.checked.prog.mapsAmong Try.f12.resultTypes.toList)) = true := by kernel_rfl
theorem gridRound_c16 : ((Rows.gridRoundRow.loops == (Try.f12.params.toList ++ Rows.gridRoundSpec.plain.varTypes Try.pinned.checked.prog).any (Try.pinned.checked.prog.loopsFrom ·))) = true := by kernel_rfl
theorem gridRound_c17 : ((Rows.gridRoundRow.wideKeys == (Try.f12.params.toList ++ Rows.gridRoundSpec.plain.varTypes Try.pinned.checked.prog ++ Try.f12.resultTypes.toList).any (Try.pinned.checked.prog.wideKeysFrom ·))) = true := by kernel_rfl
theorem gridRound_c18 : (Rows.gridRoundSpec.vars.all (Try.pinned.checked.prog.varReadable ·)) = true := by kernel_rfl
theorem gridRound_c19 : (Try.f12.resultTypes.all (fun t => Try.pinned.checked.prog.readableRec t && decide (t < Try.pinned.checked.prog.types.size))) = true := by kernel_rfl
theorem gridRound_c20 : ((Rows.gridRoundRow.ifacesOut == Try.f12.resultTypes.toList.any (Try.pinned.checked.prog.ifacesRec ·))) = true := by kernel_rfl
theorem gridRound_c21 : ((Rows.gridRoundRow.loopsOut == Try.f12.resultTypes.toList.any (Try.pinned.checked.prog.loopsFrom ·))) = true := by kernel_rfl
theorem gridRound_c22 : ((Rows.gridRoundRow.plainKeys == Try.pinned.checked.prog.plainKeys)) = true := by kernel_rfl
theorem gridRound_c23 : (Rows.gridRoundRow.shortTexts.isNone) = true := by kernel_rfl
theorem gridRound_c24 : (Try.pinned.checked.prog.stopsHeard) = true := by kernel_rfl
theorem gridRound_c25 : (Try.pinned.checked.prog.mayEnter) = true := by kernel_rfl
theorem gridRound_c26 : ((Rows.gridRoundRow.lifted == Try.pinned.checked.prog.liftsFinal)) = true := by kernel_rfl
theorem gridRound_c27 : ((Try.pinned.checked.prog.make == some Rows.gridRoundRow.make)) = true := by kernel_rfl
theorem gridRound_c28 : ((Rows.gridRoundRow.kinds == (if Rows.gridRoundRow.domain.isEmpty then [] else Try.f12.params.toList.map fun t => match Try.pinned.checked.prog.underlying t with | some (.int k) => some k | _ => none))) = true := by kernel_rfl
theorem gridRound_c29 : ((Rows.gridRoundRow.pinned == Rows.gridRoundRow.pinnedBy)) = true := by kernel_rfl
theorem gridRound_c30 : ((Rows.gridRoundRow.veiled == (Try.f12.params.toList ++ Rows.gridRoundSpec.plain.varTypes Try.pinned.checked.prog ++ Try.f12.resultTypes.toList).any (Try.pinned.checked.prog.veiledRec ·))) = true := by kernel_rfl
theorem gridRound_c31 : (Rows.gridRoundRow.veiledFits Try.pinned.checked.prog Try.f12.params.toList (Try.f12.params.toList ++ Rows.gridRoundSpec.plain.varTypes Try.pinned.checked.prog ++ Try.f12.resultTypes.toList)) = true := by kernel_rfl
theorem gridRound_closed : joinedFacts Try.pinned.checked.prog 12 Try.f12 Rows.gridRoundSpec Rows.gridRoundRow = true := by
  unfold joinedFacts
  simp only [Bool.and_eq_true]
  exact ⟨⟨⟨⟨⟨⟨⟨⟨⟨⟨⟨⟨⟨⟨⟨⟨⟨⟨⟨⟨⟨⟨⟨⟨⟨⟨⟨⟨⟨⟨⟨gridRound_c0, gridRound_c1⟩, gridRound_c2⟩, gridRound_c3⟩, gridRound_c4⟩, gridRound_c5⟩, gridRound_c6⟩, gridRound_c7⟩, gridRound_c8⟩, gridRound_c9⟩, gridRound_c10⟩, gridRound_c11⟩, gridRound_c12⟩, gridRound_c13⟩, gridRound_c14⟩, gridRound_c15⟩, gridRound_c16⟩, gridRound_c17⟩, gridRound_c18⟩, gridRound_c19⟩, gridRound_c20⟩, gridRound_c21⟩, gridRound_c22⟩, gridRound_c23⟩, gridRound_c24⟩, gridRound_c25⟩, gridRound_c26⟩, gridRound_c27⟩, gridRound_c28⟩, gridRound_c29⟩, gridRound_c30⟩, gridRound_c31⟩
theorem gridRound_lifted (os : Os) (started : os.Started) (H : Type) (enc : TypeId × Value → H) :
    ReturnsInHanded {} Try.checked os 12 .any (Rows.gridRoundSpec.pre6 enc Try.prog Try.f12 Rows.gridRoundRow.domain false) (Rows.gridRoundSpec.post enc Try.prog Try.f12 false true false false) := by
  refine returnsInHanded_of_change (C := Try.checked) own started (by kernel_rfl) Try.func12
    (ChangeSpec.witness6 (enc := enc) (C := Try.checked) false ⟨#[], #[.agg #[.int .i64 0, .int .i64 0, .int .i64 0], .agg #[.int .i64 0, .int .i64 0, .int .i64 0]], []⟩ 8 (by kernel_rfl) (by kernel_rfl) (by kernel_rfl) (by kernel_rfl)) ?_
  intro W base args ds gs before hval0 hW hcnd _
  have hval : ∀ (j : Nat) t v, Try.f12.params[j]? = some t → args[j]? = some v → Value.okWide Try.prog W .any base t v := hval0
  have hW' := hW
  obtain ⟨p, q, hA0, hV, rfl, hfz, hnd⟩ := hW
  have hA : DataW.TrodAll enc Try.prog W 0 (fun _ => true) true Try.f12.params.toList args.toList ds p := hA0
  rw [Try.params12] at hA hval
  obtain ⟨v0, vs0, d0, ds0, p0, q0, hargs, rfl, rfl, h0, r0⟩ := trodAll_cons hA
  obtain ⟨v1, vs1, d1, ds1, p1, q1, rfl, rfl, rfl, h1, r1⟩ := trodAll_cons r0
  obtain ⟨rfl, rfl, rfl⟩ := trodAll_nil r1
  obtain rfl : args = #[v0, v1] := by cases args; simp_all
  obtain ⟨rfl, rfl⟩ := trodVars_none hV
  have k0 := h0
  have k1 := h1
  have lt0 : ∀ x ∈ p0, x.block < W.heap.size := by obtain ⟨m, hm⟩ := k0; exact DataW.trod_lt m _ _ _ hm
  have lt1 : ∀ x ∈ p1, x.block < W.heap.size := by obtain ⟨m, hm⟩ := k1; exact DataW.trod_lt m _ _ _ hm
  obtain ⟨a0, rfl, ha0⟩ := open_vec (hval 0 58 v0 rfl rfl) h0
  obtain ⟨a1, rfl, ha1⟩ := open_point (hval 1 29 v1 rfl rfl) h1
  clear hA0 hval0
  refine (round_law a0 ha0 a1 ha1 W).mono fun e W' ⟨he, hk⟩ => ?_
  subst he
  have bel := hk.below
  exact ⟨_, rfl, _, _, _, [], _, [], hW', trodAll_mk1 (shut_bool Try.underlying4 _), (trodAll_cons_mk (Below.trod laidOut (by kernel_rfl) (of_decide_eq_true (by kernel_rfl)) k0 bel lt0) (trodAll_cons_mk (Below.trod laidOut (by kernel_rfl) (of_decide_eq_true (by kernel_rfl)) k1 bel lt1) trodAll_mk0)), rfl, bel.frame _, fun h => by cases h⟩
theorem gridRound_named : Try.pinned.checked.prog.funcNamed Rows.gridRoundRow.func = some 12 := by kernel_rfl
theorem gridRound_inst : (Try.f12).isInstance Try.pinned.checked.prog Rows.gridRoundRow.origin Rows.gridRoundRow.targs := of_decide_eq_true (by kernel_rfl)
theorem gridRound_wrap : (Try.f12).isWrapper Try.pinned.checked.prog Rows.gridRoundRow.wrapper Rows.gridRoundRow.mainSum := by unfold Func.isWrapper; rw [if_neg (of_decide_eq_false (by kernel_rfl))]; exact ⟨rfl, rfl⟩
theorem gridRound_over : Rows.gridRoundRow.holds Try.pinned (OpenSpec.ofChange Rows.gridRoundSpec) :=
  OpenClaim.holds_of_wide 12 Try.f12 rfl rfl rfl rfl rfl rfl rfl ⟨rfl, rfl, rfl, rfl, rfl⟩ rfl rfl rfl rfl rfl gridRound_named Try.func12 gridRound_closed
    gridRound_inst gridRound_wrap
    (fun os started H enc _ => gridRound_lifted os started H enc)
/-- The statement. -/
theorem gridRound_proved : Rows.GridRoundSaid := gridRound_over
end Go.Proofs.Ytbhlnbllkoomfaa
